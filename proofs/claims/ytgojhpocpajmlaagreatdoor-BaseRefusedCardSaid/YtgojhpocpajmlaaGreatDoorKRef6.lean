/- Proved: whatever it is given, grainlaw9.BaseRefused answers true (a script without what was refused or asked comes to the same base), and its arguments read as before. Conditions: those of the given card BaseRefusedCardSaid alone. -/
import Derived.Defers
import Derived.Recover
import Derived.Test.YtgojhpocpajmlaaGreatDoorRows
import Derived.Carry
import Derived.Deep.Slices
import Derived.JoinedCond
import Derived.Test.YtgojhpocpajmlaaGreatDoorCards
import Derived.Test.YtgojhpocpajmlaaGreatDoorTie
import Derived.Deep.DeepHandedRow
import Derived.Lib.LaidTab
import Derived.Stop.LaidErr
import Derived.Test.YtgojhpocpajmlaaGreatDoorKRef5
namespace Go.Proofs.YtgojhpocpajmlaaGreatDoor
section
namespace Ex
set_option linter.unusedVariables false
@[reducible] def dfr (f:Nat) (cap:List Value):Deferred:={ target:=.fn (.func f) cap.toArray,args:=#[] }
section
variable {P : Program} {N : Nat} {D : List Deferred} {E E' : Env} {S S' : World → Prop} {Q : Exit → Act → World → Prop} {K : Act → World → Prop} {w0 w w' : World} {M : Fp} {L A A' R L' : List Own} {Pb : Nat → Prop}
  {ops:Array Oper} {rest:List Oper} {d:Nat} {ty T PT:TypeId} {pos:String} {aft:Array Edge} {g:Option (Nat × Bool)} {v u:Value} {x y:Operand}
theorem fstartD {f : Nat} {fn : Func} {c : Code} {vals : List Value} {w : World} {R : Ending → World → Prop} (hf : P.funcs[f]? = some fn) (hb : fn.body = some c) (hn : fn.ntmps = N) (hl : Nat.ble vals.length N = true)
    (hS:S w) (h:WC P N [] c (bodyPostD P fn R) (envOf 0 vals) S):Calls P f vals.toArray w R:=by
  refine calls_of_wp_defers hf hb (h w hS _ ⟨rfl,?_,fun t v hv=>?_⟩)
  · have:=Nat.le_of_ble_eq_true hl
    simp [hn]; omega
  · rw [look_envOf,if_neg (by omega)] at hv
    simp only [Nat.sub_zero] at hv
    have hlt:t < vals.length:=(List.getElem?_eq_some_iff.1 hv).1
    rw [Array.getElem?_append_left (by simpa using hlt)]
    simpa using hv
theorem c_seqD {x y : Code} (h : ∀ K : Act → World → Prop, (∀ D' E S, WC P N D' y Q E S → ∀ w, S w → ∀ a, Has N D' a E → K a w) → WC P N D x (Exit.then K Q) E S) : WC P N D (.seq x y) Q E S :=
  fun w hw a ha=>wp_seq (h (fun a w=>y.wp P Q a w) (fun _ _ _ h' w' hw' a' ha'=>h' w' hw' a' ha') w hw a ha)
theorem l_defer {f : Nat} {cap : List Value} (hw : Want N D ops E g true) (hx : ev E x = some (.func (.func f) #[] cap.toArray)) (h : WL P N (dfr f cap :: D) ops Q rest E S) : WL P N D ops Q (⟨none, .defer { callee := .value x, args := #[], argTypes := #[] }, ty, pos, aft, g⟩ :: rest) E S := fun w hS a ha => by
  unfold wpList
  rw [if_pos (hw _ rfl a ha)]
  left
  unfold Oper.wp
  rw [show (execOp a.eval ⟨none,.defer { callee:=.value x,args:=#[],argTypes:=#[] },ty,pos,aft,g⟩).run P w=.ok (.defer (dfr f cap)) w from by unfold execOp; simp [ha.eval hx,resolve,Deferred.ofValue,dfr],Oper.upon_defer]
  exact h w hS _ ⟨by show _::a.defers=_; rw [ha.d],ha.n,ha.h⟩
section
variable {fn:Func} {R:Ending→World→Prop} {f:Nat} {cap:List Value} {r1 r2:ResultVar} {v1 v2:Value} {chain chain':List PanicEntry}
theorem res2 {a : Act} {w : World} (hr : fn.results = #[r1, r2]) (hv1 : ResV P N D E S r1 v1) (hv2 : ResV P N D E S r2 v2) (hS : S w) (ha : Has N D a E) : (results fn a.tmps).run P w = .ok (.tuple #[v1, v2]) w := by
  rw [results_eq,hr]; simp [hv1 w hS a ha,hv2 w hS a ha]
theorem e_retD0 {e : Exit} (he : e = .ret ∨ e = .normal) (hr : fn.results = #[r1, r2]) (hv1 : ResV P N [] E S r1 v1) (hv2 : ResV P N [] E S r2 v2) (hR : ∀ w, S w → R (.returned (.tuple #[v1, v2])) w) : WE N [] (bodyPostD P fn R) e E S := fun w hS a ha => by
  have h1:Leaves P fn a.tmps R a.defers .returning w:=by rw [ha.d]; exact ⟨_,res2 hr hv1 hv2 hS ha,hR w hS⟩
  rcases he with rfl | rfl <;> exact h1
theorem leave1 {a : Act} {w : World} {u u' : FrameMode} (hu : u ≠ .run) (hcall : ∀ vs w, (callFunc f vs).run P w = .ok (.enter f vs) w) (hu' : settle u' = .returning)
    (hc:CallsD P f cap.toArray u w (fun e u2 w'=>u2=u'∧(∃ v,e=.returned v)∧S' w')) (hr:fn.results=#[r1,r2]) (hv1:ResV P N D E S' r1 v1) (hv2:ResV P N D E S' r2 v2) (hR:∀ w,S' w→R (.returned (.tuple #[v1,v2])) w) (ha:Has N D a E) (hD:D=[dfr f cap]):Leaves P fn a.tmps R a.defers u w:=by
  have hd:=ha.d
  rw [hd,hD]
  refine leaves_cons hu (f:=f) (args:=cap.toArray) (by simp [invoke,hcall]) (hc.mono ?_)
  rintro e u2 w2 ⟨rfl,⟨v,rfl⟩,hS2⟩
  show Leaves P fn a.tmps R [] (settle _) w2
  rw [hu']
  exact ⟨_,res2 hr hv1 hv2 hS2 ha,hR w2 hS2⟩
theorem e_retD {e : Exit} (he : e = .ret ∨ e = .normal) (hcall : ∀ vs w, (callFunc f vs).run P w = .ok (.enter f vs) w) (hc : ∀ w, S w → CallsD P f cap.toArray .returning w (fun e u' w' => u' = .returning ∧ (∃ v, e = .returned v) ∧ S' w'))
    (hr:fn.results=#[r1,r2]) (hv1:ResV P N [dfr f cap] E S' r1 v1) (hv2:ResV P N [dfr f cap] E S' r2 v2) (hR:∀ w,S' w→R (.returned (.tuple #[v1,v2])) w):WE N [dfr f cap] (bodyPostD P fn R) e E S:=fun w hS a ha=>by
  have h1:=leave1 (u:=.returning) (by simp) hcall (u':=.returning) rfl (hc w hS) hr hv1 hv2 hR ha rfl
  rcases he with rfl | rfl <;> exact h1
theorem j0 (hcall : ∀ vs w, (callFunc f vs).run P w = .ok (.enter f vs) w) (hc : ∀ w, S w → CallsD P f cap.toArray (.panicking chain) w (fun e u' w' => u' = .panicking chain' ∧ (∃ v, e = .returned v) ∧ S' w')) (hu : settle (.panicking chain') = .returning)
    (hr:fn.results=#[r1,r2]) (hv1:ResV P N [dfr f cap] E S' r1 v1) (hv2:ResV P N [dfr f cap] E S' r2 v2) (hR:∀ w,S' w→R (.returned (.tuple #[v1,v2])) w):WE N [dfr f cap] (bodyPostD P fn R) (.panic chain) E S:=fun w hS a ha =>
  leave1 (u:=.panicking chain) (by simp) hcall hu (hc w hS) hr hv1 hv2 hR ha rfl
end
theorem dgive {α : Type} {f : Nat} {cap : List Value} {u u2 : FrameMode} (A R : List Own) (mk : α → Value) (A' L' : List Own) (hL' : A' ++ R = L') (hA : ∀ w, Mem w0 M L w → Mem w0 M (A ++ R) w) (hq : A'.all (fun o => o.mut || o.isPub) = true)
    (hc:∀ w Pb,Mem w ⟨fpOf A,Pb⟩ A w→CallsD P f cap.toArray u w (fun e u' w'=>u'=u2∧RetA w A Pb mk (fun _=>True) (fun _=>A') e w')):∀ w,Mem w0 M L w→CallsD P f cap.toArray u w (fun e u' w'=>u'=u2∧(∃ v,e=.returned v)∧Mem w0 M L' w'):=fun w hS=>by
  have hS':=hA w hS
  obtain ⟨Pb,pp⟩:=hS'.pb
  refine (hc w Pb (hS'.give pp)).mono ?_
  rintro e u' w' ⟨hu,z,rfl,_,hk⟩
  exact ⟨hu,⟨_,rfl⟩,by rw [← hL']; exact hS'.take pp hk hq⟩
theorem didle {f : Nat} {cap : List Value} (hc : ∀ w, Mem w0 M L w → CallsD P f cap.toArray .returning w (fun e u' w' => u' = .returning ∧ RetA w [] (fun _ => False) (fun _ : Unit => .tuple #[]) (fun _ => True) (fun _ => []) e w')) : ∀ w, Mem w0 M L w → CallsD P f cap.toArray .returning w (fun e u' w' => u' = .returning ∧ (∃ v, e = .returned v) ∧ Mem w0 M L w') := fun w hS => by
  refine (hc w hS).mono ?_
  rintro e u' w' ⟨hu,z,rfl,_,hk⟩
  exact ⟨hu,⟨_,rfl⟩,hS.keep (hk.fr.mono fun b hb hm=>by obtain ⟨o,ho,_⟩:=hm; cases ho)⟩
theorem memNil (w:World):Mem w ⟨fpOf [],fun _=>False⟩ [] w:=Mem.start w _
theorem dstart {f : Nat} {fn : Func} {id : Nat} {c : Code} {vals : List Value} {w : World} {R : Ending → World → Prop} {u u' : FrameMode} {rv : Value} (hf : P.funcs[f]? = some fn) (hb : fn.body = some (.seq (.region id #[⟨some d, .call { callee := .builtin .recover, args := #[], argTypes := #[] }, ty, pos, aft, none⟩] false) c)) (hn : fn.ntmps = N) (hl : Nat.ble vals.length N = true) (hd : Nat.blt d N = true)
    (hu:(u=.returning∧u'=.returning∧rv=.nilIface)∨∃ older,u=.panicking ({ v:=rv,recovered:=false }::older)∧u'=.panicking ({ v:=rv,recovered:=true }::older))
    (hS:S w) (h:WC P N [] c (bodyPost P fn R) ((d,rv)::envOf 0 vals) S):CallsD P f vals.toArray u w (fun e u2 w'=>u2=u'∧R e w'):=by
  refine callsD_of_wpS hf hb fun c₀ cs hcu=>?_
  have ha : Has N [] ({ tmps := vals.toArray ++ Array.replicate (fn.ntmps - vals.toArray.size) undef, defers := [] } : Act) (envOf 0 vals) := by
    refine ⟨rfl,?_,fun t v hv=>?_⟩
    · have:=Nat.le_of_ble_eq_true hl
      simp [hn]; omega
    · rw [look_envOf,if_neg (by omega)] at hv
      simp only [Nat.sub_zero] at hv
      have hlt:t < vals.length:=(List.getElem?_eq_some_iff.1 hv).1
      rw [Array.getElem?_append_left (by simpa using hlt)]
      simpa using hv
  refine wpS_seq (wpS_region ?_)
  have hrest : ∀ cs' : List Frame, cs' = { c₀ with mode := u' } :: cs → ∀ (a : Act), Has N [] a ((d, rv) :: envOf 0 vals) → c.wpS P (bodyPostS P fn c₀ cs fun e u2 w' => u2 = u' ∧ R e w') a cs' w := fun cs' hcs a ha => by
    refine wpS_of_wp (Code.wp_mono ?_ (h w hS a ha))
    intro e a' w' hq
    cases e with
    | normal=>obtain ⟨h1,v,h2,h3⟩:=hq; exact ⟨h1,u',hcs,v,h2,rfl,h3⟩
    | ret=>obtain ⟨h1,v,h2,h3⟩:=hq; exact ⟨h1,u',hcs,v,h2,rfl,h3⟩
    | panic ch=>obtain ⟨h1,h2⟩:=hq; exact ⟨h1,u',hcs,rfl,h2⟩
    | outgrown=>exact ⟨u',rfl,hq⟩
    | exit i=>exact hq
    | goto i=>exact hq
  have hrun : ∀ a : Act, (execOp a.eval ⟨some d, .call { callee := .builtin .recover, args := #[], argTypes := #[] }, ty, pos, aft, none⟩).run P w = .ok .recover w := fun a => by
    unfold execOp; simp [resolve,invoke,builtin]
  rw [show List.range (#[(⟨some d,.call { callee:=.builtin .recover,args:=#[],argTypes:=#[] },ty,pos,aft,none⟩:Oper)]).size=[0] from rfl]
  simp only [wpOpsS,List.getElem?_toArray,List.getElem?_cons_zero,Region.wanted,if_true,hrun]
  rcases hu with ⟨rfl,rfl,rfl⟩ | ⟨older,rfl,rfl⟩
  · have hr:recoverD (c₀::cs)=none:=by simp [recoverD,hcu]
    simp only [hr]
    exact hrest _ (by rw [← hcu]) _ (ha.put _ hd)
  · have hr:recoverD (c₀::cs)=some (rv,{ c₀ with mode:=.panicking ({ v:=rv,recovered:=true }::older) }::cs):=by simp [recoverD,hcu]
    simp only [hr]
    exact hrest _ rfl _ (ha.put _ hd)
end
end Ex
end
section
open _root_.Go.Proofs.Tryz
open Ex
set_option linter.unusedVariables false
set_option linter.unusedSimpArgs false
theorem jo (b2 b3 : Nat) (v0 v1 v2 v3 v4 v5 v6 u0 u1 : Value) (er at_ : Int) (Pb : Nat → Prop) (w : World) (hG : Mem w ⟨fpOf [.blk b2 [v0, v1, v2, v3, v4, v5, v6] 59, .blk b3 [u0, u1] 61], Pb⟩ [.blk b2 [v0, v1, v2, v3, v4, v5, v6] 59, .blk b3 [u0, u1] 61] w)  :
    CallsD prog 51 #[.pointer (some ⟨b2,0,none⟩),.pointer (some ⟨b3,0,none⟩)] (.panicking [{ v:=.iface 111 (.agg (List.toArray [iV er,iV at_])),recovered:=false }]) w (fun e u2 w2=>u2=.panicking [{ v:=.iface 111 (.agg (List.toArray [iV er,iV at_])),recovered:=true }]∧(RetA w [.blk b2 [v0,v1,v2,v3,v4,v5,v6] 59,.blk b3 [u0,u1] 61] Pb (fun _:Unit=>.tuple #[]) (fun _=>True) (fun _=>[.blk b2 [iV 0,iV 0,iV 0,.string (⟨#[]⟩:ByteArray),Zs,Zs,Zs] 59,.blk b3 [iV er,iV at_] 61])) e w2):=by
 refine dstart (N:=14) (vals:=[.pointer (some ⟨b2,0,none⟩),.pointer (some ⟨b3,0,none⟩)]) (S:=Mem w ⟨fpOf [.blk b2 [v0,v1,v2,v3,v4,v5,v6] 59,.blk b3 [u0,u1] 61],Pb⟩ [.blk b2 [v0,v1,v2,v3,v4,v5,v6] 59,.blk b3 [u0,u1] 61]) func51 rfl rfl rfl rfl (.inr ⟨[],rfl,rfl⟩) hG (zk (zG fun _ hK1=>zB (r_ieq rfl (.inr ⟨_,_,rfl⟩) underlying20) (zD hK1 (yr rfl rfl (zG fun _ hK2=>zB (r_tassert rfl underlying111) (zB (yG rfl rfl) (zB (yG rfl rfl) (zD hK2 (vM rfl rfl ?_)))))))))
 refine zG fun _ hK3=>yC wn inf111 rfl fun b3_1=>zr 0 wn rfl rfl rfl inf111 rfl rfl rfl (zD hK3 (vL (Mem w ⟨fpOf [.blk b2 [v0,v1,v2,v3,v4,v5,v6] 59,.blk b3 [u0,u1] 61],Pb⟩ [.blk b3_1 [iV er,iV at_] 111]) mix (fun _ h=>h.drew) rfl (vK 2 [0,1,2] [0] rfl fun KS hKS=>yD (zz Zx pl59 inf59 rfl rfl) (yD (za rfl fld111_0) (yD (yM 0 [iV er,iV at_] rfl rfl rfl rfl agg61 inf61) (yd hKS (yY 1 3 (yb (i:=3) rfl fun KN hKN=>?_))))))))
 refine zr 1 wn rfl rfl rfl inf59 rfl rfl rfl (yP hKN [0] (yY 0 4 (yb (i:=4) rfl fun KN hKN=>zr 2 wn rfl rfl rfl inf61 rfl rfl rfl (yP hKN [0] (yu (by kernel_rfl) (zm (jX (.inr rfl) results51  fun w1 hM=>?_)))))))
 exact hM.vV () rfl trivial (fun h=>h.sel [1,2] (by decide) rfl)
theorem c_idle (b2 b3 : Nat) (Pb : Nat → Prop) (w : World) (hG : Mem w ⟨fpOf [], Pb⟩ [] w)  :
    CallsD prog 51 #[.pointer (some ⟨b2,0,none⟩),.pointer (some ⟨b3,0,none⟩)] .returning w (fun e u2 w2=>u2=.returning∧(RetA w [] Pb (fun _:Unit=>.tuple #[]) (fun _=>True) (fun _=>[])) e w2):=by
 refine dstart (N:=14) (vals:=[.pointer (some ⟨b2,0,none⟩),.pointer (some ⟨b3,0,none⟩)]) (S:=Mem w ⟨fpOf [],Pb⟩ []) func51 rfl rfl rfl rfl (.inl ⟨rfl,rfl,rfl⟩) hG (zk (zG fun _ hK1=>zB (r_ieq rfl (.inl rfl) underlying20) (zD hK1 (vM rfl rfl (zL (zP rfl (zl (zm (jX (.inr rfl) results51  fun w1 hM=>?_)))))))))
 exact hM.vV () rfl trivial (fun h=>h.sel [] (by decide) rfl)
theorem c_shapeB (x : zC) {w0 w : World} {M : Fp} {L : List Own} {hp b TB i j k : Nat} (hM : Mem w0 M L w) (hi : L[i]? = some (.blk hp [iV 0] 119)) (hj : L[j]? = some (.blk b (yl x) TB)) (hij : Nat.beq i j = false) (hk : L[k]? = some (okP zC.Ok x)) :
    Calls prog 55 #[.pointer (some ⟨hp,0,none⟩),.pointer (some ⟨b,0,none⟩),iV 1] w (RetM w hp 119 (iV (Lg.shape x.e 1 0).1) [iV (Lg.shape x.e 1 0).2]):=by
 obtain ⟨Pb,pp⟩:=hM.pb
 have hb:=(hM.ok j _ hj).2.1 b rfl
 have hne:b≠hp:=fun e=>hM.dj i j _ _ hi hj (Nat.ne_of_beq_eq_false hij) (.inl rfl) hp rfl (show hp=b from e.symm)
 refine c_shape x hp 0 ⟨b,0,none⟩ 1 (fun q=>q < w.heap.size∧q≠hp) w (hM.blk hi) (fun q hq=>hq) ⟨⟨hb,hne⟩,fun u v hv=>?_⟩ (zC.Ok.loc x Pb _ w w (fun q hq=>⟨pp.lt q hq,fun e=>pp.dj i _ hi rfl q hq e⟩) (fun _ _=>rfl) (pp.at_ k _ hk)) (by omega) (by omega) (by omega)
 rw [add_lit]
 have:=hM.cell (j:=0 + u) hj
 rw [this]; simpa using hv
set_option maxHeartbeats 1000000 in
theorem c_parse (s : ByteArray) (P0 : Nat → Prop) (w : World) (hP0 : ∀ b, P0 b → b < w.heap.size) (hE : zd P0 w)  :
    Calls prog 23 #[.string s] w (RetE w P0 (fun z:zC × Pz.F=>.tuple #[.agg (yl z.1).toArray,.agg #[iV z.2.1,iV z.2.2]]) (fun z=>Pz.parse s=(z.1.e,z.2)) (fun z S=>zC.Ok S z.1)):=by
 refine fstartD (N:=35) (vals:=[.string s]) (S:=Mem w ⟨no,P0⟩ [.pub zd]) func23 rfl rfl rfl (Mem.ofDatsP hP0 (dc (dp zd.loc hE) dn)) (zG fun _ hK1=>yC wn inf59 rfl fun b2=>yC wn inf61 rfl fun b3=>zD hK1 (zS fun _ hK2=>zG fun _ hK3=>zE rfl (zB (uV rfl underlying9) (zB (vH rfl rfl) (zD hK3 (zZ rfl (fun h1=>?_) (fun h1=>?_)))))))
 · refine zG fun _ hK4=>zB (zz Zx pl59 inf59 rfl rfl) (zB (zz [iV 4,iV 0] pl61 inf61 rfl rfl) (zr 1 wn rfl rfl rfl inf59 rfl rfl rfl (zr 0 wn rfl rfl rfl inf61 rfl rfl rfl (zD hK4 (zX (zK (e_retD0 (.inl rfl) results23 (zt 1 rfl rfl agg59 inf59 rfl) (zt 0 rfl rfl agg61 inf61 rfl) fun w1 hM=>?_)))))))
   exact hM.uR ((zC.mk 0 0 0 ⟨#[]⟩ ⟨none,0,[]⟩ ⟨none,0,[]⟩ ⟨none,0,[]⟩),(4,0)) rfl (Pz.parse_big h1) fun Pb pp=>Pz.okZero Pb w1
 refine yK hK2 (c_seqD fun _ hK5=>zL (zB (vg rfl rfl) (l_defer wn rfl (zl (zy (hK5 _) (zG fun _ hK6=>zE rfl (zB (zz [.string s,iV 0,iV 0] pl114 inf114 rfl rfl) (vS wn rfl rfl fun b13=>zP rfl (zD hK6 ?_)))))))))
 refine zG fun _ hK7=>zE rfl (yJ (α:=zC × Pz.St) (PT:=111) [.blk b13 [.string s,iV 0,iV 0] 114,.pub zd] [.blk b3 [iV 0,iV 0] 61,.blk b2 Zx 59] (fun z:zC × Pz.St=>.agg (yl z.1).toArray) (fun z1=>Pz.xpr s 20 ⟨0,0⟩=.ok (z1.1.e,z1.2)∧Pz.Good s ⟨0,0⟩ z1.2) (fun z1=>[Rb 114 b13 s z1.2.at_ z1.2.nd,.pub zd,okP zC.Ok z1.1]) _ (fun f1=>Pz.xpr s 20 ⟨0,0⟩=.no f1) (fun _=>rfl) (S9 [0,3,1,2]) (fun _=>rfl) wn rfl rfl call52 rfl (fun w1 Pb hG=>(xpr_all 20) b13 s 0 0 1 Pb w1 hG (by omega) (by omega) (by omega) (by omega) (by omega)) ?_ fun z1 hz1=>?_)
 · intro f1 hf1
   refine zu (j0 call51 (dgive [.blk b2 Zx 59,.blk b3 [iV 0,iV 0] 61] [] (fun _:Unit=>.tuple #[]) [.blk b2 [iV 0,iV 0,iV 0,.string (⟨#[]⟩:ByteArray),Zs,Zs,Zs] 59,.blk b3 [iV f1.1,iV f1.2] 61] [.blk b2 [iV 0,iV 0,iV 0,.string (⟨#[]⟩:ByteArray),Zs,Zs,Zs] 59,.blk b3 [iV f1.1,iV f1.2] 61] rfl (S9 [1,0]) rfl (fun w1 Pb hG=>jo b2 b3 (iV 0) (iV 0) (iV 0) (.string ⟨#[]⟩) (Zs) (Zs) (Zs) (iV 0) (iV 0) f1.1 f1.2 Pb w1 hG)) rfl results23 (zt 0 rfl rfl agg59 inf59 rfl) (zt 1 rfl rfl agg61 inf61 rfl) fun w1 hM=>?_)
   exact hM.uR ((zC.mk 0 0 0 ⟨#[]⟩ ⟨none,0,[]⟩ ⟨none,0,[]⟩ ⟨none,0,[]⟩),f1) rfl (Pz.parse_no h1 hf1) fun Pb pp=>Pz.okZero Pb w1
 obtain ⟨x1,j1,m1⟩:=z1
 have he1:Pz.xpr s 20 ⟨0,0⟩=.ok (x1.e,⟨j1,m1⟩):=hz1.1
 have ga1:j1≤s.size:=hz1.2.at_
 have gm1:0≤m1:=hz1.2.mono
 have gn1:m1≤100:=hz1.2.most (show 0≤100 by omega)
 refine vR 15 (.agg (List.toArray [iV x1.kind,iV x1.n,iV x1.range,.string x1.word,.slice x1.ms.A x1.ms.l.length x1.ms.c,.slice x1.by_.A x1.by_.l.length x1.by_.c,.slice x1.kids.A x1.kids.l.length x1.kids.c])) [Rb 114 b13 s j1 m1,.pub zd,okP zC.Ok x1,.blk b3 [iV 0,iV 0] 61,.blk b2 Zx 59] (zr 4 wn rfl rfl rfl inf59 rfl rfl rfl (zD hK7 (zG fun _ hK8=>zE rfl (vO (α:=Nat) [Rb 114 b13 s j1 m1,.pub zd] [okP zC.Ok x1,.blk b3 [iV 0,iV 0] 61,.blk b2 [iV x1.kind,iV x1.n,iV x1.range,.string x1.word,.slice x1.ms.A x1.ms.l.length x1.ms.c,.slice x1.by_.A x1.by_.l.length x1.by_.c,.slice x1.kids.A x1.kids.l.length x1.kids.c] 59] (fun _=>.tuple #[]) (fun j2=>(Pz.blank s j1=j2∧j1≤j2∧j2≤s.size)) (fun j2=>[Rb 114 b13 s j2 m1,.pub zd]) _ (fun _=>rfl) (S9 [0,1,2,3,4]) (fun _=>rfl) wn rfl rfl call53 rfl (fun w1 Pb hG=>uf b13 s j1 m1 Pb w1 hG (by omega) (by omega)) fun j2 hz2=>?_))))
 obtain ⟨hz2e,hz2a,hz2b⟩:=hz2
 refine zD hK8 (zS fun _ hK9=>zG fun _ hK10=>zE rfl (zB (zT rfl) (zB (za rfl fld114_1) (zB (zg 0 rfl rfl rfl flat3) (zE rfl (zB (uV rfl underlying9) (zB (yR rfl rfl) (zD hK10 (zZ rfl (fun h2=>?_) (fun h2=>?_))))))))))
 · refine zL (zE rfl (yJ (α:=Unit) (PT:=111) [Rb 114 b13 s j2 m1,.pub zd] [okP zC.Ok x1,.blk b3 [iV 0,iV 0] 61,.blk b2 [iV x1.kind,iV x1.n,iV x1.range,.string x1.word,.slice x1.ms.A x1.ms.l.length x1.ms.c,.slice x1.by_.A x1.by_.l.length x1.by_.c,.slice x1.kids.A x1.kids.l.length x1.kids.c] 59] (fun _:Unit=>.tuple #[]) (fun z2=>False) (fun z2=>[Rb 114 b13 s j2 m1,.pub zd]) _ (fun f2=>f2=(2,(j2:Int))) (fun _=>rfl) (S9 [0,1,2,3,4]) (fun _=>rfl) wn rfl rfl call54 rfl (fun w1 Pb hG=>vj b13 s j2 m1 2 Pb w1 hG) ?_ fun z2 hz3=>?_))
   · intro f2 hf2
     refine zu (j0 call51 (dgive [.blk b2 [iV x1.kind,iV x1.n,iV x1.range,.string x1.word,.slice x1.ms.A x1.ms.l.length x1.ms.c,.slice x1.by_.A x1.by_.l.length x1.by_.c,.slice x1.kids.A x1.kids.l.length x1.kids.c] 59,.blk b3 [iV 0,iV 0] 61] [okP zC.Ok x1] (fun _:Unit=>.tuple #[]) [.blk b2 [iV 0,iV 0,iV 0,.string (⟨#[]⟩:ByteArray),Zs,Zs,Zs] 59,.blk b3 [iV f2.1,iV f2.2] 61] [.blk b2 [iV 0,iV 0,iV 0,.string (⟨#[]⟩:ByteArray),Zs,Zs,Zs] 59,.blk b3 [iV f2.1,iV f2.2] 61,okP zC.Ok x1] rfl (S9 [2,1,0]) rfl (fun w1 Pb hG=>jo b2 b3 (iV x1.kind) (iV x1.n) (iV x1.range) (.string x1.word) (.slice x1.ms.A x1.ms.l.length x1.ms.c) (.slice x1.by_.A x1.by_.l.length x1.by_.c) (.slice x1.kids.A x1.kids.l.length x1.kids.c) (iV 0) (iV 0) f2.1 f2.2 Pb w1 hG)) rfl results23 (zt 0 rfl rfl agg59 inf59 rfl) (zt 1 rfl rfl agg61 inf61 rfl) fun w1 hM=>?_)
     exact hM.uR ((zC.mk 0 0 0 ⟨#[]⟩ ⟨none,0,[]⟩ ⟨none,0,[]⟩ ⟨none,0,[]⟩),f2) rfl (by rw [hf2]; exact Pz.parse_form h1 he1 hz2e (by omega)) fun Pb pp=>Pz.okZero Pb w1
   exact hz3.elim
 refine yK hK9 (zS fun _ hK11=>zG fun _ hK12=>zB (zz [iV 0] pl119 inf119 rfl rfl) (vS wn rfl rfl fun b28=>jn 0 (v:=iV (Lg.shape x1.e 1 0).1) (cs':=[iV (Lg.shape x1.e 1 0).2]) wn rfl rfl call55 rfl (fun w1 Pb hM pp=>c_shapeB x1 (TB:=59) hM (i:=0) rfl (j:=5) rfl rfl (k:=3) rfl) (zB (vD rfl rfl) (zD hK12 (zZ rfl (fun h3=>?_) (fun h3=>?_))))))
 · refine zL (zE rfl (yJ (α:=Unit) (PT:=111) [Rb 114 b13 s j2 m1,.pub zd] [.blk b28 [iV ((Lg.shape x1.e 1 0).2)] 119,okP zC.Ok x1,.blk b3 [iV 0,iV 0] 61,.blk b2 [iV x1.kind,iV x1.n,iV x1.range,.string x1.word,.slice x1.ms.A x1.ms.l.length x1.ms.c,.slice x1.by_.A x1.by_.l.length x1.by_.c,.slice x1.kids.A x1.kids.l.length x1.kids.c] 59] (fun _:Unit=>.tuple #[]) (fun z3=>False) (fun z3=>[Rb 114 b13 s j2 m1,.pub zd]) _ (fun f3=>f3=(4,(j2:Int))) (fun _=>rfl) (S9 [1,2,0,3,4,5]) (fun _=>rfl) wn rfl rfl call54 rfl (fun w1 Pb hG=>vj b13 s j2 m1 4 Pb w1 hG) ?_ fun z3 hz4=>?_))
   · intro f3 hf3
     refine zu (j0 call51 (dgive [.blk b2 [iV x1.kind,iV x1.n,iV x1.range,.string x1.word,.slice x1.ms.A x1.ms.l.length x1.ms.c,.slice x1.by_.A x1.by_.l.length x1.by_.c,.slice x1.kids.A x1.kids.l.length x1.kids.c] 59,.blk b3 [iV 0,iV 0] 61] [.blk b28 [iV ((Lg.shape x1.e 1 0).2)] 119,okP zC.Ok x1] (fun _:Unit=>.tuple #[]) [.blk b2 [iV 0,iV 0,iV 0,.string (⟨#[]⟩:ByteArray),Zs,Zs,Zs] 59,.blk b3 [iV f3.1,iV f3.2] 61] [.blk b2 [iV 0,iV 0,iV 0,.string (⟨#[]⟩:ByteArray),Zs,Zs,Zs] 59,.blk b3 [iV f3.1,iV f3.2] 61,.blk b28 [iV ((Lg.shape x1.e 1 0).2)] 119,okP zC.Ok x1] rfl (S9 [3,2,0,1]) rfl (fun w1 Pb hG=>jo b2 b3 (iV x1.kind) (iV x1.n) (iV x1.range) (.string x1.word) (.slice x1.ms.A x1.ms.l.length x1.ms.c) (.slice x1.by_.A x1.by_.l.length x1.by_.c) (.slice x1.kids.A x1.kids.l.length x1.kids.c) (iV 0) (iV 0) f3.1 f3.2 Pb w1 hG)) rfl results23 (zt 0 rfl rfl agg59 inf59 rfl) (zt 1 rfl rfl agg61 inf61 rfl) fun w1 hM=>?_)
     exact hM.uR ((zC.mk 0 0 0 ⟨#[]⟩ ⟨none,0,[]⟩ ⟨none,0,[]⟩ ⟨none,0,[]⟩),f3) rfl (by rw [hf3]; exact Pz.parse_much h1 he1 hz2e (by omega) h3) fun Pb pp=>Pz.okZero Pb w1
   exact hz4.elim
 refine yK hK11 (zS fun _ hK13=>vL (Mem w ⟨no,P0⟩ [.blk b28 [iV ((Lg.shape x1.e 1 0).2)] 119,Rb 114 b13 s j2 m1,.pub zd,okP zC.Ok x1,.blk b3 [iV 0,iV 0] 61,.blk b2 [iV x1.kind,iV x1.n,iV x1.range,.string x1.word,.slice x1.ms.A x1.ms.l.length x1.ms.c,.slice x1.by_.A x1.by_.l.length x1.by_.c,.slice x1.kids.A x1.kids.l.length x1.kids.c] 59]) mix (fun _ h=>h.drew) rfl (u6 (f:=2) [0,1] rfl rfl (by kernel_rfl) (by kernel_rfl) (fun _ h=>h) fun KS hKS=>yD (yM 5 [iV x1.kind,iV x1.n,iV x1.range,.string x1.word,.slice x1.ms.A x1.ms.l.length x1.ms.c,.slice x1.by_.A x1.by_.l.length x1.by_.c,.slice x1.kids.A x1.kids.l.length x1.kids.c] rfl rfl rfl rfl agg59 inf59) (yD (yM 4 [iV 0,iV 0] rfl rfl rfl rfl agg61 inf61) (yd hKS (yY 1 2 (yN (i:=2) rfl fun KN hKN hPN=>zr 5 wn rfl rfl rfl inf59 rfl rfl rfl (zl (hKN _ _ (fun _ h=>h) (yY 0 3 ?_)))))))))
 refine yN (i:=3) rfl fun KN hKN hPN=>zr 4 wn rfl rfl rfl inf61 rfl rfl rfl (zl (hKN _ _ (fun _ h=>h) (yu (by kernel_rfl) (zy hK13 (zX (e_retD (.inl rfl) call51 (didle fun w1 hM=>c_idle b2 b3 (fun _=>False) w1 (memNil w1)) results23 (zt 5 rfl rfl agg59 inf59 rfl) (zt 4 rfl rfl agg61 inf61 rfl) fun w1 hM=>?_))))))
 exact hM.uR (x1,(0,0)) rfl (Pz.parse_ok h1 he1 hz2e (by omega) h3) fun Pb pp=>pp.at_ 3 _ rfl
end
section
open _root_.Go.Proofs.Tryz
open Ex
set_option linter.unusedVariables false
set_option linter.unusedSimpArgs false
theorem winG_ask {x : ya} (hok : ∀ s ∈ x.zA.l, s.sr.l.length ≤ 1048576) (hlen : x.zA.l.length ≤ 8) (S : Nat → Prop) (box bp cost : Nat) : WinG prog 116 #[.pointer (some ⟨box, 0, none⟩), .pointer (some ⟨cost, 0, none⟩)] (fun n => .blk cost [iV n] 3) S (Lent 91 93 S box bp x) (Bs.look (x.zA.l.map zF.e)) (Bs.cost (x.zA.l.map zF.e)) :=
  ⟨call116,fun n=>.inl rfl,fun n m b h=>h,fun ms a b n w Pb hG ha hb=>by simpa using c_bask1 box bp cost x S ms a b n Pb w hG hok hlen⟩
set_option maxHeartbeats 1000000 in
theorem c_bask (bp : Nat) (x : ya) (dad : Addr) (d : yo) (Pb : Nat → Prop) (w : World) (hG : Mem w ⟨fpOf [.blk bp [.slice x.zA.A x.zA.l.length x.zA.c, iV x.zh] 93, Row (.slice x.zA.A x.zA.l.length x.zA.c) 50 9 zx x.zA.l, allP zF.Ok x.zA.l, celP dad [iV d.kind, iV d.tier, iV d.to, .slice d.sr.A d.sr.l.length d.sr.c, iV d.zf.time, iV d.zf.value, .string d.text], okP yo.Ok d, .pub zd], Pb⟩ [.blk bp [.slice x.zA.A x.zA.l.length x.zA.c, iV x.zh] 93, Row (.slice x.zA.A x.zA.l.length x.zA.c) 50 9 zx x.zA.l, allP zF.Ok x.zA.l, celP dad [iV d.kind, iV d.tier, iV d.to, .slice d.sr.A d.sr.l.length d.sr.c, iV d.zf.time, iV d.zf.value, .string d.text], okP yo.Ok d, .pub zd] w) (hi : Bs.Inv x.e 120) :
    Calls prog 69 #[.pointer (some ⟨bp,0,none⟩),.pointer (some ((Addr.add dad 0).add 0))] w (RetA w [.blk bp [.slice x.zA.A x.zA.l.length x.zA.c,iV x.zh] 93,Row (.slice x.zA.A x.zA.l.length x.zA.c) 50 9 zx x.zA.l,allP zF.Ok x.zA.l,celP dad [iV d.kind,iV d.tier,iV d.to,.slice d.sr.A d.sr.l.length d.sr.c,iV d.zf.time,iV d.zf.value,.string d.text],okP yo.Ok d,.pub zd] Pb (fun z:ya × yc=>.agg (uH z.2).toArray) (fun z=>(z.1.e,z.2.e)=(x.e,Bs.ask x.e d.e)) (fun z=>[okP yc.Ok z.2,.blk bp [.slice z.1.zA.A z.1.zA.l.length z.1.zA.c,iV z.1.zh] 93,Row (.slice z.1.zA.A z.1.zA.l.length z.1.zA.c) 50 9 zx z.1.zA.l,allP zF.Ok z.1.zA.l,celP dad (uI d),okP yo.Ok d,.pub zd])):=by
 have hwf:∀ y ∈ x.zA.l,zF.Wf y:=fun y hy=>((hG.vQ (i:=2) rfl) y hy).wf
 have hwd:=(hG.vQ (i:=4) rfl).wf
 obtain ⟨hsc,hsm,hsA⟩:=row_wf (hG.row (i:=1) rfl)
 have hlen:=len_k hi
 refine fstart (N:=54) (vals:=[.pointer (some ⟨bp,0,none⟩),.pointer (some ((Addr.add dad 0).add 0))]) (S:=Mem w ⟨fpOf [.blk bp [.slice x.zA.A x.zA.l.length x.zA.c,iV x.zh] 93,Row (.slice x.zA.A x.zA.l.length x.zA.c) 50 9 zx x.zA.l,allP zF.Ok x.zA.l,celP dad [iV d.kind,iV d.tier,iV d.to,.slice d.sr.A d.sr.l.length d.sr.c,iV d.zf.time,iV d.zf.value,.string d.text],okP yo.Ok d,.pub zd],Pb⟩ [.blk bp [.slice x.zA.A x.zA.l.length x.zA.c,iV x.zh] 93,Row (.slice x.zA.A x.zA.l.length x.zA.c) 50 9 zx x.zA.l,allP zF.Ok x.zA.l,celP dad [iV d.kind,iV d.tier,iV d.to,.slice d.sr.A d.sr.l.length d.sr.c,iV d.zf.time,iV d.zf.value,.string d.text],okP yo.Ok d,.pub zd]) func69 rfl rfl rfl hG (zG fun _ hK1=>jJ wn rfl rfl rfl fun b2=>yC wn inf34 rfl fun b4=>zD hK1 (zG fun _ hK2=>zE rfl (zB (zT rfl) (zB (yy rfl fld43_5) (zB (yz 5 rfl rfl rfl flat9) (vi (β:=zC × Pz.F) (fun z=>.tuple #[.agg (yl z.1).toArray,.agg #[iV z.2.1,iV z.2.2]]) (fun z=>Pz.parse d.text=(z.1.e,z.2)) (fun z S=>zC.Ok S z.1) (fun z=>zC.Ok.loc z.1) wn rfl call23 rfl (fun w1 Pb hM pp=>c_parse d.text Pb w1 pp.lt (pp.at_ 7 _ rfl)) fun z1 hz1=>?_))))))
 obtain ⟨x1,er1,at1⟩:=z1
 have hq1:Pz.parse d.text=(x1.e,(er1,at1)):=hz1
 refine vR 16 (.tuple (List.toArray [.agg (List.toArray [iV x1.kind,iV x1.n,iV x1.range,.string x1.word,.slice x1.ms.A x1.ms.l.length x1.ms.c,.slice x1.by_.A x1.by_.l.length x1.by_.c,.slice x1.kids.A x1.kids.l.length x1.kids.c]),.agg (List.toArray [iV er1,iV at1])])) [okP zC.Ok x1,.blk b4 [iV 0,iV 0,Zs,iV 0] 34,.blk b2 [.pointer (some ⟨bp,0,none⟩)] 91,.blk bp [.slice x.zA.A x.zA.l.length x.zA.c,iV x.zh] 93,Row (.slice x.zA.A x.zA.l.length x.zA.c) 50 9 zx x.zA.l,allP zF.Ok x.zA.l,celP dad [iV d.kind,iV d.tier,iV d.to,.slice d.sr.A d.sr.l.length d.sr.c,iV d.zf.time,iV d.zf.value,.string d.text],okP yo.Ok d,.pub zd] (v7 0 rfl (fun S w h=>zC.Ok.wf h) fun hw1=>zE rfl (zB (yG rfl rfl) (zB (yG rfl rfl) (yC wn inf59 rfl fun b5=>yC wn inf61 rfl fun b6=>zr 1 wn rfl rfl rfl inf59 rfl rfl rfl (zr 0 wn rfl rfl rfl inf61 rfl rfl rfl (zD hK2 (zS fun _ hK3=>zG fun _ hK4=>?_)))))))
 refine zB (za rfl fld61_0) (zB (zg 0 rfl rfl rfl flat27) (zB (vD rfl rfl) (zD hK4 (zZ rfl (fun h1=>?_) (fun h1=>?_)))))
 · refine zG fun _ hK5=>zB (za rfl fld61_0) (zB (zg 0 rfl rfl rfl flat27) (zB (za rfl fld61_1) (zB (zg 0 rfl rfl rfl flat3) (zB (zz [iV er1,iV at1,Zs,iV 0] pl34 inf34 rfl rfl) (zr 3 wn rfl rfl rfl inf34 rfl rfl rfl (zD hK5 (zX (zK (zY (.inl rfl) results69 (zt 3 rfl rfl agg34 inf34 rfl) fun w1 hM=>?_)))))))))
   have hM:=hM.vU (yc.Ok.loc (⟨er1,at1,⟨none,0,[]⟩,0⟩:yc)) fun Pb pp=>⟨zJ.yq _ _ _ _,fun c hc=>(by cases hc)⟩
   exact hM.vV (x,⟨er1,at1,⟨none,0,[]⟩,0⟩) rfl (ask_1 hq1 h1) (fun h=>h.sel [0,6,7,8,9,10,11] (by decide) rfl)
 refine yK hK3 (zS fun _ hK6=>zS fun _ hK7=>vN mix (by kernel_rfl) (fun _ h=>h.drew) (zq (yM 1 [iV x1.kind,iV x1.n,iV x1.range,.string x1.word,.slice x1.ms.A x1.ms.l.length x1.ms.c,.slice x1.by_.A x1.by_.l.length x1.by_.c,.slice x1.kids.A x1.kids.l.length x1.kids.c] rfl rfl rfl rfl agg59 inf59) (yn rfl (zq (zT rfl) (zq (yy rfl fld43_2) (zq (yz 8 rfl rfl rfl flat3) (vP wn rfl call57 rfl (fun w1 hM=>c_check x1 d.to (In w1) w1 (fun _ h=>h) (hM.vQ (i:=2) rfl)) (zq (yk rfl) (vJ (zy hK7 ?_))))))))))
 refine zG fun _ hK8=>zE rfl (zB (vD rfl rfl) (zD hK8 (zZ rfl (fun h2=>?_) (fun h2=>?_))))
 · refine zG fun _ hK9=>zE rfl (zB (zz [iV (Mn.check x1.e d.to),iV 0,Zs,iV 0] pl34 inf34 rfl rfl) (zr 3 wn rfl rfl rfl inf34 rfl rfl rfl (zD hK9 (zX (zK (zY (.inl rfl) results69 (zt 3 rfl rfl agg34 inf34 rfl) fun w1 hM=>?_))))))
   have hM:=hM.vU (yc.Ok.loc (noX (Mn.check x1.e d.to):yc)) fun Pb pp=>noX_ok _ _ _
   exact hM.vV (x,noX (Mn.check x1.e d.to)) rfl (ask_2 hq1 h1 h2) (fun h=>h.sel [0,6,7,8,9,10,11] (by decide) rfl)
 have hck:=Mn.check_right (Classical.not_not.1 h2)
 refine yK hK6 (zG fun _ hK10=>l_alloc1 wn inf3 rfl rfl fun b8=>yt 0 wn rfl rfl rfl rfl inf3 rfl rfl (zD hK10 (zS fun _ hK11=>vL (Mem w ⟨fpOf [.blk bp [.slice x.zA.A x.zA.l.length x.zA.c,iV x.zh] 93,Row (.slice x.zA.A x.zA.l.length x.zA.c) 50 9 zx x.zA.l,allP zF.Ok x.zA.l,celP dad [iV d.kind,iV d.tier,iV d.to,.slice d.sr.A d.sr.l.length d.sr.c,iV d.zf.time,iV d.zf.value,.string d.text],okP yo.Ok d,.pub zd],Pb⟩ [.blk b6 [iV er1,iV at1] 61,.blk b5 [iV x1.kind,iV x1.n,iV x1.range,.string x1.word,.slice x1.ms.A x1.ms.l.length x1.ms.c,.slice x1.by_.A x1.by_.l.length x1.by_.c,.slice x1.kids.A x1.kids.l.length x1.kids.c] 59,okP zC.Ok x1,.blk b4 [iV 0,iV 0,Zs,iV 0] 34,.blk b2 [.pointer (some ⟨bp,0,none⟩)] 91,.blk bp [.slice x.zA.A x.zA.l.length x.zA.c,iV x.zh] 93,Row (.slice x.zA.A x.zA.l.length x.zA.c) 50 9 zx x.zA.l,allP zF.Ok x.zA.l,celP dad [iV d.kind,iV d.tier,iV d.to,.slice d.sr.A d.sr.l.length d.sr.c,iV d.zf.time,iV d.zf.value,.string d.text],okP yo.Ok d,.pub zd]) mix (fun _ h=>h.drew) rfl (vK 6 [0,1,2,3,4,5] [1,2,3,4,5,6,7,8,9,10,11] rfl fun KS hKS=>yD (yM 1 [iV x1.kind,iV x1.n,iV x1.range,.string x1.word,.slice x1.ms.A x1.ms.l.length x1.ms.c,.slice x1.by_.A x1.by_.l.length x1.by_.c,.slice x1.kids.A x1.kids.l.length x1.kids.c] rfl rfl rfl rfl agg59 inf59) (yD (zi rfl) (yD (zT rfl) (yD (yy rfl fld43_2) ?_)))))))
 refine yD (yz 8 rfl rfl rfl flat3) (yD (vg rfl rfl) (yd hKS (yY 5 6 (yb (i:=6) rfl fun KN hKN=>l_lend (e:=x1) (n:=0) (n':=(Mn.evalN (Bs.look (x.zA.l.map zF.e)) (Bs.cost (x.zA.l.map zF.e)) d.to x1.e 0)) (T1:=91) (T2:=93) (T3:=50) (TI:=3) [.blk b6 [iV er1,iV at1] 61,.blk b5 [iV x1.kind,iV x1.n,iV x1.range,.string x1.word,.slice x1.ms.A x1.ms.l.length x1.ms.c,.slice x1.by_.A x1.by_.l.length x1.by_.c,.slice x1.kids.A x1.kids.l.length x1.kids.c] 59,.blk b4 [iV 0,iV 0,Zs,iV 0] 34,celP dad [iV d.kind,iV d.tier,iV d.to,.slice d.sr.A d.sr.l.length d.sr.c,iV d.zf.time,iV d.zf.value,.string d.text],okP yo.Ok d,.pub zd] (celsV (Mn.out (Mn.eval (Bs.look (x.zA.l.map zF.e)) d.to x1.e)).2) (fun z=>z.l.map zO.e=(Mn.out (Mn.eval (Bs.look (x.zA.l.map zF.e)) d.to x1.e)).1) CelsX.Ok (S9 [0,3,5,6,7,8,1,2,4,9,10,11]) wn rfl rfl call58 rfl (fun S w1 Pb hG=>c_geval _ _ _ _ _ _ _ _ _ x1 Pb w1 hG (winG_ask (shelf_lens hi) hlen _ _ _ _) (Bs.good_look hi) hck.2 hck.1) fun z2 hz2=>v7 0 rfl (fun S w h=>CelsX.Ok.wf h) fun hw2=>yV (fun _ h=>h.celsY 0 rfl) ?_))))
 obtain ⟨hc1,hm1,hA1⟩:=hw2.cells
 refine yP hKN [9,10,4,11,5,6,7,8,12,13,14] (vK 0 [7,8,9,10,11] [9,10,4,11,5,6,7,8,12,13,14] rfl fun KS hKS=>yD (zi rfl) (yD (yG rfl rfl) (yD (yG rfl rfl) (yD (yk rfl) (yD (yk rfl) (yd hKS (yu (by kernel_rfl) (zy hK11 (zS fun _ hK12=>zG fun _ hK13=>zE rfl ?_)))))))))
 refine zB (vD rfl rfl) (zD hK13 (zZ rfl (fun h3=>?_) (fun h3=>?_)))
 · refine zG fun _ hK14=>zE rfl (zB (zz [iV ((Mn.out (Mn.eval (Bs.look (x.zA.l.map zF.e)) d.to x1.e)).2),iV 0,Zs,iV 0] pl34 inf34 rfl rfl) (zr 11 wn rfl rfl rfl inf34 rfl rfl rfl (zD hK14 (zX (zK (zY (.inl rfl) results69 (zt 11 rfl rfl agg34 inf34 rfl) fun w1 hM=>?_))))))
   have hM:=hM.vU (yc.Ok.loc (noX ((Mn.out (Mn.eval (Bs.look (x.zA.l.map zF.e)) d.to x1.e)).2):yc)) fun Pb pp=>noX_ok _ _ _
   exact hM.vV (x,noX ((Mn.out (Mn.eval (Bs.look (x.zA.l.map zF.e)) d.to x1.e)).2)) rfl (ask_3 hq1 h1 h2 h3) (fun h=>h.sel [0,7,8,9,13,14,15] (by decide) rfl)
 refine yK hK12 (zG fun _ hK15=>zE rfl (zB (zg 3 rfl rfl rfl flat3) (zB (zz [iV 0,iV 0,.slice z2.A z2.l.length z2.c,iV (Mn.evalN (Bs.look (x.zA.l.map zF.e)) (Bs.cost (x.zA.l.map zF.e)) d.to x1.e 0)] pl34 inf34 rfl rfl) (zr 11 wn rfl rfl rfl inf34 rfl rfl rfl (zD hK15 (zX (zY (.inl rfl) results69 (zt 11 rfl rfl agg34 inf34 rfl) fun w1 hM=>?_)))))))
 have hM:=hM.vU (yc.Ok.loc (⟨0,0,z2,(Mn.evalN (Bs.look (x.zA.l.map zF.e)) (Bs.cost (x.zA.l.map zF.e)) d.to x1.e 0)⟩:yc)) fun Pb pp=>⟨pp.sl 0 rfl,pp.at_ 1 _ rfl⟩
 exact hM.vV (x,⟨0,0,z2,(Mn.evalN (Bs.look (x.zA.l.map zF.e)) (Bs.cost (x.zA.l.map zF.e)) d.to x1.e 0)⟩) rfl (ask_4 hq1 h1 h2 h3 hz2) (fun h=>h.sel [0,7,8,9,13,14,15] (by decide) rfl)
end
section
open _root_.Go.Proofs.Tryz
open Ex
set_option linter.unusedVariables false
set_option linter.unusedSimpArgs false
theorem do1_fn (ba dad : Addr) (d : yo) : ShFn prog 71 #[.pointer (some ba)] (DoAt ba dad d) (fun s => Sh.forget s d.tier d.to) :=
  ⟨call71,DoAt.loc _ _ _,fun s w Pb hP hs hC=>by simpa using c_do1 s ba dad d Pb w hP hs hC.box hC.cel hC.ok⟩
theorem do2_fn (ba dad : Addr) (d : yo) : ShFn prog 73 #[.pointer (some ba)] (DoAt ba dad d) (fun s => Sh.roll s d.to) :=
  ⟨call73,DoAt.loc _ _ _,fun s w Pb hP hs hC=>by simpa using c_do2 s ba dad d Pb w hP hs hC.box hC.cel hC.ok⟩
set_option maxHeartbeats 1000000 in
theorem c_bdo (bp : Nat) (x : ya) (dad : Addr) (d : yo) (Pb : Nat → Prop) (w : World) (hG : Mem w ⟨fpOf [.blk bp [.slice x.zA.A x.zA.l.length x.zA.c, iV x.zh] 93, Row (.slice x.zA.A x.zA.l.length x.zA.c) 50 9 zx x.zA.l, allP zF.Ok x.zA.l, celP dad [iV d.kind, iV d.tier, iV d.to, .slice d.sr.A d.sr.l.length d.sr.c, iV d.zf.time, iV d.zf.value, .string d.text], okP yo.Ok d, .pub zd], Pb⟩ [.blk bp [.slice x.zA.A x.zA.l.length x.zA.c, iV x.zh] 93, Row (.slice x.zA.A x.zA.l.length x.zA.c) 50 9 zx x.zA.l, allP zF.Ok x.zA.l, celP dad [iV d.kind, iV d.tier, iV d.to, .slice d.sr.A d.sr.l.length d.sr.c, iV d.zf.time, iV d.zf.value, .string d.text], okP yo.Ok d, .pub zd] w) (hi : Bs.Inv x.e 120) :
    Calls prog 37 #[.pointer (some ⟨bp,0,none⟩),.pointer (some ((Addr.add dad 0).add 0))] w (RetA w [.blk bp [.slice x.zA.A x.zA.l.length x.zA.c,iV x.zh] 93,Row (.slice x.zA.A x.zA.l.length x.zA.c) 50 9 zx x.zA.l,allP zF.Ok x.zA.l,celP dad [iV d.kind,iV d.tier,iV d.to,.slice d.sr.A d.sr.l.length d.sr.c,iV d.zf.time,iV d.zf.value,.string d.text],okP yo.Ok d,.pub zd] Pb (fun z:ya × yc=>.agg (uH z.2).toArray) (fun z=>(z.1.e,z.2.e)=Bs.one x.e d.e) (fun z=>[okP yc.Ok z.2,.blk bp [.slice z.1.zA.A z.1.zA.l.length z.1.zA.c,iV z.1.zh] 93,Row (.slice z.1.zA.A z.1.zA.l.length z.1.zA.c) 50 9 zx z.1.zA.l,allP zF.Ok z.1.zA.l,celP dad (uI d),okP yo.Ok d,.pub zd])):=by
 have hwf:∀ y ∈ x.zA.l,zF.Wf y:=fun y hy=>((hG.vQ (i:=2) rfl) y hy).wf
 have hwd:=(hG.vQ (i:=4) rfl).wf
 obtain ⟨hsc,hsm,hsA⟩:=row_wf (hG.row (i:=1) rfl)
 have hlen:=len_k hi
 have hh0:=hi.hor
 have hh1:x.e.zh=x.zh:=rfl
 refine fstart (N:=86) (vals:=[.pointer (some ⟨bp,0,none⟩),.pointer (some ((Addr.add dad 0).add 0))]) (S:=Mem w ⟨fpOf [.blk bp [.slice x.zA.A x.zA.l.length x.zA.c,iV x.zh] 93,Row (.slice x.zA.A x.zA.l.length x.zA.c) 50 9 zx x.zA.l,allP zF.Ok x.zA.l,celP dad [iV d.kind,iV d.tier,iV d.to,.slice d.sr.A d.sr.l.length d.sr.c,iV d.zf.time,iV d.zf.value,.string d.text],okP yo.Ok d,.pub zd],Pb⟩ [.blk bp [.slice x.zA.A x.zA.l.length x.zA.c,iV x.zh] 93,Row (.slice x.zA.A x.zA.l.length x.zA.c) 50 9 zx x.zA.l,allP zF.Ok x.zA.l,celP dad [iV d.kind,iV d.tier,iV d.to,.slice d.sr.A d.sr.l.length d.sr.c,iV d.zf.time,iV d.zf.value,.string d.text],okP yo.Ok d,.pub zd]) func37 rfl rfl rfl hG (zG fun _ hK1=>jJ wn rfl rfl rfl fun b3=>yC wn inf34 rfl fun b4=>zD hK1 (zS fun _ hK2=>zG fun _ hK3=>zB (zg 1 rfl rfl rfl flat95) (zB (zT rfl) (zB (yy rfl fld43_0) (zB (yz 5 rfl rfl rfl flat3) (zD hK3 ?_))))))
 refine zk (zG fun _ hK4=>zB (yf rfl rfl) (zP rfl (zD hK4 (zZ rfl (fun h1=>?_) (fun h1=>?_)))))
 · refine zG fun _ hK5=>zE rfl (zB (zg 1 rfl rfl rfl flat95) (vO (α:=ya × yc) [.blk bp [.slice x.zA.A x.zA.l.length x.zA.c,iV x.zh] 93,Row (.slice x.zA.A x.zA.l.length x.zA.c) 50 9 zx x.zA.l,allP zF.Ok x.zA.l,celP dad [iV d.kind,iV d.tier,iV d.to,.slice d.sr.A d.sr.l.length d.sr.c,iV d.zf.time,iV d.zf.value,.string d.text],okP yo.Ok d] [.blk b4 [iV 0,iV 0,Zs,iV 0] 34,.blk b3 [.pointer (some ((Addr.add dad 0).add 0))] 95,.pub zd] (fun z:ya × yc=>.agg (uH z.2).toArray) (fun z1=>(z1.1.e,z1.2.e)=Bs.add x.e d.e) (fun z1=>[okP yc.Ok z1.2,.blk bp [.slice z1.1.zA.A z1.1.zA.l.length z1.1.zA.c,iV z1.1.zh] 93,Row (.slice z1.1.zA.A z1.1.zA.l.length z1.1.zA.c) 50 9 zx z1.1.zA.l,allP zF.Ok z1.1.zA.l,celP dad [iV d.kind,iV d.tier,iV d.to,.slice d.sr.A d.sr.l.length d.sr.c,iV d.zf.time,iV d.zf.value,.string d.text],okP yo.Ok d]) _ (fun _=>rfl) (S9 [2,3,4,5,6,0,1,7]) (fun _=>rfl) wn rfl rfl call68 rfl (fun w1 Pb hG=>c_badd bp x dad d Pb w1 hG hi) fun z1 hz1=>zr 6 wn rfl rfl rfl inf34 rfl rfl rfl (zD hK5 (zX (yA (zK (zY (.inl rfl) results37 (zt 6 rfl rfl agg34 inf34 rfl) fun w1 hM=>?_)))))))
   exact hM.vV z1 rfl (one_1 h1 hz1) (fun h=>h.sel [0,1,2,3,4,5,8] (by decide) rfl)
 refine zG fun _ hK6=>zB (yf rfl rfl) (zP rfl (zD hK6 (zZ rfl (fun h2=>?_) (fun h2=>?_))))
 · refine zG fun _ hK7=>zE rfl (zB (zg 1 rfl rfl rfl flat95) (vO (α:=ya × yc) [.blk bp [.slice x.zA.A x.zA.l.length x.zA.c,iV x.zh] 93,Row (.slice x.zA.A x.zA.l.length x.zA.c) 50 9 zx x.zA.l,allP zF.Ok x.zA.l,celP dad [iV d.kind,iV d.tier,iV d.to,.slice d.sr.A d.sr.l.length d.sr.c,iV d.zf.time,iV d.zf.value,.string d.text],okP yo.Ok d,.pub zd] [.blk b4 [iV 0,iV 0,Zs,iV 0] 34,.blk b3 [.pointer (some ((Addr.add dad 0).add 0))] 95] (fun z:ya × yc=>.agg (uH z.2).toArray) (fun z2=>(z2.1.e,z2.2.e)=(x.e,Bs.ask x.e d.e)) (fun z2=>[okP yc.Ok z2.2,.blk bp [.slice z2.1.zA.A z2.1.zA.l.length z2.1.zA.c,iV z2.1.zh] 93,Row (.slice z2.1.zA.A z2.1.zA.l.length z2.1.zA.c) 50 9 zx z2.1.zA.l,allP zF.Ok z2.1.zA.l,celP dad [iV d.kind,iV d.tier,iV d.to,.slice d.sr.A d.sr.l.length d.sr.c,iV d.zf.time,iV d.zf.value,.string d.text],okP yo.Ok d,.pub zd]) _ (fun _=>rfl) (S9 [2,3,4,5,6,7,0,1]) (fun _=>rfl) wn rfl rfl call69 rfl (fun w1 Pb hG=>c_bask bp x dad d Pb w1 hG hi) fun z2 hz2=>zr 7 wn rfl rfl rfl inf34 rfl rfl rfl (zD hK7 (zX (yA (zK (zY (.inl rfl) results37 (zt 7 rfl rfl agg34 inf34 rfl) fun w1 hM=>?_)))))))
   exact hM.vV z2 rfl (one_2 h1 h2 hz2) (fun h=>h.sel [0,1,2,3,4,5,6] (by decide) rfl)
 refine zS fun _ hK8=>zG fun _ hK9=>zB (yf rfl rfl) (zP rfl (zD hK9 (zZ rfl (fun h3=>?_) (fun h3=>?_))))
 · refine yK hK8 (vM rfl (decide_eq_true h3) (yU (zm (zy hK2 (zS fun _ hK10=>zG fun _ hK11=>zB (zg 1 rfl rfl rfl flat95) (zB (zT rfl) (zB (yy rfl fld43_2) (zB (yz 5 rfl rfl rfl flat3) (zB (yR rfl rfl) (zE rfl (yQ (t:=29) rfl (fun h4=>?_) (fun h4=>?_))))))))))))
   · refine zQ (zQ (zQ (zQ (zQ (zB (zM rfl rfl) (zD hK11 (vM rfl rfl (zG fun _ hK12=>zB (zz [iV 3,iV 0,Zs,iV 0] pl34 inf34 rfl rfl) (zr 0 wn rfl rfl rfl inf34 rfl rfl rfl (zD hK12 ?_))))))))))
     refine zX (zK (zY (.inl rfl) results37 (zt 0 rfl rfl agg34 inf34 rfl) fun w1 hM=>?_))
     have hM:=hM.vU (yc.Ok.loc (noX 3)) fun Pb pp=>noX_ok _ _ _
     exact hM.vV (x,noX 3) rfl (one_4 h1 h2 (.inl h3) (by omega)) (fun h=>h.sel [0,3,4,5,6,7,8] (by decide) rfl)
   refine zb (zg 1 rfl rfl rfl flat95) (zb (zT rfl) (zb (yy rfl fld43_2) (zb (yz 5 rfl rfl rfl flat3) (zb (vH rfl rfl) (zB (zM rfl rfl) (zD hK11 (zZ rfl (fun h5=>?_) (fun h5=>?_))))))))
   · refine zG fun _ hK13=>zB (zz [iV 3,iV 0,Zs,iV 0] pl34 inf34 rfl rfl) (zr 0 wn rfl rfl rfl inf34 rfl rfl rfl (zD hK13 (zX (zK (zY (.inl rfl) results37 (zt 0 rfl rfl agg34 inf34 rfl) fun w1 hM=>?_)))))
     have hM:=hM.vU (yc.Ok.loc (noX 3)) fun Pb pp=>noX_ok _ _ _
     exact hM.vV (x,noX 3) rfl (one_4 h1 h2 (.inl h3) (by omega)) (fun h=>h.sel [0,3,4,5,6,7,8] (by decide) rfl)
   refine yK hK10 (zS fun _ hK14=>zG fun _ hK15=>zB (zg 1 rfl rfl rfl flat95) (zB (zT rfl) (zB (yy rfl fld43_0) (zB (yz 5 rfl rfl rfl flat3) (zB (yf rfl rfl) (zD hK15 (yr rfl (decide_eq_false (by omega)) (yK hK14 (zG fun _ hK16=>?_)))))))))
   refine zE rfl (zB (vg rfl rfl) (l_sealB2 1 2 3 rfl rfl rfl rfl rfl onlyB (yV (fun _ h=>h.vU (DoAt.loc ⟨b3,0,none⟩ dad d) fun Pb pp=>⟨pp.at_ 1 _ rfl,pp.at_ 5 _ rfl,pp.at_ 6 _ rfl⟩) (vO (α:=ya) [.blk bp [.slice x.zA.A x.zA.l.length x.zA.c,iV x.zh] 93,Row (.slice x.zA.A x.zA.l.length x.zA.c) 50 9 zx x.zA.l,allP zF.Ok x.zA.l,.pub (DoAt ⟨b3,0,none⟩ dad d)] [.blk b4 [iV 0,iV 0,Zs,iV 0] 34,celP ⟨b3,0,none⟩ [.pointer (some ((Addr.add dad 0).add 0))],celP dad [iV d.kind,iV d.tier,iV d.to,.slice d.sr.A d.sr.l.length d.sr.c,iV d.zf.time,iV d.zf.value,.string d.text],okP yo.Ok d,.pub zd] (fun _=>iV (Bs.each (fun s=>Sh.roll s d.to) x.e.zA).2) (fun z3=>z3.e=if (Bs.each (fun s=>Sh.roll s d.to) x.e.zA).2≠0 then x.e else ⟨(Bs.each (fun s=>Sh.roll s d.to) x.e.zA).1,x.zh⟩) (fun z3=>[.blk bp [.slice z3.zA.A z3.zA.l.length z3.zA.c,iV z3.zh] 93,Row (.slice z3.zA.A z3.zA.l.length z3.zA.c) 50 9 zx z3.zA.l,allP zF.Ok z3.zA.l,.pub (DoAt ⟨b3,0,none⟩ dad d)]) _ (fun _=>rfl) (S9 [3,4,5,0,1,2,6,7,8]) (fun _=>rfl) wn rfl rfl call70 rfl (fun w1 Pb hG=>c_each bp x 73 #[.pointer (some ⟨b3,0,none⟩)] (DoAt ⟨b3,0,none⟩ dad d) (fun s=>Sh.roll s d.to) Pb w1 hG (do2_fn _ _ _) hlen) fun z3 hz3=>?_))))
   have hh1:=hor_of hz3
   refine zP rfl (zD hK16 (zS fun _ hK17=>zG fun _ hK18=>zE rfl (zB (yf rfl rfl) (zD hK18 (zZ rfl (fun h6=>?_) (fun h6=>?_))))))
   · refine va 20 mix (by kernel_rfl) (fun _ h=>h.drew) fun _ hT1=>yn rfl (yn rfl (zq (zT rfl) (zq (za rfl fld93_0) (zq (za rfl fld25_1) (zq (zg 0 rfl rfl rfl flat3) (zq (r_celL 5 rfl rfl rfl flat95) (zq (zT rfl) (zq (yy rfl fld43_2) (zq (yz 6 rfl rfl rfl flat3) (zq (r_celL 5 rfl rfl rfl flat95) ?_))))))))))
     refine zq (zT rfl) (zq (yy rfl fld43_2) (zq (yz 6 rfl rfl rfl flat3) (zq (jV rfl rfl (by omega) (by omega)) (zq (vw rfl rfl (by omega)) (zq (js (show _=(Sh.mx z3.zh (d.to - (d.to % 10))) from rfl) (uj rfl rfl)) (zq (zT rfl) (zq (za rfl fld93_0) (zq (za rfl fld25_1) (v8 hT1 (yt 0 wn rfl rfl rfl rfl inf3 rfl rfl (zD hK17 ?_)))))))))))
     refine zG fun _ hK19=>zE rfl (zB (zz [iV ((Bs.each (fun s=>Sh.roll s d.to) x.e.zA).2),iV 0,Zs,iV 0] pl34 inf34 rfl rfl) (zr 4 wn rfl rfl rfl inf34 rfl rfl rfl (zD hK19 (zX (zY (.inl rfl) results37 (zt 4 rfl rfl agg34 inf34 rfl) fun w1 hM=>?_)))))
     have hM:=hM.vU (yc.Ok.loc (noX ((Bs.each (fun s=>Sh.roll s d.to) x.e.zA).2))) fun Pb pp=>noX_ok _ _ _
     exact hM.vV (⟨z3.zA,Sh.mx z3.zh (d.to - d.to % 10)⟩,noX ((Bs.each (fun s=>Sh.roll s d.to) x.e.zA).2)) rfl (one_8 h1 h2 h3 (by omega) h6 hz3) (fun h=>h.sel [0,1,2,3,7,8,9] (by decide) rfl)
   refine yK hK17 (zG fun _ hK20=>zE rfl (zB (zz [iV ((Bs.each (fun s=>Sh.roll s d.to) x.e.zA).2),iV 0,Zs,iV 0] pl34 inf34 rfl rfl) (zr 4 wn rfl rfl rfl inf34 rfl rfl rfl (zD hK20 (zX (zY (.inl rfl) results37 (zt 4 rfl rfl agg34 inf34 rfl) fun w1 hM=>?_))))))
   have hM:=hM.vU (yc.Ok.loc (noX ((Bs.each (fun s=>Sh.roll s d.to) x.e.zA).2))) fun Pb pp=>noX_ok _ _ _
   exact hM.vV (z3,noX ((Bs.each (fun s=>Sh.roll s d.to) x.e.zA).2)) rfl (one_7 h1 h2 h3 (by omega) h6 hz3) (fun h=>h.sel [0,1,2,3,7,8,9] (by decide) rfl)
 refine zL (zB (yf rfl rfl) (zP rfl (zD hK8 (zZ rfl (fun h7=>?_) (fun h7=>?_)))))
 · refine yU (zm (zy hK2 (zS fun _ hK21=>zG fun _ hK22=>zB (zg 1 rfl rfl rfl flat95) (zB (zT rfl) (zB (yy rfl fld43_2) (zB (yz 5 rfl rfl rfl flat3) (zB (yR rfl rfl) (zE rfl (yQ (t:=29) rfl (fun h8=>?_) (fun h8=>?_))))))))))
   · refine zQ (zQ (zQ (zQ (zQ (zB (zM rfl rfl) (zD hK22 (vM rfl rfl (zG fun _ hK23=>zB (zz [iV 3,iV 0,Zs,iV 0] pl34 inf34 rfl rfl) (zr 0 wn rfl rfl rfl inf34 rfl rfl rfl (zD hK23 ?_))))))))))
     refine zX (zK (zY (.inl rfl) results37 (zt 0 rfl rfl agg34 inf34 rfl) fun w1 hM=>?_))
     have hM:=hM.vU (yc.Ok.loc (noX 3)) fun Pb pp=>noX_ok _ _ _
     exact hM.vV (x,noX 3) rfl (one_4 h1 h2 (.inr h7) (by omega)) (fun h=>h.sel [0,3,4,5,6,7,8] (by decide) rfl)
   refine zb (zg 1 rfl rfl rfl flat95) (zb (zT rfl) (zb (yy rfl fld43_2) (zb (yz 5 rfl rfl rfl flat3) (zb (vH rfl rfl) (zB (zM rfl rfl) (zD hK22 (zZ rfl (fun h9=>?_) (fun h9=>?_))))))))
   · refine zG fun _ hK24=>zB (zz [iV 3,iV 0,Zs,iV 0] pl34 inf34 rfl rfl) (zr 0 wn rfl rfl rfl inf34 rfl rfl rfl (zD hK24 (zX (zK (zY (.inl rfl) results37 (zt 0 rfl rfl agg34 inf34 rfl) fun w1 hM=>?_)))))
     have hM:=hM.vU (yc.Ok.loc (noX 3)) fun Pb pp=>noX_ok _ _ _
     exact hM.vV (x,noX 3) rfl (one_4 h1 h2 (.inr h7) (by omega)) (fun h=>h.sel [0,3,4,5,6,7,8] (by decide) rfl)
   refine yK hK21 (zS fun _ hK25=>zG fun _ hK26=>zB (zg 1 rfl rfl rfl flat95) (zB (zT rfl) (zB (yy rfl fld43_0) (zB (yz 5 rfl rfl rfl flat3) (zB (yf rfl rfl) (zD hK26 (vM rfl (decide_eq_true h7) (zS fun _ hK27=>zG fun _ hK28=>?_))))))))
   refine zB (zg 1 rfl rfl rfl flat95) (zB (zT rfl) (zB (yy rfl fld43_1) (zB (yz 5 rfl rfl rfl flat3) (zB (yR rfl rfl) (zE rfl (yQ (t:=47) rfl (fun h10=>?_) (fun h10=>?_)))))))
   · refine zQ (zQ (zQ (zQ (zQ (zB (zM rfl rfl) (zD hK28 (vM rfl rfl (zG fun _ hK29=>zB (zz [iV 1,iV 0,Zs,iV 0] pl34 inf34 rfl rfl) (zr 0 wn rfl rfl rfl inf34 rfl rfl rfl (zD hK29 ?_))))))))))
     refine zX (zK (zK (zY (.inl rfl) results37 (zt 0 rfl rfl agg34 inf34 rfl) fun w1 hM=>?_)))
     have hM:=hM.vU (yc.Ok.loc (noX 1)) fun Pb pp=>noX_ok _ _ _
     exact hM.vV (x,noX 1) rfl (one_5 h1 h2 h7 (by omega) (by omega)) (fun h=>h.sel [0,3,4,5,6,7,8] (by decide) rfl)
   refine zb (zg 1 rfl rfl rfl flat95) (zb (zT rfl) (zb (yy rfl fld43_1) (zb (yz 5 rfl rfl rfl flat3) (zb (vH rfl rfl) (zB (zM rfl rfl) (zD hK28 (zZ rfl (fun h11=>?_) (fun h11=>?_))))))))
   · refine zG fun _ hK30=>zB (zz [iV 1,iV 0,Zs,iV 0] pl34 inf34 rfl rfl) (zr 0 wn rfl rfl rfl inf34 rfl rfl rfl (zD hK30 (zX (zK (zK (zY (.inl rfl) results37 (zt 0 rfl rfl agg34 inf34 rfl) fun w1 hM=>?_))))))
     have hM:=hM.vU (yc.Ok.loc (noX 1)) fun Pb pp=>noX_ok _ _ _
     exact hM.vV (x,noX 1) rfl (one_5 h1 h2 h7 (by omega) (by omega)) (fun h=>h.sel [0,3,4,5,6,7,8] (by decide) rfl)
   refine yK hK27 (zG fun _ hK31=>zE rfl (zB (vg rfl rfl) (l_sealB2 1 2 3 rfl rfl rfl rfl rfl onlyB (yV (fun _ h=>h.vU (DoAt.loc ⟨b3,0,none⟩ dad d) fun Pb pp=>⟨pp.at_ 1 _ rfl,pp.at_ 5 _ rfl,pp.at_ 6 _ rfl⟩) (vO (α:=ya) [.blk bp [.slice x.zA.A x.zA.l.length x.zA.c,iV x.zh] 93,Row (.slice x.zA.A x.zA.l.length x.zA.c) 50 9 zx x.zA.l,allP zF.Ok x.zA.l,.pub (DoAt ⟨b3,0,none⟩ dad d)] [.blk b4 [iV 0,iV 0,Zs,iV 0] 34,celP ⟨b3,0,none⟩ [.pointer (some ((Addr.add dad 0).add 0))],celP dad [iV d.kind,iV d.tier,iV d.to,.slice d.sr.A d.sr.l.length d.sr.c,iV d.zf.time,iV d.zf.value,.string d.text],okP yo.Ok d,.pub zd] (fun _=>iV (Bs.each (fun s=>Sh.forget s d.tier d.to) x.e.zA).2) (fun z4=>z4.e=if (Bs.each (fun s=>Sh.forget s d.tier d.to) x.e.zA).2≠0 then x.e else ⟨(Bs.each (fun s=>Sh.forget s d.tier d.to) x.e.zA).1,x.zh⟩) (fun z4=>[.blk bp [.slice z4.zA.A z4.zA.l.length z4.zA.c,iV z4.zh] 93,Row (.slice z4.zA.A z4.zA.l.length z4.zA.c) 50 9 zx z4.zA.l,allP zF.Ok z4.zA.l,.pub (DoAt ⟨b3,0,none⟩ dad d)]) _ (fun _=>rfl) (S9 [3,4,5,0,1,2,6,7,8]) (fun _=>rfl) wn rfl rfl call70 rfl (fun w1 Pb hG=>c_each bp x 71 #[.pointer (some ⟨b3,0,none⟩)] (DoAt ⟨b3,0,none⟩ dad d) (fun s=>Sh.forget s d.tier d.to) Pb w1 hG (do1_fn _ _ _) hlen) fun z4 hz4=>?_)))))
   have hh2:=hor_of hz4
   refine zB (zz [iV ((Bs.each (fun s=>Sh.forget s d.tier d.to) x.e.zA).2),iV 0,Zs,iV 0] pl34 inf34 rfl rfl) (zr 4 wn rfl rfl rfl inf34 rfl rfl rfl (zD hK31 (zX (zK (zY (.inl rfl) results37 (zt 4 rfl rfl agg34 inf34 rfl) fun w1 hM=>?_)))))
   have hM:=hM.vU (yc.Ok.loc (noX ((Bs.each (fun s=>Sh.forget s d.tier d.to) x.e.zA).2))) fun Pb pp=>noX_ok _ _ _
   exact hM.vV (z4,noX ((Bs.each (fun s=>Sh.forget s d.tier d.to) x.e.zA).2)) rfl (one_6 h1 h2 h7 (by omega) (by omega) hz4) (fun h=>h.sel [0,1,2,3,7,8,9] (by decide) rfl)
 refine zG fun _ hK32=>zB (zz [iV 1,iV 0,Zs,iV 0] pl34 inf34 rfl rfl) (zr 0 wn rfl rfl rfl inf34 rfl rfl rfl (zD hK32 (zX (yA (zK (zY (.inl rfl) results37 (zt 0 rfl rfl agg34 inf34 rfl) fun w1 hM=>?_))))))
 have hM:=hM.vU (yc.Ok.loc (noX 1)) fun Pb pp=>noX_ok _ _ _
 exact hM.vV (x,noX 1) rfl (one_3 h1 h2 (by omega)) (fun h=>h.sel [0,3,4,5,6,7,8] (by decide) rfl)
end
section
open _root_.Go.Proofs.Tryz
open Ex
set_option linter.unusedVariables false
set_option linter.unusedSimpArgs false
set_option maxHeartbeats 1000000 in
theorem gA (lv : Value) (l : List yo) (P0 : Nat → Prop) (w : World) (hP0 : ∀ b, P0 b → b < w.heap.size) (hl : zJ P0 7 uI lv l w) (hla : ∀ x ∈ l, yo.Ok P0 x w) (hE : zd P0 w)  :
    Calls prog 14 #[lv] w (RetE w P0 (fun z:ya × SlX yc=>.tuple #[.agg (un z.1).toArray,.slice z.2.A z.2.l.length z.2.c,iV (Bs.play (l.map yo.e)).2.2]) (fun z=>(z.1.e,z.2.l.map yc.e)=((Bs.play (l.map yo.e)).1,(Bs.play (l.map yo.e)).2.1)) (fun z S w=>ya.Ok S z.1 w∧AnssX.Ok S z.2 w)):=by
 have hwl:∀ x ∈ l,yo.Wf x:=fun x hx=>(hla x hx).wf
 obtain ⟨lA,lc,rfl,hlc,hlm,hlA⟩:=hl.form
 refine fstart (N:=33) (vals:=[.slice lA l.length lc]) (S:=Mem w ⟨no,P0⟩ [slP 7 uI (.slice lA l.length lc) l,allP yo.Ok l,.pub zd]) func14 rfl rfl rfl (Mem.ofDatsP hP0 (dc (dlp hl) (dc (dp (all_loc yo.Ok.loc _) hla) (dc (dp zd.loc hE) dn)))) (zG fun _ hK1=>yC wn inf25 rfl fun b2=>zP rfl (zP rfl (zD hK1 (zS fun _ hK2=>zG fun _ hK3=>zE rfl (zB (yW rfl underlying22) (zB (vH rfl rfl) (zD hK3 ?_)))))))
 refine zZ rfl (fun h1=>?_) (fun h1=>?_)
 · refine zG fun _ hK4=>zB (zz [Zs,iV 0] pl25 inf25 rfl rfl) (zr 0 wn rfl rfl rfl inf25 rfl rfl rfl (zP rfl (zP rfl (zD hK4 (zX (zK (ud (.inl rfl) results14 (zt 0 rfl rfl agg25 inf25 rfl) (zR rfl) (zR rfl) fun w1 hM=>?_)))))))
   have hb9:=play_many h1
   exact hM.uR ((⟨⟨none,0,[]⟩,0⟩,⟨none,0,[]⟩):ya × SlX yc) (by rw [hb9]; rfl) (by rw [hb9]; rfl) fun Pb pp=>⟨⟨zJ.yq _ _ _ _,fun c hc=>(by cases hc)⟩,⟨zJ.yq _ _ _ _,fun c hc=>(by cases hc)⟩⟩
 refine yK hK2 (zG fun _ hK5=>zB (zz [Zs,iV 0] pl93 inf93 rfl rfl) (vS wn rfl rfl fun b13=>zP rfl (zD hK5 (zG fun _ hK6=>vE (uH:yc→List Value) 34 4 (yV (fun _ h=>h.all0 yc.Ok.loc) (zP rfl (zD hK6 (zS fun _ hK7=>?_))))))))
 refine zG fun _ hK8=>zE rfl (zB (yW rfl underlying22) (zE rfl (zD hK8 (zk (jZ (fun _ h=>h.uP zF 50 9 zx) (je (fun _ h=>h.all0 zF.Ok.loc) (uK (fun (k:Nat) (x:ya) (zs:List yc) (ov:Value)=>[(0,.slice lA l.length lc),(2,.pointer (some ⟨b2,0,none⟩)),(5,.pointer (some ⟨b13,0,none⟩)),(6,ov),(15,iV l.length),(16,iV k)]) (fun (k:Nat) (x:ya) (zs:List yc) (ov:Value)=>[allP zF.Ok x.zA.l,Row (.slice x.zA.A x.zA.l.length x.zA.c) 50 9 zx x.zA.l,allP yc.Ok zs,Row ov 34 4 uH zs,.blk b13 [.slice x.zA.A x.zA.l.length x.zA.c,iV x.zh] 93,.blk b2 [Zs,iV 0] 25,slP 7 uI (.slice lA l.length lc) l,allP yo.Ok l,.pub zd]) (fun (k:Nat) (x:ya) (zs:List yc) (ov:Value)=>k≤l.length∧(∀ y ∈ zs,yc.Wf y)∧Bs.run Bs.zero ((l.take k).map yo.e)=(x.e,zs.map yc.e)∧zs.length=k) (fun (k:Nat) (x:ya) (zs:List yc) (ov:Value)=>l.length - k) 0 (⟨⟨none,0,[]⟩,0⟩:ya) [] (Zs) (sc rfl (sc rfl (sc rfl (sc rfl (sc rfl (sc (ji (by omega)) sn)))))) (fun _ h=>h) ?_ (fun k x zs ov hI1=>?_))))))))
 · exact ⟨Nat.zero_le _,fun x hx=>(by cases hx),rfl,rfl⟩
 have hwz:=hI1.2.1
 have hzl:=hI1.2.2.2
 refine vW 3 (l:=zs) rfl fun A1 cp1 hv1 hc1 hm1 hA1=>?_
 subst hv1
 refine zG fun _ hK9=>zB (yR rfl rfl) (zD hK9 (zS fun _ hK10=>zZ rfl (fun h2=>?_) (fun h2=>?_)))
 · refine yK hK10 (zS fun _ hK11=>zk (zG fun _ hK12=>zE rfl (zP rfl (zD hK12 (zL (zE rfl (zE rfl (zE rfl (zE rfl ?_)))))))))
   obtain ⟨ad1,hd1⟩:=hlA (ne_nil (i:=k) (by first | omega | (simp <;> omega)))
   refine zB (y6 (i:=k) rfl hd1 rfl (by omega) (by first | omega | (simp <;> omega)) underlying22 inf43) ?_
   obtain ⟨s1,hs1⟩:∃ x,l[k]?=some x:=⟨_,List.getElem?_eq_getElem (by first | omega | (simp <;> omega))⟩
   have hiv1:Bs.Inv x.e 120:=inv_at hI1.2.2.1 (by omega)
   refine yV (fun _ h=>h.celAt 6 rfl hd1 hs1) ?_
   have hw1:=hwl _ (List.mem_of_getElem? hs1)
   refine yV (fun _ h=>h.one 8 yo.Ok.loc rfl hs1) (yV (fun _ h=>h.dup 10 rfl rfl) (vO (α:=ya × yc) [.blk b13 [.slice x.zA.A x.zA.l.length x.zA.c,iV x.zh] 93,Row (.slice x.zA.A x.zA.l.length x.zA.c) 50 9 zx x.zA.l,allP zF.Ok x.zA.l,celP (Addr.add ad1 (k * 7)) [iV s1.kind,iV s1.tier,iV s1.to,.slice s1.sr.A s1.sr.l.length s1.sr.c,iV s1.zf.time,iV s1.zf.value,.string s1.text],okP yo.Ok s1,.pub zd] [allP yc.Ok zs,Row (.slice A1 zs.length cp1) 34 4 uH zs,.blk b2 [Zs,iV 0] 25,slP 7 uI (.slice lA l.length lc) l,allP yo.Ok l,.pub zd] (fun z:ya × yc=>.agg (uH z.2).toArray) (fun z1=>(z1.1.e,z1.2.e)=Bs.one x.e s1.e) (fun z1=>[okP yc.Ok z1.2,.blk b13 [.slice z1.1.zA.A z1.1.zA.l.length z1.1.zA.c,iV z1.1.zh] 93,Row (.slice z1.1.zA.A z1.1.zA.l.length z1.1.zA.c) 50 9 zx z1.1.zA.l,allP zF.Ok z1.1.zA.l,celP (Addr.add ad1 (k * 7)) [iV s1.kind,iV s1.tier,iV s1.to,.slice s1.sr.A s1.sr.l.length s1.sr.c,iV s1.zf.time,iV s1.zf.value,.string s1.text],okP yo.Ok s1,.pub zd]) _ (fun _=>rfl) (S9 [7,4,3,2,1,0,5,6,8,9,10,11]) (fun _=>rfl) wn rfl rfl call37 rfl (fun w1 Pb hG=>c_bdo b13 x (Addr.add ad1 (k * 7)) s1 Pb w1 hG hiv1) fun z1 hz1=>v7 0 rfl (fun S w h=>yc.Ok.wf h) fun hw2=>yw uH ([z1.2]:List yc) wn underlying26 inf34 rfl rfl rfl rfl (by decide) (by decide) rfl fun b25=>vG 9 zs ([z1.2]:List yc) encAnsX wn rfl rfl rfl (fun _ hM=>(RowSl encAnsX hM 0 rfl)) underlying26 inf34 rfl rfl (by simp only [List.length_append,List.length_cons,List.length_nil]; omega) rfl fun A2 cp2 hc2 hm2 hA2=>yV (fun _ h=>h.allSnoc 8 1 yc.Ok.loc rfl rfl) ?_))
   have hw3:∀ x ∈ (zs++([z1.2]:List yc)),yc.Wf x:=fun x hx=>(List.mem_append.1 hx).elim (hwz x) fun h=>by rw [List.mem_singleton.1 h]; exact hw2
   refine zP rfl (zl (zm (zy hK11 (zL (zB (zw rfl rfl (by omega)) (zE rfl (zl (vY (k + 1) z1.1 (zs++([z1.2]:List yc)) (.slice A2 ((zs++([z1.2]:List yc)).length) cp2) (sc rfl (sc rfl (sc rfl (sc rfl (sc rfl (sc (ji (by omega)) sn)))))) (S9 [5,4,0,10,3,11,12,13,8]) ?_ ?_))))))))
   · exact ⟨by omega,hw3,play_next hs1 hI1.2.2.1 hz1,by rw [List.length_append,List.length_singleton]; omega⟩
   omega
 refine yZ (yH (uC (yI (zy hK7 (zG fun _ hK13=>zE rfl (zB (zT rfl) (zB (za rfl fld93_0) (zB (yM 4 [.slice x.zA.A x.zA.l.length x.zA.c,iV x.zh] rfl rfl rfl rfl agg25 inf25) (zE rfl (zr 5 wn rfl rfl rfl inf25 rfl rfl rfl (zP rfl (zP rfl (zD hK13 (zX (ud (.inl rfl) results14 (zt 5 rfl rfl agg25 inf25 rfl) (zR rfl) (zR rfl) fun w1 hM=>?_)))))))))))))))
 have hb9:=play_end hI1.2.2.1 (by omega) (by omega)
 have hM:=hM.yh encShelfX (i:=1) rfl rfl
 have hM:=hM.yh encAnsX (i:=3) rfl rfl
 exact hM.uR ((x,⟨A1,cp1,zs⟩):ya × SlX yc) (by rw [hb9]; first | done | rfl) (by rw [hb9]) fun Pb pp=>⟨⟨pp.sl 1 rfl,pp.at_ 0 _ rfl⟩,⟨pp.sl 3 rfl,pp.at_ 2 _ rfl⟩⟩
end
section
open _root_.Go.Proofs.Tryz
open Ex
set_option linter.unusedVariables false
set_option linter.unusedSimpArgs false
theorem c_badd9 (h : ByteArray) (t : Int) (v : Int) (P0 : Nat → Prop) (w : World) (hP0 : ∀ b, P0 b → b < w.heap.size)  :
    Calls prog 40 #[.string h,iV t,iV v] w (RetE w P0 (fun z:yo=>.agg (uI z).toArray) (fun z=>z.e=Bs.addD h t v) (fun z S=>yo.Ok S z)):=by
 refine fstart (N:=14) (vals:=[.string h,iV t,iV v]) (S:=Mem w ⟨no,P0⟩ []) func40 rfl rfl rfl (Mem.ofDatsP hP0 dn) (zG fun _ hK1=>yC wn inf43 rfl fun b6=>zD hK1 (zG fun _ hK2=>zE rfl (zB (zz [.string ⟨#[104,111,115,116]⟩,.string h] pl74 inf74 rfl rfl) (yw zj ([(⟨⟨#[104,111,115,116]⟩,h⟩:Label)]:List Label) wn underlying39 inf74 rfl rfl rfl rfl (by decide) (by decide) rfl fun b9=>zE rfl (zE rfl (zB (zz [iV t,iV v] pl41 inf41 rfl rfl) (zB (zz [iV 1,iV 0,iV 0,.slice (some ⟨b9,0,none⟩) 1 1,iV t,iV v,.string ⟨#[]⟩] pl43 inf43 rfl rfl) ?_)))))))
 refine zr 1 wn rfl rfl rfl inf43 rfl rfl rfl (zD hK2 (zX (zY (.inl rfl) results40 (zt 1 rfl rfl agg43 inf43 rfl) fun w1 hM=>?_)))
 have hM:=hM.yh encLabel (i:=0) rfl rfl
 exact hM.uR (yo.mk 1 0 0 ⟨(some ⟨b9,0,none⟩),1,([(⟨⟨#[104,111,115,116]⟩,h⟩:Label)]:List Label)⟩ ⟨t,v⟩ ⟨#[]⟩) rfl rfl fun Pb pp=>⟨pp.sl 0 rfl⟩
set_option maxHeartbeats 1000000 in
theorem c_alive9 (P0 : Nat → Prop) (w : World) (hP0 : ∀ b, P0 b → b < w.heap.size) (hE : zd P0 w)  :
    Calls prog 18 #[] w (Ret w (.bool true)):=by
 refine fstart (N:=52) (vals:=[]) (S:=Mem w ⟨no,P0⟩ [.pub zd]) func18 rfl rfl rfl (Mem.ofDatsP hP0 (dc (dp zd.loc hE) dn)) (zG fun _ hK1=>zP rfl (zD hK1 (zG fun _ hK2=>vi (β:=yo) (fun z=>.agg (uI z).toArray) (fun z=>z.e=Bs.addD ⟨#[120]⟩ 5 7) (fun z S=>yo.Ok S z) (fun z=>yo.Ok.loc z) wn rfl call40 rfl (fun w1 Pb hM pp=>c_badd9 ⟨#[120]⟩ 5 7 Pb w1 pp.lt) fun z1 hz1=>v7 0 rfl (fun S w h=>yo.Ok.wf h) fun hw1=>vi (β:=yo) (fun z=>.agg (uI z).toArray) (fun z=>z.e=Bs.addD ⟨#[121]⟩ 6 8) (fun z S=>yo.Ok S z) (fun z=>yo.Ok.loc z) wn rfl call40 rfl (fun w1 Pb hM pp=>c_badd9 ⟨#[121]⟩ 6 8 Pb w1 pp.lt) fun z2 hz2=>v7 0 rfl (fun S w h=>yo.Ok.wf h) fun hw2=>zB (zz [iV 2,iV 0,iV 100,Zs,iV 0,iV 0,.string ⟨#[]⟩] pl43 inf43 rfl rfl) (zB (zz [iV 4,iV 0,iV 60,Zs,iV 0,iV 0,.string ⟨#[97,108,108,32,115,117,109,32,40,115,117,109,40,123,125,91,54,48,93,41,41]⟩] pl43 inf43 rfl rfl) (yw uI ([z1,z2,(yo.mk 2 0 100 ⟨none,0,[]⟩ ⟨0,0⟩ ⟨#[]⟩),(yo.mk 4 0 60 ⟨none,0,[]⟩ ⟨0,0⟩ ⟨#[97,108,108,32,115,117,109,32,40,115,117,109,40,123,125,91,54,48,93,41,41]⟩)]:List yo) wn underlying22 inf43 rfl rfl rfl rfl (by decide) (by decide) rfl fun b9=>?_)))))
 refine yV (fun _ h=>h.all0 yo.Ok.loc) (yV (fun _ h=>h.allSnoc 0 3 yo.Ok.loc rfl rfl) (yV (fun _ h=>h.allSnoc 0 3 yo.Ok.loc rfl rfl) (yV (fun _ h=>h.vU (yo.Ok.loc (yo.mk 2 0 100 ⟨none,0,[]⟩ ⟨0,0⟩ ⟨#[]⟩)) fun Pb pp=>⟨zJ.yq _ _ _ _⟩) (v7 0 rfl (fun S w h=>yo.Ok.wf h) fun hw3=>yV (fun _ h=>h.allSnoc 1 0 yo.Ok.loc rfl rfl) (yV (fun _ h=>h.vU (yo.Ok.loc (yo.mk 4 0 60 ⟨none,0,[]⟩ ⟨0,0⟩ ⟨#[97,108,108,32,115,117,109,32,40,115,117,109,40,123,125,91,54,48,93,41,41]⟩)) fun Pb pp=>⟨zJ.yq _ _ _ _⟩) (v7 0 rfl (fun S w h=>yo.Ok.wf h) fun hw4=>yV (fun _ h=>h.allSnoc 1 0 yo.Ok.loc rfl rfl) (jv 7 encDoX rfl rfl (vi (β:=ya × SlX yc) (fun z=>.tuple #[.agg (un z.1).toArray,.slice z.2.A z.2.l.length z.2.c,iV (Bs.play (([z1,z2,(yo.mk 2 0 100 ⟨none,0,[]⟩ ⟨0,0⟩ ⟨#[]⟩),(yo.mk 4 0 60 ⟨none,0,[]⟩ ⟨0,0⟩ ⟨#[97,108,108,32,115,117,109,32,40,115,117,109,40,123,125,91,54,48,93,41,41]⟩)]:List yo).map yo.e)).2.2]) (fun z=>(z.1.e,z.2.l.map yc.e)=((Bs.play (([z1,z2,(yo.mk 2 0 100 ⟨none,0,[]⟩ ⟨0,0⟩ ⟨#[]⟩),(yo.mk 4 0 60 ⟨none,0,[]⟩ ⟨0,0⟩ ⟨#[97,108,108,32,115,117,109,32,40,115,117,109,40,123,125,91,54,48,93,41,41]⟩)]:List yo).map yo.e)).1,(Bs.play (([z1,z2,(yo.mk 2 0 100 ⟨none,0,[]⟩ ⟨0,0⟩ ⟨#[]⟩),(yo.mk 4 0 60 ⟨none,0,[]⟩ ⟨0,0⟩ ⟨#[97,108,108,32,115,117,109,32,40,115,117,109,40,123,125,91,54,48,93,41,41]⟩)]:List yo).map yo.e)).2.1)) (fun z S w=>PlayOk z S w) (fun z=>PlayOk.loc z) wn rfl call14 rfl (fun w1 Pb hM pp=>gA _ ([z1,z2,(yo.mk 2 0 100 ⟨none,0,[]⟩ ⟨0,0⟩ ⟨#[]⟩),(yo.mk 4 0 60 ⟨none,0,[]⟩ ⟨0,0⟩ ⟨#[97,108,108,32,115,117,109,32,40,115,117,109,40,123,125,91,54,48,93,41,41]⟩)]:List yo) Pb w1 pp.lt (pp.sl 7 rfl) (pp.at_ 0 _ rfl) (pp.at_ 10 _ rfl)) fun z3 hz3=>v7 0 rfl (fun S w h=>PlayOk.wf h) fun hw5=>?_))))))))
 refine yV (fun _ h=>h.playX 0 rfl) ?_
 obtain ⟨hc1,hm1,hA1⟩:=hw5.2.sl
 obtain ⟨hal1,hal2,hal3,hal4⟩:=Bs.alive9_x (l:=([z1,z2,(yo.mk 2 0 100 ⟨none,0,[]⟩ ⟨0,0⟩ ⟨#[]⟩),(yo.mk 4 0 60 ⟨none,0,[]⟩ ⟨0,0⟩ ⟨#[97,108,108,32,115,117,109,32,40,115,117,109,40,123,125,91,54,48,93,41,41]⟩)]:List yo)) (show [yo.e z1,yo.e z2,yo.e (yo.mk 2 0 100 ⟨none,0,[]⟩ ⟨0,0⟩ ⟨#[]⟩),yo.e (yo.mk 4 0 60 ⟨none,0,[]⟩ ⟨0,0⟩ ⟨#[97,108,108,32,115,117,109,32,40,115,117,109,40,123,125,91,54,48,93,41,41]⟩)]=Bs.topL9 from by rw [hz1,hz2]; rfl) hz3
 refine zE rfl (zB (yG rfl rfl) (zB (yG rfl rfl) (zB (yG rfl rfl) (yC wn inf25 rfl fun b1=>zr 0 wn rfl rfl rfl inf25 rfl rfl rfl (zP rfl (zP rfl (zD hK2 (zG fun _ hK3=>zE rfl (zB (yf rfl rfl) ?_)))))))))
 refine zE rfl (jK (t:=16) rfl hal1 (zb (zi rfl) (zb (yW rfl underlying26) (zb (yf rfl rfl) (zB (zM rfl rfl) (zE rfl (jK (t:=21) rfl (by omega) (zb (za rfl fld25_0) (zb (zg 0 rfl rfl rfl flat23) (zb (yW rfl underlying23) (zb (yf rfl rfl) ?_)))))))))))
 refine zB (zM rfl rfl) (zE rfl (jK (t:=27) rfl (by omega) (zb (zi rfl) ?_)))
 obtain ⟨ad1,hd1⟩:=hA1 (ne_nil (i:=3) (by first | omega | (simp <;> omega)))
 refine zb (y6 (i:=3) rfl hd1 rfl (by omega) (by first | omega | (simp <;> omega)) underlying26 inf34) (zb (yy rfl fld34_2) ?_)
 obtain ⟨s1,hs1⟩:∃ x,z3.2.l[3]?=some x:=⟨_,List.getElem?_eq_getElem (by first | omega | (simp <;> omega))⟩
 obtain ⟨hv9,hc9⟩:=hal4 _ hs1
 have hn9:=congrArg List.length hv9
 simp only [List.length_map,List.length_cons,List.length_nil] at hn9
 refine zb (jY 1 rfl rfl hd1 hs1 rfl flat32) (zb (yW rfl underlying32) (zb (yf rfl rfl) (zB (zM rfl rfl) (zE rfl (jK (t:=35) rfl (by omega) (zb (zi rfl) (zb (y6 (i:=3) rfl hd1 rfl (by omega) (by first | omega | (simp <;> omega)) underlying26 inf34) (zb (yy rfl fld34_2) (zb (jY 1 rfl rfl hd1 hs1 rfl flat32) ?_)))))))))
 have hw6:=hw5.2.all _ (List.mem_of_getElem? hs1)
 refine yV (fun _ h=>h.one 2 yc.Ok.loc rfl hs1) (yV (fun _ h=>h.ansX 0 rfl) ?_)
 obtain ⟨hc2,hm2,hA2⟩:=hw6.cells
 obtain ⟨ad2,hd2⟩:=hA2 (ne_nil (i:=0) (by first | omega | (simp <;> omega)))
 refine zb (y6 (i:=0) rfl hd2 rfl (by omega) (by first | omega | (simp <;> omega)) underlying32 inf81) (zb (yy rfl fld81_1) ?_)
 obtain ⟨s2,hs2⟩:∃ x,s1.cells.l[0]?=some x:=⟨_,List.getElem?_eq_getElem (by first | omega | (simp <;> omega))⟩
 refine zb (jY 0 rfl rfl hd2 hs2 rfl flat3) (zb (yf rfl rfl) (zB (zM rfl rfl) (zE rfl (jK (t:=45) rfl (Bs.val9_x hv9 hs2) (zb (zi rfl) (zb (y6 (i:=3) rfl hd1 rfl (by omega) (by first | omega | (simp <;> omega)) underlying26 inf34) (zb (yy rfl fld34_3) (zb (jY 4 rfl rfl hd1 hs1 rfl flat3) (zb (yf rfl rfl) (zB (zM rfl rfl) (zP rfl ?_)))))))))))
 refine zD hK3 (zX (zY (.inl rfl) results18 (zR rfl) fun w1 hM=>?_))
 exact zn (by first | rfl | simp [hc9]) hM
set_option maxHeartbeats 1000000 in
theorem law_BaseRefused (lv : Value) (l : List yo) (P0 : Nat → Prop) (w : World) (hP0 : ∀ b, P0 b → b < w.heap.size) (hl : zJ P0 7 uI lv l w) (hla : ∀ x ∈ l, yo.Ok P0 x w) (hE : zd P0 w)  :
    Calls prog 6 #[lv] w (Ret w (.bool true)):=by
 have hwl:∀ x ∈ l,yo.Wf x:=fun x hx=>(hla x hx).wf
 obtain ⟨lA,lc,rfl,hlc,hlm,hlA⟩:=hl.form
 refine fstart (N:=72) (vals:=[.slice lA l.length lc]) (S:=Mem w ⟨no,P0⟩ [slP 7 uI (.slice lA l.length lc) l,allP yo.Ok l,.pub zd]) func6 rfl rfl rfl (Mem.ofDatsP hP0 (dc (dlp hl) (dc (dp (all_loc yo.Ok.loc _) hla) (dc (dp zd.loc hE) dn)))) (zG fun _ hK1=>zP rfl (zD hK1 (zS fun _ hK2=>zG fun _ hK3=>yF wn rfl call18 rfl (fun w1 hM=>c_alive9 (In w1) w1 (fun _ h=>h) (hM.vQ (i:=2) rfl)) (zB (vC rfl) (zD hK3 (yr rfl rfl (yK hK2 (zG fun _ hK4=>?_))))))))
 refine zE rfl (vi (β:=ya × SlX yc) (fun z=>.tuple #[.agg (un z.1).toArray,.slice z.2.A z.2.l.length z.2.c,iV (Bs.play (l.map yo.e)).2.2]) (fun z=>(z.1.e,z.2.l.map yc.e)=((Bs.play (l.map yo.e)).1,(Bs.play (l.map yo.e)).2.1)) (fun z S w=>PlayOk z S w) (fun z=>PlayOk.loc z) wn rfl call14 rfl (fun w1 Pb hM pp=>gA _ l Pb w1 pp.lt (pp.sl 0 rfl) (pp.at_ 1 _ rfl) (pp.at_ 2 _ rfl)) fun z1 hz1=>v7 0 rfl (fun S w h=>PlayOk.wf h) fun hw1=>yV (fun _ h=>h.playX 0 rfl) ?_)
 obtain ⟨hc1,hm1,hA1⟩:=hw1.2.sl
 refine zE rfl (zB (yG rfl rfl) (zB (yG rfl rfl) (zB (yG rfl rfl) (yC wn inf25 rfl fun b3=>zr 0 wn rfl rfl rfl inf25 rfl rfl rfl (zP rfl (zP rfl (zD hK4 (zS fun _ hK5=>zG fun _ hK6=>zE rfl ?_))))))))
 refine zB (vD rfl rfl) (zD hK6 (zZ rfl (fun h1=>?_) (fun h1=>?_)))
 · refine zG fun _ hK7=>zP rfl (zD hK7 (zX (zK (zY (.inl rfl) results6 (zR rfl) fun w1 hM=>?_))))
   exact zn (by first | rfl | simp [hk9.2.2]) hM
 have hlz:=Bs.play_len hz1 h1
 have hlm:=Bs.play_bound h1
 refine yK hK5 (zG fun _ hK8=>vE (uI:yo→List Value) 43 7 (yV (fun _ h=>h.all0 yo.Ok.loc) (zP rfl (zD hK8 (zS fun _ hK9=>zG fun _ hK10=>zE rfl (zB (yW rfl underlying22) (zE rfl (zD hK10 ?_))))))))
 refine zk (ur (fun (k:Nat) (gs:List yo) (gv:Value)=>[(0,.slice lA l.length lc),(3,.pointer (some ⟨b3,0,none⟩)),(4,.slice z1.2.A z1.2.l.length z1.2.c),(6,gv),(23,iV l.length),(24,iV k)]) (fun (k:Nat) (gs:List yo) (gv:Value)=>[allP yo.Ok gs,Row gv 43 7 uI gs,.blk b3 [.slice z1.1.zA.A z1.1.zA.l.length z1.1.zA.c,iV z1.1.zh] 25,slP 4 uH (.slice z1.2.A z1.2.l.length z1.2.c) z1.2.l,allP yc.Ok z1.2.l,okP ya.Ok z1.1,.pub (PlayOk z1),slP 7 uI (.slice lA l.length lc) l,allP yo.Ok l,.pub zd]) (fun (k:Nat) (gs:List yo) (gv:Value)=>k≤l.length∧(∀ y ∈ gs,yo.Wf y)∧gs.map yo.e=Bs.kept ((l.take k).map yo.e) ((z1.2.l.take k).map yc.e)∧gs.length≤k) (fun (k:Nat) (gs:List yo) (gv:Value)=>l.length - k) 0 [] (Zs) (sc rfl (sc rfl (sc rfl (sc rfl (sc rfl (sc (ji (by omega)) sn)))))) (fun _ h=>h) ?_ (fun k gs gv hI1=>?_))
 · exact ⟨Nat.zero_le _,fun x hx=>(by cases hx),rfl,Nat.le_refl _⟩
 have hwg:=hI1.2.1
 have hgl:=hI1.2.2.2
 refine vW 1 (l:=gs) rfl fun A1 cp1 hv1 hc2 hm2 hA2=>?_
 subst hv1
 refine zG fun _ hK11=>zB (yR rfl rfl) (zD hK11 (zS fun _ hK12=>zZ rfl (fun h2=>?_) (fun h2=>?_)))
 · refine yK hK12 (zS fun _ hK13=>zk (zG fun _ hK14=>zE rfl (zP rfl (zD hK14 (zG fun _ hK15=>zE rfl (zE rfl ?_))))))
   obtain ⟨ad1,hd1⟩:=hA1 (ne_nil (i:=k) (by first | omega | (simp <;> omega)))
   refine zB (y6 (i:=k) rfl hd1 rfl (by omega) (by first | omega | (simp <;> omega)) underlying26 inf34) (zB (yy rfl fld34_0) ?_)
   obtain ⟨s1,hs1⟩:∃ x,z1.2.l[k]?=some x:=⟨_,List.getElem?_eq_getElem (by first | omega | (simp <;> omega))⟩
   refine zB (jY 3 rfl rfl hd1 hs1 rfl flat27) (zB (yf rfl rfl) (zE rfl (yQ (t:=33) rfl (fun h3=>?_) (fun h3=>?_))))
   · refine zb (zi rfl) (zb (zi rfl) ?_)
     obtain ⟨ad2,hd2⟩:=hlA (ne_nil (i:=k) (by first | omega | (simp <;> omega)))
     refine zb (y6 (i:=k) rfl hd2 rfl (by omega) (by first | omega | (simp <;> omega)) underlying22 inf43) (zb (yy rfl fld43_0) ?_)
     obtain ⟨s2,hs2⟩:∃ x,l[k]?=some x:=⟨_,List.getElem?_eq_getElem (by first | omega | (simp <;> omega))⟩
     refine zb (jY 7 rfl rfl hd2 hs2 rfl flat3) (zb (vD rfl rfl) (zB (zM rfl rfl) (zD hK15 (zZ rfl (fun h4=>?_) (fun h4=>?_)))))
     · refine zL (zE rfl (zE rfl (zE rfl (zB (y6 (i:=k) rfl hd2 rfl (by omega) (by first | omega | (simp <;> omega)) underlying22 inf43) (zB (vy 7 [iV s2.kind,iV s2.tier,iV s2.to,.slice s2.sr.A s2.sr.l.length s2.sr.c,iV s2.zf.time,iV s2.zf.value,.string s2.text] rfl rfl hd2 hs2 rfl rfl agg43 inf43) (yw uI ([s2]:List yo) wn underlying22 inf43 rfl rfl rfl rfl (by decide) (by decide) rfl fun b46=>vG 2 gs ([s2]:List yo) encDoX wn rfl rfl rfl (fun _ hM=>(RowSl encDoX hM 0 rfl)) underlying22 inf43 rfl rfl (by simp only [List.length_append,List.length_cons,List.length_nil]; omega) rfl fun A2 cp2 hc3 hm3 hA3=>?_))))))
       have hw3:=hwl _ (List.mem_of_getElem? hs2)
       refine yV (fun _ h=>h.one 9 yo.Ok.loc rfl hs2) (yV (fun _ h=>h.allSnoc 2 0 yo.Ok.loc rfl rfl) ?_)
       have hw2:∀ x ∈ (gs++([s2]:List yo)),yo.Wf x:=fun x hx=>(List.mem_append.1 hx).elim (hwg x) fun h=>by rw [List.mem_singleton.1 h]; exact hw3
       refine zP rfl (zl (zm (zy hK13 (zL (zB (zw rfl rfl (by omega)) (zE rfl (zl (vI (k + 1) (gs++([s2]:List yo)) (.slice A2 ((gs++([s2]:List yo)).length) cp2) (sc rfl (sc rfl (sc rfl (sc rfl (sc rfl (sc (ji (by omega)) sn)))))) (S9 [0,4,5,6,7,8,9,10,11,12]) ?_ ?_))))))))
       · exact ⟨by omega,hw2,Bs.kept_yes hs2 hs1 hI1.2.2.1 (by constructor <;> first | assumption | omega),by rw [List.length_append,List.length_singleton]; omega⟩
       omega
     refine yU (zm (zy hK13 (zL (zB (zw rfl rfl (by omega)) (zE rfl (zl (vI (k + 1) gs (.slice A1 gs.length cp1) (sc rfl (sc rfl (sc rfl (sc rfl (sc rfl (sc (ji (by omega)) sn)))))) (fun _ h=>h) ?_ ?_)))))))
     · exact ⟨by omega,hwg,Bs.kept_no hs2 hs1 hI1.2.2.1 (by omega),by omega⟩
     omega
   refine zQ (zQ (zQ (zQ (zQ (zQ (zB (zM rfl rfl) (zD hK15 (yr rfl rfl (yU (zm (zy hK13 (zL (zB (zw rfl rfl (by omega)) ?_)))))))))))))
   refine zE rfl (zl (vI (k + 1) gs (.slice A1 gs.length cp1) (sc rfl (sc rfl (sc rfl (sc rfl (sc rfl (sc (ji (by omega)) sn)))))) (fun _ h=>h) ?_ ?_))
   · exact ⟨by omega,hwg,Bs.kept_no (List.getElem?_eq_getElem (l:=l) (i:=k) (by omega)) hs1 hI1.2.2.1 (by omega),by omega⟩
   omega
 refine yZ (yH (uN (yI (zy hK9 (zG fun _ hK16=>zE rfl (jv 1 encDoX rfl rfl (vi (β:=ya × SlX yc) (fun z=>.tuple #[.agg (un z.1).toArray,.slice z.2.A z.2.l.length z.2.c,iV (Bs.play (gs.map yo.e)).2.2]) (fun z=>(z.1.e,z.2.l.map yc.e)=((Bs.play (gs.map yo.e)).1,(Bs.play (gs.map yo.e)).2.1)) (fun z S w=>PlayOk z S w) (fun z=>PlayOk.loc z) wn rfl call14 rfl (fun w1 Pb hM pp=>gA _ gs Pb w1 pp.lt (pp.sl 1 rfl) (pp.at_ 0 _ rfl) (pp.at_ 9 _ rfl)) fun z2 hz2=>v7 0 rfl (fun S w h=>PlayOk.wf h) fun hw4=>yV (fun _ h=>h.playX 0 rfl) ?_)))))))
 obtain ⟨hc4,hm4,hA4⟩:=hw4.2.sl
 have hk9:=Bs.kept_x hz1 h1 hI1.2.2.1 (by omega) hz2
 refine zE rfl (zB (yG rfl rfl) (zB (yG rfl rfl) (zB (yG rfl rfl) (yC wn inf25 rfl fun b8=>zr 0 wn rfl rfl rfl inf25 rfl rfl rfl (zP rfl (zP rfl (zD hK16 (zS fun _ hK17=>zG fun _ hK18=>zE rfl ?_))))))))
 refine zB (yW rfl underlying26) (zE rfl (zD hK18 (zk (y8 (fun (j:Nat)=>[(3,.pointer (some ⟨b3,0,none⟩)),(5,iV ((Bs.play (gs.map yo.e)).2.2)),(8,.pointer (some ⟨b8,0,none⟩)),(55,.slice z2.2.A z2.2.l.length z2.2.c),(56,iV z2.2.l.length),(57,iV j)]) (fun (j:Nat)=>[.blk b8 [.slice z2.1.zA.A z2.1.zA.l.length z2.1.zA.c,iV z2.1.zh] 25,slP 4 uH (.slice z2.2.A z2.2.l.length z2.2.c) z2.2.l,allP yc.Ok z2.2.l,okP ya.Ok z2.1,.pub (PlayOk z2),allP yo.Ok gs,slP 7 uI (.slice A1 gs.length cp1) gs,.blk b3 [.slice z1.1.zA.A z1.1.zA.l.length z1.1.zA.c,iV z1.1.zh] 25,slP 4 uH (.slice z1.2.A z1.2.l.length z1.2.c) z1.2.l,allP yc.Ok z1.2.l,okP ya.Ok z1.1,.pub (PlayOk z1),slP 7 uI (.slice lA l.length lc) l,allP yo.Ok l,.pub zd]) (fun (j:Nat)=>j≤z2.2.l.length) (fun (j:Nat)=>z2.2.l.length - j) 0 (sc rfl (sc rfl (sc rfl (sc rfl (sc rfl (sc (ji (by omega)) sn)))))) (fun _ h=>h) ?_ (fun j hI2=>?_)))))
 · omega
 refine zG fun _ hK19=>zB (yR rfl rfl) (zD hK19 (zS fun _ hK20=>zZ rfl (fun h5=>?_) (fun h5=>?_)))
 · refine yK hK20 (zS fun _ hK21=>zk (zG fun _ hK22=>?_))
   obtain ⟨ad3,hd3⟩:=hA4 (ne_nil (i:=j) (by first | omega | (simp <;> omega)))
   refine zB (y6 (i:=j) rfl hd3 rfl (by omega) (by first | omega | (simp <;> omega)) underlying26 inf34) ?_
   obtain ⟨s3,hs3⟩:∃ x,z2.2.l[j]?=some x:=⟨_,List.getElem?_eq_getElem (by first | omega | (simp <;> omega))⟩
   refine zB (vy 1 [iV s3.err,iV s3.at_,.slice s3.cells.A s3.cells.l.length s3.cells.c,iV s3.cost] rfl rfl hd3 hs3 rfl rfl agg34 inf34) (yC wn inf34 rfl fun b11=>zr 0 wn rfl rfl rfl inf34 rfl rfl rfl (zD hK22 (zG fun _ hK23=>zB (za rfl fld34_0) (zB (zg 0 rfl rfl rfl flat27) (zB (vD rfl rfl) (zD hK23 (yr rfl (decide_eq_false (fun g=>g (hk9.2.1 _ (List.mem_of_getElem? hs3)))) (yU (zm (zy hK21 (zL ?_)))))))))))
   refine zB (zw rfl rfl (by omega)) (zE rfl (zl (yX (j + 1) (sc rfl (sc rfl (sc rfl (sc rfl (sc rfl (sc (ji (by omega)) sn)))))) (S9 [1,2,3,4,5,6,7,8,9,10,11,12,13,14,15]) ?_ ?_)))
   · omega
   omega
 refine yZ (yH (yj (yI (zy hK17 (zG fun _ hK24=>zE rfl (zB (yf rfl rfl) (zE rfl (jK (t:=67) rfl hk9.1 (zb (yM 7 [.slice z1.1.zA.A z1.1.zA.l.length z1.1.zA.c,iV z1.1.zh] rfl rfl rfl rfl agg25 inf25) (zb (yM 0 [.slice z2.1.zA.A z2.1.zA.l.length z2.1.zA.c,iV z2.1.zh] rfl rfl rfl rfl agg25 inf25) (yF (wg rfl rfl rfl) rfl call16 rfl (fun w1 hM=>c_sameBase z1.1 z2.1 (In w1) w1 (fun _ h=>h) (hM.vQ (i:=10) rfl) (hM.vQ (i:=3) rfl)) (zB (zM rfl rfl) (zP rfl (zD hK24 ?_))))))))))))))
 refine zX (zY (.inl rfl) results6 (zR rfl) fun w1 hM=>?_)
 exact zn (by first | rfl | simp [hk9.2.2]) hM
end
section
open Go.ChangeShapes Go.WideShapes Go.ChangeAt Go.RowKit
namespace Ex
theorem Tryz.own_:ownKnob Tryz.prog.godebug=none:=by kernel_rfl
theorem Tryz.laid_:laidOutB Tryz.prog=true:=by kernel_rfl
section
variable {H:Type} {enc:TypeId × Value→H} {P:Program}
theorem trodAll_stays (hl : laidOutB P = true) {W W' : World} {sp' : Nat → Bool} (hsame : Fr no W W') : ∀ {ts : List TypeId} {vs : List Value} {ds : List (DataW H)} {ps : List MemPlace}, (∀ t ∈ ts, P.readableRec t = true ∧ t < P.types.size) →
    DataW.TrodAll enc P W 0 (fun _=>true) true ts vs ds ps→(∀ p ∈ ps,p.block < W.heap.size)→(∀ p ∈ ps,sp' p.block=true)→DataW.TrodAll enc P W' 0 sp' true ts vs ds ps
  | [],[],[],_,_,h,_,_=>h
  | t :: ts, v :: vs, d :: ds, _, hr, ⟨p, q, h1, h2, e⟩, hlt, hs =>
    ⟨p, q, WideElems.Trod_stays hl (hr t (List.mem_cons_self ..)).1 (hr t (List.mem_cons_self ..)).2 h1 (fun x hx => (Fr.below hsame).same (hlt x (by rw [e]; exact List.mem_append_left _ hx))) (fun x hx => hs x (by rw [e]; exact List.mem_append_left _ hx)),
      trodAll_stays hl hsame (fun t ht=>hr t (List.mem_cons_of_mem _ ht)) h2 (fun x hx=>hlt x (by rw [e]; exact List.mem_append_right _ hx)) (fun x hx=>hs x (by rw [e]; exact List.mem_append_right _ hx)),e⟩
theorem post_true {f : Func} {s : ChangeSpec} {W W' : World} {args : Array Value} {ds gs : List (DataW H)} {before : List MemPlace} {bt : TypeId} (hl : laidOutB P = true) (hr : ∀ t ∈ f.params.toList, P.readableRec t = true ∧ t < P.types.size)
    (hres:f.resultTypes=#[bt]) (hb:P.underlying bt=some .bool) (hvars:s.vars=[]) (hW:DataW.Whole enc P f.params.toList s.vars false W args.toList ds gs before)
    (hs:∀ ds:List (DataW H),ds.length=f.params.size→(s.fn H ds).results=[.lit (.bool true)]∧(s.fn H ds).args=ds∧(s.fn H ds).vars=[]) (hf:Fr no W W') :
    s.post enc P f false true false false W args (.bool true) W':=by
  have hlt:=hW.lt
  have hW0:=hW
  obtain ⟨p,q,hA,hV,rfl,hfz,hnd⟩:=hW
  rw [hvars] at hV
  obtain ⟨rfl,rfl⟩:=trodVars_none hV
  have hlen : ∀ {ts : List TypeId} {vs : List Value} {ds : List (DataW H)} {ps : List MemPlace}, DataW.TrodAll enc P W 0 (fun _ => true) true ts vs ds ps → ds.length = ts.length := by
    intro ts
    induction ts with
    | nil=>intro vs ds ps h; cases vs <;> cases ds <;> simp_all [DataW.TrodAll]
    | cons t ts ih =>
      intro vs ds ps h
      cases vs <;> cases ds <;> try (simp [DataW.TrodAll] at h; done)
      obtain ⟨_,_,_,h2,_⟩:=h
      simp [ih h2]
  obtain ⟨e1,e2,e3⟩:=hs ds (by rw [hlen hA]; simp)
  refine ⟨ds,[],_,[],p,[],hW0,?_,?_,?_,?_,fun h=>by cases h⟩
  · rw [List.append_nil,e1,hres]
    exact trodAll_mk1 (shut_bool hb true)
  · rw [List.append_nil,e2]
    exact trodAll_stays hl hf hr hA (fun x hx=>hlt x (by simpa using hx)) (fun x hx=>by simpa using hlt x (by simpa using hx))
  · rw [List.append_nil,e3,hvars]
    exact rfl
  · exact (Fr.below hf).frame _
end
def ok64 (n:Int):Prop:=-9223372036854775808≤n∧n≤9223372036854775807
theorem ok64_wf {n : Int} (h : (Lit.int .i64 n).wf = true) : ok64 n := by
  simpa [Lit.wf,IntKind.min,IntKind.max,IntKind.signed,IntKind.bits,ok64] using h
def RdF (P : Program) (t : TypeId) {α : Type} (e : α → List Value) (ok : α → Prop) : Prop :=
  ∀ {H : Type} (enc : TypeId × Value → H) (w : World) (base : Nat) (sp : Nat → Bool) (held : Bool) (fuel : Nat) (cs : List Value) (x : DataW H × List MemPlace),
    DataW.trod enc P w base sp held fuel t cs=some x→∃ a,cs=e a∧ok a
theorem rd_int {P : Program} {t : TypeId} (h : P.underlying t = some (.int .i64)) : RdF P t intE ok64 := fun _ _ _ _ _ _ _ _ hx => by
  obtain ⟨n,e,_,hw⟩:=DataW.trod_int h hx
  exact ⟨n,e,ok64_wf hw⟩
def okStr (s:ByteArray):Prop:=s.size≤maxLen
theorem rd_str {P : Program} {t : TypeId} (h : P.underlying t = some .string) : RdF P t strE okStr := fun _ _ _ _ _ _ _ _ hx => by
  obtain ⟨s,e,_,hw⟩:=DataW.trod_string h hx
  exact ⟨s,e,hw⟩
theorem st_fld {H : Type} {enc : TypeId × Value → H} {P : Program} {w : World} {base : Nat} {sp : Nat → Bool} {held : Bool} {fuel : Nat} {t : TypeId} {cs : List Value} {x : DataW H × List MemPlace} {fs : Array Field} (ht : P.underlying t = some (.struct fs))
    (h:DataW.trod enc P w base sp held fuel t cs=some x):cs.length=P.cellsOf t∧∃ n,∀ (j:Nat) (f:Field),fs[j]?=some f→∃ y,DataW.trod enc P w base sp held n f.type ((cs.drop f.offset).take (P.cellsOf f.type))=some y:=by
  obtain ⟨xs,n,_,_,hl,hlen,hg⟩:=DataW.trod_struct ht h
  refine ⟨hl,n,fun j f hj=>?_⟩
  have hjl:j < xs.length:=by rw [hlen]; exact (Array.getElem?_eq_some_iff.1 hj).1
  exact ⟨xs[j],(hg j f hj).trans (List.getElem?_eq_getElem hjl)⟩
end Ex
end
section
open Go.ChangeShapes Go.WideShapes Go.ChangeAt Go.RowKit
namespace Ex
set_option linter.unusedSimpArgs false
theorem list2 {l : List Value} (h : l.length = 2) : ∃ c0 c1, l = [c0, c1] := by
  match l,h with
  | [c0,c1],_=>exact ⟨_,_,rfl⟩
theorem list7 {l : List Value} (h : l.length = 7) : ∃ c0 c1 c2 c3 c4 c5 c6, l = [c0, c1, c2, c3, c4, c5, c6] := by
  match l,h with
  | [c0,c1,c2,c3,c4,c5,c6],_=>exact ⟨_,_,_,_,_,_,_,rfl⟩
def okSample (s:Sample):Prop:=ok64 s.time∧ok64 s.value
def okLabel (s:Label):Prop:=okStr s.key∧okStr s.val
theorem rdSample : RdF Tryz.prog 41 zo okSample := fun {H} en w base sp held fuel cs x hx => by
  obtain ⟨hl,n,hf⟩:=st_fld Tryz.underlying41 hx
  rw [show Tryz.prog.cellsOf 41=2 from by kernel_rfl] at hl
  obtain ⟨c0,c1,rfl⟩:=list2 hl
  obtain ⟨y0,hy0⟩:=hf 0 _ rfl
  replace hy0:DataW.trod en Tryz.prog w base sp held n 3 (List.take (Tryz.prog.cellsOf 3) (List.drop 0 _))=some y0:=hy0
  rw [show Tryz.prog.cellsOf 3=1 from by kernel_rfl] at hy0
  obtain ⟨a0,e0,o0⟩:=rd_int Tryz.underlying3 en w base sp held n _ _ hy0
  have e0':[c0]=intE a0:=e0
  simp only [strE,intE,List.cons.injEq,and_true] at e0'
  subst e0'
  obtain ⟨y1,hy1⟩:=hf 1 _ rfl
  replace hy1:DataW.trod en Tryz.prog w base sp held n 3 (List.take (Tryz.prog.cellsOf 3) (List.drop 1 _))=some y1:=hy1
  rw [show Tryz.prog.cellsOf 3=1 from by kernel_rfl] at hy1
  obtain ⟨a1,e1,o1⟩:=rd_int Tryz.underlying3 en w base sp held n _ _ hy1
  have e1':[c1]=intE a1:=e1
  simp only [strE,intE,List.cons.injEq,and_true] at e1'
  subst e1'
  exact ⟨⟨a0,a1⟩,rfl,⟨o0,o1⟩⟩
theorem rdLabel : RdF Tryz.prog 74 zj okLabel := fun {H} en w base sp held fuel cs x hx => by
  obtain ⟨hl,n,hf⟩:=st_fld Tryz.underlying74 hx
  rw [show Tryz.prog.cellsOf 74=2 from by kernel_rfl] at hl
  obtain ⟨c0,c1,rfl⟩:=list2 hl
  obtain ⟨y0,hy0⟩:=hf 0 _ rfl
  replace hy0:DataW.trod en Tryz.prog w base sp held n 9 (List.take (Tryz.prog.cellsOf 9) (List.drop 0 _))=some y0:=hy0
  rw [show Tryz.prog.cellsOf 9=1 from by kernel_rfl] at hy0
  obtain ⟨a0,e0,o0⟩:=rd_str Tryz.underlying9 en w base sp held n _ _ hy0
  have e0':[c0]=strE a0:=e0
  simp only [strE,intE,List.cons.injEq,and_true] at e0'
  subst e0'
  obtain ⟨y1,hy1⟩:=hf 1 _ rfl
  replace hy1:DataW.trod en Tryz.prog w base sp held n 9 (List.take (Tryz.prog.cellsOf 9) (List.drop 1 _))=some y1:=hy1
  rw [show Tryz.prog.cellsOf 9=1 from by kernel_rfl] at hy1
  obtain ⟨a1,e1,o1⟩:=rd_str Tryz.underlying9 en w base sp held n _ _ hy1
  have e1':[c1]=strE a1:=e1
  simp only [strE,intE,List.cons.injEq,and_true] at e1'
  subst e1'
  exact ⟨⟨a0,a1⟩,rfl,⟨o0,o1⟩⟩
end Ex
end
section
open Go.ChangeShapes Go.WideShapes Go.ChangeAt Go.RowKit
namespace Ex
theorem rdx_slice {H : Type} {enc : TypeId × Value → H} {P : Program} {t et : TypeId} {α : Type} {e : α → List Value} {ok : α → Prop} {k fuel : Nat} {W : World} {sp : Nat → Bool} {held : Bool} (hr : ∀ n, n < fuel → ∀ cs x, DataW.trod enc P W 0 sp held n et cs = some x → ∃ a, cs = e a ∧ ok a) (ht : P.underlying t = some (.slice et)) (hk : P.cellsOf et = k) (hk0 : 0 < k) (he : ∀ a, (e a).length = k) {cs : List Value} {x : DataW H × List MemPlace}
    (hf:DataW.trod enc P W 0 sp held fuel t cs=some x):∃ s:SlX α,cs=[.slice s.A s.l.length s.c]∧zJ (In W) k e (.slice s.A s.l.length s.c) s.l W∧∀ a ∈ s.l,ok a:=by
  rcases DataW.trod_slice ht hf with ⟨h0,_⟩ | ⟨a,n,cap,elems,rest,m,hfu,hcs,hx0,_,hl,hm,hlen,hel,hs1,hs2⟩
  · exact ⟨⟨none,0,[]⟩,h0,zJ.yq _ _ _ _,by simp⟩
  · have hex : ∀ i, i < n → ∃ x : α, ok x ∧ ∀ (j : Nat) (u : Value), (e x)[j]? = some u → W.cell? ((a.add (i * k)).add j) = some u := by
      intro i hin
      have h1:=hel i hin
      rw [List.getElem?_eq_getElem (by omega),Option.bind_eq_some_iff] at h1
      obtain ⟨cs',hc,ht'⟩:=h1
      rw [hk] at hc
      obtain ⟨x,ex,ox⟩:=hr m (by omega) _ _ ht'
      obtain ⟨_,hcl,hat⟩:=World.cells?_some hc
      refine ⟨x,ox,fun j u hu=>?_⟩
      rw [ex] at hat
      have hj:j < k:=by rw [← he x]; exact (List.getElem?_eq_some_iff.1 hu).1
      exact (hat j hj).trans hu
    obtain ⟨l, hlen', hl'⟩ : ∃ l : List α, l.length = n ∧ ∀ i x, l[i]? = some x → ok x ∧ ∀ (j : Nat) (u : Value), (e x)[j]? = some u → W.cell? ((a.add (i * k)).add j) = some u := by
      clear hel hlen hl hcs hs1 hs2 hx0
      induction n with
      | zero=>exact ⟨[],rfl,by simp⟩
      | succ n ih =>
        obtain ⟨l,h1,h2⟩:=ih (fun i hin=>hex i (by omega))
        obtain ⟨x,hx⟩:=hex n (by omega)
        refine ⟨l++[x],by simp [h1],fun i y hy=>?_⟩
        rw [List.getElem?_append] at hy
        split at hy
        · exact h2 i y hy
        · rename_i hge
          have hin : i = n := by
            have:i - l.length < [x].length:=(List.getElem?_eq_some_iff.1 hy).1
            simp at this; omega
          subst hin
          simp [h1] at hy
          subst hy
          exact hx
    refine ⟨⟨some a,cap,l⟩,by rw [hcs,hlen'],⟨some a,cap,rfl,by show l.length≤cap; omega,hm,fun hne=>⟨a,rfl,?_,fun i x hx=>(hl' i x hx).2⟩⟩,fun y hy=>?_⟩
    · obtain ⟨y,hy⟩:=List.exists_mem_of_ne_nil l hne
      obtain ⟨i,hi',rfl⟩:=List.getElem_of_mem hy
      have h1:=(hl' i l[i] (List.getElem?_eq_getElem hi')).2 0 ((e l[i])[0]'(by rw [he]; exact hk0)) (List.getElem?_eq_getElem _)
      have:=block_lt_of_cell h1
      rwa [add_block,add_block] at this
    · obtain ⟨i,hi',rfl⟩:=List.getElem_of_mem hy
      exact (hl' i _ (List.getElem?_eq_getElem hi')).1
def LenX {H:Type} (d:DataW H) (n:Nat):Prop:=(d=.nil∧n=0)∨∃ es sp,d=.slice es sp∧es.length=n
def AllX {H:Type} {α:Type} (ok:α→DataW H→Prop) (d:DataW H) (l:List α):Prop:=∃ ds:List (DataW H),((d=.nil∧ds=[])∨∃ sp,d=.slice ds sp)∧ds.length=l.length∧∀ (i:Nat) (a:α) (e:DataW H),l[i]?=some a→ds[i]?=some e→ok a e
theorem AllX.len {H : Type} {α : Type} {ok : α → DataW H → Prop} {d : DataW H} {l : List α} (h : AllX ok d l) : LenX d l.length := by
  obtain ⟨ds,h1,h2,_⟩:=h
  rcases h1 with ⟨h1,rfl⟩ | ⟨sp,h1⟩
  · exact .inl ⟨h1,h2.symm⟩
  · exact .inr ⟨_,_,h1,h2⟩
theorem AllX.all {H : Type} {α : Type} {ok : α → DataW H → Prop} {d : DataW H} {l : List α} (h : AllX ok d l) : ∀ a ∈ l, ∃ e, ok a e ∧ ∃ ds sp, d = .slice ds sp ∧ e ∈ ds := fun a ha => by
  obtain ⟨ds,h1,h2,h3⟩:=h
  obtain ⟨i,hi⟩:=List.mem_iff_getElem?.1 ha
  have hlt:=(List.getElem?_eq_some_iff.1 hi).1
  have hd:ds[i]?=some (ds[i]'(by omega)):=List.getElem?_eq_getElem _
  refine ⟨_,h3 i a _ hi hd,ds,?_⟩
  rcases h1 with ⟨_,rfl⟩ | ⟨sp,h1⟩
  · exfalso; have h2:0=l.length:=h2; omega
  · exact ⟨sp,h1,List.mem_of_getElem? hd⟩
theorem stx_fld {H : Type} {enc : TypeId × Value → H} {P : Program} {w : World} {base : Nat} {sp : Nat → Bool} {held : Bool} {fuel : Nat} {t : TypeId} {cs : List Value} {x : DataW H × List MemPlace} {fs : Array Field} (ht : P.underlying t = some (.struct fs))
    (h:DataW.trod enc P w base sp held fuel t cs=some x):cs.length=P.cellsOf t∧∃ n,fuel=n + 1∧∀ (j:Nat) (f:Field),fs[j]?=some f→∃ y,DataW.trod enc P w base sp held n f.type ((cs.drop f.offset).take (P.cellsOf f.type))=some y:=by
  obtain ⟨xs,n,hn,_,hl,hlen,hg⟩:=DataW.trod_struct ht h
  refine ⟨hl,n,hn,fun j f hj=>?_⟩
  have hjl:j < xs.length:=by rw [hlen]; exact (Array.getElem?_eq_some_iff.1 hj).1
  exact ⟨xs[j],(hg j f hj).trans (List.getElem?_eq_getElem hjl)⟩
def RdX (P : Program) (t : TypeId) {α : Type} (e : α → List Value) (ok : α → World → Prop) : Prop :=
  ∀ {H:Type} (enc:TypeId × Value→H) (W:World) (sp:Nat→Bool) (held:Bool) (fuel:Nat) (cs:List Value) (x:DataW H × List MemPlace),DataW.trod enc P W 0 sp held fuel t cs=some x→∃ a,cs=e a∧ok a W
theorem RdF.x {P:Program} {t:TypeId} {α:Type} {e:α→List Value} {ok:α→Prop} (h:RdF P t e ok):RdX P t e (fun a _=>ok a):=fun enc W sp held fuel cs x hx=>h enc W 0 sp held fuel cs x hx
theorem open_xs {H : Type} {enc : TypeId × Value → H} {P : Program} {t et : TypeId} {α : Type} {e : α → List Value} {ok : α → World → Prop} {k : Nat} (hr : RdX P et e ok) (ht : P.underlying t = some (.slice et)) (hk : P.cellsOf et = k) (hk0 : 0 < k) (he : ∀ a, (e a).length = k) {W : World} {sp : Nat → Bool} {held : Bool} {v : Value} {d : DataW H} {p : List MemPlace}
    (hv:∃ A n c,v=.slice A n c) (h:DataW.Trod enc P W 0 sp held t v d p):∃ l:List α,zJ (In W) k e v l W∧∀ a ∈ l,ok a W:=by
  obtain ⟨fuel,hf⟩:=h
  obtain ⟨A,n,c,rfl⟩:=hv
  obtain ⟨s,h1,h2,h3⟩:=rdx_slice (ok:=fun a=>ok a W) (fun n _ cs x hx=>hr enc W sp held n cs x hx) ht hk hk0 he hf
  have h1:[Value.slice A n c]=[.slice s.A s.l.length s.c]:=h1
  injection h1 with h1
  exact ⟨s.l,by rw [h1]; exact h2,h3⟩
end Ex
end
section
open Go.ChangeShapes Go.WideShapes Go.ChangeAt Go.RowKit
namespace Ex
set_option linter.unusedVariables false
set_option linter.unusedSimpArgs false
theorem rdDoX : RdX Tryz.prog 43 uI (fun a W => yo.Ok (In W) a W) := fun {H} en W sp held fuel => by
  intro cs x hx
  obtain ⟨hl,n,hn,hf⟩:=stx_fld Tryz.underlying43 hx
  rw [show Tryz.prog.cellsOf 43=7 from by kernel_rfl] at hl
  obtain ⟨c0,c1,c2,c3,c4,c5,c6,rfl⟩:=list7 hl
  obtain ⟨y0,hy0⟩:=hf 0 _ rfl
  replace hy0:DataW.trod en Tryz.prog W 0 sp held n 3 (List.take (Tryz.prog.cellsOf 3) (List.drop 0 _))=some y0:=hy0
  rw [show Tryz.prog.cellsOf 3=1 from by kernel_rfl] at hy0
  obtain ⟨a0,e0,o0⟩:=rd_int Tryz.underlying3 en W 0 sp held n _ _ hy0
  have e0':[c0]=intE a0:=e0
  simp only [strE,intE,List.cons.injEq,and_true] at e0'
  subst e0'
  obtain ⟨y1,hy1⟩:=hf 1 _ rfl
  replace hy1:DataW.trod en Tryz.prog W 0 sp held n 3 (List.take (Tryz.prog.cellsOf 3) (List.drop 1 _))=some y1:=hy1
  rw [show Tryz.prog.cellsOf 3=1 from by kernel_rfl] at hy1
  obtain ⟨a1,e1,o1⟩:=rd_int Tryz.underlying3 en W 0 sp held n _ _ hy1
  have e1':[c1]=intE a1:=e1
  simp only [strE,intE,List.cons.injEq,and_true] at e1'
  subst e1'
  obtain ⟨y2,hy2⟩:=hf 2 _ rfl
  replace hy2:DataW.trod en Tryz.prog W 0 sp held n 3 (List.take (Tryz.prog.cellsOf 3) (List.drop 2 _))=some y2:=hy2
  rw [show Tryz.prog.cellsOf 3=1 from by kernel_rfl] at hy2
  obtain ⟨a2,e2,o2⟩:=rd_int Tryz.underlying3 en W 0 sp held n _ _ hy2
  have e2':[c2]=intE a2:=e2
  simp only [strE,intE,List.cons.injEq,and_true] at e2'
  subst e2'
  obtain ⟨y3,hy3⟩:=hf 3 _ rfl
  replace hy3:DataW.trod en Tryz.prog W 0 sp held n 39 (List.take (Tryz.prog.cellsOf 39) (List.drop 3 _))=some y3:=hy3
  rw [show Tryz.prog.cellsOf 39=1 from by kernel_rfl] at hy3
  replace hy3:DataW.trod en Tryz.prog W 0 sp held n 39 [c3]=some y3:=hy3
  obtain ⟨s3,e3,f3,o3⟩:=rdx_slice (e:=zj) (ok:=okLabel) (k:=2) (fun m _ cs x hx=>RdF.x rdLabel en W sp held m cs x hx) Tryz.underlying39 (by kernel_rfl) (by decide) (fun _=>rfl) hy3
  injection e3 with e3
  subst e3
  obtain ⟨y4,hy4⟩:=hf 4 _ rfl
  replace hy4:DataW.trod en Tryz.prog W 0 sp held n 41 (List.take (Tryz.prog.cellsOf 41) (List.drop 4 _))=some y4:=hy4
  rw [show Tryz.prog.cellsOf 41=2 from by kernel_rfl] at hy4
  obtain ⟨a4,e4,o4⟩:=rdSample en W 0 sp held n _ _ hy4
  have e4':[c4,c5]=zo a4:=e4
  simp only [zo,List.cons.injEq,and_true] at e4'
  obtain ⟨rfl,rfl⟩:=e4'
  obtain ⟨y5,hy5⟩:=hf 5 _ rfl
  replace hy5:DataW.trod en Tryz.prog W 0 sp held n 9 (List.take (Tryz.prog.cellsOf 9) (List.drop 6 _))=some y5:=hy5
  rw [show Tryz.prog.cellsOf 9=1 from by kernel_rfl] at hy5
  obtain ⟨a5,e5,o5⟩:=rd_str Tryz.underlying9 en W 0 sp held n _ _ hy5
  have e5':[c6]=strE a5:=e5
  simp only [strE,intE,List.cons.injEq,and_true] at e5'
  subst e5'
  exact ⟨⟨a0,a1,a2,s3,a4,a5⟩,rfl,⟨f3⟩⟩
end Ex
end
section
namespace baseRefusedP
open Ex
open Go.ChangeShapes Go.WideShapes Go.ChangeAt Go.RowKit
set_option linter.unusedVariables false
theorem star_ : "*" ++ "errors.errorString" = "*errors.errorString" := by decide
theorem row_ (u : TypeId) (h : Tryz.prog.typeName? 3 u = some "*errors.errorString") : u = 296 :=
  typeName_ptr_named (nm := "errors.errorString") (by rw [star_]; kernel_rfl) (by kernel_rfl) (by decide) u (by rw [star_]; exact h)
theorem errv {W : World} (h : laidMetH Tryz.prog Rows.baseRefusedRow.laid W) : zd (In W) W := by
  obtain ⟨a0,s0,hv,_⟩:=laid_sentinel (g:=3) (ti:=183) (tp:=296) (te:=298) (ts:=9) (laidMet.tail (laidMet.tail (laidMet.tail h))) (by kernel_rfl) (by kernel_rfl) Tryz.underlying183 row_ Tryz.underlying296 Tryz.underlying298 rfl rfl Tryz.underlying9 (by kernel_rfl) (by kernel_rfl)
  refine ⟨fun g hg=>?_,_,_,hv⟩
  have h3:=hv
  unfold World.var? at h3
  rw [hg] at h3
  simp only [Option.bind_some] at h3
  split at h3
  · rename_i hc; exact (Array.getElem?_eq_some_iff.1 hc).1
  · cases h3
set_option maxRecDepth 100000 in
theorem contract (H : Type) (enc : TypeId × Value → H) (W : World) (base : Nat) (args : Array Value) (ds gs : List (DataW H)) (before : List MemPlace)
    (hval0:∀ (j:Nat) t v,Tryz.f6.params[j]?=some t→args[j]?=some v→Value.okWide Tryz.prog W .any base t v)
    (hW:DataW.Whole enc Tryz.prog Tryz.f6.params.toList Rows.baseRefusedSpec.vars false W args.toList ds gs before) (hL:laidMetH Tryz.prog Rows.baseRefusedRow.laid W) :
    Calls Tryz.prog 6 args W fun e W'=>∃ v,e=.returned v∧Rows.baseRefusedSpec.post enc Tryz.prog Tryz.f6 false true false false W args v W':=by
  have hW':=hW
  obtain ⟨p,q,hA0,hV,rfl,hfz,hnd⟩:=hW
  have hA:DataW.TrodAll enc Tryz.prog W 0 (fun _=>true) true Tryz.f6.params.toList args.toList ds p:=hA0
  have hval:=hval0
  rw [Tryz.params6] at hA hval
  obtain ⟨v0,vs0,d0,ds0,p0,q0,hargs,rfl,rfl,h0,r0⟩:=trodAll_cons hA
  obtain ⟨rfl,rfl,rfl⟩:=trodAll_nil r0
  obtain rfl:args=#[v0]:=by cases args; simp_all
  obtain ⟨x0,hl0,hx0⟩:=open_xs (k:=7) rdDoX Tryz.underlying22 (by kernel_rfl) (by decide) (fun _=>rfl) (okWide_slice Tryz.underlying22 (hval 0 22 v0 rfl rfl)) h0
  refine (law_BaseRefused v0 x0 (In W) W (fun _ h=>h) hl0 hx0 (errv hL)).mono fun e W' ⟨he,hf⟩=>?_
  subst he
  exact ⟨_, rfl, post_true Ex.Tryz.laid_ (by rw [Tryz.params6]; intro t ht; simp only [List.mem_cons, List.not_mem_nil, or_false] at ht; rcases ht with rfl <;> exact ⟨by kernel_rfl, of_decide_eq_true (by kernel_rfl)⟩) rfl Tryz.underlying4 rfl hW' (fun ds hd => by
    rw [Tryz.params6] at hd
    match ds,hd with
    | [_],_=>exact ⟨rfl,rfl,rfl⟩) hf⟩
def put (cs : Array Value) : Obj → Obj
  | .cells _ t fr=>.cells cs t fr
  | o=>o
noncomputable def low_:Nat:=(World.holding Tryz.prog default ⟨#[],#[],[]⟩).heap.size
noncomputable def laidWorld (os : Os) : World :=
  { (World.holding Tryz.prog os ⟨#[.cells #[.string ⟨#[118,97,108,117,101,32,111,117,116,32,111,102,32,114,97,110,103,101]⟩] 298,.cells #[.string ⟨#[105,110,118,97,108,105,100,32,115,121,110,116,97,120]⟩] 298],#[],[]⟩) with heap:=((((((World.holding Tryz.prog os ⟨#[.cells #[.string ⟨#[118,97,108,117,101,32,111,117,116,32,111,102,32,114,97,110,103,101]⟩] 298,.cells #[.string ⟨#[105,110,118,97,108,105,100,32,115,121,110,116,97,120]⟩] 298],#[],[]⟩).heap.modify 4 (put #[.int .u8 0,.int .u8 1,.int .u8 28,.int .u8 2,.int .u8 29,.int .u8 14,.int .u8 24,.int .u8 3,.int .u8 30,.int .u8 22,.int .u8 20,.int .u8 15,.int .u8 25,.int .u8 17,.int .u8 4,.int .u8 8,.int .u8 31,.int .u8 27,.int .u8 13,.int .u8 23,.int .u8 21,.int .u8 19,.int .u8 16,.int .u8 7,.int .u8 26,.int .u8 12,.int .u8 18,.int .u8 6,.int .u8 11,.int .u8 5,.int .u8 10,.int .u8 9])).modify 5 (put #[.int .u8 0,.int .u8 1,.int .u8 56,.int .u8 2,.int .u8 57,.int .u8 49,.int .u8 28,.int .u8 3,.int .u8 61,.int .u8 58,.int .u8 42,.int .u8 50,.int .u8 38,.int .u8 29,.int .u8 17,.int .u8 4,.int .u8 62,.int .u8 47,.int .u8 59,.int .u8 36,.int .u8 45,.int .u8 43,.int .u8 51,.int .u8 22,.int .u8 53,.int .u8 39,.int .u8 33,.int .u8 30,.int .u8 24,.int .u8 18,.int .u8 12,.int .u8 5,.int .u8 63,.int .u8 55,.int .u8 48,.int .u8 27,.int .u8 60,.int .u8 41,.int .u8 37,.int .u8 16,.int .u8 46,.int .u8 35,.int .u8 44,.int .u8 21,.int .u8 52,.int .u8 32,.int .u8 23,.int .u8 11,.int .u8 54,.int .u8 26,.int .u8 40,.int .u8 15,.int .u8 34,.int .u8 20,.int .u8 31,.int .u8 10,.int .u8 25,.int .u8 14,.int .u8 19,.int .u8 9,.int .u8 13,.int .u8 8,.int .u8 7,.int .u8 6])).modify 0 (put #[.int .u64 1,.int .u64 10,.int .u64 100,.int .u64 1000,.int .u64 10000,.int .u64 100000,.int .u64 1000000,.int .u64 10000000,.int .u64 100000000,.int .u64 1000000000,.int .u64 10000000000,.int .u64 100000000000,.int .u64 1000000000000,.int .u64 10000000000000,.int .u64 100000000000000,.int .u64 1000000000000000,.int .u64 10000000000000000,.int .u64 100000000000000000,.int .u64 1000000000000000000,.int .u64 10000000000000000000])).modify 3 (put #[.iface 296 (.pointer (some ⟨low_ + 0,0,none⟩))])).modify 2 (put #[.iface 296 (.pointer (some ⟨low_ + 1,0,none⟩))])) }
theorem laid_met (os : Os) : laidMet Tryz.prog Rows.baseRefusedRow.laid ((laidWorld os).forCall (fun _ _ => 0) ⟨#[], #[.slice none 0 0], []⟩).memory :=
  laidMet_of_run' 8 (by kernel_rfl) (by kernel_rfl)
theorem reads (os : Os) {H : Type} (enc : TypeId × Value → H) : ∃ places, DataW.whole enc Tryz.prog ((laidWorld os).forCall (fun _ _ => 0) ⟨#[], #[.slice none 0 0], []⟩).memory Tryz.f6.params.toList Rows.baseRefusedSpec.vars false #[.slice none 0 0].toList 8 = some ([.nil], [], places) :=
  ⟨[],by kernel_rfl⟩
set_option maxRecDepth 100000 in
theorem lifted (os : Os) (started : os.Started) (H : Type) (enc : TypeId × Value → H) (F : Stop.Interp) :
    ReturnsInHanded {} Tryz.checked os 6 .any ((OpenSpec.ofChange Rows.baseRefusedSpec).preRow enc Tryz.prog Tryz.f6 Rows.baseRefusedRow.domain false Rows.baseRefusedRow.laid) (((OpenSpec.ofChange Rows.baseRefusedSpec).at F).post enc Tryz.prog Tryz.f6 false true false false):=by
  obtain ⟨places,hx⟩:=reads os enc
  refine returnsInHanded_of_row (C := Tryz.checked) (s := (OpenSpec.ofChange Rows.baseRefusedSpec)) Ex.Tryz.own_ started (by kernel_rfl) Tryz.func6
    (witness_row_at (enc := enc) (C := Tryz.checked) false (laidWorld os) #[.slice none 0 0] rfl (by kernel_rfl) (by kernel_rfl) (by kernel_rfl)
      (OpenSpec.preRow_of_cond 8 hx (by kernel_rfl) (fun k hk=>by cases hk) (by kernel_rfl) (laid_met os))) ?_
  intro W base args ds gs before hval hW _ hcond _ hL _ _
  exact contract H enc W base args ds gs before hval hW hL
theorem laid_:laidOutB Tryz.pinned.checked.prog=true:=by kernel_rfl
theorem rowed_:mapsRowed Tryz.pinned.checked.prog=true:=by kernel_rfl
theorem place_:(Rows.baseRefusedRow.inPlace == Tryz.pinned.checked.prog.inPlace 6)=true:=by kernel_rfl
theorem unfol_:(Rows.baseRefusedRow.unfollowed == Tryz.pinned.checked.prog.unfollowed 6)=true:=by kernel_rfl
theorem recur_:(Rows.baseRefusedRow.recurses == Tryz.pinned.checked.prog.recurses 6)=true:=by kernel_rfl
theorem named_:(Rows.baseRefusedRow.named == Tryz.pinned.checked.prog.varsNamed 6)=true:=by kernel_rfl
set_option maxRecDepth 100000 in
theorem joined_:joinedFacts Tryz.pinned.checked.prog 6 Tryz.f6 (OpenSpec.ofChange Rows.baseRefusedSpec).bare Rows.baseRefusedRow=true:=by
 unfold joinedFacts
 rw [laid_,rowed_,place_,unfol_,recur_,named_]
 kernel_rfl
theorem said : Rows.BaseRefusedSaid :=
  OpenClaim.holds_of_cond 6 Tryz.f6 rfl rfl rfl rfl rfl rfl rfl ⟨rfl, rfl, rfl, rfl, rfl⟩ rfl rfl rfl rfl rfl (by kernel_rfl) Tryz.func6 joined_
    (of_decide_eq_true (by kernel_rfl)) (by unfold Func.isWrapper; first | (rw [if_pos (by decide +kernel)]; kernel_rfl) | (rw [if_neg (by decide +kernel)]; exact ⟨rfl,rfl⟩))
    (fun os started H enc _ F=>by rw [OpenClaim.pre_eq_preRow]; exact lifted os started H enc F)
theorem plain (f : FuncId) (fn : Func) (hf : Tryz.pinned.checked.prog.funcNamed "grainstore/grainlaw9.BaseRefused" = some f) (hfn : Tryz.pinned.checked.prog.funcs[f]? = some fn) :
    true=Tryz.pinned.checked.prog.looks []∧∀ (j:Nat) t,fn.params[j]?=some t→Tryz.pinned.checked.prog.wantsStandIn t=false:=by
  obtain rfl : f = 6 := Option.some.inj ((show Tryz.prog.funcNamed "grainstore/grainlaw9.BaseRefused" = some 6 by kernel_rfl).symm.trans hf) |>.symm
  obtain rfl:fn=Tryz.f6:=(Option.some.inj (Tryz.func6.symm.trans hfn)).symm
  refine ⟨by kernel_rfl,fun j t ht=>?_⟩
  rw [Tryz.params6] at ht
  have hm:=Array.mem_of_getElem? ht
  simp only [List.mem_toArray,List.mem_cons,List.not_mem_nil,or_false] at hm
  rcases hm with rfl <;> first | exact (show Tryz.prog.wantsStandIn 22=false by kernel_rfl)
theorem holds : Rows.BaseRefusedCardSaid :=
  Claim7.holds_tied_plain_at .later [] _ _ _ _ said (fun _ h=>by cases h) (by kernel_rfl) (fun _ h=>by cases h) baseRefused_row_tie rfl ⟨rfl,rfl⟩ (by kernel_rfl) rfl plain (by kernel_rfl)
end baseRefusedP
end
end Go.Proofs.YtgojhpocpajmlaaGreatDoor
