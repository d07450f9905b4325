/- Laws and walks for the proof of BaseRolled, packed by program; each theorem bears its own conditions. -/
import Derived.Lib.AtoiAll
import Derived.Lib.Strings
import Derived.KernelRfl
import Derived.Test.YtgojhpocpajmlaaGreatDoorProg
import Derived.Test.YtgojhpocpajmlaaGreatDoorKRolA2
namespace Go.Proofs.YtgojhpocpajmlaaGreatDoor
section
namespace Ex
set_option linter.unusedVariables false
def thrown (T:TypeId) (f:Pz.F):Value:=.iface T (.agg (List.toArray [.int .i64 f.1,.int .i64 f.2]))
@[reducible] def pan (T:TypeId) (f:Pz.F):List PanicEntry:=[{ v:=thrown T f,recovered:=false }]
def RetX {α:Type} (w:World) (A:List Own) (Pb:Nat→Prop) (PT:TypeId) (mk:α→Value) (pure:α→Prop) (A':α→List Own) (bad:Pz.F→Prop):Ending→World→Prop:=fun e w' =>
  RetA w A Pb mk pure A' e w'∨∃ f,e=.panicked (pan PT f)∧bad f∧Fr (fpOf A) w w'
section
variable {P:Program} {N:Nat} {D:List Deferred} {E E':Env} {S S':World→Prop} {Q:Exit→Act→World→Prop} {K:Act→World→Prop} {w0 w w':World} {M:Fp} {L A A' R:List Own} {Pb:Nat→Prop}
  {ops:Array Oper} {rest:List Oper} {d:Nat} {ty T PT:TypeId} {pos:String} {aft:Array Edge} {g:Option (Nat × Bool)} {v u:Value} {x y:Operand}
theorem Mem.dropA (h:Mem w0 M (A++R) w) (k:Fr (fpOf A) w w'):Mem w0 M R w':=by
  have hR:∀ (j:Nat) (o:Own),R[j]?=some o→(A++R)[A.length + j]?=some o:=fun j o hj=>by rw [List.getElem?_append_right qO]; simpa using hj
  have hfA:∀ b,fpOf A b→∃ (i:Nat) (o:Own),(A++R)[i]?=some o∧i < A.length∧o.mut=true∧o.fp b:=by
    rintro b ⟨o,ho,hm,hb⟩
    obtain ⟨i,hi,rfl⟩:=List.mem_iff_getElem.1 ho
    exact ⟨i,_,by rw [List.getElem?_append_left hi]; exact List.getElem?_eq_getElem hi,hi,hm,hb⟩
  have hRk:∀ (j:Nat) (o:Own),R[j]?=some o→∀ b,o.fp b→w'.heap[b]?=w.heap[b]?:=fun j o hj b hb=>k.block b ((h.ok _ o (hR j o hj)).2.1 b hb) fun hf=>by
    obtain ⟨i,o',hi,hil,hm,hb'⟩:=hfA b hf
    exact h.dj i _ o' o hi (hR j o hj) qO (.inl hm) b hb' hb
  have hsz:=k.size
  refine ⟨h.fr.trans k fun b hb hf=>?_,fun i o hi=>?_,fun i j o o' hi hj hij hmm=>h.dj _ _ o o' (hR i o hi) (hR j o' hj) qO hmm,?_⟩
  · obtain ⟨i,o',hi,_,hm,hb'⟩:=hfA b hf
    exact ((h.ok i o' hi).2.2 hm b hb').resolve_left qO
  · obtain ⟨a1,a2,a3⟩:=h.ok _ o (hR i o hi)
    exact ⟨Own.holds_keep a1 (hRk i o hi),fun b hb=>Nat.lt_of_lt_of_le (a2 b hb) hsz,a3⟩
  · obtain ⟨Pb,pp⟩:=h.pb
    refine ⟨Pb,pp.sub,fun b hb=>Nat.lt_of_lt_of_le (pp.lt b hb) hsz,fun i o hi=>pp.dj _ o (hR i o hi),fun i F hi=>?_⟩
    exact (h.ok _ _ (hR i _ hi)).1 Pb Pb w w' (fun _ h=>h) (fun b hb=>k.block b (pp.lt b hb) fun hf=>by
      obtain ⟨j,o',hj,_,hm,hb'⟩:=hfA b hf
      exact pp.dj j o' hj hm b hb hb') (pp.at_ _ F (hR i _ hi))
theorem zZ {α:Type} {f:Nat} {args:Array Operand} {ts:Array TypeId} {vs cap:List Value} (A R:List Own) (mk:α→Value) (pure:α→Prop) (A' L':α→List Own) (bad:Pz.F→Prop) (hL':∀ z,A' z++R=L' z) (hA:∀ w,Mem w0 M L w→Mem w0 M (A++R) w) (hq:∀ z,(A' z).all (fun o=>o.mut || o.isPub)=true)
    (hw:Want N D ops E g true) (hx:ev E x=some (.func (.func f) #[] cap.toArray)) (hargs:evs E args.toList=some vs)
    (hcall:∀ vs w,(callFunc f vs).run P w=.ok (.enter f vs) w) (hd:Nat.blt d N=true)
    (hc:∀ w Pb,Mem w ⟨fpOf A,Pb⟩ A w→Calls P f (vs++cap).toArray w (RetX w A Pb PT mk pure A' bad))
    (hb:∀ f,bad f→WE N D Q (.panic (pan PT f)) E (Mem w0 M R))
    (h:∀ z,pure z→WL P N D ops Q rest ((d,mk z)::E) (Mem w0 M (L' z))) :
    WL P N D ops Q (⟨some d,.call { callee:=.value x,args:=args,argTypes:=ts },ty,pos,aft,g⟩::rest) E (Mem w0 M L):=fun w hS a ha=>by
  unfold wpList
  rw [if_pos (hw _ rfl a ha)]
  left
  unfold Oper.wp
  rw [run_call ha hx hargs hcall rfl,Oper.upon_enter]
  have hS':=hA w hS
  obtain ⟨Pb,pp⟩:=hS'.pb
  have h9:=hc w Pb (hS'.give pp)
  rw [← List.append_toArray] at h9
  refine h9.mono ?_
  rintro e w' (⟨z,rfl,hz,hk⟩ | ⟨f,rfl,hf,hfr⟩)
  · exact h z hz w' (by rw [← hL' z]; exact hS'.take pp hk (hq z)) _ (ha.put _ hd)
  · exact hb f hf w' (hS'.dropA hfr) a ha
theorem Mem.vZ {α:Type} {mk:α→Value} {pure:α→Prop} {A':α→List Own} {bad:Pz.F→Prop} (h:Mem w ⟨fpOf A,Pb⟩ L w') (z:α) (hv:v=mk z) (hz:pure z) (hs:Mem w ⟨fpOf A,Pb⟩ L w'→Mem w ⟨fpOf A,Pb⟩ (A' z) w'):RetX w A Pb PT mk pure A' bad (.returned v) w':=.inl (h.yV z hv hz hs)
theorem Mem.zd {α:Type} {mk:α→Value} {pure:α→Prop} {A':α→List Own} {bad:Pz.F→Prop} (h:Mem w ⟨fpOf A,Pb⟩ L w') (f:Pz.F) (hf:bad f):RetX w A Pb PT mk pure A' bad (.panicked (pan PT f)) w':=.inr ⟨f,rfl,hf,h.fr⟩
theorem zR {c:List PanicEntry} (h:WE N D Q (.panic c) E S):WE N D (Exit.then K Q) (.panic c) E S:=h
theorem zx {c:List PanicEntry} {id:Nat} (h:WE N D Q (.panic c) E S):WE N D (Exit.inBlock id Q) (.panic c) E S:=h
theorem yn {K:Exit→Act→World→Prop} {c:List PanicEntry} (hP:∀ c S',WE N D Q (.panic c) [] S'→∀ E',WE N D K (.panic c) E' S') (h:WE N D Q (.panic c) [] S):WE N D K (.panic c) E S:=hP c S h E
theorem zV {fn:Func} {R:Ending→World→Prop} {c:List PanicEntry} (h:∀ w,S w→R (.panicked c) w):WE N [] (bodyPost P fn R) (.panic c) E S:=fun w hw a ha=>⟨ha.d,h w hw⟩
section
variable {α β γ δ:Type} {c:List PanicEntry}
theorem vP {env:α→β→γ→δ→Env} {Lf:α→β→γ→δ→List Own} {inv:α→β→γ→δ→Prop} {μ:α→β→γ→δ→Nat} {m:Nat} (h:WE N D Q (.panic c) E S):WE N D (LQ4 N D w0 M env Lf inv μ m Q) (.panic c) E S:=h
theorem yS {ε:Type} {env:α→β→γ→δ→ε→Env} {Lf:α→β→γ→δ→ε→List Own} {inv:α→β→γ→δ→ε→Prop} {μ:α→β→γ→δ→ε→Nat} {m:Nat} (h:WE N D Q (.panic c) E S):WE N D (LQ5 N D w0 M env Lf inv μ m Q) (.panic c) E S:=h
end
theorem r_mkI {cs:List Value} (hx:ev E x=some (.agg cs.toArray)) (hT:P.concrete T=true):Runs P N D E S (.makeInterface T x) ty (.iface T (.agg cs.toArray)):=fun o ho _ a w ha _=>by
  unfold execOp; rw [ho]; simp [ha.eval hx,run_makeInterface _ T _ hT]
theorem l_panic (hw:Want N D ops E g true) (hx:ev E x=some (.iface T v)) (h:WE N D Q (.panic [{ v:=.iface T v,recovered:=false }]) E S):WL P N D ops Q (⟨none,.panic x,ty,pos,aft,g⟩::rest) E S:=fun w hS a ha=>by
  unfold wpList
  rw [if_pos (hw _ rfl a ha)]
  left
  unfold Oper.wp
  rw [show (execOp a.eval ⟨none,.panic x,ty,pos,aft,g⟩).run P w=.halt (.panic (.iface T v)) w from by unfold execOp; simp [ha.eval hx,Instr.panic,goPanic],Oper.upon_panic]
  exact h w hS a ha
theorem fp2 {p:Nat} {cs:List Value} {T:TypeId} {F:(Nat→Prop)→World→Prop} (b:Nat) (h:fpOf [.blk p cs T,.pub F] b):b=p:=by
  obtain ⟨o,ho,hm,hb⟩:=h
  rcases List.mem_cons.1 ho with rfl | ho
  · exact hb
  · rw [List.mem_singleton.1 ho] at hm; cases hm
theorem Mem.notP {o:Own} {i j p:Nat} {cs:List Value} (h:Mem w0 M L w) (hi:L[i]?=some o) (hj:L[j]?=some (.blk p cs T)) (hij:i≠j) (hm:o.mut=true) (hM:∀ b,M.m b→b=p):∀ b,o.fp b→w0.heap.size≤b∨M.p b:=fun b hb=>by
  rcases (h.ok i o hi).2.2 hm b hb with h1 | h1
  · exact .inl h1
  · exact absurd (show (Own.blk p cs T).fp b from hM b h1) (h.dj i j o _ hi hj hij (.inl hm) b hb)
theorem Mem.sealRowX {α:Type} {enc:α→List Value} {k p:Nat} {cs:List Value} {e:TypeId} {l:List α} (he:Enc enc k) (h:Mem w0 M L w) {i j:Nat} (hi:L[i]?=some (Row v e k enc l)) (hj:L[j]?=some (.blk p cs T)) (hM:∀ b,M.m b→b=p):Mem w0 M (L.set i (slP k enc v l)) w:=by
  have hij:i≠j:=by rintro rfl; rw [hi] at hj; cases hj
  refine h.je hi rfl (h.notP hi hj hij rfl hM) (zD.loc _ _ _ _) fun Pb pp=>?_
  have hrow:=h.row hi
  obtain ⟨A,c,rfl,e2,e3,e4⟩:=row_form' hrow
  refine ⟨A,c,rfl,e2,by simpa [maxLen] using e3,fun hne=>?_⟩
  obtain ⟨ad,rfl⟩:=e4 hne
  have hb:(Value.slice (some ad) l.length c).ownBlock=some ad.block:=by
    rcases hrow.2 with ⟨h1,h2⟩ | ⟨gb,cap,cur,h1,_⟩
    · cases h1
    · injection h1 with h1 _ _; injection h1 with h1; subst h1; rfl
  refine ⟨ad,rfl,.inr hb,fun i' x hx j u hu=>?_⟩
  exact (RowSl he h i hi).cell rfl hx hu
theorem y6 {α:Type} {enc:α→List Value} {k p:Nat} {cs:List Value} {e:TypeId} {l:List α} (i j:Nat) (he:Enc enc k) (hi:L[i]?=some (Row v e k enc l)) (hj:L[j]?=some (.blk p cs T)) (hM:∀ b,M.m b→b=p) (h:WL P N D ops Q rest E (Mem w0 M (L.set i (slP k enc v l)))):WL P N D ops Q rest E (Mem w0 M L) :=
  fun w hS=>h w (hS.sealRowX he hi hj hM)
theorem Mem.exprG (h:Mem w0 M L w) {k n r:Int} {wd:ByteArray} {ms:SlX Match} {bs:SlX ByteArray} {ks:SlX zB} (hm:∀ Pb,Pubs w0 M L w Pb→zD Pb 3 yA (.slice ms.A ms.l.length ms.c) ms.l w) (hb:∀ Pb,Pubs w0 M L w Pb→zD Pb 1 strE (.slice bs.A bs.l.length bs.c) bs.l w)
    (hk:∀ Pb,Pubs w0 M L w Pb→zD Pb 7 zu (.slice ks.A ks.l.length ks.c) ks.l w) (ha:∀ Pb,Pubs w0 M L w Pb→∀ x ∈ ks.l,zB.Ok Pb x w) (hw:wd.size≤100) (hms:∀ x ∈ ms.l,x.key.size≤100∧x.val.size≤100) (hbs:∀ x ∈ bs.l,x.size≤100) :
    Mem w0 M (okP zB.Ok (.mk k n r wd ms bs ks)::L) w :=
  h.yT (zB.Ok.loc _) fun Pb pp=>.mk (hm Pb pp) (hb Pb pp) (hk Pb pp) (ha Pb pp) ⟨Nat.le_trans hw qD,fun x hx=>⟨Nat.le_trans (hms x hx).1 qD,Nat.le_trans (hms x hx).2 qD⟩,fun x hx=>Nat.le_trans (hbs x hx) qD⟩
theorem l_as (d:Nat) (v:Value) (L:List Own) (h:WL P N D ops Q rest ((d,v)::E) (Mem w0 M L)):WL P N D ops Q rest ((d,v)::E) (Mem w0 M L):=h
theorem r_tassert {xT:TypeId} {fs:Array Field} (hx:ev E x=some (.iface T v)) (hT:P.underlying T=some (.struct fs)):Runs P N D E S (.typeAssert x xT T true) ty (.tuple (List.toArray [v,.bool true])):=fun o ho _ a w ha _=>by
  unfold execOp; rw [ho]; simp [ha.eval hx,Instr.typeAssert,run_underlying hT]
def isNil:Value→Bool
  | .nilIface=>true
  | _=>false
theorem run_ieq {ms:Array (String × TypeId)} (hT:P.underlying T=some (.interface ms)) (hv:v=.nilIface∨∃ t u,v=.iface t u) (d:Nat):(Op.equalIn (d + 1) T v .nilIface).run P w=.ok (isNil v) w:=by
  rcases hv with rfl | ⟨t,u,rfl⟩ <;> simp [Op.equalIn,run_underlying hT,isNil]
theorem r_ineq {ms:Array (String × TypeId)} {T':TypeId} (hx:ev E x=some v) (hv:v=.nilIface∨∃ t u,v=.iface t u) (hT:P.underlying T=some (.interface ms)):Runs P N D E S (.binOp .neq T x (.const .nilIface) T') ty (.bool (!(isNil v))):=fun o ho _ a w ha _=>by
  have h:=run_ieq (w:=w) hT hv 9999
  have hy:a.eval (.const .nilIface)=.nilIface:=rfl
  unfold execOp; rw [ho]
  rcases hv with rfl | ⟨t,u,rfl⟩ <;> simp [ha.eval hx,hy,eqGuard,binOp,Op.equal,Op.maxDepth,h]
theorem r_ieq {ms:Array (String × TypeId)} {T':TypeId} (hx:ev E x=some v) (hv:v=.nilIface∨∃ t u,v=.iface t u) (hT:P.underlying T=some (.interface ms)):Runs P N D E S (.binOp .eql T x (.const .nilIface) T') ty (.bool (isNil v)):=fun o ho _ a w ha _=>by
  have h:=run_ieq (w:=w) hT hv 9999
  have hy:a.eval (.const .nilIface)=.nilIface:=rfl
  unfold execOp; rw [ho]
  rcases hv with rfl | ⟨t,u,rfl⟩ <;> simp [ha.eval hx,hy,eqGuard,binOp,Op.equal,Op.maxDepth,h]
end
def VarI (P:Program) (name:String) (S:Nat→Prop) (w:World):Prop:=(∀ g,P.globalNamed name=some g→S g)∧∃ tp p,w.var? P name=some #[.iface tp p]
theorem VarI.loc (P:Program) (name:String):Loc (VarI P name):=fun S S' u u' hs hk h=>by
  obtain ⟨h1,tp,p,h2⟩:=h
  refine ⟨fun g hg=>hs _ (h1 g hg),tp,p,?_⟩
  unfold World.var? at h2 ⊢
  cases hg:P.globalNamed name with
  | none=>rw [hg] at h2; cases h2
  | some g=>rw [hg] at h2; simp only [Option.bind_some] at h2 ⊢; rw [hk _ (h1 g hg)]; exact h2
end Ex
namespace Pz
open Ex
theorem rest_ext (s:ByteArray) (j:Nat):(s.extract j s.size).data.toList=rest s j:=by
  unfold rest
  rw [ByteArray.data_extract,Array.toList_extract,List.extract_eq_take_drop]
  exact List.take_of_length_le (by rw [List.length_drop,size_l]; exact Nat.le_refl _)
theorem pfx_ext (s sg:ByteArray) (j:Nat):Go.Lib.hasPrefix (s.extract j s.size).data.toList sg.data.toList=pfx s sg j:=by unfold Go.Lib.hasPrefix pfx; rw [rest_ext]
theorem eat_yes {s sg:ByteArray} {i j:Nat} (hj:blank s i=j) (h:pfx s sg j=true):eat s sg i=(true,j + sg.size):=by unfold eat; rw [hj,if_pos h]
theorem eat_no {s sg:ByteArray} {i j:Nat} (hj:blank s i=j) (h:¬ pfx s sg j=true):eat s sg i=(false,j):=by unfold eat; rw [hj,if_neg h]
theorem ext_size (s:ByteArray) {i j:Nat} (h:j≤s.size):(s.extract i j).size=j - i:=by rw [ByteArray.size_extract]; omega
theorem word_ok {s:ByteArray} {i j k:Nat} {n:Int} (hj:blank s i=j) (hk:wend s j=k) (h:¬ (12:Int) < ((s.extract j k).size:Int)) (hs:k≤s.size):word s ⟨i,n⟩=.ok (s.extract j k,⟨k,n⟩):=by
  unfold word
  show (if 12 < wend s (blank s i) - blank s i then _ else _)=_
  rw [hj,hk,if_neg (by rw [ext_size s hs] at h; omega)]; rfl
theorem word_no {s:ByteArray} {i j k:Nat} {n:Int} (hj:blank s i=j) (hk:wend s j=k) (h:(12:Int) < ((s.extract j k).size:Int)) (hs:k≤s.size):word s ⟨i,n⟩=.no (7,j):=by
  unfold word
  show (if 12 < wend s (blank s i) - blank s i then _ else _)=_
  rw [hj,hk,if_pos (by rw [ext_size s hs] at h; omega)]
theorem word_size {s:ByteArray} {t:St} {x:ByteArray × St} (ht:t.at_≤s.size) (h:word s t=.ok x):x.1.size≤12:=by
  unfold word at h
  split at h
  · cases h
  · rename_i h1
    obtain rfl:=Res.ok.inj h
    show (s.extract _ _).size≤12
    rw [ext_size s (wend_le (blank_le ht).2).2]; omega
theorem name_size {s:ByteArray} {t:St} {x:ByteArray × St} (ht:t.at_≤s.size) (h:name s t=.ok x):x.1.size≤12:=by
  unfold name at h
  cases hw:word s t with
  | no f=>rw [hw] at h; cases h
  | ok y =>
    rw [hw,then_ok] at h
    split at h
    · cases h
    · obtain rfl:=Res.ok.inj h; exact word_size ht hw
theorem empty_size:(⟨#[]⟩:ByteArray).size≤12:=by decide
theorem then_some {α β:Type} {x:Res α} {g:α→Res β} {b:β} (h:x.then g=.ok b):∃ a,x=.ok a∧g a=.ok b:=by
  cases x with
  | no f=>cases h
  | ok a=>exact ⟨a,rfl,h⟩
theorem match_size {s:ByteArray} {t:St} {x:Match × St} (ht:t.at_≤s.size) (h:match_ s t=.ok x):x.1.key.size≤12∧x.1.val.size≤12:=by
  unfold match_ at h
  have h0:=(eat_le ⟨#[33]⟩ ht).2
  split at h
  · obtain ⟨a,h1,h2⟩:=then_some h
    obtain rfl:=Res.ok.inj h2
    exact ⟨name_size (t:=t.go _) h0 h1,empty_size⟩
  · obtain ⟨a,h1,h2⟩:=then_some h
    have hn:=name_size (t:=t.go _) h0 h1
    have ha:a.2.at_≤s.size:=((name_go h0).ok_ h1).at_
    split at h2
    · obtain ⟨b,h3,h4⟩:=then_some h2
      obtain rfl:=Res.ok.inj h4
      exact ⟨hn,name_size (t:=a.2.go _) (eat_le _ ha).2 h3⟩
    · split at h2
      · obtain ⟨b,h3,h4⟩:=then_some h2
        obtain rfl:=Res.ok.inj h4
        exact ⟨hn,name_size (t:=a.2.go _) (eat_le _ (eat_le _ ha).2).2 h3⟩
      · obtain rfl:=Res.ok.inj h2
        exact ⟨hn,empty_size⟩
def fold (n:Nat) (l:List UInt8):Nat:=l.foldl (fun n b=>10 * n + (b.toNat - 48)) n
theorem fold_ge:∀ (l:List UInt8) (n:Nat),n≤fold n l
  | [],n=>Nat.le_refl _
  | c::l,n=>by have:=fold_ge l (10 * n + (c.toNat - 48)); unfold fold at this ⊢; rw [List.foldl_cons]; omega
theorem parse_dig:∀ (l:List UInt8) (acc:Nat),(∀ c ∈ l,48≤c.toNat∧c.toNat≤57)→acc < 18446744073709551616→(Go.Lib.parseUint10 acc l=.ok (fold acc l)∧fold acc l < 18446744073709551616)∨(Go.Lib.parseUint10 acc l=.range∧18446744073709551616≤fold acc l)
  | [],acc,_,h=>.inl ⟨rfl,h⟩
  | c :: l, acc, hc, h => by
    have h1:=hc c (List.mem_cons_self ..)
    have hf:fold acc (c::l)=fold (acc * 10 + (c.toNat - 48)) l:=by unfold fold; rw [List.foldl_cons,Nat.mul_comm]
    simp only [Go.Lib.parseUint10,if_pos h1]
    by_cases g1:1844674407370955162≤acc
    · rw [if_pos g1]
      refine .inr ⟨rfl,?_⟩
      have:=fold_ge l (acc * 10 + (c.toNat - 48))
      rw [hf]; omega
    · rw [if_neg g1]
      by_cases g2:18446744073709551616≤acc * 10 + (c.toNat - 48)
      · rw [if_pos g2]
        have:=fold_ge l (acc * 10 + (c.toNat - 48))
        exact .inr ⟨rfl,by rw [hf]; omega⟩
      · rw [if_neg g2,hf]
        exact parse_dig l _ (fun x hx=>hc x (List.mem_cons_of_mem _ hx)) qO
theorem atoi_dig {l:List UInt8} (hl:l≠[]) (hc:∀ c ∈ l,48≤c.toNat∧c.toNat≤57):(Go.Lib.atoiAll l=.ok (dval l:Int)∧dval l < 9223372036854775808)∨(Go.Lib.atoiAll l=.range∧9223372036854775808≤dval l):=by
  cases l with
  | nil=>exact absurd rfl hl
  | cons c r =>
    have h1:=hc c (List.mem_cons_self ..)
    have hp:=parse_dig (c::r) 0 hc qD
    have hd:fold 0 (c::r)=dval (c::r):=rfl
    rw [hd] at hp
    have h43:¬ (c.toNat=43∨c.toNat=45):=qO
    have h45:¬ (c.toNat=45):=qO
    unfold Go.Lib.atoiAll
    simp only [if_neg h43,Go.Lib.parseMag,if_neg hl]
    rcases hp with ⟨e,hlt⟩ | ⟨e,hle⟩
    · rw [e]
      simp only [h45,not_false_eq_true,true_and,false_and,if_false]
      by_cases g:9223372036854775808≤dval (c::r)
      · rw [if_pos g]; exact .inr ⟨rfl,g⟩
      · rw [if_neg g]; exact .inl ⟨rfl,by omega⟩
    · rw [e]; exact .inr ⟨rfl,by omega⟩
theorem take_dig:∀ (l:List UInt8) (c:UInt8),c ∈ l.takeWhile dig→48≤c.toNat∧c.toNat≤57
  | b :: l, c, h => by
    rw [List.takeWhile_cons] at h
    split at h
    · rename_i hb
      rcases List.mem_cons.1 h with rfl | h
      · simpa [dig] using hb
      · exact take_dig l c h
    · cases h
theorem ext_take (s:ByteArray) (j:Nat) (p:UInt8→Bool):(s.extract j (run p s j)).data.toList=(rest s j).takeWhile p:=by
  rw [ByteArray.data_extract,Array.toList_extract,List.extract_eq_take_drop]
  unfold run rest
  rw [show j + ((s.data.toList.drop j).takeWhile p).length - j=((s.data.toList.drop j).takeWhile p).length by omega]
  exact (List.prefix_iff_eq_take.1 (List.takeWhile_prefix p)).symm
theorem ext_dig {s:ByteArray} {j k:Nat} (hk:run dig s j=k):∀ c ∈ (s.extract j k).data.toList,48≤c.toNat∧c.toNat≤57:=fun c hc=>by
  subst hk; rw [ext_take] at hc; exact take_dig _ c hc
theorem sat_dig {l:List UInt8} (hd:∀ c ∈ l,48≤c.toNat∧c.toNat≤57):Go.Lib.atoiSat l=9223372036854775807:=by
  unfold Go.Lib.atoiSat
  cases l with
  | nil=>rfl
  | cons c r =>
    have:=hd c (List.mem_cons_self ..)
    rw [if_neg]
    intro h
    simp at h
    omega
def AtoiR (l:List UInt8) (z:Int × Value):Prop:=(z.2=.nilIface∧z.1=(dval l:Int))∨((∃ u v,z.2=.iface u v)∧z.1=9223372036854775807∧9223372036854775808≤dval l)
theorem AtoiR.ifc {l:List UInt8} {z:Int × Value} (h:AtoiR l z):z.2=.nilIface∨∃ t u,z.2=.iface t u:=h.imp (·.1) (·.1)
theorem AtoiR.bad {l:List UInt8} {z:Int × Value} (h:AtoiR l z) (most:Int) (hm:most≤9223372036854775806) (hn:((!(isNil z.2))=true∨most < z.1)):most < (dval l:Int):=by
  rcases h with ⟨h1,h2⟩ | ⟨⟨u,v,h1⟩,h2,h3⟩
  · rcases hn with hn | hn
    · rw [h1] at hn; cases hn
    · rw [← h2]; exact hn
  · omega
theorem AtoiR.good {l:List UInt8} {z:Int × Value} (h:AtoiR l z) (hn:¬ (!(isNil z.2))=true):z.1=(dval l:Int):=by
  rcases h with ⟨h1,h2⟩ | ⟨⟨u,v,h1⟩,h2,h3⟩
  · exact h2
  · rw [h1] at hn; exact absurd rfl hn
theorem num_form {s:ByteArray} {i j k:Nat} {n:Int} (least most:Int) (hj:blank s i=j) (hk:run dig s j=k) (h:(k:Int)=(j:Int)):num s least most ⟨i,n⟩=.no (2,j):=by
  unfold num
  show (if run dig s (blank s i)=blank s i then _ else _)=_
  rw [hj,hk,if_pos qO]
theorem num_no {s:ByteArray} {i j k:Nat} {n least most:Int} (hj:blank s i=j) (hk:run dig s j=k) (h:¬ (k:Int)=(j:Int)) (hb:badNum s least most j):num s least most ⟨i,n⟩=.no (3,j):=by
  unfold num
  show (if run dig s (blank s i)=blank s i then _ else _)=_
  rw [hj,hk,if_neg qO,if_pos hb]
theorem num_ok {s:ByteArray} {i j k:Nat} {n least most:Int} (hj:blank s i=j) (hk:run dig s j=k) (h:¬ (k:Int)=(j:Int)) (hb:¬ badNum s least most j):num s least most ⟨i,n⟩=.ok (numAt s j,⟨k,n⟩):=by
  unfold num
  show (if run dig s (blank s i)=blank s i then _ else _)=_
  rw [hj,hk,if_neg qO,if_neg hb]; rfl
theorem num_at {s:ByteArray} {j k:Nat} (hk:run dig s j=k):numAt s j=(dval (s.extract j k).data.toList:Int):=by subst hk; rfl
theorem atoi_lt {s:ByteArray} {j k:Nat} (h:(k:Int)≠(j:Int)) (hk:run dig s j=k) (hs:k≤s.size):(s.extract j k).data.toList≠[]:=fun e=>by
  have h1:=ext_size s (i:=j) hs
  have h2:(s.extract j k).size=(s.extract j k).data.toList.length:=(size_l _).symm
  rw [e] at h2
  have h3:j≤k:=by subst hk; unfold run; omega
  simp at h2; omega
theorem num_bad {s:ByteArray} {j k:Nat} {least most:Int} {z:Int × Value} (hk:run dig s j=k) (hz:AtoiR (s.extract j k).data.toList z) (hm:most≤9223372036854775806) (h:(!(isNil z.2))=true∨z.1 < least∨most < z.1∨(s[j]?=some 48∧(j:Int) + 1 < (k:Int))):badNum s least most j:=by
  unfold badNum
  rw [num_at hk]
  rcases h with h | h | h | ⟨h1,h2⟩
  · exact .inr (.inl (hz.bad most hm (.inl h)))
  · rcases hz with ⟨h1,h2⟩ | ⟨h1,h2,h3⟩
    · exact .inl (by rw [← h2]; exact h)
    · exact .inr (.inl qO)
  · exact .inr (.inl (hz.bad most hm (.inr h)))
  · exact .inr (.inr ⟨h1,by rw [hk]; omega⟩)
theorem num_good {s:ByteArray} {j k:Nat} {least most:Int} {z:Int × Value} (hk:run dig s j=k) (hz:AtoiR (s.extract j k).data.toList z) (h1:¬ (!(isNil z.2))=true) (h2:¬ z.1 < least) (h3:¬ most < z.1) (h4:¬ (s[j]?=some 48∧(j:Int) + 1 < (k:Int))):¬ badNum s least most j∧numAt s j=z.1:=by
  have hg:=hz.good h1
  unfold badNum
  rw [num_at hk,← hg]
  refine ⟨?_,rfl⟩
  rintro (h | h | ⟨h5,h6⟩)
  · exact h2 h
  · exact h3 h
  · exact h4 ⟨h5,by rw [hk] at h6; omega⟩
theorem at48 {s:ByteArray} {j:Nat} {c:UInt8} (h:s[j]?=some c) (hc:(c.toNat:Int)=48):s[j]?=some 48:=by
  rw [h]
  have:c=48:=by
    apply UInt8.toNat_inj.1
    show c.toNat=48
    omega
  rw [this]
theorem not48 {s:ByteArray} {j:Nat} {c:UInt8} (h:s[j]?=some c) (hc:¬ (c.toNat:Int)=48) {q:Prop}:¬ (s[j]?=some 48∧q):=fun g=>by
  rw [h] at g
  injection g.1 with g1
  subst g1
  exact hc rfl
theorem node_yes {i:Nat} {n:Int} (h:n + 1≤100):node ⟨i,n⟩=.ok ⟨i,n + 1⟩:=by unfold node; rw [if_neg (by show ¬ 100 < n + 1; omega)]
theorem node_no {i:Nat} {n:Int} (h:100 < n + 1):node ⟨i,n⟩=.no (4,i):=by unfold node; rw [if_pos (by show 100 < n + 1; exact h)]
theorem win_done {X:Res (List Match × St)} {s:ByteArray} {q k j:Nat} {m:Int} {ms:List Match} (hX:X=winL s (q + 1) ms ⟨k,m⟩) (he:eat s ⟨#[125]⟩ k=(true,j)):X=.ok (ms,⟨j,m⟩):=by
  rw [hX,winL]; simp only [he,if_true,St.go]
theorem win_more {X:Res (List Match × St)} {s:ByteArray} {q k j:Nat} {m:Int} {ms:List Match} (hX:X=winL s (q + 1) ms ⟨k,m⟩) (he:eat s ⟨#[125]⟩ k=(false,j)):X=(if 0 < ms.length then must s ⟨#[44]⟩ ⟨j,m⟩ else .ok ⟨j,m⟩).then fun u=>if ms.length=5 then .no (5,u.at_) else (match_ s u).then fun x=>winL s q (ms++[x.1]) x.2:=by
  rw [hX,winL]; simp only [he,if_false,St.go,Bool.false_eq_true]
theorem win_sep {s:ByteArray} {j:Nat} {m:Int} {ms:List Match} (h:¬ (0:Int) < (ms.length:Int)):(if 0 < ms.length then must s ⟨#[44]⟩ ⟨j,m⟩ else .ok ⟨j,m⟩)=.ok ⟨j,m⟩:=if_neg qO
theorem win_sep' {s:ByteArray} {j:Nat} {m:Int} {ms:List Match} {r:Res St} (h:(0:Int) < (ms.length:Int)) (he:must s ⟨#[44]⟩ ⟨j,m⟩=r):(if 0 < ms.length then must s ⟨#[44]⟩ ⟨j,m⟩ else .ok ⟨j,m⟩)=r:=by rw [if_pos qO,he]
theorem win_next {X:Res (List Match × St)} {s:ByteArray} {q:Nat} {ms:List Match} {a:Res St} {u:St} {r:Res (Match × St)} (hX:X=a.then fun u=>if ms.length=5 then .no (5,u.at_) else (match_ s u).then fun x=>winL s q (ms++[x.1]) x.2) (ha:a=.ok u) (h5:¬ (ms.length:Int)=5) (hm:match_ s u=r):X=r.then fun x=>winL s q (ms++[x.1]) x.2:=by
  rw [hX,ha,then_ok,if_neg qO,hm]
theorem win_many {X:Res (List Match × St)} {s:ByteArray} {q:Nat} {ms:List Match} {a:Res St} {u:St} (hX:X=a.then fun u=>if ms.length=5 then .no (5,u.at_) else (match_ s u).then fun x=>winL s q (ms++[x.1]) x.2) (ha:a=.ok u) (h5:(ms.length:Int)=5):X=.no (5,u.at_):=by
  rw [hX,ha,then_ok,if_pos qO]
theorem winL_size {s:ByteArray}:∀ (q:Nat) {ms:List Match} {t:St} {x:List Match × St},t.at_≤s.size→winL s q ms t=.ok x→(∀ m ∈ ms,m.key.size≤12∧m.val.size≤12)→∀ m ∈ x.1,m.key.size≤12∧m.val.size≤12
  | 0,_,_,_,_,h,_=>by cases h
  | q + 1, ms, t, x, ht, h, hms => by
    rw [winL] at h
    split at h
    · obtain rfl:=Res.ok.inj h; exact hms
    · obtain ⟨u,h1,h2⟩:=then_some h
      have h0:=(eat_le (s:=s) ⟨#[125]⟩ ht).2
      have hu:u.at_≤s.size:=by
        split at h1
        · exact ((must_fine (t:=t.go _) _ h0).ok_ h1).at_
        · obtain rfl:=Res.ok.inj h1; exact h0
      split at h2
      · cases h2
      · obtain ⟨y,h3,h4⟩:=then_some h2
        have hy:=match_size hu h3
        refine winL_size q ((match_fine hu).ok_ h3).at_ h4 fun m hm=>?_
        rcases List.mem_append.1 hm with hm | hm
        · exact hms m hm
        · rw [List.mem_singleton.1 hm]; exact hy
theorem by_done {X:Res (List ByteArray × St)} {s:ByteArray} {q k j:Nat} {m:Int} {l:List ByteArray} (hX:X=byL s (q + 1) l ⟨k,m⟩) (he:eat s ⟨#[44]⟩ k=(false,j)):X=.ok (l,⟨j,m⟩):=by
  rw [hX,byL]; simp only [he,if_false,St.go,Bool.false_eq_true]
theorem by_many {X:Res (List ByteArray × St)} {s:ByteArray} {q k j:Nat} {m:Int} {l:List ByteArray} (hX:X=byL s (q + 1) l ⟨k,m⟩) (he:eat s ⟨#[44]⟩ k=(true,j)) (h4:(l.length:Int)=4):X=.no (5,j):=by
  rw [hX,byL]; simp only [he,if_true]; rw [if_pos qO]
theorem by_next {X:Res (List ByteArray × St)} {s:ByteArray} {q k j:Nat} {m:Int} {l:List ByteArray} {r:Res (ByteArray × St)} (hX:X=byL s (q + 1) l ⟨k,m⟩) (he:eat s ⟨#[44]⟩ k=(true,j)) (h4:¬ (l.length:Int)=4) (hr:name s ⟨j,m⟩=r):X=r.then fun x=>byL s q (l++[x.1]) x.2:=by
  rw [hX,byL]; simp only [he,if_true,St.go]; rw [if_neg qO,hr]
theorem byL_size {s:ByteArray}:∀ (q:Nat) {l:List ByteArray} {t:St} {x:List ByteArray × St},t.at_≤s.size→byL s q l t=.ok x→(∀ m ∈ l,m.size≤12)→∀ m ∈ x.1,m.size≤12
  | 0,_,_,_,_,h,_=>by cases h
  | q + 1, l, t, x, ht, h, hl => by
    rw [byL] at h
    have h0:=(eat_le (s:=s) ⟨#[44]⟩ ht).2
    split at h
    · split at h
      · cases h
      · obtain ⟨y,h3,h4⟩:=then_some h
        have hy:=name_size (t:=t.go _) h0 h3
        refine byL_size q ((name_go h0).ok_ h3).at_ h4 fun m hm=>?_
        rcases List.mem_append.1 hm with hm | hm
        · exact hl m hm
        · rw [List.mem_singleton.1 hm]; exact hy
    · obtain rfl:=Res.ok.inj h; exact hl
section
variable {X:Res (Expr × St)} {s:ByteArray} {sub:St→Res (Expr × St)} {signs:List ByteArray} {q k j:Nat} {m:Int} {e:Expr} {wd:ByteArray}
theorem bin_done (hX:X=binL s sub signs (q + 1) e ⟨k,m⟩) (hp:pick s signs k=(⟨#[]⟩,j)):X=.ok (e,⟨j,m⟩):=by
  rw [hX,binL]; simp only [hp,if_true,St.go]
theorem bin_next {r:Res (Expr × St)} (hX:X=binL s sub signs (q + 1) e ⟨k,m⟩) (hp:pick s signs k=(wd,j)) (hw:wd≠⟨#[]⟩) (hr:sub ⟨j,m⟩=r):X=r.then fun f=>(node f.2).then fun u=>binL s sub signs q (.mk 4 0 0 wd [] [] [e,f.1]) u:=by
  rw [hX,binL]; simp only [hp,if_neg hw,St.go,hr]
theorem star1 {j:Nat} (h:eat s ⟨#[42]⟩ k=(true,j)):pick s star k=(⟨#[42]⟩,j):=by unfold star; simp only [pick,h,if_true]
theorem star0 {j:Nat} (h:eat s ⟨#[42]⟩ k=(false,j)):pick s star k=(⟨#[]⟩,j):=by unfold star; simp only [pick,h,if_false,Bool.false_eq_true]
theorem plus1 {j:Nat} (h:eat s ⟨#[43]⟩ k=(true,j)):pick s plus k=(⟨#[43]⟩,j):=by unfold plus; simp only [pick,h,if_true]
theorem minus1 {j j':Nat} (h:eat s ⟨#[43]⟩ k=(false,j)) (h':eat s ⟨#[45]⟩ j=(true,j')):pick s plus k=(⟨#[45]⟩,j'):=by unfold plus; simp only [pick,h,h',if_true,if_false,Bool.false_eq_true]
theorem plus0 {j j':Nat} (h:eat s ⟨#[43]⟩ k=(false,j)) (h':eat s ⟨#[45]⟩ j=(false,j')):pick s plus k=(⟨#[]⟩,j'):=by unfold plus; simp only [pick,h,h',if_false,Bool.false_eq_true]
end
theorem okZero (S:Nat→Prop) (w:World):zB.Ok S (.mk 0 0 0 ⟨#[]⟩ ⟨none,0,[]⟩ ⟨none,0,[]⟩ ⟨none,0,[]⟩) w :=
  .mk (zD.zt _ _ _ _) (zD.zt _ _ _ _) (zD.zt _ _ _ _) (fun x hx=>by cases hx) ⟨by decide,fun x hx=>(by cases hx),fun x hx=>(by cases hx)⟩
theorem parse_big {s:ByteArray} (h:(2000:Int) < (s.size:Int)):parse s=(none_,(4,0)):=if_pos qO
theorem parse_no {s:ByteArray} {f:F} (h:¬ (2000:Int) < (s.size:Int)) (hx:xpr s 20 ⟨0,0⟩=.no f):parse s=(none_,f):=by unfold parse; rw [if_neg qO,hx]
theorem parse_form {s:ByteArray} {x:Expr} {j k:Nat} {m:Int} (h:¬ (2000:Int) < (s.size:Int)) (hx:xpr s 20 ⟨0,0⟩=.ok (x,⟨j,m⟩)) (hb:blank s j=k) (hk:k < s.size):parse s=(none_,((2:Int),(k:Int))):=by
  unfold parse; rw [if_neg qO,hx]; simp only [hb,if_pos hk]
theorem parse_much {s:ByteArray} {x:Expr} {j k:Nat} {m:Int} (h:¬ (2000:Int) < (s.size:Int)) (hx:xpr s 20 ⟨0,0⟩=.ok (x,⟨j,m⟩)) (hb:blank s j=k) (hk:¬ k < s.size) (hw:(Lg.shape x 1 0).1≠0):parse s=(none_,((4:Int),(k:Int))):=by
  unfold parse; rw [if_neg qO,hx]; simp only [hb,if_neg hk]; rw [if_pos (show Lg.wrong x≠0 from hw)]
theorem parse_ok {s:ByteArray} {x:Expr} {j k:Nat} {m:Int} (h:¬ (2000:Int) < (s.size:Int)) (hx:xpr s 20 ⟨0,0⟩=.ok (x,⟨j,m⟩)) (hb:blank s j=k) (hk:¬ k < s.size) (hw:¬ (Lg.shape x 1 0).1≠0):parse s=(x,(0,0)):=by
  unfold parse; rw [if_neg qO,hx]; simp only [hb,if_neg hk]; rw [if_neg (show ¬ Lg.wrong x≠0 from hw)]
end Pz
end
section
namespace Ex
class FlatI (P:Program) (T:TypeId):Prop where h:flatT P T=true
class AggI (P:Program) (T:TypeId):Prop where h:aggT P T=true
class InfI (P:Program) (T:TypeId) (k b:outParam Nat) (z:outParam Value):Prop where h:Inf P T k b z
class FldI (P:Program) (T fs:Nat) (o:outParam Nat):Prop where h:fldAt P T fs=some o
class PlI (P:Program) (T:TypeId) (l:outParam (List (Nat × Nat))):Prop where h:placesOf P T=some l
class SliI (P:Program) (T:TypeId) (e:outParam TypeId):Prop where h:P.underlying T=some (.slice e)
class StrI (P:Program) (T:TypeId):Prop where h:P.underlying T=some .string
class MixI (P:Program):Prop where h:P.follows .mixedOrders=true
section
variable {P:Program} {N:Nat} {D:List Deferred} {E:Env} {S:World→Prop} {Q:Exit→Act→World→Prop} {w0:World} {M:Fp} {L:List Own} {ops:Array Oper} {rest:List Oper} {T ty:TypeId} {v u:Value} {x y:Operand} {op:Op}
  {α:Type} {Sb:Nat→Prop} {k:Nat} {enc:α→List Value} {l:List α} {A:Option Addr} {c len:Nat} {ad:Addr}
def Th (P:Program) (y:Code) (Q:Exit→Act→World→Prop):Exit→Act→World→Prop:=Exit.then (fun a w=>y.wp P Q a w) Q
theorem c_sq {x y:Code} (h:WC P N D x (Th P y Q) E S):WC P N D (.seq x y) Q E S:=fun w hw a ha=>wp_seq (h w hw a ha)
theorem e_gT {y:Code} (h:WC P N D y Q E S):WE N D (Th P y Q) .normal E S:=fun w hw a ha=>h w hw a ha
def Tl (P:Program) (ops:Array Oper) (Q:Exit→Act→World→Prop) (l:List Oper):Act→World→Prop:=fun a w=>wpList P ops Q l a w
theorem uH {id:Nat} {l:List Oper} (n:Nat) (h:WQ P N D l.toArray (Tl P l.toArray Q (l.drop n)) (l.take n) E S) (hB:Region.lexTailB .any l.toArray n=true:=by kernel_rfl) (hm:P.follows .mixedOrders=true:=by exact MixI.h) (hd:∀ w,S w→S w.drew:=by exact fun _ h=>h.drew):WC P N D (.region id l.toArray true) Q E S :=
  fun w hw a ha=>wp_region_quiet_tail (C:=S) n hm hB (hd w hw) (h a ha)
theorem q_tl (h:WL P N D ops Q rest E S):WQ P N D ops (Tl P ops Q rest) [] E S:=q_nil fun w hw a ha=>h w hw a ha
theorem bx0 {o:Own}:(o::L)[0]?=some o:=rfl
theorem bxS {i:Nat} {o p:Own} (h:L[i]?=some o):(p::L)[i + 1]?=some o:=by simpa using h
theorem r_lbw (i:Nat) {b k1 by1:Nat} {z1:Value} {cs:List Value} {t:TypeId} (hx:ev E x=some (.pointer (some ⟨b,0,none⟩))) (hL:L[i]?=some (.blk b cs t)) (hl:cs.length=k1) (hg:aggT P T=true) (hs:Inf P T k1 by1 z1) :
    Runs P N D E (Mem w0 M L) (.load T x) ty (.agg cs.toArray):=jY i cs hx hL (by subst hl; simp) hl hg hs
theorem r_ldbw (i:Nat) {b k1 by1:Nat} {z1:Value} {cs:List Value} {t:TypeId} (hx:ev E x=some (.pointer (some ⟨b,0,none⟩))) (hL:L[i]?=some (datB b cs t)) (hl:cs.length=k1) (hg:aggT P T=true) (hs:Inf P T k1 by1 z1) :
    Runs P N D E (Mem w0 M L) (.load T x) ty (.agg cs.toArray):=r_ldbn i cs hx hL (by subst hl; simp) hl hg hs
theorem r_pl' (q:Nat) {i j:Nat} {e:α} (hx:ev E x=some (.pointer (some ((ad.add (i * k)).add j)))) (hA:A=some ad) (hL:L[q]?=some (slP k enc (.slice A len c) l)) (hi:l[i]?=some e) (hj:(enc e)[j]?=some u) (hf:flatT P T=true):Runs P N D E (Mem w0 M L) (.load T x) ty u:=r_pl q hx hL hA hi hj hf
theorem r_el' (q:Nat) {i j:Nat} {e:α} (hx:ev E x=some (.pointer (some ((ad.add (i * k)).add j)))) (hA:A=some ad) (hL:L[q]?=some (slO Sb k enc (.slice A len c) l)) (hi:l[i]?=some e) (hj:(enc e)[j]?=some u) (hf:flatT P T=true):Runs P N D E (Mem w0 M L) (.load T x) ty u:=r_el q hx hL hA hi hj hf
theorem r_plw (q:Nat) {i k1 by1:Nat} {z1:Value} {e:α} (hx:ev E x=some (.pointer (some ((ad.add (i * k)).add 0)))) (hA:A=some ad) (hL:L[q]?=some (slP k enc (.slice A len c) l)) (hi:l[i]?=some e) (hl:(enc e).length=k1) (hg:aggT P T=true) (hs:Inf P T k1 by1 z1) :
    Runs P N D E (Mem w0 M L) (.load T x) ty (.agg (enc e).toArray):=ja q (enc e) hx hL hA hi (by subst hl; simp) hl hg hs
theorem r_elw (q:Nat) {i k1 by1:Nat} {z1:Value} {e:α} (hx:ev E x=some (.pointer (some ((ad.add (i * k)).add 0)))) (hA:A=some ad) (hL:L[q]?=some (slO Sb k enc (.slice A len c) l)) (hi:l[i]?=some e) (hl:(enc e).length=k1) (hg:aggT P T=true) (hs:Inf P T k1 by1 z1) :
    Runs P N D E (Mem w0 M L) (.load T x) ty (.agg (enc e).toArray):=r_eln q (enc e) hx hL hA hi (by subst hl; simp) hl hg hs
theorem r_pln' (q:Nat) {i j k1 by1:Nat} {z1:Value} {e:α} {vs:List Value} (hx:ev E x=some (.pointer (some ((ad.add (i * k)).add j)))) (hA:A=some ad) (hL:L[q]?=some (slP k enc (.slice A len c) l)) (hi:l[i]?=some e) (hv:((enc e).drop j).take k1=vs) (hl:vs.length=k1) (hg:aggT P T=true) (hs:Inf P T k1 by1 z1) :
    Runs P N D E (Mem w0 M L) (.load T x) ty (.agg vs.toArray):=ja q vs hx hL hA hi hv hl hg hs
theorem r_eln' (q:Nat) {i j k1 by1:Nat} {z1:Value} {e:α} {vs:List Value} (hx:ev E x=some (.pointer (some ((ad.add (i * k)).add j)))) (hA:A=some ad) (hL:L[q]?=some (slO Sb k enc (.slice A len c) l)) (hi:l[i]?=some e) (hv:((enc e).drop j).take k1=vs) (hl:vs.length=k1) (hg:aggT P T=true) (hs:Inf P T k1 by1 z1) :
    Runs P N D E (Mem w0 M L) (.load T x) ty (.agg vs.toArray):=r_eln q vs hx hL hA hi hv hl hg hs
theorem elx (hA:l≠[]→∃ ad,A=some ad) (i:Nat) (hi:i < l.length:=by first | omega | (simp <;> omega)):∃ ad s,A=some ad∧l[i]?=some s:=by
  obtain ⟨ad,hd⟩:=hA (ne_nil hi)
  exact ⟨ad,_,hd,List.getElem?_eq_getElem hi⟩
theorem gx (l:List α) (i:Nat) (hi:i < l.length:=by first | omega | (simp <;> omega)):∃ s,l[i]?=some s:=⟨_,List.getElem?_eq_getElem hi⟩
def Fu (n:Nat):Prop:=0≤n
theorem Fu.dec {n:Nat} (_:Fu (n + 1)):Fu n:=Nat.zero_le n
structure Wr (R:Prop):Prop where h:R
theorem rr (h : Runs P N D E S op ty v := by first
    | (show Runs _ _ _ _ _ (.move _) _ _; exact ui rfl)
    | (show Runs _ _ _ _ _ (.load _ _) _ _; first | exact uG _ rfl (by repeat (first | exact bx0 | apply bxS)) (by rfl) FlatI.h | exact r_lbw _ rfl (by repeat (first | exact bx0 | apply bxS)) (by rfl) AggI.h InfI.h | exact r_plw _ rfl (by first | assumption | rfl) (by repeat (first | exact bx0 | apply bxS)) (by first | assumption | rfl) (by rfl) AggI.h InfI.h | exact r_pl' _ rfl (by first | assumption | rfl) (by repeat (first | exact bx0 | apply bxS)) (by first | assumption | rfl) (by rfl) FlatI.h | exact r_elw _ rfl (by first | assumption | rfl) (by repeat (first | exact bx0 | apply bxS)) (by first | assumption | rfl) (by rfl) AggI.h InfI.h | exact r_el' _ rfl (by first | assumption | rfl) (by repeat (first | exact bx0 | apply bxS)) (by first | assumption | rfl) (by rfl) FlatI.h | exact r_ldb _ rfl (by repeat (first | exact bx0 | apply bxS)) (by rfl) FlatI.h | exact r_ldbw _ rfl (by repeat (first | exact bx0 | apply bxS)) (by rfl) AggI.h InfI.h | exact uc _ rfl (by repeat (first | exact bx0 | apply bxS)) (by rfl) FlatI.h | exact r_celL _ rfl (by repeat (first | exact bx0 | apply bxS)) (by rfl) FlatI.h | exact jY _ _ rfl (by repeat (first | exact bx0 | apply bxS)) (by rfl) (by rfl) AggI.h InfI.h | exact r_ldbn _ _ rfl (by repeat (first | exact bx0 | apply bxS)) (by rfl) (by rfl) AggI.h InfI.h | exact r_pln' _ rfl (by first | assumption | rfl) (by repeat (first | exact bx0 | apply bxS)) (by first | assumption | rfl) (by rfl) (by rfl) AggI.h InfI.h | exact r_eln' _ rfl (by first | assumption | rfl) (by repeat (first | exact bx0 | apply bxS)) (by first | assumption | rfl) (by rfl) (by rfl) AggI.h InfI.h)
    | (show Runs _ _ _ _ _ (.fieldAddr _ _ _) _ _; first | exact ux rfl FldI.h | exact ud rfl FldI.h)
    | (show Runs _ _ _ _ _ (.assign _) _ _; exact r_assign rfl)
    | (show Runs _ _ _ _ _ (.binOp _ _ _ _ _) _ _; first | (show Runs _ _ _ _ _ (.binOp .eql _ _ _ _) _ _; first | exact jE rfl rfl | exact r_seql rfl rfl) | (show Runs _ _ _ _ _ (.binOp .lss _ _ _ _) _ _; first | exact jW rfl rfl | exact r_slss' rfl rfl) | (show Runs _ _ _ _ _ (.binOp .add _ _ _ _) _ _; exact uF rfl rfl (by omega)) | (show Runs _ _ _ _ _ (.binOp .neq _ _ _ _) _ _; first | exact jF rfl rfl | exact r_sneq rfl rfl) | (show Runs _ _ _ _ _ (.binOp .leq _ _ _ _) _ _; first | exact r_leq rfl rfl | exact r_sleq' rfl rfl) | (show Runs _ _ _ _ _ (.binOp .gtr _ _ _ _) _ _; first | exact jX rfl rfl | exact r_sgtr' rfl rfl) | (show Runs _ _ _ _ _ (.binOp .geq _ _ _ _) _ _; first | exact r_geq rfl rfl | exact r_sgeq' rfl rfl) | (show Runs _ _ _ _ _ (.binOp .sub _ _ _ _) _ _; exact jK rfl rfl (by omega)) | (show Runs _ _ _ _ _ (.binOp .mul _ _ _ _) _ _; exact r_muln rfl rfl (by omega)) | (show Runs _ _ _ _ _ (.binOp .quo _ _ _ _) _ _; exact r_quon rfl rfl (by omega) (by omega)) | (show Runs _ _ _ _ _ (.binOp .rem _ _ _ _) _ _; exact r_remn rfl rfl (by omega) (by omega)))
    | (show Runs _ _ _ _ _ (.extract _ _) _ _; exact uS rfl rfl)
    | (show Runs _ _ _ _ _ (.indexAddr _ _ _) _ _; exact yx rfl (by first | assumption | rfl) rfl (by rfl) (by first | omega | (simp <;> omega)) SliI.h InfI.h)
    | (show Runs _ _ _ _ _ (.call _) _ _; first | exact jG rfl SliI.h | exact r_slen rfl StrI.h | exact r_min rfl rfl | exact ua rfl rfl)
    | (show Runs _ _ _ _ _ (.build _ _) _ _; exact uy _ PlI.h InfI.h rfl rfl)
    | (show Runs _ _ _ _ _ (.pick _ _ _) _ _; exact vX rfl rfl)
    | (show Runs _ _ _ _ _ (.unOp _ _ _) _ _; exact r_not rfl)
    | (show Runs _ _ _ _ _ (.nilCheck _) _ _; exact ye rfl)):Runs P N D E S op ty v:=h
theorem go (n:Nat) {G R:Prop} (hs:Fu n→Wr R→G:=by
    intro f9 h9
    repeat (replace f9:=f9.dec; first
      | (show WL _ _ _ _ _ (⟨some _,_,_,_,_,none⟩::_) _ _; refine zb rr ?_)
      | (show WQ _ _ _ _ _ (⟨some _,_,_,_,_,none⟩::_) _ _; refine yk rr ?_)
      | (show WC _ _ _ _ _ _ _; first | refine c_sq ?_ | refine zl ?_ | refine vU ?_ | refine vm ?_ | refine uE ?_ | refine vp ?_ | refine y8 rfl rfl ?_ | refine yc rfl rfl ?_ | refine c_quiet MixI.h (by kernel_rfl) (fun _ h=>h.drew) ?_)
      | (show WE _ _ _ _ _ _; first | refine e_gT ?_ | refine vC ?_ | refine yt ?_ | refine yG ?_ | refine uR ?_ | refine vD ?_ | refine e_in_miss rfl ?_)
      | (show WL _ _ _ _ _ [] _ _; refine zU ?_)
      | (show WS _ _ _ _ _ _ (⟨some _,_,_,_,_,none⟩::_) _; refine uo rr ?_)
      | (show WL _ _ _ _ _ (⟨none,_,_,_,_,none⟩::_) _ _; first | refine jo _ wn rfl rfl (by repeat (first | exact bx0 | apply bxS)) (by rfl) InfI.h (by rfl) (by rfl) ?_ | refine ut _ wn rfl rfl (by repeat (first | exact bx0 | apply bxS)) InfI.h (by rfl) (by rfl) (by rfl) ?_)
      | (show WL _ _ _ _ _ (⟨some _,_,_,_,_,some _⟩::_) _ _; first | refine vM ?_ | refine y9 rr ?_ | refine l_skip (wu rfl rfl) rfl ?_)
      | (show WQ _ _ _ _ _ (⟨some _,_,_,_,_,some _⟩::_) _ _; first | refine q_sk ?_ | refine vd rr ?_ | refine q_skip (wu rfl rfl) rfl ?_)
      | (show WQ _ _ _ _ _ [] _ _; first | refine q_end ?_ | refine q_tl ?_)
      | (show WS _ _ _ _ _ _ (⟨some _,_,_,_,_,some _⟩::_) _; first | refine s_skip (wg rfl rfl rfl) rfl ?_ | refine s_val (wg rfl rfl rfl) rr rfl ?_ | refine s_skip (wu rfl rfl) rfl ?_)
      | (show WL _ _ _ _ _ (⟨none,_,_,_,_,some _⟩::_) _ _; first | refine jo _ (wg rfl rfl rfl) rfl rfl (by repeat (first | exact bx0 | apply bxS)) (by rfl) InfI.h (by rfl) (by rfl) ?_ | refine ut _ (wg rfl rfl rfl) rfl rfl (by repeat (first | exact bx0 | apply bxS)) InfI.h (by rfl) (by rfl) (by rfl) ?_))
    exact h9.h):R→G:=fun h=>hs (Nat.zero_le n) ⟨h⟩
section
variable {d:Nat} {pos:String} {aft:Array Edge} {g:Option (Nat × Bool)} {f by1:Nat} {zv:Value} {args:Array Operand} {ts:Array TypeId} {vs cap zs:List Value} {p:Prop} [Decidable p] {t:Nat} {b:Bool} {K:Act→World→Prop}
def jR (L:List Own) (is:List Nat):List Own:=is.filterMap fun i=>L[i]?
theorem zX {c:Operand} {x y:Code} (ht:p→WC P N D x Q E S) (hf:¬ p→WC P N D y Q E S) (hc:ev E c=some (.bool (decide p)):=by rfl):WC P N D (.cond c x y) Q E S:=vG hc ht hf
theorem yb {c:Operand} {x y:Code} (ht:b=true→WC P N D x Q E S) (hf:b=false→WC P N D y Q E S) (hc:ev E c=some (.bool b):=by rfl):WC P N D (.cond c x y) Q E S:=c_condb hc ht hf
theorem yN (t:Nat) (h1:p→WL P N D ops Q rest ((t,.bool true)::E) S) (h2:¬ p→WL P N D ops Q rest ((t,.bool false)::E) S) (hl:look E t=some (.bool (decide p)):=by rfl):WL P N D ops Q rest E S:=uh hl h1 h2
theorem va (t:Nat) (h1:p→WQ P N D ops K rest ((t,.bool true)::E) S) (h2:¬ p→WQ P N D ops K rest ((t,.bool false)::E) S) (hl:look E t=some (.bool (decide p)):=by rfl):WQ P N D ops K rest E S:=q_case hl h1 h2
theorem jJ (t:Nat) (h1:b=true→WL P N D ops Q rest ((t,.bool true)::E) S) (h2:¬ b=true→WL P N D ops Q rest ((t,.bool false)::E) S) (hl:look E t=some (.bool b):=by rfl):WL P N D ops Q rest E S:=l_caseb hl h1 h2
theorem jx (t:Nat) (h1:b=true→WQ P N D ops K rest ((t,.bool true)::E) S) (h2:¬ b=true→WQ P N D ops K rest ((t,.bool false)::E) S) (hl:look E t=some (.bool b):=by rfl):WQ P N D ops K rest E S:=q_caseb hl h1 h2
theorem y7 (v:Value) (h:WL P N D ops Q rest ((d,v)::E) S):WL P N D ops Q rest ((d,v)::E) S:=h
theorem zz {k:Nat} (h:∀ b,WL P N D ops Q rest ((d,.pointer (some ⟨b,0,none⟩))::E) (Mem w0 M (.blk b zs T::L))) (hw:Want N D ops E g true:=by first | exact wn | exact wg rfl rfl rfl) (hs:Inf P T k by1 (.agg zs.toArray):=by exact InfI.h) (hd:Nat.blt d N=true:=by rfl):WL P N D ops Q (⟨some d,.alloc T,ty,pos,aft,g⟩::rest) E (Mem w0 M L):=uz hw hs hd h
theorem l_aO {k:Nat} (h:∀ b,WL P N D ops Q rest ((d,.pointer (some ⟨b,0,none⟩))::E) (Mem w0 M (.blk b [zv] T::L))) (hw:Want N D ops E g true:=by first | exact wn | exact wg rfl rfl rfl) (hs:Inf P T k by1 zv:=by exact InfI.h) (hz:zv.cells=#[zv]:=by rfl) (hd:Nat.blt d N=true:=by rfl):WL P N D ops Q (⟨some d,.alloc T,ty,pos,aft,g⟩::rest) E (Mem w0 M L):=l_alloc1 hw hs hz hd h
theorem yu (h:∀ b,WL P N D ops Q rest ((d,.pointer (some ⟨b,0,none⟩))::E) (Mem w0 M (.blk b vs T::L))) (hw:Want N D ops E g true:=by first | exact wn | exact wg rfl rfl rfl) (hx:ev E x=some (.agg vs.toArray):=by rfl) (hd:Nat.blt d N=true:=by rfl):WL P N D ops Q (⟨some d,.box T x,ty,pos,aft,g⟩::rest) E (Mem w0 M L):=jn hw hx hd h
theorem jj (h:∀ b,WL P N D ops Q rest ((d,.pointer (some ⟨b,0,none⟩))::E) (Mem w0 M (.blk b [v] T::L))) (hw:Want N D ops E g true:=by first | exact wn | exact wg rfl rfl rfl) (hx:ev E x=some v:=by rfl) (hz:v.cells=#[v]:=by rfl) (hd:Nat.blt d N=true:=by rfl):WL P N D ops Q (⟨some d,.box T x,ty,pos,aft,g⟩::rest) E (Mem w0 M L):=l_box1 hw hx hz hd h
section
variable {fn:Func} {R:Ending→World→Prop} {r r1 r2 r3:ResultVar} {v1 v2 v3:Value} {e:Exit}
theorem rvv {r:ResultVar} (h:ResV P N D E S r v:=by first | exact vH rfl | exact yz _ rfl (by repeat (first | exact bx0 | apply bxS)) AggI.h InfI.h (by rfl)):ResV P N D E S r v:=h
theorem zY (hr:fn.results=#[r]) (hR:∀ w,S w→R (.returned v) w) (he:e=.ret∨e=.normal:=by first | exact .inl rfl | exact .inr rfl) (hv:ResV P N [] E S r v:=by exact rvv):WE N [] (bodyPost P fn R) e E S:=vI he hr hv hR
theorem yL (hr:fn.results=#[r1,r2]) (hR:∀ w,S w→R (.returned (.tuple #[v1,v2])) w) (he:e=.ret∨e=.normal:=by first | exact .inl rfl | exact .inr rfl) (h1:ResV P N [] E S r1 v1:=by exact rvv) (h2:ResV P N [] E S r2 v2:=by exact rvv):WE N [] (bodyPost P fn R) e E S:=e_ret2 he hr h1 h2 hR
theorem u7 (hr:fn.results=#[r1,r2,r3]) (hR:∀ w,S w→R (.returned (.tuple #[v1,v2,v3])) w) (he:e=.ret∨e=.normal:=by first | exact .inl rfl | exact .inr rfl) (h1:ResV P N [] E S r1 v1:=by exact rvv) (h2:ResV P N [] E S r2 v2:=by exact rvv) (h3:ResV P N [] E S r3 v3:=by exact rvv):WE N [] (bodyPost P fn R) e E S:=e_ret3 he hr h1 h2 h3 hR
theorem zr {c:Code} {vals:List Value} {w:World} (hf:P.funcs[f]?=some fn) (hS:Mem w M L w) (h:WC P N [] c (bodyPost P fn R) (envOf 0 vals) (Mem w M L)) (hb:fn.body=some c:=by rfl) (hn:fn.ntmps=N:=by rfl) (hl:Nat.ble vals.length N=true:=by rfl):Calls P f vals.toArray w R:=fstart hf hb hn hl hS h
end
theorem yH (hcall:∀ vs w,(callFunc f vs).run P w=.ok (.enter f vs) w) (hw:Want N D ops E g true) (hargs:evs E args.toList=some vs) (hc:∀ w,Mem w0 M L w→Calls P f vs.toArray w (Ret w v)) (h:WL P N D ops Q rest ((d,v)::E) (Mem w0 M L)) (hd:Nat.blt d N=true:=by rfl) :
    WL P N D ops Q (⟨some d,.call { callee:=.value (.func f),args:=args,argTypes:=ts },ty,pos,aft,g⟩::rest) E (Mem w0 M L):=uJ hw hargs hcall hd hc h
theorem l_gA {α:Type} {A:List Own} {mk:α→Value} {pure:α→Prop} {A':α→List Own} (ia ir:List Nat) (hw:Want N D ops E g true) (hx:ev E x=some (.func (.func f) #[] cap.toArray)) (hargs:evs E args.toList=some vs) (hcall:∀ vs w,(callFunc f vs).run P w=.ok (.enter f vs) w)
    (hc:∀ w Pb,Mem w ⟨fpOf A,Pb⟩ A w→Calls P f (vs++cap).toArray w (RetA w A Pb mk pure A')) (h:∀ z,pure z→WL P N D ops Q rest ((d,mk z)::E) (Mem w0 M (A' z++jR L ir)))
    (hn:(ia++ir).Nodup:=by decide) (he:(A++jR L ir).map some=(ia++ir).map (fun i=>L[i]?):=by rfl) (hq:∀ z,(A' z).all (fun o=>o.mut || o.isPub)=true:=by exact fun _=>rfl) (hd:Nat.blt d N=true:=by rfl) :
    WL P N D ops Q (⟨some d,.call { callee:=.value x,args:=args,argTypes:=ts },ty,pos,aft,g⟩::rest) E (Mem w0 M L) :=
  yM A (jR L ir) mk pure A' _ (fun _=>rfl) (fun _ h=>h.sel (ia++ir) hn he) hq hw hx hargs hcall hd hc h
theorem l_gX {α:Type} {A:List Own} {PT:Nat} {mk:α→Value} {pure:α→Prop} {A':α→List Own} {bad:Pz.F→Prop} (ia ir:List Nat) (hw:Want N D ops E g true) (hx:ev E x=some (.func (.func f) #[] cap.toArray)) (hargs:evs E args.toList=some vs) (hcall:∀ vs w,(callFunc f vs).run P w=.ok (.enter f vs) w)
    (hc:∀ w Pb,Mem w ⟨fpOf A,Pb⟩ A w→Calls P f (vs++cap).toArray w (RetX w A Pb PT mk pure A' bad)) (hb:∀ f,bad f→WE N D Q (.panic (pan PT f)) E (Mem w0 M (jR L ir))) (h:∀ z,pure z→WL P N D ops Q rest ((d,mk z)::E) (Mem w0 M (A' z++jR L ir)))
    (hn:(ia++ir).Nodup:=by decide) (he:(A++jR L ir).map some=(ia++ir).map (fun i=>L[i]?):=by rfl) (hq:∀ z,(A' z).all (fun o=>o.mut || o.isPub)=true:=by exact fun _=>rfl) (hd:Nat.blt d N=true:=by rfl) :
    WL P N D ops Q (⟨some d,.call { callee:=.value x,args:=args,argTypes:=ts },ty,pos,aft,g⟩::rest) E (Mem w0 M L) :=
  zZ A (jR L ir) mk pure A' _ bad (fun _=>rfl) (fun _ h=>h.sel (ia++ir) hn he) hq hw hx hargs hcall hd hc hb h
end
end
end Ex
end
section
set_option maxRecDepth 100000
instance:Ex.AggI Tryz.prog 163:=⟨by kernel_rfl⟩
instance:Ex.AggI Tryz.prog 172:=⟨by kernel_rfl⟩
instance:Ex.AggI Tryz.prog 179:=⟨by kernel_rfl⟩
instance:Ex.AggI Tryz.prog 217:=⟨by kernel_rfl⟩
instance:Ex.AggI Tryz.prog 25:=⟨by kernel_rfl⟩
instance:Ex.AggI Tryz.prog 34:=⟨by kernel_rfl⟩
instance:Ex.AggI Tryz.prog 41:=⟨by kernel_rfl⟩
instance:Ex.AggI Tryz.prog 43:=⟨by kernel_rfl⟩
instance:Ex.AggI Tryz.prog 50:=⟨by kernel_rfl⟩
instance:Ex.AggI Tryz.prog 59:=⟨by kernel_rfl⟩
instance:Ex.AggI Tryz.prog 61:=⟨by kernel_rfl⟩
instance:Ex.AggI Tryz.prog 74:=⟨by kernel_rfl⟩
instance:Ex.AggI Tryz.prog 81:=⟨by kernel_rfl⟩
instance:Ex.AggI Tryz.prog 89:=⟨by kernel_rfl⟩
instance:Ex.FlatI Tryz.prog 170:=⟨by kernel_rfl⟩
instance:Ex.FlatI Tryz.prog 23:=⟨by kernel_rfl⟩
instance:Ex.FlatI Tryz.prog 27:=⟨by kernel_rfl⟩
instance:Ex.FlatI Tryz.prog 3:=⟨by kernel_rfl⟩
instance:Ex.FlatI Tryz.prog 32:=⟨by kernel_rfl⟩
instance:Ex.FlatI Tryz.prog 39:=⟨by kernel_rfl⟩
instance:Ex.FlatI Tryz.prog 4:=⟨by kernel_rfl⟩
instance:Ex.FlatI Tryz.prog 47:=⟨by kernel_rfl⟩
instance:Ex.FlatI Tryz.prog 48:=⟨by kernel_rfl⟩
instance:Ex.FlatI Tryz.prog 55:=⟨by kernel_rfl⟩
instance:Ex.FlatI Tryz.prog 56:=⟨by kernel_rfl⟩
instance:Ex.FlatI Tryz.prog 57:=⟨by kernel_rfl⟩
instance:Ex.FlatI Tryz.prog 9:=⟨by kernel_rfl⟩
instance:Ex.FlatI Tryz.prog 91:=⟨by kernel_rfl⟩
instance:Ex.FlatI Tryz.prog 95:=⟨by kernel_rfl⟩
instance:Ex.FldI Tryz.prog 114 0 0:=⟨by kernel_rfl⟩
instance:Ex.FldI Tryz.prog 114 1 1:=⟨by kernel_rfl⟩
instance:Ex.FldI Tryz.prog 114 2 2:=⟨by kernel_rfl⟩
instance:Ex.FldI Tryz.prog 163 0 0:=⟨by kernel_rfl⟩
instance:Ex.FldI Tryz.prog 163 1 1:=⟨by kernel_rfl⟩
instance:Ex.FldI Tryz.prog 164 0 0:=⟨by kernel_rfl⟩
instance:Ex.FldI Tryz.prog 164 1 1:=⟨by kernel_rfl⟩
instance:Ex.FldI Tryz.prog 164 2 2:=⟨by kernel_rfl⟩
instance:Ex.FldI Tryz.prog 172 0 0:=⟨by kernel_rfl⟩
instance:Ex.FldI Tryz.prog 172 1 1:=⟨by kernel_rfl⟩
instance:Ex.FldI Tryz.prog 172 2 2:=⟨by kernel_rfl⟩
instance:Ex.FldI Tryz.prog 176 0 0:=⟨by kernel_rfl⟩
instance:Ex.FldI Tryz.prog 176 1 1:=⟨by kernel_rfl⟩
instance:Ex.FldI Tryz.prog 179 0 0:=⟨by kernel_rfl⟩
instance:Ex.FldI Tryz.prog 179 1 1:=⟨by kernel_rfl⟩
instance:Ex.FldI Tryz.prog 179 2 2:=⟨by kernel_rfl⟩
instance:Ex.FldI Tryz.prog 217 0 0:=⟨by kernel_rfl⟩
instance:Ex.FldI Tryz.prog 217 1 1:=⟨by kernel_rfl⟩
instance:Ex.FldI Tryz.prog 217 2 2:=⟨by kernel_rfl⟩
instance:Ex.FldI Tryz.prog 25 0 0:=⟨by kernel_rfl⟩
instance:Ex.FldI Tryz.prog 25 1 1:=⟨by kernel_rfl⟩
instance:Ex.FldI Tryz.prog 34 0 0:=⟨by kernel_rfl⟩
instance:Ex.FldI Tryz.prog 34 2 2:=⟨by kernel_rfl⟩
instance:Ex.FldI Tryz.prog 34 3 3:=⟨by kernel_rfl⟩
instance:Ex.FldI Tryz.prog 41 0 0:=⟨by kernel_rfl⟩
instance:Ex.FldI Tryz.prog 41 1 1:=⟨by kernel_rfl⟩
instance:Ex.FldI Tryz.prog 43 0 0:=⟨by kernel_rfl⟩
instance:Ex.FldI Tryz.prog 43 1 1:=⟨by kernel_rfl⟩
instance:Ex.FldI Tryz.prog 43 2 2:=⟨by kernel_rfl⟩
instance:Ex.FldI Tryz.prog 43 3 3:=⟨by kernel_rfl⟩
instance:Ex.FldI Tryz.prog 43 4 4:=⟨by kernel_rfl⟩
instance:Ex.FldI Tryz.prog 43 5 6:=⟨by kernel_rfl⟩
instance:Ex.FldI Tryz.prog 50 0 0:=⟨by kernel_rfl⟩
instance:Ex.FldI Tryz.prog 50 1 1:=⟨by kernel_rfl⟩
instance:Ex.FldI Tryz.prog 50 2 2:=⟨by kernel_rfl⟩
instance:Ex.FldI Tryz.prog 50 3 3:=⟨by kernel_rfl⟩
instance:Ex.FldI Tryz.prog 50 4 4:=⟨by kernel_rfl⟩
instance:Ex.FldI Tryz.prog 50 5 5:=⟨by kernel_rfl⟩
instance:Ex.FldI Tryz.prog 50 6 6:=⟨by kernel_rfl⟩
instance:Ex.FldI Tryz.prog 50 7 7:=⟨by kernel_rfl⟩
instance:Ex.FldI Tryz.prog 50 8 8:=⟨by kernel_rfl⟩
instance:Ex.FldI Tryz.prog 59 0 0:=⟨by kernel_rfl⟩
instance:Ex.FldI Tryz.prog 59 1 1:=⟨by kernel_rfl⟩
instance:Ex.FldI Tryz.prog 59 2 2:=⟨by kernel_rfl⟩
instance:Ex.FldI Tryz.prog 59 3 3:=⟨by kernel_rfl⟩
instance:Ex.FldI Tryz.prog 59 4 4:=⟨by kernel_rfl⟩
instance:Ex.FldI Tryz.prog 59 5 5:=⟨by kernel_rfl⟩
instance:Ex.FldI Tryz.prog 59 6 6:=⟨by kernel_rfl⟩
instance:Ex.FldI Tryz.prog 61 0 0:=⟨by kernel_rfl⟩
instance:Ex.FldI Tryz.prog 61 1 1:=⟨by kernel_rfl⟩
instance:Ex.FldI Tryz.prog 74 0 0:=⟨by kernel_rfl⟩
instance:Ex.FldI Tryz.prog 74 1 1:=⟨by kernel_rfl⟩
instance:Ex.FldI Tryz.prog 81 0 0:=⟨by kernel_rfl⟩
instance:Ex.FldI Tryz.prog 81 1 1:=⟨by kernel_rfl⟩
instance:Ex.FldI Tryz.prog 89 0 0:=⟨by kernel_rfl⟩
instance:Ex.FldI Tryz.prog 89 1 1:=⟨by kernel_rfl⟩
instance:Ex.FldI Tryz.prog 89 2 2:=⟨by kernel_rfl⟩
instance:Ex.FldI Tryz.prog 89 3 3:=⟨by kernel_rfl⟩
instance:Ex.FldI Tryz.prog 89 4 4:=⟨by kernel_rfl⟩
instance:Ex.FldI Tryz.prog 89 5 5:=⟨by kernel_rfl⟩
instance:Ex.FldI Tryz.prog 89 6 6:=⟨by kernel_rfl⟩
instance:Ex.FldI Tryz.prog 93 0 0:=⟨by kernel_rfl⟩
instance:Ex.InfI Tryz.prog 111 2 16 (.agg [.int .i64 0,.int .i64 0].toArray):=⟨by unfold Ex.Inf; kernel_rfl⟩
instance:Ex.InfI Tryz.prog 114 3 32 (.agg [.string ⟨#[]⟩,.int .i64 0,.int .i64 0].toArray):=⟨by unfold Ex.Inf; kernel_rfl⟩
instance:Ex.InfI Tryz.prog 119 1 8 (.agg [.int .i64 0].toArray):=⟨by unfold Ex.Inf; kernel_rfl⟩
instance:Ex.InfI Tryz.prog 163 8 64 (.agg [.int .i64 0,.int .i64 0,.int .i64 0,.int .i64 0,.int .i64 0,.int .i64 0,.int .i64 0,.int .i64 0].toArray):=⟨by unfold Ex.Inf; kernel_rfl⟩
instance:Ex.InfI Tryz.prog 164 3 24 (.agg [.int .i64 0,.int .i64 0,.int .i64 0].toArray):=⟨by unfold Ex.Inf; kernel_rfl⟩
instance:Ex.InfI Tryz.prog 172 3 40 (.agg [.bool false,.int .i64 0,.slice none 0 0].toArray):=⟨by unfold Ex.Inf; kernel_rfl⟩
instance:Ex.InfI Tryz.prog 176 2 16 (.agg [.int .i64 0,.nilFunc].toArray):=⟨by unfold Ex.Inf; kernel_rfl⟩
instance:Ex.InfI Tryz.prog 179 3 40 (.agg [.int .i64 0,.string ⟨#[]⟩,.string ⟨#[]⟩].toArray):=⟨by unfold Ex.Inf; kernel_rfl⟩
instance:Ex.InfI Tryz.prog 217 3 24 (.agg [.int .i64 0,.int .i64 0,.int .i64 0].toArray):=⟨by unfold Ex.Inf; kernel_rfl⟩
instance:Ex.InfI Tryz.prog 23 1 24 (.slice none 0 0):=⟨by unfold Ex.Inf; kernel_rfl⟩
instance:Ex.InfI Tryz.prog 25 2 32 (.agg [.slice none 0 0,.int .i64 0].toArray):=⟨by unfold Ex.Inf; kernel_rfl⟩
instance:Ex.InfI Tryz.prog 3 1 8 (.int .i64 0):=⟨by unfold Ex.Inf; kernel_rfl⟩
instance:Ex.InfI Tryz.prog 32 1 24 (.slice none 0 0):=⟨by unfold Ex.Inf; kernel_rfl⟩
instance:Ex.InfI Tryz.prog 34 4 48 (.agg [.int .i64 0,.int .i64 0,.slice none 0 0,.int .i64 0].toArray):=⟨by unfold Ex.Inf; kernel_rfl⟩
instance:Ex.InfI Tryz.prog 39 1 24 (.slice none 0 0):=⟨by unfold Ex.Inf; kernel_rfl⟩
instance:Ex.InfI Tryz.prog 41 2 16 (.agg [.int .i64 0,.int .i64 0].toArray):=⟨by unfold Ex.Inf; kernel_rfl⟩
instance:Ex.InfI Tryz.prog 43 7 80 (.agg [.int .i64 0,.int .i64 0,.int .i64 0,.slice none 0 0,.int .i64 0,.int .i64 0,.string ⟨#[]⟩].toArray):=⟨by unfold Ex.Inf; kernel_rfl⟩
instance:Ex.InfI Tryz.prog 47 1 24 (.slice none 0 0):=⟨by unfold Ex.Inf; kernel_rfl⟩
instance:Ex.InfI Tryz.prog 48 1 24 (.slice none 0 0):=⟨by unfold Ex.Inf; kernel_rfl⟩
instance:Ex.InfI Tryz.prog 50 9 136 (.agg [.slice none 0 0,.slice none 0 0,.slice none 0 0,.slice none 0 0,.int .i64 0,.int .i64 0,.int .i64 0,.int .i64 0,.int .i64 0].toArray):=⟨by unfold Ex.Inf; kernel_rfl⟩
instance:Ex.InfI Tryz.prog 55 1 24 (.slice none 0 0):=⟨by unfold Ex.Inf; kernel_rfl⟩
instance:Ex.InfI Tryz.prog 56 1 24 (.slice none 0 0):=⟨by unfold Ex.Inf; kernel_rfl⟩
instance:Ex.InfI Tryz.prog 57 1 24 (.slice none 0 0):=⟨by unfold Ex.Inf; kernel_rfl⟩
instance:Ex.InfI Tryz.prog 59 7 112 (.agg [.int .i64 0,.int .i64 0,.int .i64 0,.string ⟨#[]⟩,.slice none 0 0,.slice none 0 0,.slice none 0 0].toArray):=⟨by unfold Ex.Inf; kernel_rfl⟩
instance:Ex.InfI Tryz.prog 61 2 16 (.agg [.int .i64 0,.int .i64 0].toArray):=⟨by unfold Ex.Inf; kernel_rfl⟩
instance:Ex.InfI Tryz.prog 74 2 32 (.agg [.string ⟨#[]⟩,.string ⟨#[]⟩].toArray):=⟨by unfold Ex.Inf; kernel_rfl⟩
instance:Ex.InfI Tryz.prog 81 2 32 (.agg [.slice none 0 0,.int .i64 0].toArray):=⟨by unfold Ex.Inf; kernel_rfl⟩
instance:Ex.InfI Tryz.prog 89 7 56 (.agg [.int .i64 0,.int .i64 0,.int .i64 0,.int .i64 0,.int .i64 0,.int .i64 0,.int .i64 0].toArray):=⟨by unfold Ex.Inf; kernel_rfl⟩
instance:Ex.InfI Tryz.prog 9 1 16 (.string ⟨#[]⟩):=⟨by unfold Ex.Inf; kernel_rfl⟩
instance:Ex.InfI Tryz.prog 93 2 32 (.agg [.slice none 0 0,.int .i64 0].toArray):=⟨by unfold Ex.Inf; kernel_rfl⟩
instance:Ex.PlI Tryz.prog 111 [(0,2)]:=⟨by kernel_rfl⟩
instance:Ex.PlI Tryz.prog 114 [(0,1),(1,1),(2,1)]:=⟨by kernel_rfl⟩
instance:Ex.PlI Tryz.prog 119 [(0,1)]:=⟨by kernel_rfl⟩
instance:Ex.PlI Tryz.prog 163 [(0,1),(1,7)]:=⟨by kernel_rfl⟩
instance:Ex.PlI Tryz.prog 164 [(0,1),(1,1),(2,1)]:=⟨by kernel_rfl⟩
instance:Ex.PlI Tryz.prog 172 [(0,1),(1,1),(2,1)]:=⟨by kernel_rfl⟩
instance:Ex.PlI Tryz.prog 176 [(0,1),(1,1)]:=⟨by kernel_rfl⟩
instance:Ex.PlI Tryz.prog 179 [(0,1),(1,1),(2,1)]:=⟨by kernel_rfl⟩
instance:Ex.PlI Tryz.prog 217 [(0,1),(1,1),(2,1)]:=⟨by kernel_rfl⟩
instance:Ex.PlI Tryz.prog 25 [(0,1),(1,1)]:=⟨by kernel_rfl⟩
instance:Ex.PlI Tryz.prog 34 [(0,1),(1,1),(2,1),(3,1)]:=⟨by kernel_rfl⟩
instance:Ex.PlI Tryz.prog 41 [(0,1),(1,1)]:=⟨by kernel_rfl⟩
instance:Ex.PlI Tryz.prog 43 [(0,1),(1,1),(2,1),(3,1),(4,2),(6,1)]:=⟨by kernel_rfl⟩
instance:Ex.PlI Tryz.prog 50 [(0,1),(1,1),(2,1),(3,1),(4,1),(5,1),(6,1),(7,1),(8,1)]:=⟨by kernel_rfl⟩
instance:Ex.PlI Tryz.prog 59 [(0,1),(1,1),(2,1),(3,1),(4,1),(5,1),(6,1)]:=⟨by kernel_rfl⟩
instance:Ex.PlI Tryz.prog 61 [(0,1),(1,1)]:=⟨by kernel_rfl⟩
instance:Ex.PlI Tryz.prog 74 [(0,1),(1,1)]:=⟨by kernel_rfl⟩
instance:Ex.PlI Tryz.prog 81 [(0,1),(1,1)]:=⟨by kernel_rfl⟩
instance:Ex.PlI Tryz.prog 89 [(0,1),(1,1),(2,1),(3,1),(4,1),(5,1),(6,1)]:=⟨by kernel_rfl⟩
instance:Ex.PlI Tryz.prog 93 [(0,2)]:=⟨by kernel_rfl⟩
instance:Ex.SliI Tryz.prog 125 39:=⟨Tryz.underlying125⟩
instance:Ex.SliI Tryz.prog 126 89:=⟨Tryz.underlying126⟩
instance:Ex.SliI Tryz.prog 152 217:=⟨Tryz.underlying152⟩
instance:Ex.SliI Tryz.prog 165 164:=⟨Tryz.underlying165⟩
instance:Ex.SliI Tryz.prog 22 43:=⟨Tryz.underlying22⟩
instance:Ex.SliI Tryz.prog 224 172:=⟨Tryz.underlying224⟩
instance:Ex.SliI Tryz.prog 23 50:=⟨Tryz.underlying23⟩
instance:Ex.SliI Tryz.prog 26 34:=⟨Tryz.underlying26⟩
instance:Ex.SliI Tryz.prog 32 81:=⟨Tryz.underlying32⟩
instance:Ex.SliI Tryz.prog 37 3:=⟨Tryz.underlying37⟩
instance:Ex.SliI Tryz.prog 39 74:=⟨Tryz.underlying39⟩
instance:Ex.SliI Tryz.prog 47 41:=⟨Tryz.underlying47⟩
instance:Ex.SliI Tryz.prog 48 163:=⟨Tryz.underlying48⟩
instance:Ex.SliI Tryz.prog 55 179:=⟨Tryz.underlying55⟩
instance:Ex.SliI Tryz.prog 56 9:=⟨Tryz.underlying56⟩
instance:Ex.SliI Tryz.prog 57 59:=⟨Tryz.underlying57⟩
instance:Ex.StrI Tryz.prog 9:=⟨Tryz.underlying9⟩
instance:Ex.MixI Tryz.prog:=⟨by kernel_rfl⟩
end
section
open Ex
set_option maxRecDepth 100000
theorem mix:Tryz.prog.follows .mixedOrders=true:=by kernel_rfl
theorem inf3:Ex.Inf Tryz.prog 3 1 8 (.int .i64 0):=by unfold Ex.Inf; kernel_rfl
theorem flat3:Ex.flatT Tryz.prog 3=true:=by kernel_rfl
theorem inf9:Ex.Inf Tryz.prog 9 1 16 (.string ⟨#[]⟩):=by unfold Ex.Inf; kernel_rfl
theorem flat32:Ex.flatT Tryz.prog 32=true:=by kernel_rfl
theorem inf34:Ex.Inf Tryz.prog 34 4 48 (.agg [.int .i64 0,.int .i64 0,.slice none 0 0,.int .i64 0].toArray):=by unfold Ex.Inf; kernel_rfl
theorem inf39:Ex.Inf Tryz.prog 39 1 24 (.slice none 0 0):=by unfold Ex.Inf; kernel_rfl
theorem flat39:Ex.flatT Tryz.prog 39=true:=by kernel_rfl
theorem inf41:Ex.Inf Tryz.prog 41 2 16 (.agg [.int .i64 0,.int .i64 0].toArray):=by unfold Ex.Inf; kernel_rfl
theorem agg41:Ex.aggT Tryz.prog 41=true:=by kernel_rfl
theorem inf43:Ex.Inf Tryz.prog 43 7 80 (.agg [.int .i64 0,.int .i64 0,.int .i64 0,.slice none 0 0,.int .i64 0,.int .i64 0,.string ⟨#[]⟩].toArray):=by unfold Ex.Inf; kernel_rfl
theorem flat47:Ex.flatT Tryz.prog 47=true:=by kernel_rfl
theorem flat48:Ex.flatT Tryz.prog 48=true:=by kernel_rfl
theorem inf50:Ex.Inf Tryz.prog 50 9 136 (.agg [.slice none 0 0,.slice none 0 0,.slice none 0 0,.slice none 0 0,.int .i64 0,.int .i64 0,.int .i64 0,.int .i64 0,.int .i64 0].toArray):=by unfold Ex.Inf; kernel_rfl
theorem agg50:Ex.aggT Tryz.prog 50=true:=by kernel_rfl
theorem fld50_0:Ex.fldAt Tryz.prog 50 0=some 0:=by kernel_rfl
theorem flat57:Ex.flatT Tryz.prog 57=true:=by kernel_rfl
theorem inf59:Ex.Inf Tryz.prog 59 7 112 (.agg [.int .i64 0,.int .i64 0,.int .i64 0,.string ⟨#[]⟩,.slice none 0 0,.slice none 0 0,.slice none 0 0].toArray):=by unfold Ex.Inf; kernel_rfl
theorem agg59:Ex.aggT Tryz.prog 59=true:=by kernel_rfl
theorem pl59:Ex.placesOf Tryz.prog 59=some [(0,1),(1,1),(2,1),(3,1),(4,1),(5,1),(6,1)]:=by kernel_rfl
theorem fld59_0:Ex.fldAt Tryz.prog 59 0=some 0:=by kernel_rfl
theorem fld59_6:Ex.fldAt Tryz.prog 59 6=some 6:=by kernel_rfl
theorem inf61:Ex.Inf Tryz.prog 61 2 16 (.agg [.int .i64 0,.int .i64 0].toArray):=by unfold Ex.Inf; kernel_rfl
theorem agg61:Ex.aggT Tryz.prog 61=true:=by kernel_rfl
theorem inf74:Ex.Inf Tryz.prog 74 2 32 (.agg [.string ⟨#[]⟩,.string ⟨#[]⟩].toArray):=by unfold Ex.Inf; kernel_rfl
theorem inf81:Ex.Inf Tryz.prog 81 2 32 (.agg [.slice none 0 0,.int .i64 0].toArray):=by unfold Ex.Inf; kernel_rfl
theorem fld81_0:Ex.fldAt Tryz.prog 81 0=some 0:=by kernel_rfl
theorem fld81_1:Ex.fldAt Tryz.prog 81 1=some 1:=by kernel_rfl
theorem inf89:Ex.Inf Tryz.prog 89 7 56 (.agg [.int .i64 0,.int .i64 0,.int .i64 0,.int .i64 0,.int .i64 0,.int .i64 0,.int .i64 0].toArray):=by unfold Ex.Inf; kernel_rfl
theorem agg89:Ex.aggT Tryz.prog 89=true:=by kernel_rfl
theorem inf111:Ex.Inf Tryz.prog 111 2 16 (.agg [.int .i64 0,.int .i64 0].toArray):=by unfold Ex.Inf; kernel_rfl
theorem fld111_0:Ex.fldAt Tryz.prog 111 0=some 0:=by kernel_rfl
theorem fld119_0:Ex.fldAt Tryz.prog 119 0=some 0:=by kernel_rfl
theorem inf163:Ex.Inf Tryz.prog 163 8 64 (.agg [.int .i64 0,.int .i64 0,.int .i64 0,.int .i64 0,.int .i64 0,.int .i64 0,.int .i64 0,.int .i64 0].toArray):=by unfold Ex.Inf; kernel_rfl
theorem agg163:Ex.aggT Tryz.prog 163=true:=by kernel_rfl
theorem inf164:Ex.Inf Tryz.prog 164 3 24 (.agg [.int .i64 0,.int .i64 0,.int .i64 0].toArray):=by unfold Ex.Inf; kernel_rfl
theorem agg164:Ex.aggT Tryz.prog 164=true:=by kernel_rfl
theorem inf172:Ex.Inf Tryz.prog 172 3 40 (.agg [.bool false,.int .i64 0,.slice none 0 0].toArray):=by unfold Ex.Inf; kernel_rfl
theorem agg172:Ex.aggT Tryz.prog 172=true:=by kernel_rfl
theorem inf179:Ex.Inf Tryz.prog 179 3 40 (.agg [.int .i64 0,.string ⟨#[]⟩,.string ⟨#[]⟩].toArray):=by unfold Ex.Inf; kernel_rfl
theorem inf217:Ex.Inf Tryz.prog 217 3 24 (.agg [.int .i64 0,.int .i64 0,.int .i64 0].toArray):=by unfold Ex.Inf; kernel_rfl
theorem eqv74:EqV Tryz.prog 74 Label zQ:=⟨fun a b w=>by
  obtain ⟨a0,a1⟩:=a
  obtain ⟨c0,c1⟩:=b
  rw [run_equalIn_struct (P:=Tryz.prog) w 9999 74 _ _ Tryz.underlying74 (by kernel_rfl)]
  simp [go_sem,zQ,toList_inj]
  try ((repeat' split) <;> simp_all),by kernel_rfl⟩
end
section
open Tryz
open Ex
attribute [local irreducible] WC WL WQ WE WS
set_option linter.unusedVariables false
set_option linter.unusedSimpArgs false
theorem c_rise (a:Int) (b:Int) (w:World)   :
    Calls prog 110 #[iV a,iV b] w (Ret w (iV (Agg.rise a b))):=by
 refine zr (N:=12) func110 (Mem.ofDats dn) ?_
 refine (go 13) (zX (fun h1=>?_) fun h1=>?_)
 ·refine (go 8) (zY results110 fun w1 hM=>?_)
  exact zP (by simp [Agg.rise,h1]) hM
 refine (go 6) ?_
 refine zb (jl rfl rfl) ?_
 refine (go 4) (zY results110 fun w1 hM=>?_)
 exact zP (by simp [Agg.rise,h1]) hM
theorem js (v:Int) (w:World)   :
    Calls prog 67 #[iV v] w (Ret w (.agg (sumE (Agg.one v)).toArray)):=by
 refine zr (N:=9) func67 (Mem.ofDats dn) ?_
 refine (go 2) (zz fun b2=>?_)
 refine (go 14) (zY results67 fun w1 hM=>?_)
 exact yp rfl hM
theorem vb (a:Sum) (b:Sum) (w:World)   :
    Calls prog 66 #[.agg (sumE a).toArray,.agg (sumE b).toArray] w (Ret w (.agg (sumE (Agg.join a b)).toArray)):=by
 refine zr (N:=51) func66 (Mem.ofDats dn) ?_
 refine (go 2) (yu fun b2=>yu fun b3=>zz fun b4=>?_)
 refine (go 12) (zX (fun h1=>?_) fun h1=>?_)
 ·refine (go 9) (zY results66 fun w1 hM=>?_)
  exact yp (l1:=[iV b.count,iV b.total,iV b.min,iV b.max,iV b.first,iV b.last,iV b.rise]) (by simp [Agg.join,sumE,h1]) hM
 refine (go 8) (zX (fun h2=>?_) fun h2=>?_)
 ·refine (go 9) (zY results66 fun w1 hM=>?_)
  exact yp (l1:=[iV a.count,iV a.total,iV a.min,iV a.max,iV a.first,iV a.last,iV a.rise]) (by simp [Agg.join,sumE,h1,h2]) hM
 refine (go 4) (uH 36 ?_)
 refine (go 4) ?_
 refine yk (ur rfl rfl) ?_
 refine (go 4) ?_
 refine yk (ur rfl rfl) ?_
 refine (go 20) ?_
 refine yP wn rfl call110 rfl (fun w1 hM=>c_rise a.last b.first w1) (yk (ur rfl rfl) ?_)
 refine (go 2) ?_
 refine yk (ur rfl rfl) ?_
 refine (go 6) (zY results66 fun w1 hM=>?_)
 exact yp (l1:=[iV (IntKind.wrap .i64 (a.count + b.count)),iV (IntKind.wrap .i64 (a.total + b.total)),iV (if b.min < a.min then b.min else a.min),iV (if a.max < b.max then b.max else a.max),iV a.first,iV b.last,iV (IntKind.wrap .i64 ((IntKind.wrap .i64 (a.rise + (Agg.rise a.last b.first))) + b.rise))]) (by simp [Agg.join,sumE,h1,h2]) hM
theorem c_Words  (w:World)   :
    Calls prog 33 #[] w (RetL w 9 1 strE Agg.words):=by
 refine zr (N:=2) func33 (Mem.ofDats dn) ?_
 refine (go 7) ?_
 refine zy strE ([⟨#[97,118,103]⟩,⟨#[99,111,117,110,116]⟩,⟨#[102,105,114,115,116]⟩,⟨#[108,97,115,116]⟩,⟨#[109,97,120]⟩,⟨#[109,105,110]⟩,⟨#[114,105,115,101]⟩,⟨#[115,117,109]⟩]:List ByteArray) wn underlying56 inf9 rfl rfl rfl rfl qD qD rfl fun b1=>?_
 refine (go 4) (zY results33 fun w1 hM=>?_)
 exact hM.vn 0 rfl rfl
theorem c_Value (word:ByteArray) (s:Sum) (w:World)   :
    Calls prog 35 #[.string word,.agg (sumE s).toArray] w (Ret w (.tuple #[iV (Agg.value word s).1,.bool (Agg.value word s).2])):=by
 refine zr (N:=45) func35 (Mem.ofDats dn) ?_
 refine (go 2) (yu fun b3=>?_)
 refine (go 12) (zX (fun h1=>?_) fun h1=>?_)
 ·refine (go 8) (yL results35 fun w1 hM=>?_)
  exact zP (by simp [Agg.value,h1]) hM
 refine (go 15) (zX (fun h2=>?_) fun h2=>?_)
 ·refine (go 6) ?_
  refine zb (r_quo rfl rfl qO) ?_
  refine (go 7) (yL results35 fun w1 hM=>?_)
  exact zP (by simp [Agg.value,h1,h2]) hM
 refine (go 6) (zX (fun h3=>?_) fun h3=>?_)
 ·refine (go 11) (yL results35 fun w1 hM=>?_)
  exact zP (by simp [Agg.value,h1,h2,h3]) hM
 refine (go 6) (zX (fun h4=>?_) fun h4=>?_)
 ·refine (go 11) (yL results35 fun w1 hM=>?_)
  exact zP (by simp [Agg.value,h1,h2,h3,h4]) hM
 refine (go 6) (zX (fun h5=>?_) fun h5=>?_)
 ·refine (go 11) (yL results35 fun w1 hM=>?_)
  exact zP (by simp [Agg.value,h1,h2,h3,h4,h5]) hM
 refine (go 6) (zX (fun h6=>?_) fun h6=>?_)
 ·refine (go 11) (yL results35 fun w1 hM=>?_)
  exact zP (by simp [Agg.value,h1,h2,h3,h4,h5,h6]) hM
 refine (go 6) (zX (fun h7=>?_) fun h7=>?_)
 ·refine (go 11) (yL results35 fun w1 hM=>?_)
  exact zP (by simp [Agg.value,h1,h2,h3,h4,h5,h6,h7]) hM
 refine (go 6) (zX (fun h8=>?_) fun h8=>?_)
 ·refine (go 11) (yL results35 fun w1 hM=>?_)
  exact zP (by simp [Agg.value,h1,h2,h3,h4,h5,h6,h7,h8]) hM
 refine (go 6) (zX (fun h9=>?_) fun h9=>?_)
 ·refine (go 11) (yL results35 fun w1 hM=>?_)
  exact zP (by simp [Agg.value,h1,h2,h3,h4,h5,h6,h7,h8,h9]) hM
 refine (go 10) (yL results35 fun w1 hM=>?_)
 exact zP (by simp [Agg.value,h1,h2,h3,h4,h5,h6,h7,h8,h9]) hM
end
section
open Tryz
open Ex
attribute [local irreducible] WC WL WQ WE WS
set_option linter.unusedVariables false
set_option linter.unusedSimpArgs false
theorem c_isNaN (a:ByteArray) (w:World)   :
    Calls prog 96 #[.string a] w (Ret w (.bool false)):=by
 refine zr (N:=6) func96 (Mem.ofDats dn) ?_
 refine (go 14) (zY results96 fun w1 hM=>?_)
 exact zP qS hM
theorem c_cmpS (a:ByteArray) (b:ByteArray) (w:World)   :
    Calls prog 50 #[.string a,.string b] w (Ret w (iV (zI.cmpS a b))):=by
 refine zr (N:=20) func50 (Mem.ofDats dn) ?_
 refine (go 8) ?_
 refine yH call96 wn rfl (fun w1 hM=>c_isNaN a w1) ?_
 refine (go 6) ?_
 refine yH call96 wn rfl (fun w1 hM=>c_isNaN b w1) ?_
 refine (go 29) (yb (fun h1=>?_) fun h1=>?_)
 ·refine (go 7) (zY results50 fun w1 hM=>?_)
  exact zP (by simp [zI.cmpS,h1]) hM
 refine (go 10) (yb (fun h2=>?_) fun h2=>?_)
 ·refine (go 7) (zY results50 fun w1 hM=>?_)
  exact zP (by simp [zI.cmpS,h1,h2]) hM
 refine (go 8) (zY results50 fun w1 hM=>?_)
 exact zP (by simp [zI.cmpS,h1,h2]) hM
theorem c_or (lv:Value) (l:List Int) (w:World) (hl:zD (In w) 1 intE lv l w)  :
    Calls prog 49 #[lv] w (Ret w (iV (zI.orI l))):=by
 obtain ⟨lA,lc,rfl,hlc,hlm,hlA⟩:=hl.form
 refine zr (N:=18) func49 (Mem.ofDats (dc (dl hl) dn)) ?_
 refine (go 19) ?_
 refine yE (fun (k:Nat)=>[(3,iV 0),(6,.slice lA l.length lc),(7,iV l.length),(8,iV k)]) (fun (k:Nat)=>[slO (In w) 1 intE (.slice lA l.length lc) l]) (fun (k:Nat)=>k≤l.length∧zI.orI l=zI.orI (l.drop k)) (fun (k:Nat)=>l.length - k) 0 (sc rfl (sc rfl (sc rfl (sc (ji qO) sn)))) (fun _ h=>h) ?_ (fun k hI1=>?_)
 ·simp
 refine (go 6) (zX (fun h1=>?_) fun h1=>?_)
 ·refine (go 6) ?_
  obtain ⟨ad1,s1,hd1,hs1⟩:=elx hlA k
  refine (go 12) (zX (fun h2=>?_) fun h2=>?_)
  ·refine (go 12) (zY results49 fun w1 hM=>?_)
   exact zP (by rw [hI1.2,zI.or_step hs1,if_pos h2]) hM
  refine (go 6) ?_
  refine zU (zh (k + 1) (sc rfl (sc rfl (sc rfl (sc (ji qO) sn)))) (fun _ h=>h) ?_ ?_)
  ·exact ⟨by omega,by rw [hI1.2,zI.or_step hs1,if_neg (by simpa using h2)]⟩
  omega
 refine (go 12) (zY results49 fun w1 hM=>?_)
 exact zP (by rw [hI1.2,zI.or_end qO]) hM
theorem c_cmpL (a:Label) (b:Label) (w:World)   :
    Calls prog 48 #[.agg (zQ a).toArray,.agg (zQ b).toArray] w (Ret w (iV (zI.cmpL a b))):=by
 refine zr (N:=17) func48 (Mem.ofDats dn) ?_
 refine (go 2) (yu fun b2=>yu fun b3=>?_)
 refine (go 4) (uH 10 ?_)
 refine (go 4) ?_
 refine yP wn rfl call50 rfl (fun w1 hM=>c_cmpS a.key b.key w1) ?_
 refine (go 4) ?_
 refine yP wn rfl call50 rfl (fun w1 hM=>c_cmpS a.val b.val w1) ?_
 refine (go 1) ?_
 refine zy intE ([(zI.cmpS a.key b.key),(zI.cmpS a.val b.val)]:List Int) wn underlying37 inf3 rfl rfl rfl rfl qD qD rfl fun b15=>yH call49 wn rfl (fun w1 hM=>c_or _ ([(zI.cmpS a.key b.key),(zI.cmpS a.val b.val)]:List Int) w1 (RowSl encInt hM 0 rfl)) ?_
 refine (go 4) (zY results48 fun w1 hM=>?_)
 exact zP (by rw [zI.orI_two]; rfl) hM
theorem c_compareFunc (av:Value) (a:List Label) (bv:Value) (b:List Label) (w:World) (ha:zD (In w) 2 zQ av a w) (hb:zD (In w) 2 zQ bv b w)  :
    Calls prog 47 #[av,bv,.func (.func 48) #[] #[]] w (Ret w (iV (zI.compare a b))):=by
 obtain ⟨aA,ac,rfl,hac,ham,haA⟩:=ha.form
 obtain ⟨bA,bc,rfl,hbc,hbm,hbA⟩:=hb.form
 refine zr (N:=39) func47 (Mem.ofDats (dc (dl ha) (dc (dl hb) dn))) ?_
 refine (go 14) ?_
 refine yE (fun (k:Nat)=>[(0,.slice aA a.length ac),(1,.slice bA b.length bc),(2,.func (.func 48) #[] #[]),(11,.slice aA a.length ac),(12,iV a.length),(13,iV k)]) (fun (k:Nat)=>[slO (In w) 2 zQ (.slice aA a.length ac) a,slO (In w) 2 zQ (.slice bA b.length bc) b]) (fun (k:Nat)=>k≤a.length∧zI.compare a b=zI.compare (a.drop k) (b.drop k)) (fun (k:Nat)=>a.length - k) 0 (sc rfl (sc rfl (sc rfl (sc rfl (sc rfl (sc (ji qO) sn)))))) (fun _ h=>h) ?_ (fun k hI1=>?_)
 ·simp
 refine (go 6) (zX (fun h1=>?_) fun h1=>?_)
 ·refine (go 7) ?_
  obtain ⟨ad1,s1,hd1,hs1⟩:=elx haA k
  refine (go 2) (zz fun b8=>?_)
  refine (go 13) (zX (fun h2=>?_) fun h2=>?_)
  ·refine (go 12) (zY results47 fun w1 hM=>?_)
   exact zP (by rw [hI1.2,zI.compare_over hs1 qO]) hM
  refine (go 6) ?_
  obtain ⟨ad2,s2,hd2,hs2⟩:=elx hbA k
  refine (go 2) (zz fun b9=>?_)
  refine (go 8) ?_
  refine uK wn rfl rfl call48 rfl (fun w1 hM=>c_cmpL s1 s2 w1) ?_
  refine (go 9) (zX (fun h3=>?_) fun h3=>?_)
  ·refine (go 12) (zY results47 fun w1 hM=>?_)
   exact zP (by rw [hI1.2,zI.compare_step hs1 hs2,if_pos h3]) hM
  refine (go 6) ?_
  refine zU (zh (k + 1) (sc rfl (sc rfl (sc rfl (sc rfl (sc rfl (sc (ji qO) sn)))))) (S9 [2,3]) ?_ ?_)
  ·exact ⟨by omega,by rw [hI1.2,zI.compare_step hs1 hs2,if_neg (by simpa using h3)]⟩
  omega
 refine (go 15) (zX (fun h4=>?_) fun h4=>?_)
 ·refine (go 7) (zY results47 fun w1 hM=>?_)
  exact zP (by rw [hI1.2,zI.compare_end qO qO,if_pos qO]) hM
 refine (go 8) (zY results47 fun w1 hM=>?_)
 exact zP (by rw [hI1.2,zI.compare_end qO qO,if_neg qO]) hM
theorem c_compare (av:Value) (a:List Label) (bv:Value) (b:List Label) (w:World) (ha:zD (In w) 2 zQ av a w) (hb:zD (In w) 2 zQ bv b w)  :
    Calls prog 22 #[av,bv] w (Ret w (iV (zI.compare a b))):=by
 obtain ⟨aA,ac,rfl,hac,ham,haA⟩:=ha.form
 obtain ⟨bA,bc,rfl,hbc,hbm,hbA⟩:=hb.form
 refine zr (N:=8) func22 (Mem.ofDats (dc (dl ha) (dc (dl hb) dn))) ?_
 refine (go 9) ?_
 refine yH call47 wn rfl (fun w1 hM=>c_compareFunc _ a _ b w1 (hM.sl 0 rfl) (hM.sl 1 rfl)) ?_
 refine (go 4) (zY results22 fun w1 hM=>?_)
 exact zP rfl hM
theorem c_get (lv:Value) (l:List Label) (key:ByteArray) (w:World) (hl:zD (In w) 2 zQ lv l w)  :
    Calls prog 104 #[lv,.string key] w (Ret w (.tuple #[.string (zI.get l key).1,.bool (zI.get l key).2])):=by
 obtain ⟨lA,lc,rfl,hlc,hlm,hlA⟩:=hl.form
 refine zr (N:=21) func104 (Mem.ofDats (dc (dl hl) dn)) ?_
 refine (go 15) ?_
 refine yE (fun (k:Nat)=>[(1,.string key),(8,.slice lA l.length lc),(9,iV l.length),(10,iV k)]) (fun (k:Nat)=>[slO (In w) 2 zQ (.slice lA l.length lc) l]) (fun (k:Nat)=>k≤l.length∧zI.get l key=zI.get (l.drop k) key) (fun (k:Nat)=>l.length - k) 0 (sc rfl (sc rfl (sc rfl (sc (ji qO) sn)))) (fun _ h=>h) ?_ (fun k hI1=>?_)
 ·simp
 refine (go 6) (zX (fun h1=>?_) fun h1=>?_)
 ·refine (go 6) ?_
  obtain ⟨ad1,s1,hd1,hs1⟩:=elx hlA k
  refine (go 2) (zz fun b7=>?_)
  refine (go 11) (zX (fun h2=>?_) fun h2=>?_)
  ·refine (go 14) (yL results104 fun w1 hM=>?_)
   exact zP (by rw [hI1.2,zI.get_step hs1,if_pos h2]) hM
  refine (go 6) ?_
  refine zU (zh (k + 1) (sc rfl (sc rfl (sc rfl (sc (ji qO) sn)))) (S9 [1]) ?_ ?_)
  ·exact ⟨by omega,by rw [hI1.2,zI.get_step hs1,if_neg h2]⟩
  omega
 refine (go 12) (yL results104 fun w1 hM=>?_)
 exact zP (by rw [hI1.2,zI.get_end qO]) hM
theorem c_matches (rv:Value) (r:List Label) (lv:Value) (l:List Match) (w:World) (hr:zD (In w) 2 zQ rv r w) (hl:zD (In w) 3 yA lv l w)  :
    Calls prog 60 #[rv,lv] w (Ret w (.bool (zI.yB r l))):=by
 obtain ⟨rA,rc,rfl,hrc,hrm,hrA⟩:=hr.form
 obtain ⟨lA,lc,rfl,hlc,hlm,hlA⟩:=hl.form
 refine zr (N:=54) func60 (Mem.ofDats (dc (dl hr) (dc (dl hl) dn))) ?_
 refine (go 14) ?_
 refine yE (fun (k:Nat)=>[(0,.slice rA r.length rc),(10,.slice lA l.length lc),(11,iV l.length),(12,iV k)]) (fun (k:Nat)=>[slO (In w) 2 zQ (.slice rA r.length rc) r,slO (In w) 3 yA (.slice lA l.length lc) l]) (fun (k:Nat)=>k≤l.length∧∀ x ∈ l.take k,zI.match1 r x=true) (fun (k:Nat)=>l.length - k) 0 (sc rfl (sc rfl (sc rfl (sc (ji qO) sn)))) (fun _ h=>h) ?_ (fun k hI1=>?_)
 ·simp
 refine (go 6) (zX (fun h1=>?_) fun h1=>?_)
 ·refine (go 6) ?_
  obtain ⟨ad1,s1,hd1,hs1⟩:=elx hlA k
  refine (go 2) (zz fun b6=>?_)
  refine (go 8) ?_
  refine yH call104 wn rfl (fun w1 hM=>c_get _ r s1.key w1 (hM.sl 1 rfl)) ?_
  refine (go 26) (zX (fun h2=>?_) fun h2=>?_)
  ·refine (go 3) (jJ 28 (fun h3=>?_) fun h3=>?_)
   ·refine (go 15) (zX (fun h4=>?_) fun h4=>?_)
    ·refine (go 11) (zY results60 fun w1 hM=>?_)
     exact zP (by rw [zI.matches_stop hs1 (by (try simp at h2); (try simp at h3); (try simp at h4); simp [zI.match1,h2,h3,h4])]) hM
    refine (go 6) ?_
    refine zU (zh (k + 1) (sc rfl (sc rfl (sc rfl (sc (ji qO) sn)))) (S9 [1,2]) ?_ ?_)
    ·exact ⟨by omega,zI.matches_step hs1 (by (try simp at h2); (try simp at h3); (try simp at h4); simp [zI.match1,h2,h3,h4]) hI1.2⟩
    omega
   refine (go 12) ?_
   refine zb (yC rfl) ?_
   refine (go 14) (zY results60 fun w1 hM=>?_)
   exact zP (by rw [zI.matches_stop hs1 (by (try simp at h2); (try simp at h3); simp [zI.match1,h2,h3])]) hM
  refine (go 6) (zX (fun h5=>?_) fun h5=>?_)
  ·refine (go 2) ?_
   refine zb (yC rfl) ?_
   refine (go 1) (jJ 38 (fun h6=>?_) fun h6=>?_)
   ·refine (go 12) ?_
    refine zb (yC rfl) ?_
    refine (go 9) ?_
    refine zU (zh (k + 1) (sc rfl (sc rfl (sc rfl (sc (ji qO) sn)))) (S9 [1,2]) ?_ ?_)
    ·exact ⟨by omega,zI.matches_step hs1 (by (try simp at h2); (try simp at h5); (try simp at h6); simp [zI.match1,h2,h5,h6]) hI1.2⟩
    omega
   refine (go 15) (zX (fun h7=>?_) fun h7=>?_)
   ·refine (go 11) (zY results60 fun w1 hM=>?_)
    exact zP (by rw [zI.matches_stop hs1 (by (try simp at h2); (try simp at h5); (try simp at h6); (try simp at h7); simp [zI.match1,h2,h5,h6,h7])]) hM
   refine (go 6) ?_
   refine zU (zh (k + 1) (sc rfl (sc rfl (sc rfl (sc (ji qO) sn)))) (S9 [1,2]) ?_ ?_)
   ·exact ⟨by omega,zI.matches_step hs1 (by (try simp at h2); (try simp at h5); (try simp at h6); (try simp at h7); simp [zI.match1,h2,h5,h6,h7]) hI1.2⟩
   omega
  refine (go 6) (zX (fun h8=>?_) fun h8=>?_)
  ·refine (go 9) ?_
   refine zb (yC rfl) ?_
   refine (go 2) (yb (fun h9=>?_) fun h9=>?_)
   ·refine (go 11) (zY results60 fun w1 hM=>?_)
    exact zP (by rw [zI.matches_stop hs1 (by (try simp at h2); (try simp at h5); (try simp at h8); (try simp at h9); simp [zI.match1,h2,h5,h8,h9])]) hM
   refine (go 6) ?_
   refine zU (zh (k + 1) (sc rfl (sc rfl (sc rfl (sc (ji qO) sn)))) (S9 [1,2]) ?_ ?_)
   ·exact ⟨by omega,zI.matches_step hs1 (by (try simp at h2); (try simp at h5); (try simp at h8); (try simp at h9); simp [zI.match1,h2,h5,h8,h9]) hI1.2⟩
   omega
  refine (go 6) (zX (fun h10=>?_) fun h10=>?_)
  ·refine (go 2) ?_
   refine zb (yC rfl) ?_
   refine (go 7) ?_
   refine zb (yC rfl) ?_
   refine (go 2) (yb (fun h11=>?_) fun h11=>?_)
   ·refine (go 11) (zY results60 fun w1 hM=>?_)
    exact zP (by rw [zI.matches_stop hs1 (by (try simp at h2); (try simp at h5); (try simp at h8); (try simp at h10); (try simp at h11); simp [zI.match1,h2,h5,h8,h10,h11])]) hM
   refine (go 6) ?_
   refine zU (zh (k + 1) (sc rfl (sc rfl (sc rfl (sc (ji qO) sn)))) (S9 [1,2]) ?_ ?_)
   ·exact ⟨by omega,zI.matches_step hs1 (by (try simp at h2); (try simp at h5); (try simp at h8); (try simp at h10); (try simp at h11); simp [zI.match1,h2,h5,h8,h10,h11]) hI1.2⟩
   omega
  refine (go 6) ?_
  refine zb (yC rfl) ?_
  refine (go 14) (zY results60 fun w1 hM=>?_)
  exact zP (by rw [zI.matches_stop hs1 (by (try simp at h2); (try simp at h5); (try simp at h8); (try simp at h10); simp [zI.match1,h2,h5,h8,h10])]) hM
 refine (go 11) (zY results60 fun w1 hM=>?_)
 exact zP (by rw [zI.matches_done qO hI1.2]) hM
theorem v7 (s:ByteArray) (w:World)   :
    Calls prog 92 #[.string s] w (Ret w (.bool (zI.named s))):=by
 refine zr (N:=44) func92 (Mem.ofDats dn) ?_
 refine (go 6) ?_
 refine ym [(0,.string s),(12,.bool (decide (((s.size:Int) < 1)∨(12 < (s.size:Int)))))] (Mem w no []) (fun _ hK3=>?_) ?_
 ·refine (go 5) (yN 8 (fun h1=>?_) fun h1=>?_)
  ·refine (go 4) ?_
   refine zU (zm hK3 (sc rfl (sc (jt (Or.inl h1)) sn)) (fun _ h=>h))
  refine (go 4) ?_
  refine zU (zm hK3 (sc rfl (sc (jp (iff_or_right h1 Iff.rfl)) sn)) (fun _ h=>h))
 refine zX (fun h2=>?_) fun h2=>?_
 ·refine (go 7) (zY results92 fun w1 hM=>?_)
  exact zP (by unfold zI.named; simp; omega) hM
 refine (go 11) ?_
 refine yE (fun (k:Nat)=>[(0,.string s),(14,iV s.size),(15,iV k)]) (fun (k:Nat)=>[]) (fun (k:Nat)=>k≤s.size∧zI.namedL 0 s.data.toList=zI.namedL k (s.data.toList.drop k)) (fun (k:Nat)=>s.size - k) 0 (sc rfl (sc rfl (sc (ji qO) sn))) (fun _ h=>h) ?_ (fun k hI1=>?_)
 ·simp
 refine (go 6) (zX (fun h3=>?_) fun h3=>?_)
 ·refine (go 14) ?_
  obtain ⟨c1,hc1⟩:∃ x,s[k]?=some x:=⟨_,byte_at qI⟩
  refine zb (uT rfl rfl qO hc1 underlying9) ?_
  refine (go 3) ?_
  refine ym [(0,.string s),(14,iV s.size),(15,iV k),(42,.bool (decide ((((c1.toNat:Int) < 97)∧(((k:Int)=0)∨((((c1.toNat:Int) < 48)∧((c1.toNat:Int)≠95))∨(¬ ((c1.toNat:Int) < 48)∧((57 < (c1.toNat:Int))∧((c1.toNat:Int)≠95))))))∨(¬ ((c1.toNat:Int) < 97)∧((122 < (c1.toNat:Int))∧(((k:Int)=0)∨((((c1.toNat:Int) < 48)∧((c1.toNat:Int)≠95))∨(¬ ((c1.toNat:Int) < 48)∧((57 < (c1.toNat:Int))∧((c1.toNat:Int)≠95))))))))))] (Mem w no []) (fun _ hK12=>?_) ?_
  ·refine (go 4) (yN 23 (fun h4=>?_) fun h4=>?_)
   ·refine (go 7) (yN 30 (fun h5=>?_) fun h5=>?_)
    ·refine (go 12) ?_
     refine zU (zm hK12 (sc rfl (sc rfl (sc rfl (sc (jt (Or.inl ⟨h4,(Or.inl h5)⟩)) sn)))) (fun _ h=>h))
    refine (go 3) (yN 33 (fun h6=>?_) fun h6=>?_)
    ·refine (go 9) ?_
     refine zU (zm hK12 (sc rfl (sc rfl (sc rfl (sc (jp (iff_ite_l h4 (iff_or_right h5 (iff_ite_l h6 Iff.rfl)))) sn)))) (fun _ h=>h))
    refine (go 4) (yN 37 (fun h7=>?_) fun h7=>?_)
    ·refine (go 5) ?_
     refine zU (zm hK12 (sc rfl (sc rfl (sc rfl (sc (jp (iff_ite_l h4 (iff_or_right h5 (iff_ite_r h6 (iff_and_right h7 Iff.rfl))))) sn)))) (fun _ h=>h))
    refine (go 5) ?_
    refine zU (zm hK12 (sc rfl (sc rfl (sc rfl (sc (jf (fun g=>g.elim (fun k=>(fun g=>g.elim h5 (fun g=>g.elim (fun k=>h6 k.1) (fun k=>(fun g=>h7 g.1) k.2))) k.2) (fun k=>k.1 h4))) sn)))) (fun _ h=>h))
   refine (go 4) (yN 27 (fun h8=>?_) fun h8=>?_)
   ·refine (go 3) (yN 30 (fun h9=>?_) fun h9=>?_)
    ·refine (go 12) ?_
     refine zU (zm hK12 (sc rfl (sc rfl (sc rfl (sc (jt (Or.inr ⟨h4,⟨h8,(Or.inl h9)⟩⟩)) sn)))) (fun _ h=>h))
    refine (go 3) (yN 33 (fun h10=>?_) fun h10=>?_)
    ·refine (go 9) ?_
     refine zU (zm hK12 (sc rfl (sc rfl (sc rfl (sc (jp (iff_ite_r h4 (iff_and_right h8 (iff_or_right h9 (iff_ite_l h10 Iff.rfl))))) sn)))) (fun _ h=>h))
    refine (go 4) (yN 37 (fun h11=>?_) fun h11=>?_)
    ·refine (go 5) ?_
     refine zU (zm hK12 (sc rfl (sc rfl (sc rfl (sc (jp (iff_ite_r h4 (iff_and_right h8 (iff_or_right h9 (iff_ite_r h10 (iff_and_right h11 Iff.rfl)))))) sn)))) (fun _ h=>h))
    refine (go 5) ?_
    refine zU (zm hK12 (sc rfl (sc rfl (sc rfl (sc (jf (fun g=>g.elim (fun k=>h4 k.1) (fun k=>(fun g=>(fun g=>g.elim h9 (fun g=>g.elim (fun k=>h10 k.1) (fun k=>(fun g=>h11 g.1) k.2))) g.2) k.2))) sn)))) (fun _ h=>h))
   refine (go 15) ?_
   refine zU (zm hK12 (sc rfl (sc rfl (sc rfl (sc (jf (fun g=>g.elim (fun k=>h4 k.1) (fun k=>(fun g=>h8 g.1) k.2))) sn)))) (fun _ h=>h))
  refine zX (fun h12=>?_) fun h12=>?_
  ·refine (go 11) (zY results92 fun w1 hM=>?_)
   exact zP (by unfold zI.named; rw [hI1.2,zI.named_step hc1,decide_eq_false (show ¬ zI.fineB k c1 from by unfold zI.fineB; omega)]; simp) hM
  refine (go 6) ?_
  refine zU (zh (k + 1) (sc rfl (sc rfl (sc (ji qO) sn))) (fun _ h=>h) ?_ ?_)
  ·exact ⟨by omega,by rw [hI1.2,zI.named_step hc1,decide_eq_true (show zI.fineB k c1 from by unfold zI.fineB; omega),Bool.true_and]⟩
  omega
 refine (go 11) (zY results92 fun w1 hM=>?_)
 exact zP (by unfold zI.named; rw [decide_eq_true qO,decide_eq_true qO,hI1.2,zI.named_end qO]; rfl) hM
theorem c_namesWrong (lv:Value) (l:List Label) (w:World) (hl:zD (In w) 2 zQ lv l w)  :
    Calls prog 42 #[lv] w (Ret w (iV (zI.wrong l))):=by
 obtain ⟨lA,lc,rfl,hlc,hlm,hlA⟩:=hl.form
 refine zr (N:=39) func42 (Mem.ofDats (dc (dl hl) dn)) ?_
 refine (go 13) (zX (fun h1=>?_) fun h1=>?_)
 ·refine (go 7) (zY results42 fun w1 hM=>?_)
  exact zP (by rw [zI.wrong,if_pos qO]) hM
 refine (go 11) ?_
 refine yE (fun (k:Nat)=>[(0,.slice lA l.length lc),(8,.slice lA l.length lc),(9,iV l.length),(10,iV k)]) (fun (k:Nat)=>[slO (In w) 2 zQ (.slice lA l.length lc) l]) (fun (k:Nat)=>k≤l.length∧zI.wrongFrom none l=zI.wrongFrom (zI.prevOf l k) (l.drop k)) (fun (k:Nat)=>l.length - k) 0 (sc rfl (sc rfl (sc rfl (sc (ji qO) sn)))) (fun _ h=>h) ?_ (fun k hI1=>?_)
 ·exact ⟨by omega,zI.wrong_start l⟩
 refine (go 6) (zX (fun h2=>?_) fun h2=>?_)
 ·refine (go 7) ?_
  obtain ⟨ad1,s1,hd1,hs1⟩:=elx hlA k
  refine (go 2) (zz fun b4=>?_)
  refine (go 5) ?_
  refine ym [(0,.slice lA l.length lc),(3,iV k),(4,.pointer (some ⟨b4,0,none⟩)),(8,.slice lA l.length lc),(9,iV l.length),(10,iV k),(24,.bool (decide (((!(zI.named s1.key))=true)∨((!(zI.named s1.val))=true))))] (Mem w no [.blk b4 [.string s1.key,.string s1.val] 74,slO (In w) 2 zQ (.slice lA l.length lc) l]) (fun _ hK12=>?_) ?_
  ·refine (go 3) ?_
   refine yH call92 wn rfl (fun w1 hM=>v7 s1.key w1) (zb (yC rfl) ?_)
   refine (go 1) (jJ 19 (fun h3=>?_) fun h3=>?_)
   ·refine (go 5) ?_
    refine zU (zm hK12 (sc rfl (sc rfl (sc rfl (sc rfl (sc rfl (sc rfl (sc (jt (Or.inl h3)) sn))))))) (fun _ h=>h))
   refine (go 2) ?_
   refine yH call92 (wg rfl rfl rfl) rfl (fun w1 hM=>v7 s1.val w1) (y9 (yC rfl) ?_)
   refine (go 1) ?_
   refine zU (zm hK12 (sc rfl (sc rfl (sc rfl (sc rfl (sc rfl (sc rfl (sc (jpb (iff_or_right h3 Iff.rfl)) sn))))))) (fun _ h=>h))
  refine zX (fun h4=>?_) fun h4=>?_
  ·refine (go 12) (zY results42 fun w1 hM=>?_)
   exact zP (by rw [zI.wrong,if_neg qO,hI1.2,zI.wrong_step hs1,if_pos h4]) hM
  refine (go 7) (va 27 (fun h5=>?_) fun h5=>?_)
  ·refine (go 3) ?_
   refine vd (yx (i:=(k - 1)) rfl hd1 rfl qO qI underlying39 inf74) ?_
   refine (go 1) ?_
   obtain ⟨s2,hs2⟩:=gx l ((k - 1))
   refine (go 7) (yb (fun h6=>?_) fun h6=>?_)
   ·refine (go 11) (zY results42 fun w1 hM=>?_)
    exact zP (by rw [zI.wrong,if_neg qO,hI1.2,zI.wrong_step hs1,if_neg h4,if_pos (by rw [zI.prevOf,if_neg qO,hs2]; simpa [zI.behind] using h6)]) hM
   refine (go 6) ?_
   refine zU (zh (k + 1) (sc rfl (sc rfl (sc rfl (sc (ji qO) sn)))) (S9 [1]) ?_ ?_)
   ·exact ⟨by omega,by rw [hI1.2,zI.wrong_step hs1,if_neg h4,if_neg (by rw [zI.prevOf,if_neg qO,hs2]; simpa [zI.behind] using h6)]⟩
   omega
  refine (go 19) ?_
  refine zU (zh (k + 1) (sc rfl (sc rfl (sc rfl (sc (ji qO) sn)))) (S9 [1]) ?_ ?_)
  ·exact ⟨by omega,by rw [hI1.2,zI.wrong_step hs1,if_neg h4,if_neg (by rw [zI.prevOf,if_pos qO]; simp [zI.behind])]⟩
  omega
 refine (go 11) (zY results42 fun w1 hM=>?_)
 exact zP (by rw [zI.wrong,if_neg qO,hI1.2,zI.wrong_end qO]) hM
theorem c_index (lv:Value) (l:List ByteArray) (v:ByteArray) (w:World) (hl:zD (In w) 1 strE lv l w)  :
    Calls prog 185 #[lv,.string v] w (Ret w (iV (zI.indexOf l v 0))):=by
 obtain ⟨lA,lc,rfl,hlc,hlm,hlA⟩:=hl.form
 refine zr (N:=19) func185 (Mem.ofDats (dc (dl hl) dn)) ?_
 refine (go 14) ?_
 refine yE (fun (k:Nat)=>[(0,.slice lA l.length lc),(1,.string v),(7,iV l.length),(8,iV k)]) (fun (k:Nat)=>[slO (In w) 1 strE (.slice lA l.length lc) l]) (fun (k:Nat)=>k≤l.length∧zI.indexOf l v 0=zI.indexOf (l.drop k) v k) (fun (k:Nat)=>l.length - k) 0 (sc rfl (sc rfl (sc rfl (sc (ji qO) sn)))) (fun _ h=>h) ?_ (fun k hI1=>?_)
 ·simp
 refine (go 6) (zX (fun h1=>?_) fun h1=>?_)
 ·refine (go 15) ?_
  obtain ⟨ad1,s1,hd1,hs1⟩:=elx hlA k
  refine (go 5) (zX (fun h2=>?_) fun h2=>?_)
  ·refine (go 12) (zY results185 fun w1 hM=>?_)
   exact zP (by rw [hI1.2,zI.index_step hs1,if_pos h2]) hM
  refine (go 6) ?_
  refine zU (zh (k + 1) (sc rfl (sc rfl (sc rfl (sc (ji qO) sn)))) (fun _ h=>h) ?_ ?_)
  ·exact ⟨by omega,by rw [hI1.2,zI.index_step hs1,if_neg h2]⟩
  omega
 refine (go 11) (zY results185 fun w1 hM=>?_)
 exact zP (by rw [hI1.2,zI.index_end qO]) hM
theorem vR (lv:Value) (l:List ByteArray) (v:ByteArray) (w:World) (hl:zD (In w) 1 strE lv l w)  :
    Calls prog 150 #[lv,.string v] w (Ret w (.bool (decide (0≤zI.indexOf l v 0)))):=by
 obtain ⟨lA,lc,rfl,hlc,hlm,hlA⟩:=hl.form
 refine zr (N:=9) func150 (Mem.ofDats (dc (dl hl) dn)) ?_
 refine (go 9) ?_
 refine yH call185 wn rfl (fun w1 hM=>c_index _ l v w1 (hM.sl 0 rfl)) ?_
 refine (go 5) (zY results150 fun w1 hM=>?_)
 exact zP rfl hM
theorem c_only (lv:Value) (l:List Label) (by_v:Value) (by_:List ByteArray) (w:World) (hl:zD (In w) 2 zQ lv l w) (hby_:zD (In w) 1 strE by_v by_ w) (hl1:l.length≤1048576) :
    Calls prog 188 #[lv,by_v] w (RetL w 74 2 zQ (zI.only l by_)):=by
 obtain ⟨lA,lc,rfl,hlc,hlm,hlA⟩:=hl.form
 obtain ⟨by_A,by_c,rfl,hby_c,hby_m,hby_A⟩:=hby_.form
 refine zr (N:=24) func188 (Mem.ofDats (dc (dl hl) (dc (dl hby_) dn))) ?_
 refine (go 2) ?_
 refine yD (zQ:Label→List Value) 74 2 ?_
 refine (go 5) ?_
 refine yD (zQ:Label→List Value) 74 2 ?_
 refine (go 12) ?_
 refine vV (fun (k:Nat) (vr:Value)=>[(1,.slice by_A by_.length by_c),(5,vr),(8,.slice lA l.length lc),(9,iV l.length),(10,iV k)]) (fun (k:Nat) (vr:Value)=>[Row vr 74 2 zQ (zI.only (l.take k) by_),Row (Zs) 74 2 zQ ([]:List Label),slO (In w) 2 zQ (.slice lA l.length lc) l,slO (In w) 1 strE (.slice by_A by_.length by_c) by_]) (fun (k:Nat) (vr:Value)=>k≤l.length) (fun (k:Nat) (vr:Value)=>l.length - k) 0 (Zs) (sc rfl (sc rfl (sc rfl (sc rfl (sc (ji qO) sn))))) (fun _ h=>h) ?_ (fun k vr hI1=>?_)
 ·omega
 have hlen:=Nat.le_trans (zI.only_len (l.take k) by_) (List.length_take_le k l)
 refine yU 0 (l:=(zI.only (l.take k) by_)) rfl fun A1 cp1 hv1 hc1 hm1 hA1=>?_
 subst hv1
 refine (go 6) (zX (fun h1=>?_) fun h1=>?_)
 ·refine (go 6) ?_
  obtain ⟨ad1,s1,hd1,hs1⟩:=elx hlA k
  refine (go 2) (zz fun b7=>?_)
  refine (go 8) ?_
  refine yH call150 wn rfl (fun w1 hM=>vR _ by_ s1.key w1 (hM.sl 4 rfl)) ?_
  refine (go 2) (zX (fun h2=>?_) fun h2=>?_)
  ·refine (go 3) ?_
   refine zy zQ ([s1]:List Label) wn underlying39 inf74 rfl rfl rfl rfl qD qD rfl fun b20=>yI 2 (zI.only (l.take k) by_) ([s1]:List Label) encLabel wn rfl rfl rfl (fun _ hM=>(RowSl encLabel hM 0 rfl)) underlying39 inf74 rfl rfl (by simp only [qL]; omega) rfl fun A2 cp2 hc2 hm2 hA2=>?_
   refine (go 7) ?_
   refine zU (yZ (k + 1) (.slice A2 (((zI.only (l.take k) by_)++([s1]:List Label)).length) cp2) (sc rfl (sc rfl (sc rfl (sc rfl (sc (ji qO) sn))))) (fun _ h=>by rw [(zI.only_succ hs1).trans (if_pos h2)]; exact (h.sel [2,3,4,5] qD rfl)) ?_ ?_)
   ·omega
   omega
  refine (go 6) ?_
  refine zU (yZ (k + 1) (.slice A1 ((zI.only (l.take k) by_).length) cp1) (sc rfl (sc rfl (sc rfl (sc rfl (sc (ji qO) sn))))) (fun _ h=>by rw [(zI.only_succ hs1).trans (if_neg h2)]; exact (h.sel [1,2,3,4] qD rfl)) ?_ ?_)
  ·omega
  omega
 refine (go 12) (zY results188 fun w1 hM=>?_)
 exact hM.vn 0 rfl (by rw [List.take_of_length_le qO])
end
section
open Tryz
open Ex
attribute [local irreducible] WC WL WQ WE WS
set_option linter.unusedVariables false
set_option linter.unusedSimpArgs false
theorem vi (lv:Value) (l:List Sample) (w:World) (hl:zD (In w) 2 zT lv l w)  :
    Calls prog 43 #[lv] w (Ret w (.agg (faultE (Codec.wrong l)).toArray)):=by
 obtain ⟨lA,lc,rfl,hlc,hlm,hlA⟩:=hl.form
 refine zr (N:=53) func43 (Mem.ofDats (dc (dl hl) dn)) ?_
 refine (go 2) (zz fun b2=>?_)
 refine (go 10) (zX (fun h1=>?_) fun h1=>?_)
 ·refine (go 8) (zY results43 fun w1 hM=>?_)
  exact yp (l1:=[iV 5,iV 0]) (by rw [Codec.wrong,if_pos qO]) hM
 refine (go 11) ?_
 refine yE (fun (k:Nat)=>[(0,.slice lA l.length lc),(2,.pointer (some ⟨b2,0,none⟩)),(9,.slice lA l.length lc),(10,iV l.length),(11,iV k)]) (fun (k:Nat)=>[.blk b2 [iV 0,iV 0] 61,slO (In w) 2 zT (.slice lA l.length lc) l]) (fun (k:Nat)=>k≤l.length∧Codec.wrongFrom 0 none l=Codec.wrongFrom k (Codec.prevOf l k) (l.drop k)) (fun (k:Nat)=>l.length - k) 0 (sc rfl (sc rfl (sc rfl (sc rfl (sc (ji qO) sn))))) (fun _ h=>h) ?_ (fun k hI1=>?_)
 ·exact ⟨by omega,Codec.wrong_start l⟩
 refine (go 6) (zX (fun h2=>?_) fun h2=>?_)
 ·refine (go 7) ?_
  obtain ⟨ad1,s1,hd1,hs1⟩:=elx hlA k
  refine (go 2) (zz fun b4=>?_)
  refine (go 5) ?_
  refine ym [(0,.slice lA l.length lc),(2,.pointer (some ⟨b2,0,none⟩)),(3,iV k),(4,.pointer (some ⟨b4,0,none⟩)),(9,.slice lA l.length lc),(10,iV l.length),(11,iV k),(33,.bool (decide ((s1.time < 0)∨((1000000 < s1.time)∨((s1.value < (-1000000000))∨(1000000000 < s1.value))))))] (Mem w no [.blk b4 [iV s1.time,iV s1.value] 41,.blk b2 [iV 0,iV 0] 61,slO (In w) 2 zT (.slice lA l.length lc) l]) (fun _ hK12=>?_) ?_
  ·refine (go 5) (yN 19 (fun h3=>?_) fun h3=>?_)
   ·refine (go 14) ?_
    refine zU (zm hK12 (sc rfl (sc rfl (sc rfl (sc rfl (sc rfl (sc rfl (sc rfl (sc (jt (Or.inl h3)) sn)))))))) (fun _ h=>h))
   refine (go 5) (yN 24 (fun h4=>?_) fun h4=>?_)
   ·refine (go 9) ?_
    refine zU (zm hK12 (sc rfl (sc rfl (sc rfl (sc rfl (sc rfl (sc rfl (sc rfl (sc (jt (Or.inr (Or.inl h4))) sn)))))))) (fun _ h=>h))
   refine (go 5) (yN 29 (fun h5=>?_) fun h5=>?_)
   ·refine (go 4) ?_
    refine zU (zm hK12 (sc rfl (sc rfl (sc rfl (sc rfl (sc rfl (sc rfl (sc rfl (sc (jt (Or.inr (Or.inr (Or.inl h5)))) sn)))))))) (fun _ h=>h))
   refine (go 4) ?_
   refine zU (zm hK12 (sc rfl (sc rfl (sc rfl (sc rfl (sc rfl (sc rfl (sc rfl (sc (jp (iff_or_right h3 (iff_or_right h4 (iff_or_right h5 Iff.rfl)))) sn)))))))) (fun _ h=>h))
  refine zX (fun h6=>?_) fun h6=>?_
  ·refine (go 14) (zY results43 fun w1 hM=>?_)
   exact yp (l1:=[iV 3,iV k]) (by rw [Codec.wrong,if_neg qO,hI1.2,Codec.wrong_step hs1,if_pos (by unfold Codec.badRange; omega)]) hM
  refine (go 7) (va 38 (fun h7=>?_) fun h7=>?_)
  ·refine (go 3) ?_
   refine vd (yx (i:=(k - 1)) rfl hd1 rfl qO qI underlying47 inf41) ?_
   refine (go 1) ?_
   obtain ⟨s2,hs2⟩:=gx l ((k - 1))
   refine (go 7) (zX (fun h8=>?_) fun h8=>?_)
   ·refine (go 13) (zY results43 fun w1 hM=>?_)
    exact yp (l1:=[iV 2,iV k]) (by rw [Codec.wrong,if_neg qO,hI1.2,Codec.wrong_step hs1,if_neg (by unfold Codec.badRange; omega),if_pos (by rw [Codec.prevOf,if_neg qO,hs2]; simp [Codec.notAhead]; omega)]) hM
   refine (go 6) ?_
   refine zU (zh (k + 1) (sc rfl (sc rfl (sc rfl (sc rfl (sc (ji qO) sn))))) (S9 [1,2]) ?_ ?_)
   ·exact ⟨by omega,by rw [hI1.2,Codec.wrong_step hs1,if_neg (by unfold Codec.badRange; omega),if_neg (by rw [Codec.prevOf,if_neg qO,hs2]; simp [Codec.notAhead]; omega)]⟩
   omega
  refine (go 19) ?_
  refine zU (zh (k + 1) (sc rfl (sc rfl (sc rfl (sc rfl (sc (ji qO) sn))))) (S9 [1,2]) ?_ ?_)
  ·exact ⟨by omega,by rw [hI1.2,Codec.wrong_step hs1,if_neg (by unfold Codec.badRange; omega),if_neg (by rw [Codec.prevOf,if_pos qO]; simp [Codec.notAhead])]⟩
  omega
 refine (go 12) (zY results43 fun w1 hM=>?_)
 exact yp (l1:=[iV 0,iV 0]) (by rw [Codec.wrong,if_neg qO,hI1.2,Codec.wrong_end qO]) hM
theorem c_SameSeries (av:Value) (a:List Label) (bv:Value) (b:List Label) (w:World) (ha:zD (In w) 2 zQ av a w) (hb:zD (In w) 2 zQ bv b w)  :
    Calls prog 41 #[av,bv] w (Ret w (.bool (decide (a=b)))):=by
 obtain ⟨aA,ac,rfl,hac,ham,haA⟩:=ha.form
 obtain ⟨bA,bc,rfl,hbc,hbm,hbA⟩:=hb.form
 refine zr (N:=26) func41 (Mem.ofDats (dc (dl ha) (dc (dl hb) dn))) ?_
 refine (go 15) (zX (fun h1=>?_) fun h1=>?_)
 ·refine (go 7) (zY results41 fun w1 hM=>?_)
  exact zP (by rw [decide_eq_false (fun e=>h1 (by rw [e]))]) hM
 refine (go 11) ?_
 refine yE (fun (k:Nat)=>[(0,.slice aA a.length ac),(1,.slice bA b.length bc),(12,iV a.length),(13,iV k)]) (fun (k:Nat)=>[slO (In w) 2 zQ (.slice aA a.length ac) a,slO (In w) 2 zQ (.slice bA b.length bc) b]) (fun (k:Nat)=>k≤a.length∧a.take k=b.take k) (fun (k:Nat)=>a.length - k) 0 (sc rfl (sc rfl (sc rfl (sc (ji qO) sn)))) (fun _ h=>h) ?_ (fun k hI1=>?_)
 ·simp
 refine (go 6) (zX (fun h2=>?_) fun h2=>?_)
 ·refine (go 14) ?_
  obtain ⟨ad1,s1,hd1,hs1⟩:=elx haA k
  refine (go 4) ?_
  obtain ⟨ad2,s2,hd2,hs2⟩:=elx hbA k
  refine (go 2) ?_
  refine yk (r_neqS (a:=s1) (b:=s2) rfl rfl eqv74) ?_
  refine (go 2) (zX (fun h3=>?_) fun h3=>?_)
  ·refine (go 11) (zY results41 fun w1 hM=>?_)
   exact zP (by rw [decide_eq_false (fun e=>h3 (Option.some.inj (hs1.symm.trans (by rw [e]; exact hs2))))]) hM
  refine (go 6) ?_
  refine zU (zh (k + 1) (sc rfl (sc rfl (sc rfl (sc (ji qO) sn)))) (fun _ h=>h) ?_ ?_)
  ·exact ⟨by omega,same_step hI1.2 hs1 hs2 (Classical.not_not.1 h3)⟩
  omega
 refine (go 11) (zY results41 fun w1 hM=>?_)
 exact zP (by rw [decide_eq_true (same_done qO qO hI1.2)]) hM
end
section
open Tryz
open Ex
attribute [local irreducible] WC WL WQ WE WS
set_option linter.unusedVariables false
set_option linter.unusedSimpArgs false
theorem uW (tier:Int) (w:World)   :
    Calls prog 93 #[iV tier] w (Ret w (iV (Roll.step tier))):=by
 refine zr (N:=8) func93 (Mem.ofDats dn) ?_
 refine (go 18) (zX (fun h1=>?_) fun h1=>?_)
 ·refine (go 8) (zY results93 fun w1 hM=>?_)
  exact zP (by simp [Roll.step,h1]) hM
 refine (go 6) (zX (fun h2=>?_) fun h2=>?_)
 ·refine (go 8) (zY results93 fun w1 hM=>?_)
  exact zP (by simp [Roll.step,h1,h2]) hM
 refine (go 9) (zY results93 fun w1 hM=>?_)
 exact zP (by simp [Roll.step,h1,h2]) hM
theorem c_add (lv:Value) (l:List Bucket) (time:Int) (step:Int) (s:Sum) (w:World) (hl:w.ownsRow 0 163 8 lv l.length (l.flatMap zJ)) (hst:step≠0) (hl1:l.length≤1048576) :
    Calls prog 169 #[lv,iV time,iV step,.agg (sumE s).toArray] w (RetU w lv 163 8 zJ (Roll.add l time step s)):=by
 refine zr (N:=48) func169 (Mem.ownArg hl) (yU 0 (l:=l) rfl fun A0 cp0 hv0 hc0 hm0 hA0=>?_)
 subst hv0
 refine (go 2) (yu fun b7=>?_)
 refine (go 8) ?_
 refine zb (jD rfl rfl qO) (zb (jl rfl rfl) ?_)
 refine (go 17) (yN 21 (fun h1=>?_) fun h1=>?_)
 ·refine (go 2) ?_
  obtain ⟨ad1,s1,hd1,hs1⟩:=elx hA0 (l.length - 1)
  refine y9 (yx (i:=(l.length - 1)) rfl hd1 rfl qO qI underlying48 inf163) ?_
  refine (go 1) ?_
  refine y9 (uB 1 encBucket rfl rfl hd1 hs1 rfl flat3) ?_
  refine (go 5) (zX (fun h2=>?_) fun h2=>?_)
  ·refine (go 1) (uH 11 ?_)
   refine (go 4) ?_
   refine yk (yx (i:=(l.length - 1)) rfl hd1 rfl qO qI underlying48 inf163) ?_
   refine (go 1) ?_
   refine yk (uN 1 [iV s1.sum.count,iV s1.sum.total,iV s1.sum.min,iV s1.sum.max,iV s1.sum.first,iV s1.sum.last,iV s1.sum.rise] encBucket rfl rfl hd1 hs1 rfl rfl agg89 inf89) ?_
   refine (go 1) ?_
   refine yP wn rfl call66 rfl (fun w1 hM=>vb s1.sum s w1) (yk (yx (i:=(l.length - 1)) rfl hd1 rfl qO qI underlying48 inf163) ?_)
   refine (go 2) ?_
   refine uC 1 (vs:=[iV ((Agg.join s1.sum s).count),iV ((Agg.join s1.sum s).total),iV ((Agg.join s1.sum s).min),iV ((Agg.join s1.sum s).max),iV ((Agg.join s1.sum s).first),iV ((Agg.join s1.sum s).last),iV ((Agg.join s1.sum s).rise)]) (⟨s1.at_,(Agg.join s1.sum s)⟩:Bucket) encBucket wn rfl rfl rfl rfl hd1 hs1 inf89 rfl rfl rfl rfl ?_
   refine (go 10) (zY results169 fun w1 hM=>?_)
   exact hM.un 1 rfl (Roll.add_last hs1 h2)
  refine (go 8) ?_
  refine zy zJ ([(⟨(IntKind.wrap .i64 (time - (Int.tmod time step))),s⟩:Bucket)]:List Bucket) wn underlying48 inf163 rfl rfl rfl rfl qD qD rfl fun b46=>yI 2 l ([(⟨(IntKind.wrap .i64 (time - (Int.tmod time step))),s⟩:Bucket)]:List Bucket) encBucket wn rfl rfl rfl (fun _ hM=>(RowSl encBucket hM 0 rfl)) underlying48 inf163 rfl rfl (by simp only [qL]; omega) rfl fun A1 cp1 hc1 hm1 hA1=>?_
  refine (go 4) (zY results169 fun w1 hM=>?_)
  exact hM.un 2 rfl (Roll.add_new hs1 h2)
 refine (go 19) ?_
 refine zy zJ ([(⟨(IntKind.wrap .i64 (time - (Int.tmod time step))),s⟩:Bucket)]:List Bucket) wn underlying48 inf163 rfl rfl rfl rfl qD qD rfl fun b46=>yI 2 l ([(⟨(IntKind.wrap .i64 (time - (Int.tmod time step))),s⟩:Bucket)]:List Bucket) encBucket wn rfl rfl rfl (fun _ hM=>(RowSl encBucket hM 0 rfl)) underlying48 inf163 rfl rfl (by simp only [qL]; omega) rfl fun A2 cp2 hc2 hm2 hA2=>?_
 refine (go 4) (zY results169 fun w1 hM=>?_)
 exact hM.un 2 rfl (Roll.add_nil h1)
theorem c_Up (lv:Value) (l:List Sample) (tier:Int) (w:World) (hl:zD (In w) 2 zT lv l w) (hl1:l.length≤1048576) :
    Calls prog 126 #[lv,iV tier] w (RetL w 163 8 zJ (Roll.up l tier)):=by
 obtain ⟨lA,lc,rfl,hlc,hlm,hlA⟩:=hl.form
 refine zr (N:=29) func126 (Mem.ofDats (dc (dl hl) dn)) ?_
 refine (go 2) ?_
 refine yD (zJ:Bucket→List Value) 163 8 ?_
 refine (go 6) ?_
 refine yH call93 wn rfl (fun w1 hM=>uW tier w1) ?_
 refine (go 10) (zX (fun h1=>?_) fun h1=>?_)
 ·refine (go 2) ?_
  refine yD (zJ:Bucket→List Value) 163 8 ?_
  refine (go 5) (zY results126 fun w1 hM=>?_)
  exact hM.vn 0 rfl (by simp [Roll.up,h1])
 refine (go 4) ?_
 refine yD (zJ:Bucket→List Value) 163 8 ?_
 refine (go 12) ?_
 refine vV (fun (k:Nat) (vr:Value)=>[(5,iV (Roll.step tier)),(6,vr),(13,.slice lA l.length lc),(14,iV l.length),(15,iV k)]) (fun (k:Nat) (vr:Value)=>[Row vr 163 8 zJ (Roll.ups (l.take k) (Roll.step tier)),Row (Zs) 163 8 zJ ([]:List Bucket),slO (In w) 2 zT (.slice lA l.length lc) l]) (fun (k:Nat) (vr:Value)=>k≤l.length) (fun (k:Nat) (vr:Value)=>l.length - k) 0 (Zs) (sc rfl (sc rfl (sc rfl (sc rfl (sc (ji qO) sn))))) (fun _ h=>h) ?_ (fun k vr hI1=>?_)
 ·omega
 have hlen:=Nat.le_trans (Roll.ups_len (l.take k) (Roll.step tier)) (List.length_take_le k l)
 refine yU 0 (l:=(Roll.ups (l.take k) (Roll.step tier))) rfl fun A1 cp1 hv1 hc1 hm1 hA1=>?_
 subst hv1
 refine (go 6) (zX (fun h2=>?_) fun h2=>?_)
 ·refine (go 6) ?_
  obtain ⟨ad1,s1,hd1,hs1⟩:=elx hlA k
  refine (go 2) (zz fun b8=>?_)
  refine (go 3) (uH 7 ?_)
  refine (go 6) ?_
  refine yP wn rfl call67 rfl (fun w1 hM=>js s1.value w1) ?_
  refine (go 1) ?_
  refine vL 1 (Roll.add (Roll.ups (l.take k) (Roll.step tier)) s1.time (Roll.step tier) (Agg.one s1.value)) rfl wn rfl call169 rfl (fun w1 hM=>c_add _ (Roll.ups (l.take k) (Roll.step tier)) s1.time (Roll.step tier) (Agg.one s1.value) w1 (hM.row (i:=1) rfl) (by first | assumption | omega | decide) (by first | assumption | omega | (simp only [List.length_cons,List.length_nil]; omega) | exact Nat.le_trans (Roll.up_len _ _) (by first | omega | simp))) fun A2 cp2 hc2 hm2 hA2=>?_
  refine (go 7) ?_
  refine zU (yZ (k + 1) (.slice A2 ((Roll.add (Roll.ups (l.take k) (Roll.step tier)) s1.time (Roll.step tier) (Agg.one s1.value)).length) cp2) (sc rfl (sc rfl (sc rfl (sc rfl (sc (ji qO) sn))))) (fun _ h=>by rw [Roll.ups_succ l (Roll.step tier) k s1 hs1]; exact (h.sel [1,2,3] qD rfl)) ?_ ?_)
  ·omega
  omega
 refine (go 12) (zY results126 fun w1 hM=>?_)
 exact hM.vn 0 rfl (by rw [List.take_of_length_le qO]; simp [Roll.up,h1])
theorem c_Greater (lv:Value) (l:List Bucket) (w:World) (hl:zD (In w) 8 zJ lv l w) (hl1:l.length≤1048576) :
    Calls prog 127 #[lv] w (RetL w 163 8 zJ (Roll.greater l)):=by
 obtain ⟨lA,lc,rfl,hlc,hlm,hlA⟩:=hl.form
 refine zr (N:=20) func127 (Mem.ofDats (dc (dl hl) dn)) ?_
 refine (go 2) ?_
 refine yD (zJ:Bucket→List Value) 163 8 ?_
 refine (go 5) ?_
 refine yD (zJ:Bucket→List Value) 163 8 ?_
 refine (go 12) ?_
 refine vV (fun (k:Nat) (vr:Value)=>[(3,vr),(6,.slice lA l.length lc),(7,iV l.length),(8,iV k)]) (fun (k:Nat) (vr:Value)=>[Row vr 163 8 zJ (Roll.greater (l.take k)),Row (Zs) 163 8 zJ ([]:List Bucket),slO (In w) 8 zJ (.slice lA l.length lc) l]) (fun (k:Nat) (vr:Value)=>k≤l.length) (fun (k:Nat) (vr:Value)=>l.length - k) 0 (Zs) (sc rfl (sc rfl (sc rfl (sc (ji qO) sn)))) (fun _ h=>h) ?_ (fun k vr hI1=>?_)
 ·omega
 have hlen:=Nat.le_trans (Roll.greater_len (l.take k)) (List.length_take_le k l)
 refine yU 0 (l:=(Roll.greater (l.take k))) rfl fun A1 cp1 hv1 hc1 hm1 hA1=>?_
 subst hv1
 refine (go 6) (zX (fun h1=>?_) fun h1=>?_)
 ·refine (go 6) ?_
  obtain ⟨ad1,s1,hd1,hs1⟩:=elx hlA k
  refine (go 2) (zz fun b5=>?_)
  refine (go 9) ?_
  refine vL 1 (Roll.add (Roll.greater (l.take k)) s1.at_ 60 s1.sum) rfl wn rfl call169 rfl (fun w1 hM=>c_add _ (Roll.greater (l.take k)) s1.at_ 60 s1.sum w1 (hM.row (i:=1) rfl) (by first | assumption | omega | decide) (by first | assumption | omega | (simp only [List.length_cons,List.length_nil]; omega) | exact Nat.le_trans (Roll.up_len _ _) (by first | omega | simp))) fun A2 cp2 hc2 hm2 hA2=>?_
  refine (go 7) ?_
  refine zU (yZ (k + 1) (.slice A2 ((Roll.add (Roll.greater (l.take k)) s1.at_ 60 s1.sum).length) cp2) (sc rfl (sc rfl (sc rfl (sc (ji qO) sn)))) (fun _ h=>by rw [Roll.greater_succ l k s1 hs1]; exact (h.sel [1,2,3] qD rfl)) ?_ ?_)
  ·omega
  omega
 refine (go 12) (zY results127 fun w1 hM=>?_)
 exact hM.vn 0 rfl (by rw [List.take_of_length_le qO])
theorem uO (lv:Value) (l:List Bucket) (frm:Int) (to:Int) (w:World) (hl:zD (In w) 8 zJ lv l w)  :
    Calls prog 164 #[lv,iV frm,iV to] w (Ret w (.agg (sumE (Roll.of l frm to)).toArray)):=by
 obtain ⟨lA,lc,rfl,hlc,hlm,hlA⟩:=hl.form
 refine zr (N:=32) func164 (Mem.ofDats (dc (dl hl) dn)) ?_
 refine (go 2) (zz fun b6=>?_)
 refine (go 4) (zz fun b7=>?_)
 refine (go 11) ?_
 refine yE (fun (k:Nat)=>[(1,iV frm),(2,iV to),(6,.pointer (some ⟨b6,0,none⟩)),(7,.pointer (some ⟨b7,0,none⟩)),(10,.slice lA l.length lc),(11,iV l.length),(12,iV k)]) (fun (k:Nat)=>[.blk b7 [iV ((Roll.of (l.take k) frm to).count),iV ((Roll.of (l.take k) frm to).total),iV ((Roll.of (l.take k) frm to).min),iV ((Roll.of (l.take k) frm to).max),iV ((Roll.of (l.take k) frm to).first),iV ((Roll.of (l.take k) frm to).last),iV ((Roll.of (l.take k) frm to).rise)] 89,.blk b6 [iV 0,iV 0,iV 0,iV 0,iV 0,iV 0,iV 0] 89,slO (In w) 8 zJ (.slice lA l.length lc) l]) (fun (k:Nat)=>k≤l.length) (fun (k:Nat)=>l.length - k) 0 (sc rfl (sc rfl (sc rfl (sc rfl (sc rfl (sc rfl (sc (ji qO) sn))))))) (fun _ h=>h) ?_ (fun k hI1=>?_)
 ·omega
 refine (go 6) (zX (fun h1=>?_) fun h1=>?_)
 ·refine (go 6) ?_
  obtain ⟨ad1,s1,hd1,hs1⟩:=elx hlA k
  refine (go 2) (zz fun b9=>?_)
  refine (go 10) (yN 20 (fun h2=>?_) fun h2=>?_)
  ·refine (go 7) (zX (fun h3=>?_) fun h3=>?_)
   ·refine (go 4) ?_
    refine yH call66 wn rfl (fun w1 hM=>vb (Roll.of (l.take k) frm to) s1.sum w1) ?_
    refine (go 7) ?_
    have hst:=Roll.of_succ l frm to k s1 hs1
    rw [if_pos qO] at hst
    refine zU (zh (k + 1) (sc rfl (sc rfl (sc rfl (sc rfl (sc rfl (sc rfl (sc (ji qO) sn))))))) (fun _ h=>by rw [hst]; exact (h.sel [1,2,3] qD rfl)) ?_ ?_)
    ·omega
    omega
   refine (go 6) ?_
   have hst:=Roll.of_succ l frm to k s1 hs1
   rw [if_neg qO] at hst
   refine zU (zh (k + 1) (sc rfl (sc rfl (sc rfl (sc rfl (sc rfl (sc rfl (sc (ji qO) sn))))))) (fun _ h=>by rw [hst]; exact (h.sel [1,2,3] qD rfl)) ?_ ?_)
   ·omega
   omega
  refine (go 14) ?_
  have hst:=Roll.of_succ l frm to k s1 hs1
  rw [if_neg qO] at hst
  refine zU (zh (k + 1) (sc rfl (sc rfl (sc rfl (sc rfl (sc rfl (sc rfl (sc (ji qO) sn))))))) (fun _ h=>by rw [hst]; exact (h.sel [1,2,3] qD rfl)) ?_ ?_)
  ·omega
  omega
 refine (go 12) (zY results164 fun w1 hM=>?_)
 exact yp (l1:=[iV ((Roll.of (l.take k) frm to).count),iV ((Roll.of (l.take k) frm to).total),iV ((Roll.of (l.take k) frm to).min),iV ((Roll.of (l.take k) frm to).max),iV ((Roll.of (l.take k) frm to).first),iV ((Roll.of (l.take k) frm to).last),iV ((Roll.of (l.take k) frm to).rise)]) (by rw [List.take_of_length_le qO]) hM
theorem c_rollWrong (lv:Value) (l:List Bucket) (tier:Int) (w:World) (hl:zD (In w) 8 zJ lv l w)  :
    Calls prog 44 #[lv,iV tier] w (Ret w (.agg (faultE (Roll.wrong l tier)).toArray)):=by
 obtain ⟨lA,lc,rfl,hlc,hlm,hlA⟩:=hl.form
 refine zr (N:=71) func44 (Mem.ofDats (dc (dl hl) dn)) ?_
 refine (go 2) (zz fun b4=>?_)
 refine (go 5) ?_
 refine yH call93 wn rfl (fun w1 hM=>uW tier w1) ?_
 refine (go 10) (zX (fun h1=>?_) fun h1=>?_)
 ·refine (go 8) (zY results44 fun w1 hM=>?_)
  exact yp (l1:=[iV 1,iV 0]) (by rw [Roll.wrong,if_pos qO]) hM
 refine (go 10) (zX (fun h2=>?_) fun h2=>?_)
 ·refine (go 8) (zY results44 fun w1 hM=>?_)
  exact yp (l1:=[iV 5,iV 0]) (by rw [Roll.wrong,if_neg qO,if_pos qO]) hM
 refine (go 11) ?_
 refine yE (fun (k:Nat)=>[(0,.slice lA l.length lc),(4,.pointer (some ⟨b4,0,none⟩)),(5,iV (Roll.step tier)),(17,.slice lA l.length lc),(18,iV l.length),(19,iV k)]) (fun (k:Nat)=>[.blk b4 [iV 0,iV 0] 61,slO (In w) 8 zJ (.slice lA l.length lc) l]) (fun (k:Nat)=>k≤l.length∧Roll.wrongFrom (Roll.step tier) 0 none l=Roll.wrongFrom (Roll.step tier) k (Roll.prevOf l k) (l.drop k)) (fun (k:Nat)=>l.length - k) 0 (sc rfl (sc rfl (sc rfl (sc rfl (sc rfl (sc (ji qO) sn)))))) (fun _ h=>h) ?_ (fun k hI1=>?_)
 ·exact ⟨by omega,Roll.wrong_start l _⟩
 refine (go 6) (zX (fun h3=>?_) fun h3=>?_)
 ·refine (go 7) ?_
  obtain ⟨ad1,s1,hd1,hs1⟩:=elx hlA k
  refine (go 2) (zz fun b7=>?_)
  refine (go 5) ?_
  refine ym [(0,.slice lA l.length lc),(4,.pointer (some ⟨b4,0,none⟩)),(5,iV (Roll.step tier)),(6,iV k),(7,.pointer (some ⟨b7,0,none⟩)),(17,.slice lA l.length lc),(18,iV l.length),(19,iV k),(51,.bool (decide ((s1.at_ < 0)∨((1000000 < s1.at_)∨(((Int.tmod s1.at_ (Roll.step tier))≠0)∨((s1.sum.count < 1)∨((Roll.step tier) < s1.sum.count)))))))] (Mem w no [.blk b7 [iV s1.at_,iV s1.sum.count,iV s1.sum.total,iV s1.sum.min,iV s1.sum.max,iV s1.sum.first,iV s1.sum.last,iV s1.sum.rise] 163,.blk b4 [iV 0,iV 0] 61,slO (In w) 8 zJ (.slice lA l.length lc) l]) (fun _ hK16=>?_) ?_
  ·refine (go 5) (yN 27 (fun h4=>?_) fun h4=>?_)
   ·refine (go 24) ?_
    refine zU (zm hK16 (sc rfl (sc rfl (sc rfl (sc rfl (sc rfl (sc rfl (sc rfl (sc rfl (sc (jt (Or.inl h4)) sn))))))))) (fun _ h=>h))
   refine (go 5) (yN 32 (fun h5=>?_) fun h5=>?_)
   ·refine (go 19) ?_
    refine zU (zm hK16 (sc rfl (sc rfl (sc rfl (sc rfl (sc rfl (sc rfl (sc rfl (sc rfl (sc (jt (Or.inr (Or.inl h5))) sn))))))))) (fun _ h=>h))
   refine (go 3) ?_
   refine y9 (jD rfl rfl qO) ?_
   refine (go 3) (yN 39 (fun h6=>?_) fun h6=>?_)
   ·refine (go 12) ?_
    refine zU (zm hK16 (sc rfl (sc rfl (sc rfl (sc rfl (sc rfl (sc rfl (sc rfl (sc rfl (sc (jt (Or.inr (Or.inr (Or.inl h6)))) sn))))))))) (fun _ h=>h))
   refine (go 6) (yN 45 (fun h7=>?_) fun h7=>?_)
   ·refine (go 6) ?_
    refine zU (zm hK16 (sc rfl (sc rfl (sc rfl (sc rfl (sc rfl (sc rfl (sc rfl (sc rfl (sc (jt (Or.inr (Or.inr (Or.inr (Or.inl h7))))) sn))))))))) (fun _ h=>h))
   refine (go 6) ?_
   refine zU (zm hK16 (sc rfl (sc rfl (sc rfl (sc rfl (sc rfl (sc rfl (sc rfl (sc rfl (sc (jp (iff_or_right h4 (iff_or_right h5 (iff_or_right h6 (iff_or_right h7 Iff.rfl))))) sn))))))))) (fun _ h=>h))
  refine zX (fun h8=>?_) fun h8=>?_
  ·refine (go 14) (zY results44 fun w1 hM=>?_)
   exact yp (l1:=[iV 3,iV k]) (by rw [Roll.wrong,if_neg qO,if_neg qO,hI1.2,Roll.wrong_step hs1,if_pos (by unfold Roll.badB; omega)]) hM
  refine (go 7) (va 56 (fun h9=>?_) fun h9=>?_)
  ·refine (go 3) ?_
   refine vd (yx (i:=(k - 1)) rfl hd1 rfl qO qI underlying48 inf163) ?_
   refine (go 1) ?_
   obtain ⟨s2,hs2⟩:=gx l ((k - 1))
   refine (go 7) (zX (fun h10=>?_) fun h10=>?_)
   ·refine (go 13) (zY results44 fun w1 hM=>?_)
    exact yp (l1:=[iV 2,iV k]) (by rw [Roll.wrong,if_neg qO,if_neg qO,hI1.2,Roll.wrong_step hs1,if_neg (by unfold Roll.badB; omega),if_pos (by rw [Roll.prevOf,if_neg qO,hs2]; simp [Roll.behind]; omega)]) hM
   refine (go 6) ?_
   refine zU (zh (k + 1) (sc rfl (sc rfl (sc rfl (sc rfl (sc rfl (sc (ji qO) sn)))))) (S9 [1,2]) ?_ ?_)
   ·exact ⟨by omega,by rw [hI1.2,Roll.wrong_step hs1,if_neg (by unfold Roll.badB; omega),if_neg (by rw [Roll.prevOf,if_neg qO,hs2]; simp [Roll.behind]; omega)]⟩
   omega
  refine (go 19) ?_
  refine zU (zh (k + 1) (sc rfl (sc rfl (sc rfl (sc rfl (sc rfl (sc (ji qO) sn)))))) (S9 [1,2]) ?_ ?_)
  ·exact ⟨by omega,by rw [hI1.2,Roll.wrong_step hs1,if_neg (by unfold Roll.badB; omega),if_neg (by rw [Roll.prevOf,if_pos qO]; simp [Roll.behind])]⟩
  omega
 refine (go 12) (zY results44 fun w1 hM=>?_)
 exact yp (l1:=[iV 0,iV 0]) (by rw [Roll.wrong,if_neg qO,if_neg qO,hI1.2,Roll.wrong_end qO]) hM
end
section
open Tryz
open Ex
attribute [local irreducible] WC WL WQ WE WS
set_option linter.unusedVariables false
set_option linter.unusedSimpArgs false
theorem c_within1 (x:Bucket) (fp:Nat) (f:Int) (tp:Nat) (t:Int) (w:World) (hfp:w.heap[fp]?=some (.cells [iV f].toArray 3 (0,0))) (htp:w.heap[tp]?=some (.cells [iV t].toArray 3 (0,0)))  :
    Calls prog 95 #[.agg (zJ x).toArray,.pointer (some ⟨fp,0,none⟩),.pointer (some ⟨tp,0,none⟩)] w (Ret w (.bool (!decide (f≤x.at_∧x.at_ < t)))):=by
 refine zr (N:=15) func95 (Mem.ofDats (dc (ddb hfp) (dc (ddb htp) dn))) ?_
 refine (go 2) (yu fun b3=>?_)
 refine (go 10) (yN 9 (fun h1=>?_) fun h1=>?_)
 ·refine (go 9) (zY results95 fun w1 hM=>?_)
  exact zP (congrArg Value.bool (by rw [Bool.eq_iff_iff]; simp; omega)) hM
 refine (go 9) (zY results95 fun w1 hM=>?_)
 exact zP (congrArg Value.bool (by rw [Bool.eq_iff_iff]; simp; omega)) hM
theorem c_idxS (lv:Value) (l:List Sample) (f:Nat) (fcap:Array Value) (fp:Sample→Bool) (w:World) (hl:zD (In w) 2 zT lv l w) (fc:∀ vs w,(callFunc f vs).run prog w=.ok (.enter f vs) w) (fh:∀ (x:Sample) (w1:World),Fr no w w1→Calls prog f (#[.agg (zT x).toArray]++fcap) w1 (Ret w1 (.bool (fp x))))  :
    Calls prog 168 #[lv,.func (.func f) #[] fcap] w (Ret w (iV (Sh.idx fp l))):=by
 obtain ⟨lA,lc,rfl,hlc,hlm,hlA⟩:=hl.form
 refine zr (N:=19) func168 (Mem.ofDats (dc (dl hl) dn)) ?_
 refine (go 14) ?_
 refine yE (fun (k:Nat)=>[(0,.slice lA l.length lc),(1,.func (.func f) #[] fcap),(7,iV l.length),(8,iV k)]) (fun (k:Nat)=>[slO (In w) 2 zT (.slice lA l.length lc) l]) (fun (k:Nat)=>k≤l.length∧∀ y ∈ l.take k,fp y=false) (fun (k:Nat)=>l.length - k) 0 (sc rfl (sc rfl (sc rfl (sc (ji qO) sn)))) (fun _ h=>h) ?_ (fun k hI1=>?_)
 ·simp
 refine (go 6) (zX (fun h1=>?_) fun h1=>?_)
 ·refine (go 15) ?_
  obtain ⟨ad1,s1,hd1,hs1⟩:=elx hlA k
  refine (go 2) ?_
  refine vJ wn rfl rfl fc rfl (fun w1 hM=>fh s1 w1 hM.fr) ?_
  refine (go 2) (yb (fun h2=>?_) fun h2=>?_)
  ·refine (go 12) (zY results168 fun w1 hM=>?_)
   exact zP (by rw [Sh.idx_at hI1.2 hs1 h2]) hM
  refine (go 6) ?_
  refine zU (zh (k + 1) (sc rfl (sc rfl (sc rfl (sc (ji qO) sn)))) (fun _ h=>h) ?_ ?_)
  ·exact ⟨by omega,Sh.none_step hI1.2 hs1 h2⟩
  omega
 refine (go 11) (zY results168 fun w1 hM=>?_)
 exact zP (by rw [Sh.idx_none hI1.2 qO]) hM
theorem c_idxB (lv:Value) (l:List Bucket) (f:Nat) (fcap:Array Value) (fp:Bucket→Bool) (w:World) (hl:zD (In w) 8 zJ lv l w) (fc:∀ vs w,(callFunc f vs).run prog w=.ok (.enter f vs) w) (fh:∀ (x:Bucket) (w1:World),Fr no w w1→Calls prog f (#[.agg (zJ x).toArray]++fcap) w1 (Ret w1 (.bool (fp x))))  :
    Calls prog 146 #[lv,.func (.func f) #[] fcap] w (Ret w (iV (Sh.idx fp l))):=by
 obtain ⟨lA,lc,rfl,hlc,hlm,hlA⟩:=hl.form
 refine zr (N:=19) func146 (Mem.ofDats (dc (dl hl) dn)) ?_
 refine (go 14) ?_
 refine yE (fun (k:Nat)=>[(0,.slice lA l.length lc),(1,.func (.func f) #[] fcap),(7,iV l.length),(8,iV k)]) (fun (k:Nat)=>[slO (In w) 8 zJ (.slice lA l.length lc) l]) (fun (k:Nat)=>k≤l.length∧∀ y ∈ l.take k,fp y=false) (fun (k:Nat)=>l.length - k) 0 (sc rfl (sc rfl (sc rfl (sc (ji qO) sn)))) (fun _ h=>h) ?_ (fun k hI1=>?_)
 ·simp
 refine (go 6) (zX (fun h1=>?_) fun h1=>?_)
 ·refine (go 15) ?_
  obtain ⟨ad1,s1,hd1,hs1⟩:=elx hlA k
  refine (go 2) ?_
  refine vJ wn rfl rfl fc rfl (fun w1 hM=>fh s1 w1 hM.fr) ?_
  refine (go 2) (yb (fun h2=>?_) fun h2=>?_)
  ·refine (go 12) (zY results146 fun w1 hM=>?_)
   exact zP (by rw [Sh.idx_at hI1.2 hs1 h2]) hM
  refine (go 6) ?_
  refine zU (zh (k + 1) (sc rfl (sc rfl (sc rfl (sc (ji qO) sn)))) (fun _ h=>h) ?_ ?_)
  ·exact ⟨by omega,Sh.none_step hI1.2 hs1 h2⟩
  omega
 refine (go 11) (zY results146 fun w1 hM=>?_)
 exact zP (by rw [Sh.idx_none hI1.2 qO]) hM
theorem c_delS (lv:Value) (l:List Sample) (f:Nat) (fcap:Array Value) (fp:Sample→Bool) (w:World) (hl:w.ownsRow 0 41 2 lv l.length (l.flatMap zT)) (fc:∀ vs w,(callFunc f vs).run prog w=.ok (.enter f vs) w) (fh:∀ (x:Sample) (w1:World),Fr (fun b=>lv.ownBlock=some b) w w1→Calls prog f (#[.agg (zT x).toArray]++fcap) w1 (Ret w1 (.bool (fp x))))  :
    Calls prog 122 #[lv,.func (.func f) #[] fcap] w (RetU w lv 41 2 zT (l.filter fun x=>!fp x)):=by
 refine zr (N:=42) func122 (Mem.ownArg hl) (yU 0 (l:=l) rfl fun A0 cp0 hv0 hc0 hm0 hA0=>?_)
 subst hv0
 refine (go 9) ?_
 refine yH call168 wn rfl (fun w1 hM=>c_idxS _ l f fcap fp w1 (RowSl encSample hM 0 rfl) fc (fun x w2 h2=>fh x w2 (hM.fr.trans h2 (fun _ _ h=>h.elim)))) ?_
 refine (go 10) (zX (fun h1=>?_) fun h1=>?_)
 ·refine (go 8) (zY results122 fun w1 hM=>?_)
  exact hM.un 0 rfl ((List.filter_eq_self.2 fun y hy=>by rcases Sh.idx_cases fp l with h | ⟨i,x,h,_⟩; exact (by simp [h.2 y hy]); omega).symm)
 obtain ⟨ni,⟨n,xn,hi,hxn,hpn,hnn⟩⟩:Sh.idx fp l≠-1∧∃ (i:Nat) (x:Sample),Sh.idx fp l=(i:Int)∧l[i]?=some x∧fp x=true∧∀ y ∈ l.take i,fp y=false:=⟨h1,(Sh.idx_cases fp l).resolve_left (fun e=>h1 e.1)⟩
 have hnl:=(List.getElem?_eq_some_iff.1 hxn).1
 refine (go 11) ?_
 refine vK (fun (i:Nat) (j:Nat) (r:List Sample) (vr:Value)=>[(0,vr),(1,.func (.func f) #[] fcap),(5,iV i),(6,iV j)]) (fun (i:Nat) (j:Nat) (r:List Sample) (vr:Value)=>[Row vr 41 2 zT r]) (fun (i:Nat) (j:Nat) (r:List Sample) (vr:Value)=>Sh.Del fp l r i j) (fun (i:Nat) (j:Nat) (r:List Sample) (vr:Value)=>l.length - j) n (n + 1) l (.slice A0 l.length cp0) (sc rfl (sc rfl (sc (ji qO) (sc (ji qO) sn)))) (fun _ h=>h) ?_ (fun i j r vr hI1=>?_)
 ·exact Sh.Del.start hxn hpn hnn
 have hlt:=hI1.lt
 have hle:=hI1.le
 have hlen:=hI1.len
 refine yU 0 (l:=r) rfl fun A1 cp1 hv1 hc1 hm1 hA1=>?_
 subst hv1
 refine (go 9) (zX (fun h2=>?_) fun h2=>?_)
 ·refine (go 8) ?_
  obtain ⟨ad1,s1,hd1,hs1⟩:=elx hA1 j
  refine (go 1) ?_
  refine zb (uN 0 [iV s1.time,iV s1.value] encSample rfl rfl hd1 hs1 rfl rfl agg41 inf41) (zz fun b7=>?_)
  refine (go 7) ?_
  refine vJ wn rfl rfl fc rfl (fun w1 hM=>fh s1 w1 hM.fr) (zb (yC rfl) ?_)
  refine (go 2) (yb (fun h3=>?_) fun h3=>?_)
  ·refine (go 6) ?_
   obtain ⟨s2,hs2⟩:=gx r i
   refine uC 1 (vs:=[iV s1.time,iV s1.value]) s1 encSample wn rfl rfl rfl rfl hd1 hs2 inf41 rfl rfl rfl rfl ?_
   refine (go 13) ?_
   refine zU (yY (i + 1) (j + 1) (r.set i s1) (.slice A1 r.length cp1) (sc rfl (sc rfl (sc (ji qO) (sc (ji qO) sn)))) (S9 [1]) ?_ ?_)
   ·exact hI1.keep hs1 (by simpa using h3)
   omega
  refine (go 7) ?_
  refine zU (yY i (j + 1) r (.slice A1 r.length cp1) (sc rfl (sc rfl (sc rfl (sc (ji qO) sn)))) (S9 [1]) ?_ ?_)
  ·exact hI1.drop hs1 (by simpa using h3)
  omega
 refine (go 9) ?_
 refine zb (jH (lo:=i) (hi:=r.length) rfl (lo1 rfl qO) hi0 qI qI qI underlying47 inf41) ?_
 obtain ⟨ad2,hd2⟩:=hA1 (ne_nil (i:=i) qI)
 refine l_clear 0 (lo:=i) encSample wn rfl rfl hd2 underlying47 inf41 rfl rfl qI ?_
 refine (go 6) ?_
 refine zb (r_take (hi:=i) (r.take i) rfl (hi1 rfl qO) qI qI (by simp only [List.length_take]; omega) underlying47 inf41) ?_
 refine (go 4) (zY results122 fun w1 hM=>?_)
 exact hM.un 0 rfl (hI1.done qO)
theorem uX (lv:Value) (l:List Bucket) (f:Nat) (fcap:Array Value) (fp:Bucket→Bool) (w:World) (hl:w.ownsRow 0 163 8 lv l.length (l.flatMap zJ)) (fc:∀ vs w,(callFunc f vs).run prog w=.ok (.enter f vs) w) (fh:∀ (x:Bucket) (w1:World),Fr (fun b=>lv.ownBlock=some b) w w1→Calls prog f (#[.agg (zJ x).toArray]++fcap) w1 (Ret w1 (.bool (fp x))))  :
    Calls prog 125 #[lv,.func (.func f) #[] fcap] w (RetU w lv 163 8 zJ (l.filter fun x=>!fp x)):=by
 refine zr (N:=42) func125 (Mem.ownArg hl) (yU 0 (l:=l) rfl fun A0 cp0 hv0 hc0 hm0 hA0=>?_)
 subst hv0
 refine (go 9) ?_
 refine yH call146 wn rfl (fun w1 hM=>c_idxB _ l f fcap fp w1 (RowSl encBucket hM 0 rfl) fc (fun x w2 h2=>fh x w2 (hM.fr.trans h2 (fun _ _ h=>h.elim)))) ?_
 refine (go 10) (zX (fun h1=>?_) fun h1=>?_)
 ·refine (go 8) (zY results125 fun w1 hM=>?_)
  exact hM.un 0 rfl ((List.filter_eq_self.2 fun y hy=>by rcases Sh.idx_cases fp l with h | ⟨i,x,h,_⟩; exact (by simp [h.2 y hy]); omega).symm)
 obtain ⟨ni,⟨n,xn,hi,hxn,hpn,hnn⟩⟩:Sh.idx fp l≠-1∧∃ (i:Nat) (x:Bucket),Sh.idx fp l=(i:Int)∧l[i]?=some x∧fp x=true∧∀ y ∈ l.take i,fp y=false:=⟨h1,(Sh.idx_cases fp l).resolve_left (fun e=>h1 e.1)⟩
 have hnl:=(List.getElem?_eq_some_iff.1 hxn).1
 refine (go 11) ?_
 refine vK (fun (i:Nat) (j:Nat) (r:List Bucket) (vr:Value)=>[(0,vr),(1,.func (.func f) #[] fcap),(5,iV i),(6,iV j)]) (fun (i:Nat) (j:Nat) (r:List Bucket) (vr:Value)=>[Row vr 163 8 zJ r]) (fun (i:Nat) (j:Nat) (r:List Bucket) (vr:Value)=>Sh.Del fp l r i j) (fun (i:Nat) (j:Nat) (r:List Bucket) (vr:Value)=>l.length - j) n (n + 1) l (.slice A0 l.length cp0) (sc rfl (sc rfl (sc (ji qO) (sc (ji qO) sn)))) (fun _ h=>h) ?_ (fun i j r vr hI1=>?_)
 ·exact Sh.Del.start hxn hpn hnn
 have hlt:=hI1.lt
 have hle:=hI1.le
 have hlen:=hI1.len
 refine yU 0 (l:=r) rfl fun A1 cp1 hv1 hc1 hm1 hA1=>?_
 subst hv1
 refine (go 9) (zX (fun h2=>?_) fun h2=>?_)
 ·refine (go 8) ?_
  obtain ⟨ad1,s1,hd1,hs1⟩:=elx hA1 j
  refine (go 1) ?_
  refine zb (uN 0 [iV s1.at_,iV s1.sum.count,iV s1.sum.total,iV s1.sum.min,iV s1.sum.max,iV s1.sum.first,iV s1.sum.last,iV s1.sum.rise] encBucket rfl rfl hd1 hs1 rfl rfl agg163 inf163) (zz fun b7=>?_)
  refine (go 7) ?_
  refine vJ wn rfl rfl fc rfl (fun w1 hM=>fh s1 w1 hM.fr) (zb (yC rfl) ?_)
  refine (go 2) (yb (fun h3=>?_) fun h3=>?_)
  ·refine (go 6) ?_
   obtain ⟨s2,hs2⟩:=gx r i
   refine uC 1 (vs:=[iV s1.at_,iV s1.sum.count,iV s1.sum.total,iV s1.sum.min,iV s1.sum.max,iV s1.sum.first,iV s1.sum.last,iV s1.sum.rise]) s1 encBucket wn rfl rfl rfl rfl hd1 hs2 inf163 rfl rfl rfl rfl ?_
   refine (go 13) ?_
   refine zU (yY (i + 1) (j + 1) (r.set i s1) (.slice A1 r.length cp1) (sc rfl (sc rfl (sc (ji qO) (sc (ji qO) sn)))) (S9 [1]) ?_ ?_)
   ·exact hI1.keep hs1 (by simpa using h3)
   omega
  refine (go 7) ?_
  refine zU (yY i (j + 1) r (.slice A1 r.length cp1) (sc rfl (sc rfl (sc rfl (sc (ji qO) sn)))) (S9 [1]) ?_ ?_)
  ·exact hI1.drop hs1 (by simpa using h3)
  omega
 refine (go 9) ?_
 refine zb (jH (lo:=i) (hi:=r.length) rfl (lo1 rfl qO) hi0 qI qI qI underlying48 inf163) ?_
 obtain ⟨ad2,hd2⟩:=hA1 (ne_nil (i:=i) qI)
 refine l_clear 0 (lo:=i) encBucket wn rfl rfl hd2 underlying48 inf163 rfl rfl qI ?_
 refine (go 6) ?_
 refine zb (r_take (hi:=i) (r.take i) rfl (hi1 rfl qO) qI qI (by simp only [List.length_take]; omega) underlying48 inf163) ?_
 refine (go 4) (zY results125 fun w1 hM=>?_)
 exact hM.un 0 rfl (hI1.done qO)
theorem c_contB (lv:Value) (l:List Bucket) (f:Nat) (fcap:Array Value) (fp:Bucket→Bool) (w:World) (hl:zD (In w) 8 zJ lv l w) (fc:∀ vs w,(callFunc f vs).run prog w=.ok (.enter f vs) w) (fh:∀ (x:Bucket) (w1:World),Fr no w w1→Calls prog f (#[.agg (zJ x).toArray]++fcap) w1 (Ret w1 (.bool (fp x))))  :
    Calls prog 94 #[lv,.func (.func f) #[] fcap] w (Ret w (.bool (l.any fp))):=by
 obtain ⟨lA,lc,rfl,hlc,hlm,hlA⟩:=hl.form
 refine zr (N:=9) func94 (Mem.ofDats (dc (dl hl) dn)) ?_
 refine (go 9) ?_
 refine yH call146 wn rfl (fun w1 hM=>c_idxB _ l f fcap fp w1 (hM.sl 0 rfl) fc (fun x w2 h2=>fh x w2 (hM.fr.trans h2 (fun _ _ h=>h)))) ?_
 refine (go 5) (zY results94 fun w1 hM=>?_)
 exact zP (congrArg Value.bool (by rw [Bool.eq_iff_iff,decide_eq_true_iff]; exact Sh.idx_any)) hM
theorem uP (lv:Value) (l:List Bucket) (f:Int) (t:Int) (w:World) (hl:zD (In w) 8 zJ lv l w)  :
    Calls prog 46 #[lv,iV f,iV t] w (Ret w (.bool (Sh.within l f t))):=by
 obtain ⟨lA,lc,rfl,hlc,hlm,hlA⟩:=hl.form
 refine zr (N:=11) func46 (Mem.ofDats (dc (dl hl) dn)) ?_
 refine (go 2) (jj fun b4=>jj fun b5=>?_)
 refine (go 6) ?_
 refine zb (yf rfl rfl) (yH call94 wn rfl (fun w1 hM=>c_contB _ l 95 #[.pointer (some ⟨b4,0,none⟩),.pointer (some ⟨b5,0,none⟩)] (fun x=>!decide (f≤x.at_∧x.at_ < t)) w1 (hM.sl 2 rfl) call95 (fun x w2 h2=>by simpa using c_within1 x b4 f b5 t w2 (hM.blkKeep (i:=1) rfl h2) (hM.blkKeep (i:=0) rfl h2))) (zb (yC rfl) ?_))
 refine (go 4) (zY results46 fun w1 hM=>?_)
 exact zP (congrArg Value.bool (by rw [Sh.within,List.all_eq_not_any_not])) hM
theorem c_times (zp:Nat) (z0:Value) (z1:Value) (z2:Value) (z3:Value) (z:Shelf) (w:World) (hzp:w.heap[zp]?=some (.cells [z0,z1,z2,z3,iV z.zS,iV z.zL,iV z.zF,iV z.zH,iV z.zG].toArray 50 (0,0)))  :
    Calls prog 45 #[.pointer (some ⟨zp,0,none⟩)] w (Ret w (.bool (decide (Sh.times z)))):=by
 refine zr (N:=99) func45 (Mem.ofDats (dc (ddb hzp) dn)) ?_
 refine (go 7) ?_
 refine yK (Mem w no [datB zp [z0,z1,z2,z3,iV z.zS,iV z.zL,iV z.zF,iV z.zH,iV z.zG] 50]) mix (fun _ h=>h.drew) rfl (uD (f:=2) [0,1,2,3,4,5,6,7,8,9,10,11,12,13,14,15,16,17,20] rfl rfl (by kernel_rfl) (by kernel_rfl) (fun _ h=>h) fun KS hKS=>?_)
 refine (go 19) ?_
 refine zi hKS (zf 1 18 (zg (i:=18) rfl fun KN hKN=>zy triE ([(⟨z.zL,z.zF,10⟩:Tri),(⟨z.zH,z.zG,60⟩:Tri)]:List Tri) wn underlying165 inf164 rfl rfl rfl rfl qD qD rfl fun b23=>?_))
 refine (go 1) ?_
 refine hKN _ _ (S9 [1]) (yJ 0 [19] [1] rfl fun KS hKS=>?_)
 refine (go 1) ?_
 refine zi hKS ?_
 refine zw (by kernel_rfl) ((go 1) ?_)
 refine (go 1) ?_
 refine yE (fun (k:Nat)=>[(0,.pointer (some ⟨zp,0,none⟩)),(23,.slice (some ⟨b23,0,none⟩) 2 2),(24,iV 2),(25,iV k)]) (fun (k:Nat)=>[Row (.slice (some ⟨b23,0,none⟩) 2 2) 164 3 triE ([(⟨z.zL,z.zF,10⟩:Tri),(⟨z.zH,z.zG,60⟩:Tri)]:List Tri),datB zp [z0,z1,z2,z3,iV z.zS,iV z.zL,iV z.zF,iV z.zH,iV z.zG] 50]) (fun (k:Nat)=>k≤2∧∀ (j:Nat) (y:Tri),j < k→[(⟨z.zL,z.zF,10⟩:Tri),(⟨z.zH,z.zG,60⟩:Tri)][j]?=some y→¬ Sh.badT y) (fun (k:Nat)=>2 - k) 0 (sc rfl (sc rfl (sc rfl (sc (ji qO) sn)))) (fun _ h=>h) ?_ (fun k hI1=>?_)
 ·exact ⟨by omega,fun j y h=>absurd h (Nat.not_lt_zero j)⟩
 refine (go 6) (zX (fun h1=>?_) fun h1=>?_)
 ·refine (go 7) ?_
  obtain ⟨s1,hs1⟩:=gx ([(⟨z.zL,z.zF,10⟩:Tri),(⟨z.zH,z.zG,60⟩:Tri)]:List Tri) k
  have hsc:0 < s1.c:=by rcases Sh.two hs1 with e | e <;> rw [e] <;> simp
  refine zb (uN 0 [iV s1.a,iV s1.b,iV s1.c] encTri rfl rfl rfl hs1 rfl rfl agg164 inf164) (zz fun b4=>?_)
  refine (go 9) (yN 32 (fun h2=>?_) fun h2=>?_)
  ·refine (go 41) (zY results45 fun w1 hM=>?_)
   have hb:Sh.badT s1:=by unfold Sh.badT; omega
   exact zP (congrArg Value.bool (decide_eq_false (fun h=>by rcases Sh.two hs1 with e | e <;> rw [e] at hb <;> first | exact h.1.1 hb | exact h.1.2 hb)).symm) hM
  refine (go 7) (yN 39 (fun h3=>?_) fun h3=>?_)
  ·refine (go 34) (zY results45 fun w1 hM=>?_)
   have hb:Sh.badT s1:=by unfold Sh.badT; omega
   exact zP (congrArg Value.bool (decide_eq_false (fun h=>by rcases Sh.two hs1 with e | e <;> rw [e] at hb <;> first | exact h.1.1 hb | exact h.1.2 hb)).symm) hM
  refine (go 5) (yN 44 (fun h4=>?_) fun h4=>?_)
  ·refine (go 29) (zY results45 fun w1 hM=>?_)
   have hb:Sh.badT s1:=by unfold Sh.badT; omega
   exact zP (congrArg Value.bool (decide_eq_false (fun h=>by rcases Sh.two hs1 with e | e <;> rw [e] at hb <;> first | exact h.1.1 hb | exact h.1.2 hb)).symm) hM
  refine (go 8) (yN 52 (fun h5=>?_) fun h5=>?_)
  ·refine (go 21) (zY results45 fun w1 hM=>?_)
   have hb:Sh.badT s1:=by unfold Sh.badT; omega
   exact zP (congrArg Value.bool (decide_eq_false (fun h=>by rcases Sh.two hs1 with e | e <;> rw [e] at hb <;> first | exact h.1.1 hb | exact h.1.2 hb)).symm) hM
  refine (go 9) (zX (fun h6=>?_) fun h6=>?_)
  ·refine (go 11) (zY results45 fun w1 hM=>?_)
   have hb:Sh.badT s1:=by unfold Sh.badT; omega
   exact zP (congrArg Value.bool (decide_eq_false (fun h=>by rcases Sh.two hs1 with e | e <;> rw [e] at hb <;> first | exact h.1.1 hb | exact h.1.2 hb)).symm) hM
  refine (go 6) ?_
  refine zU (zh (k + 1) (sc rfl (sc rfl (sc rfl (sc (ji qO) sn)))) (S9 [1,2]) ?_ ?_)
  ·refine ⟨by omega,fun j y hj hy=>?_⟩
   rcases Nat.lt_or_ge j k with h | h
   ·exact hI1.2 j y h hy
   obtain rfl:j=k:=qO
   obtain rfl:s1=y:=Option.some.inj (hs1.symm.trans hy)
   unfold Sh.badT; omega
  omega
 refine (go 13) (va 66 (fun h7=>?_) fun h7=>?_)
 ·refine (go 11) (va 77 (fun h8=>?_) fun h8=>?_)
  ·refine (go 11) (va 88 (fun h9=>?_) fun h9=>?_)
   ·refine (go 14) (zY results45 fun w1 hM=>?_)
    have hAB:¬ Sh.badT ⟨z.zL,z.zF,10⟩∧¬ Sh.badT ⟨z.zH,z.zG,60⟩:=⟨hI1.2 0 _ qO rfl,hI1.2 1 _ qO rfl⟩
    exact zP (congrArg Value.bool (decide_eq_decide.2 (by rw [Sh.times,and_iff_right hAB]; omega))) hM
   refine (go 14) (zY results45 fun w1 hM=>?_)
   have hAB:¬ Sh.badT ⟨z.zL,z.zF,10⟩∧¬ Sh.badT ⟨z.zH,z.zG,60⟩:=⟨hI1.2 0 _ qO rfl,hI1.2 1 _ qO rfl⟩
   exact zP (congrArg Value.bool (decide_eq_false (fun h=>by have:=h.2; omega)).symm) hM
  refine (go 25) (zY results45 fun w1 hM=>?_)
  have hAB:¬ Sh.badT ⟨z.zL,z.zF,10⟩∧¬ Sh.badT ⟨z.zH,z.zG,60⟩:=⟨hI1.2 0 _ qO rfl,hI1.2 1 _ qO rfl⟩
  exact zP (congrArg Value.bool (decide_eq_false (fun h=>by have:=h.2; omega)).symm) hM
 refine (go 36) (zY results45 fun w1 hM=>?_)
 have hAB:¬ Sh.badT ⟨z.zL,z.zF,10⟩∧¬ Sh.badT ⟨z.zH,z.zG,60⟩:=⟨hI1.2 0 _ qO rfl,hI1.2 1 _ qO rfl⟩
 exact zP (congrArg Value.bool (decide_eq_false (fun h=>by have:=h.2; omega)).symm) hM
set_option maxHeartbeats 2000000 in
theorem vf (z0:Value) (z1:Value) (z2:Value) (z3:Value) (z:Shelf) (P0:Nat→Prop) (w:World) (hP0:∀ b,P0 b→b < w.heap.size) (hz0:zD P0 2 zQ z0 z.zK w) (hz1:zD P0 2 zT z1 z.raw w) (hz2:zD P0 8 zJ z2 z.fine w) (hz3:zD P0 8 zJ z3 z.coarse w)  :
    Calls prog 21 #[.agg (List.toArray [z0,z1,z2,z3,iV z.zS,iV z.zL,iV z.zF,iV z.zH,iV z.zG])] w (Ret w (iV (Sh.wrong z))):=by
 obtain ⟨z0A,z0c,rfl,hz0c,hz0m,hz0A⟩:=hz0.form
 obtain ⟨z1A,z1c,rfl,hz1c,hz1m,hz1A⟩:=hz1.form
 obtain ⟨z2A,z2c,rfl,hz2c,hz2m,hz2A⟩:=hz2.form
 obtain ⟨z3A,z3c,rfl,hz3c,hz3m,hz3A⟩:=hz3.form
 refine zr (N:=75) func21 (Mem.ofDatsP hP0 (dc (dlp hz0) (dc (dlp hz1) (dc (dlp hz2) (dc (dlp hz3) dn))))) ?_
 refine (go 2) (yu fun b1=>?_)
 refine (go 8) ?_
 refine yH call42 wn rfl (fun w1 hM=>c_namesWrong _ z.zK w1 (hM.slp 1 rfl)) ?_
 refine (go 9) (zX (fun h1=>?_) fun h1=>?_)
 ·refine (go 8) (zY results21 fun w1 hM=>?_)
  exact zP (congrArg (Value.int .i64) (by rw [Sh.wrong,if_pos h1])) hM
 refine (go 7) ?_
 refine yH call43 wn rfl (fun w1 hM=>vi _ z.raw w1 (hM.slp 2 rfl)) (zz fun b4=>?_)
 refine (go 10) (zX (fun h2=>?_) fun h2=>?_)
 ·refine (go 9) (zY results21 fun w1 hM=>?_)
  exact zP (congrArg (Value.int .i64) (by rw [Sh.wrong,if_neg h1,if_pos h2])) hM
 refine (go 7) ?_
 refine yH call44 wn rfl (fun w1 hM=>c_rollWrong _ z.fine 1 w1 (hM.slp 4 rfl)) (zz fun b5=>?_)
 refine (go 10) (zX (fun h3=>?_) fun h3=>?_)
 ·refine (go 9) (zY results21 fun w1 hM=>?_)
  exact zP (congrArg (Value.int .i64) (by rw [Sh.wrong,if_neg h1,if_neg h2,if_pos h3])) hM
 refine (go 7) ?_
 refine yH call44 wn rfl (fun w1 hM=>c_rollWrong _ z.coarse 2 w1 (hM.slp 6 rfl)) (zz fun b6=>?_)
 refine (go 10) (zX (fun h4=>?_) fun h4=>?_)
 ·refine (go 9) (zY results21 fun w1 hM=>?_)
  exact zP (congrArg (Value.int .i64) (by rw [Sh.wrong,if_neg h1,if_neg h2,if_neg h3,if_pos h4])) hM
 refine (go 5) ?_
 refine yP wn rfl call45 rfl (fun w1 hM=>c_times b1 _ _ _ _ z w1 (hM.blk (i:=3) rfl)) ?_
 refine (go 2) (va 39 (fun h5=>?_) fun h5=>?_)
 ·refine (go 45) (zY results21 fun w1 hM=>?_)
  exact zP (congrArg (Value.int .i64) (by rw [Sh.wrong_end h1 h2 h3 h4,if_neg (fun h=>h5 h.1)])) hM
 refine (go 5) (va 44 (fun h6=>?_) fun h6=>?_)
 ·refine (go 2) ?_
  obtain ⟨ad1,s1,hd1,hs1⟩:=elx hz1A 0
  refine (go 9) (va 55 (fun h7=>?_) fun h7=>?_)
  ·refine (go 29) (zY results21 fun w1 hM=>?_)
   exact zP (congrArg (Value.int .i64) (by rw [Sh.wrong_end h1 h2 h3 h4,if_neg (fun h=>absurd ((Sh.headOk_some hs1).symm.trans h.2.1) (by simp; omega))])) hM
  refine (go 6) ?_
  refine yP (wg rfl rfl rfl) rfl call46 rfl (fun w1 hM=>uP _ z.fine z.zL z.zF w1 (hM.slp 6 rfl)) (vd (yC rfl) ?_)
  refine (go 2) (jx 65 (fun h8=>?_) fun h8=>?_)
  ·refine (go 19) (zY results21 fun w1 hM=>?_)
   exact zP (congrArg (Value.int .i64) (by rw [Sh.wrong_end h1 h2 h3 h4,if_neg (fun h=>by have:=h.2.2.1; simp [this] at h8)])) hM
  refine (go 6) ?_
  refine yP (wg rfl rfl rfl) rfl call46 rfl (fun w1 hM=>uP _ z.coarse z.zH z.zG w1 (hM.slp 7 rfl)) (vd (yC rfl) ?_)
  refine (go 3) (yb (fun h9=>?_) fun h9=>?_)
  ·refine (go 7) (zY results21 fun w1 hM=>?_)
   exact zP (congrArg (Value.int .i64) (by rw [Sh.wrong_end h1 h2 h3 h4,if_neg (fun h=>by have:=h.2.2.2; simp [this] at h9)])) hM
  refine (go 8) (zY results21 fun w1 hM=>?_)
  exact zP (congrArg (Value.int .i64) (by rw [Sh.wrong_end h1 h2 h3 h4,if_pos ⟨Classical.not_not.1 h5,(Sh.headOk_some hs1).trans (decide_eq_true qO),by simpa using h8,by simpa using h9⟩])) hM
 refine (go 17) ?_
 refine yP (wg rfl rfl rfl) rfl call46 rfl (fun w1 hM=>uP _ z.fine z.zL z.zF w1 (hM.slp 6 rfl)) (vd (yC rfl) ?_)
 refine (go 2) (jx 65 (fun h10=>?_) fun h10=>?_)
 ·refine (go 19) (zY results21 fun w1 hM=>?_)
  exact zP (congrArg (Value.int .i64) (by rw [Sh.wrong_end h1 h2 h3 h4,if_neg (fun h=>by have:=h.2.2.1; simp [this] at h10)])) hM
 refine (go 6) ?_
 refine yP (wg rfl rfl rfl) rfl call46 rfl (fun w1 hM=>uP _ z.coarse z.zH z.zG w1 (hM.slp 7 rfl)) (vd (yC rfl) ?_)
 refine (go 3) (yb (fun h11=>?_) fun h11=>?_)
 ·refine (go 7) (zY results21 fun w1 hM=>?_)
  exact zP (congrArg (Value.int .i64) (by rw [Sh.wrong_end h1 h2 h3 h4,if_neg (fun h=>by have:=h.2.2.2; simp [this] at h11)])) hM
 refine (go 8) (zY results21 fun w1 hM=>?_)
 exact zP (congrArg (Value.int .i64) (by rw [Sh.wrong_end h1 h2 h3 h4,if_pos ⟨Classical.not_not.1 h5,Sh.headOk_none h6,by simpa using h10,by simpa using h11⟩])) hM
end
section
open Tryz
open Ex
attribute [local irreducible] WC WL WQ WE WS
set_option linter.unusedVariables false
set_option linter.unusedSimpArgs false
theorem vN (lv:Value) (l:List Label) (w:World) (hl:zD (In w) 2 zQ lv l w) (hl1:l.length≤1048576) :
    Calls prog 61 #[lv] w (RetL w 74 2 zQ l):=by
 obtain ⟨lA,lc,rfl,hlc,hlm,hlA⟩:=hl.form
 refine zr (N:=8) func61 (Mem.ofDats (dc (dl hl) dn)) ?_
 refine (go 9) ?_
 refine zb (u5 rfl rfl underlying39) ?_
 refine (go 2) (yb (fun h1=>?_) fun h1=>?_)
 ·refine (go 7) (zY results61 fun w1 hM=>?_)
  have hM:=hM.vQ Label 74 2 zQ
  exact hM.vn 0 rfl (Sh.isNone_nil hlA h1)
 refine (go 4) ?_
 refine jL zQ wn underlying39 inf74 rfl fun b5=>?_
 refine (go 1) ?_
 refine yI 0 ([]:List Label) l encLabel wn rfl rfl rfl (fun _ hM=>(hM.sl 1 rfl)) underlying39 inf74 rfl rfl (by simp only [qL]; omega) rfl fun A1 cp1 hc1 hm1 hA1=>?_
 refine (go 4) (zY results61 fun w1 hM=>?_)
 exact hM.vn 0 rfl rfl
theorem c_cloneSample (lv:Value) (l:List Sample) (w:World) (hl:zD (In w) 2 zT lv l w) (hl1:l.length≤1048576) :
    Calls prog 166 #[lv] w (RetL w 41 2 zT l):=by
 obtain ⟨lA,lc,rfl,hlc,hlm,hlA⟩:=hl.form
 refine zr (N:=8) func166 (Mem.ofDats (dc (dl hl) dn)) ?_
 refine (go 9) ?_
 refine zb (u5 rfl rfl underlying47) ?_
 refine (go 2) (yb (fun h1=>?_) fun h1=>?_)
 ·refine (go 7) (zY results166 fun w1 hM=>?_)
  have hM:=hM.vQ Sample 41 2 zT
  exact hM.vn 0 rfl (Sh.isNone_nil hlA h1)
 refine (go 4) ?_
 refine jL zT wn underlying47 inf41 rfl fun b5=>?_
 refine (go 1) ?_
 refine yI 0 ([]:List Sample) l encSample wn rfl rfl rfl (fun _ hM=>(hM.sl 1 rfl)) underlying47 inf41 rfl rfl (by simp only [qL]; omega) rfl fun A1 cp1 hc1 hm1 hA1=>?_
 refine (go 4) (zY results166 fun w1 hM=>?_)
 exact hM.vn 0 rfl rfl
theorem c_cloneBucket (lv:Value) (l:List Bucket) (w:World) (hl:zD (In w) 8 zJ lv l w) (hl1:l.length≤1048576) :
    Calls prog 167 #[lv] w (RetL w 163 8 zJ l):=by
 obtain ⟨lA,lc,rfl,hlc,hlm,hlA⟩:=hl.form
 refine zr (N:=8) func167 (Mem.ofDats (dc (dl hl) dn)) ?_
 refine (go 9) ?_
 refine zb (u5 rfl rfl underlying48) ?_
 refine (go 2) (yb (fun h1=>?_) fun h1=>?_)
 ·refine (go 7) (zY results167 fun w1 hM=>?_)
  have hM:=hM.vQ Bucket 163 8 zJ
  exact hM.vn 0 rfl (Sh.isNone_nil hlA h1)
 refine (go 4) ?_
 refine jL zJ wn underlying48 inf163 rfl fun b5=>?_
 refine (go 1) ?_
 refine yI 0 ([]:List Bucket) l encBucket wn rfl rfl rfl (fun _ hM=>(hM.sl 1 rfl)) underlying48 inf163 rfl rfl (by simp only [qL]; omega) rfl fun A1 cp1 hc1 hm1 hA1=>?_
 refine (go 4) (zY results167 fun w1 hM=>?_)
 exact hM.vn 0 rfl rfl
theorem jc (z0:Value) (z1:Value) (z2:Value) (z3:Value) (z:Shelf) (P0:Nat→Prop) (w:World) (hP0:∀ b,P0 b→b < w.heap.size) (hz0:zD P0 2 zQ z0 z.zK w) (hz1:zD P0 2 zT z1 z.raw w) (hz2:zD P0 8 zJ z2 z.fine w) (hz3:zD P0 8 zJ z3 z.coarse w) (hs1:z.zK.length≤1048576∧z.raw.length≤1048576∧z.fine.length≤1048576∧z.coarse.length≤1048576) :
    Calls prog 119 #[.agg (List.toArray [z0,z1,z2,z3,iV z.zS,iV z.zL,iV z.zF,iV z.zH,iV z.zG])] w (RetOwn w 74 41 163 163 z):=by
 obtain ⟨z0A,z0c,rfl,hz0c,hz0m,hz0A⟩:=hz0.form
 obtain ⟨z1A,z1c,rfl,hz1c,hz1m,hz1A⟩:=hz1.form
 obtain ⟨z2A,z2c,rfl,hz2c,hz2m,hz2A⟩:=hz2.form
 obtain ⟨z3A,z3c,rfl,hz3c,hz3m,hz3A⟩:=hz3.form
 refine zr (N:=20) func119 (Mem.ofDatsP hP0 (dc (dlp hz0) (dc (dlp hz1) (dc (dlp hz2) (dc (dlp hz3) dn))))) ?_
 refine (go 2) (yu fun b1=>zz fun b2=>?_)
 refine (go 3) ?_
 refine yK (Mem w ⟨no,P0⟩ [.blk b2 [Zs,Zs,Zs,Zs,iV 0,iV 0,iV 0,iV 0,iV 0] 50,slP 2 zQ (.slice z0A z.zK.length z0c) z.zK,slP 2 zT (.slice z1A z.raw.length z1c) z.raw,slP 8 zJ (.slice z2A z.fine.length z2c) z.fine,slP 8 zJ (.slice z3A z.coarse.length z3c) z.coarse]) mix (fun _ h=>h.drew) rfl (yJ 16 [0,3,6,9] [0,2,3,4,5] rfl fun KS hKS=>?_)
 refine (go 4) ?_
 refine zi hKS (jq (f:=7) [(1,.val 4 (.slice z0A z.zK.length z0c)),(2,.row 5 74 2 z.zK.length (z.zK.flatMap zQ)),(4,.val 7 (.slice z1A z.raw.length z1c)),(5,.row 8 41 2 z.raw.length (z.raw.flatMap zT)),(7,.val 10 (.slice z2A z.fine.length z2c)),(8,.row 11 163 8 z.fine.length (z.fine.flatMap zJ)),(10,.val 13 (.slice z3A z.coarse.length z3c)),(11,.row 14 163 8 z.coarse.length (z.coarse.flatMap zJ)),(12,.val 15 (.pointer (some ⟨b1,0,none⟩)))] rfl (by kernel_rfl) (nd [1,2,4,5,7,8,10,11,12] rfl qD) (nd [4,5,7,8,10,11,13,14,15] rfl qD) rfl ⟨jv_ [] trivial rfl rfl rfl (uG 1 rfl rfl rfl flat39),jr_ [(1,4,.slice z0A z.zK.length z0c)] (⟨⟨0,rfl⟩,rfl,trivial⟩) rfl rfl rfl rfl call61 (fun w1 hM=>vN _ z.zK w1 (hM.slp 2 rfl) qO),jv_ [] trivial rfl rfl rfl (uG 1 rfl rfl rfl flat47),jr_ [(4,7,.slice z1A z.raw.length z1c)] (⟨⟨2,rfl⟩,rfl,trivial⟩) rfl rfl rfl rfl call166 (fun w1 hM=>c_cloneSample _ z.raw w1 (hM.slp 3 rfl) qO),jv_ [] trivial rfl rfl rfl (uG 1 rfl rfl rfl flat48),jr_ [(7,10,.slice z2A z.fine.length z2c)] (⟨⟨4,rfl⟩,rfl,trivial⟩) rfl rfl rfl rfl call167 (fun w1 hM=>c_cloneBucket _ z.fine w1 (hM.slp 4 rfl) qO),jv_ [] trivial rfl rfl rfl (uG 1 rfl rfl rfl flat48),jr_ [(10,13,.slice z3A z.coarse.length z3c)] (⟨⟨6,rfl⟩,rfl,trivial⟩) rfl rfl rfl rfl call167 (fun w1 hM=>c_cloneBucket _ z.coarse w1 (hM.slp 5 rfl) qO),jv_ [] trivial rfl rfl rfl (ud rfl fld50_0),trivial⟩ (S9 [0,2,3,4,5]) fun val1=>jO (E':=[(0,.agg (List.toArray [.slice z0A z.zK.length z0c,.slice z1A z.raw.length z1c,.slice z2A z.fine.length z2c,.slice z3A z.coarse.length z3c,iV z.zS,iV z.zL,iV z.zF,iV z.zH,iV z.zG])),(1,.pointer (some ⟨b1,0,none⟩)),(2,.pointer (some ⟨b2,0,none⟩)),(3,.pointer (some ⟨b1,0,none⟩)),(4,.slice z0A z.zK.length z0c),(5,(val1 2)),(6,.pointer (some ⟨b1,1,none⟩)),(7,.slice z1A z.raw.length z1c),(8,(val1 5)),(9,.pointer (some ⟨b1,2,none⟩)),(10,.slice z2A z.fine.length z2c),(11,(val1 8)),(12,.pointer (some ⟨b1,3,none⟩)),(13,.slice z3A z.coarse.length z3c),(14,(val1 11)),(15,.pointer (some ⟨b1,0,none⟩))]) (S':=Mem w ⟨no,P0⟩ [Row (val1 2) 74 2 zQ z.zK,Row (val1 5) 41 2 zT z.raw,Row (val1 8) 163 8 zJ z.fine,Row (val1 11) 163 8 zJ z.coarse,.blk b2 [Zs,Zs,Zs,Zs,iV 0,iV 0,iV 0,iV 0,iV 0] 50,.blk b1 [.slice z0A z.zK.length z0c,.slice z1A z.raw.length z1c,.slice z2A z.fine.length z2c,.slice z3A z.coarse.length z3c,iV z.zS,iV z.zL,iV z.zF,iV z.zH,iV z.zG] 50,slP 2 zQ (.slice z0A z.zK.length z0c) z.zK,slP 2 zT (.slice z1A z.raw.length z1c) z.raw,slP 8 zJ (.slice z2A z.fine.length z2c) z.fine,slP 8 zJ (.slice z3A z.coarse.length z3c) z.coarse]) (sc rfl (sc rfl (sc rfl (sc rfl (sc rfl (sc rfl (sc rfl (sc rfl (sc rfl (sc rfl (sc rfl (sc rfl (sc rfl (sc rfl (sc rfl (sc rfl sn)))))))))))))))) (fun _ h=>h) (uV 0 (l:=z.zK) (enc:=zQ) rfl fun A1 cp1 hv1 hc1 hm1 hA1=>?_))
 rw [hv1]
 refine uV 1 (l:=z.raw) (enc:=zT) rfl fun A2 cp2 hv2 hc2 hm2 hA2=>?_
 rw [hv2]
 refine uV 2 (l:=z.fine) (enc:=zJ) rfl fun A3 cp3 hv3 hc3 hm3 hA3=>?_
 rw [hv3]
 refine uV 3 (l:=z.coarse) (enc:=zJ) rfl fun A4 cp4 hv4 hc4 hm4 hA4=>?_
 rw [hv4]
 refine zf 6 13 (zg (i:=13) rfl fun KN hKN=>?_)
 refine (go 2) ?_
 refine hKN _ _ (S9 [4,6,7,8,9]) (yJ 5 [14] [4,6,7,8,9] rfl fun KS hKS=>?_)
 refine (go 1) ?_
 refine zi hKS (zf 4 15 (zg (i:=15) rfl fun KN hKN=>?_))
 refine (go 2) ?_
 refine hKN _ _ (S9 [4,6,7,8,9]) (yJ 3 [16] [4,6,7,8,9] rfl fun KS hKS=>?_)
 refine (go 1) ?_
 refine zi hKS (zf 2 17 (zg (i:=17) rfl fun KN hKN=>?_))
 refine (go 2) ?_
 refine hKN _ _ (S9 [4,6,7,8,9]) (yJ 1 [18] [4,6,7,8,9] rfl fun KS hKS=>?_)
 refine (go 1) ?_
 refine zi hKS (zf 0 19 (zg (i:=19) rfl fun KN hKN=>?_))
 refine (go 2) ?_
 refine hKN _ _ (S9 [4,6,7,8,9]) ?_
 refine zw (by kernel_rfl) ((go 1) ?_)
 refine (go 7) (zY results119 fun w1 hM=>?_)
 exact (hM.sel [0,1,2,3] qD rfl).retOwn
end
section
open Tryz
open Ex
attribute [local irreducible] WC WL WQ WE WS
set_option linter.unusedVariables false
set_option linter.unusedSimpArgs false
theorem c_new (lv:Value) (l:List Label) (P0:Nat→Prop) (w:World) (hP0:∀ b,P0 b→b < w.heap.size) (hl:zD P0 2 zQ lv l w) (hl1:l.length≤1048576) :
    Calls prog 113 #[lv] w (RetSh w P0 (fun u=>u) ⟨l,[],[],[],0,0,0,0,0⟩):=by
 obtain ⟨lA,lc,rfl,hlc,hlm,hlA⟩:=hl.form
 refine zr (N:=6) func113 (Mem.ofDatsP hP0 (dc (dlp hl) dn)) ?_
 refine (go 2) (zz fun b2=>?_)
 refine (go 5) ?_
 refine vW l wn rfl call61 rfl (fun w1 hM=>vN _ l w1 (hM.slp 1 rfl) qO) fun A1 cp1 hc1 hm1 hA1=>?_
 refine (go 5) (zY results113 fun w1 hM=>?_)
 have hM:=hM.zk encLabel (i:=0) rfl rfl
 exact hM.yl (s':=(⟨l,([]:List Sample),([]:List Bucket),([]:List Bucket),0,0,0,0,0⟩:Shelf)) (fun u=>u) rfl (rfl) (fun _ pp=>pp.sl 0 rfl) (fun _ _=>zD.zt _ _ _ _) (fun _ _=>zD.zt _ _ _ _) (fun _ _=>zD.zt _ _ _ _)
theorem jA (n:Int) (st:Int) (w:World)  (hn:0≤n∧n≤9223372036854775807) (hst:0 < st) :
    Calls prog 124 #[iV n,iV st] w (Ret w (iV (n - n % st))):=by
 obtain ⟨hm1,hm2⟩:=Sh.emod_le hn.1 hst
 refine zr (N:=10) func124 (Mem.ofDats dn) ?_
 refine (go 16) (zY results124 fun w1 hM=>?_)
 exact zP rfl hM
theorem c_append (z0:Value) (z1:Value) (z2:Value) (z3:Value) (z:Shelf) (x:Sample) (P0:Nat→Prop) (w:World) (hP0:∀ b,P0 b→b < w.heap.size) (hz0:zD P0 2 zQ z0 z.zK w) (hz1:zD P0 2 zT z1 z.raw w) (hz2:zD P0 8 zJ z2 z.fine w) (hz3:zD P0 8 zJ z3 z.coarse w)  :
    Calls prog 114 #[.agg (List.toArray [z0,z1,z2,z3,iV z.zS,iV z.zL,iV z.zF,iV z.zH,iV z.zG]),.agg (zT x).toArray] w (RetSh w P0 (fun u=>.tuple (List.toArray [u,iV (Sh.append z x).2])) (Sh.append z x).1):=by
 obtain ⟨z0A,z0c,rfl,hz0c,hz0m,hz0A⟩:=hz0.form
 obtain ⟨z1A,z1c,rfl,hz1c,hz1m,hz1A⟩:=hz1.form
 obtain ⟨z2A,z2c,rfl,hz2c,hz2m,hz2A⟩:=hz2.form
 obtain ⟨z3A,z3c,rfl,hz3c,hz3m,hz3A⟩:=hz3.form
 refine zr (N:=64) func114 (Mem.ofDatsP hP0 (dc (dlp hz0) (dc (dlp hz1) (dc (dlp hz2) (dc (dlp hz3) dn))))) ?_
 refine (go 2) (yu fun b2=>yu fun b3=>zz fun b4=>?_)
 refine (go 7) ?_
 refine yH call21 wn rfl (fun w1 hM=>vf _ _ _ _ z (In w1) w1 (fun _ h=>h) (hM.slp 3 rfl) (hM.slp 4 rfl) (hM.slp 5 rfl) (hM.slp 6 rfl)) ?_
 refine (go 9) (zX (fun h1=>?_) fun h1=>?_)
 ·refine (go 10) (yL results114 fun w1 hM=>?_)
  have he:Sh.append z x=((⟨([]:List Label),([]:List Sample),([]:List Bucket),([]:List Bucket),0,0,0,0,0⟩:Shelf),(Sh.wrong z)):=Sh.append_wrong h1
  rw [he]
  exact hM.yl (s':=(⟨([]:List Label),([]:List Sample),([]:List Bucket),([]:List Bucket),0,0,0,0,0⟩:Shelf)) (fun u=>.tuple (List.toArray [u,iV (Sh.wrong z)])) rfl (rfl) (fun _ _=>zD.zt _ _ _ _) (fun _ _=>zD.zt _ _ _ _) (fun _ _=>zD.zt _ _ _ _) (fun _ _=>zD.zt _ _ _ _)
 obtain ⟨l1,l2,l3,l4⟩:=(Sh.ok_of h1).lens
 refine (go 6) ?_
 refine zy zT ([x]:List Sample) wn underlying47 inf41 rfl rfl rfl rfl qD qD rfl fun b17=>yH call43 wn rfl (fun w1 hM=>vi _ ([x]:List Sample) w1 (RowSl encSample hM 0 rfl)) (zz fun b7=>?_)
 refine (go 10) (zX (fun h2=>?_) fun h2=>?_)
 ·refine (go 1) ?_
  refine yK (Mem w ⟨no,P0⟩ [.blk b7 [iV ((Codec.wrong ([x]:List Sample)).err),iV ((Codec.wrong ([x]:List Sample)).at_)] 61,Row (.slice (some ⟨b17,0,none⟩) 1 1) 41 2 zT ([x]:List Sample),.blk b4 [Zs,Zs,Zs,Zs,iV 0,iV 0,iV 0,iV 0,iV 0] 50,.blk b3 [iV x.time,iV x.value] 41,.blk b2 [.slice z0A z.zK.length z0c,.slice z1A z.raw.length z1c,.slice z2A z.fine.length z2c,.slice z3A z.coarse.length z3c,iV z.zS,iV z.zL,iV z.zF,iV z.zH,iV z.zG] 50,slP 2 zQ (.slice z0A z.zK.length z0c) z.zK,slP 2 zT (.slice z1A z.raw.length z1c) z.raw,slP 8 zJ (.slice z2A z.fine.length z2c) z.fine,slP 8 zJ (.slice z3A z.coarse.length z3c) z.coarse]) mix (fun _ h=>h.drew) rfl (uD (f:=2) [0,1,2] rfl rfl (by kernel_rfl) (by kernel_rfl) (fun _ h=>h) fun KS hKS=>?_)
  refine (go 3) ?_
  refine zi hKS (zf 1 3 (zg (i:=3) rfl fun KN hKN=>?_))
  refine (go 2) ?_
  refine hKN _ _ (fun _ h=>h) (uD (f:=0) [4] rfl rfl (by kernel_rfl) (by kernel_rfl) (fun _ h=>h) fun KS hKS=>?_)
  refine (go 1) ?_
  refine zi hKS ?_
  refine zw (by kernel_rfl) ((go 1) ?_)
  refine (go 2) (yL results114 fun w1 hM=>?_)
  have he:Sh.append z x=((⟨([]:List Label),([]:List Sample),([]:List Bucket),([]:List Bucket),0,0,0,0,0⟩:Shelf),(Codec.wrong ([x]:List Sample)).err):=Sh.append_bad h1 h2
  rw [he]
  exact hM.yl (s':=(⟨([]:List Label),([]:List Sample),([]:List Bucket),([]:List Bucket),0,0,0,0,0⟩:Shelf)) (fun u=>.tuple (List.toArray [u,iV ((Codec.wrong ([x]:List Sample)).err)])) rfl (rfl) (fun _ _=>zD.zt _ _ _ _) (fun _ _=>zD.zt _ _ _ _) (fun _ _=>zD.zt _ _ _ _) (fun _ _=>zD.zt _ _ _ _)
 refine (go 20) (va 34 (fun h3=>?_) fun h3=>?_)
 ·refine (go 26) (yL results114 fun w1 hM=>?_)
  have he:Sh.append z x=((⟨([]:List Label),([]:List Sample),([]:List Bucket),([]:List Bucket),0,0,0,0,0⟩:Shelf),9):=Sh.append_late h1 h2 (.inl h3)
  rw [he]
  exact hM.yl (s':=(⟨([]:List Label),([]:List Sample),([]:List Bucket),([]:List Bucket),0,0,0,0,0⟩:Shelf)) (fun u=>.tuple (List.toArray [u,iV 9])) rfl (rfl) (fun _ _=>zD.zt _ _ _ _) (fun _ _=>zD.zt _ _ _ _) (fun _ _=>zD.zt _ _ _ _) (fun _ _=>zD.zt _ _ _ _)
 refine (go 3) (va 37 (fun h4=>?_) fun h4=>?_)
 ·refine (go 5) ?_
  obtain ⟨ad1,s1,hd1,hs1⟩:=elx hz1A (z.raw.length - 1)
  refine vd (yx (i:=(z.raw.length - 1)) rfl hd1 rfl qO qI underlying47 inf41) ?_
  refine (go 7) (zX (fun h5=>?_) fun h5=>?_)
  ·refine (go 9) (yL results114 fun w1 hM=>?_)
   have he:Sh.append z x=((⟨([]:List Label),([]:List Sample),([]:List Bucket),([]:List Bucket),0,0,0,0,0⟩:Shelf),9):=Sh.append_late h1 h2 (.inr (by rw [Sh.late_some hs1]; exact decide_eq_true h5))
   rw [he]
   exact hM.yl (s':=(⟨([]:List Label),([]:List Sample),([]:List Bucket),([]:List Bucket),0,0,0,0,0⟩:Shelf)) (fun u=>.tuple (List.toArray [u,iV 9])) rfl (rfl) (fun _ _=>zD.zt _ _ _ _) (fun _ _=>zD.zt _ _ _ _) (fun _ _=>zD.zt _ _ _ _) (fun _ _=>zD.zt _ _ _ _)
  refine (go 11) (zX (fun h6=>?_) fun h6=>?_)
  ·refine (go 9) (yL results114 fun w1 hM=>?_)
   have he:Sh.append z x=((⟨([]:List Label),([]:List Sample),([]:List Bucket),([]:List Bucket),0,0,0,0,0⟩:Shelf),5):=Sh.append_many h1 h2 (fun g=>g.elim h3 (fun g=>by rw [Sh.late_some hs1] at g; exact h5 (of_decide_eq_true g))) h6
   rw [he]
   exact hM.yl (s':=(⟨([]:List Label),([]:List Sample),([]:List Bucket),([]:List Bucket),0,0,0,0,0⟩:Shelf)) (fun u=>.tuple (List.toArray [u,iV 5])) rfl (rfl) (fun _ _=>zD.zt _ _ _ _) (fun _ _=>zD.zt _ _ _ _) (fun _ _=>zD.zt _ _ _ _) (fun _ _=>zD.zt _ _ _ _)
  refine (go 5) ?_
  refine vy z wn rfl call119 rfl (fun w1 hM=>jc _ _ _ _ z (In w1) w1 (fun _ h=>h) (hM.slp 5 rfl) (hM.slp 6 rfl) (hM.slp 7 rfl) (hM.slp 8 rfl) (Sh.wrong_lens (by assumption))) fun A1 cp1 A2 cp2 A3 cp3 A4 cp4 hb1 hA1 hA2 hA3 hA4=>zz fun b9=>?_
  refine (go 8) ?_
  refine zy zT ([x]:List Sample) wn underlying47 inf41 rfl rfl rfl rfl qD qD rfl fun b60=>yI 3 z.raw ([x]:List Sample) encSample wn rfl rfl rfl (fun _ hM=>(RowSl encSample hM 0 rfl)) underlying47 inf41 rfl rfl (by simp only [qL]; omega) rfl fun A5 cp5 hc1 hm1 hA5=>?_
  refine (go 12) (yL results114 fun w1 hM=>?_)
  have he:Sh.append z x=((⟨z.zK,(z.raw++([x]:List Sample)),z.fine,z.coarse,z.zS,z.zL,z.zF,z.zH,z.zG⟩:Shelf),0):=Sh.append_ok h1 h2 (fun g=>g.elim h3 (fun g=>by rw [Sh.late_some hs1] at g; exact h5 (of_decide_eq_true g))) h6
  rw [he]
  have hM:=hM.zk encLabel (i:=2) rfl rfl
  have hM:=hM.zk encSample (i:=3) rfl rfl
  have hM:=hM.zk encBucket (i:=4) rfl rfl
  have hM:=hM.zk encBucket (i:=5) rfl rfl
  exact hM.yl (s':=(⟨z.zK,(z.raw++([x]:List Sample)),z.fine,z.coarse,z.zS,z.zL,z.zF,z.zH,z.zG⟩:Shelf)) (fun u=>.tuple (List.toArray [u,iV 0])) rfl (rfl) (fun _ pp=>pp.sl 2 rfl) (fun _ pp=>pp.sl 3 rfl) (fun _ pp=>pp.sl 4 rfl) (fun _ pp=>pp.sl 5 rfl)
 refine (go 25) (zX (fun h7=>?_) fun h7=>?_)
 ·refine (go 9) (yL results114 fun w1 hM=>?_)
  have he:Sh.append z x=((⟨([]:List Label),([]:List Sample),([]:List Bucket),([]:List Bucket),0,0,0,0,0⟩:Shelf),5):=Sh.append_many h1 h2 (fun g=>g.elim h3 (fun g=>by rw [Sh.late_none h4] at g; cases g)) h7
  rw [he]
  exact hM.yl (s':=(⟨([]:List Label),([]:List Sample),([]:List Bucket),([]:List Bucket),0,0,0,0,0⟩:Shelf)) (fun u=>.tuple (List.toArray [u,iV 5])) rfl (rfl) (fun _ _=>zD.zt _ _ _ _) (fun _ _=>zD.zt _ _ _ _) (fun _ _=>zD.zt _ _ _ _) (fun _ _=>zD.zt _ _ _ _)
 refine (go 5) ?_
 refine vy z wn rfl call119 rfl (fun w1 hM=>jc _ _ _ _ z (In w1) w1 (fun _ h=>h) (hM.slp 5 rfl) (hM.slp 6 rfl) (hM.slp 7 rfl) (hM.slp 8 rfl) (Sh.wrong_lens (by assumption))) fun A6 cp6 A7 cp7 A8 cp8 A9 cp9 hb2 hA6 hA7 hA8 hA9=>zz fun b9=>?_
 refine (go 8) ?_
 refine zy zT ([x]:List Sample) wn underlying47 inf41 rfl rfl rfl rfl qD qD rfl fun b60=>yI 3 z.raw ([x]:List Sample) encSample wn rfl rfl rfl (fun _ hM=>(RowSl encSample hM 0 rfl)) underlying47 inf41 rfl rfl (by simp only [qL]; omega) rfl fun A10 cp10 hc2 hm2 hA10=>?_
 refine (go 12) (yL results114 fun w1 hM=>?_)
 have he:Sh.append z x=((⟨z.zK,(z.raw++([x]:List Sample)),z.fine,z.coarse,z.zS,z.zL,z.zF,z.zH,z.zG⟩:Shelf),0):=Sh.append_ok h1 h2 (fun g=>g.elim h3 (fun g=>by rw [Sh.late_none h4] at g; cases g)) h7
 rw [he]
 have hM:=hM.zk encLabel (i:=2) rfl rfl
 have hM:=hM.zk encSample (i:=3) rfl rfl
 have hM:=hM.zk encBucket (i:=4) rfl rfl
 have hM:=hM.zk encBucket (i:=5) rfl rfl
 exact hM.yl (s':=(⟨z.zK,(z.raw++([x]:List Sample)),z.fine,z.coarse,z.zS,z.zL,z.zF,z.zH,z.zG⟩:Shelf)) (fun u=>.tuple (List.toArray [u,iV 0])) rfl (rfl) (fun _ pp=>pp.sl 2 rfl) (fun _ pp=>pp.sl 3 rfl) (fun _ pp=>pp.sl 4 rfl) (fun _ pp=>pp.sl 5 rfl)
set_option maxHeartbeats 1000000 in
theorem c_roll (z0:Value) (z1:Value) (z2:Value) (z3:Value) (z:Shelf) (to:Int) (P0:Nat→Prop) (w:World) (hP0:∀ b,P0 b→b < w.heap.size) (hz0:zD P0 2 zQ z0 z.zK w) (hz1:zD P0 2 zT z1 z.raw w) (hz2:zD P0 8 zJ z2 z.fine w) (hz3:zD P0 8 zJ z3 z.coarse w)  :
    Calls prog 74 #[.agg (List.toArray [z0,z1,z2,z3,iV z.zS,iV z.zL,iV z.zF,iV z.zH,iV z.zG]),iV to] w (RetSh w P0 (fun u=>.tuple (List.toArray [u,iV (Sh.roll z to).2])) (Sh.roll z to).1):=by
 obtain ⟨z0A,z0c,rfl,hz0c,hz0m,hz0A⟩:=hz0.form
 obtain ⟨z1A,z1c,rfl,hz1c,hz1m,hz1A⟩:=hz1.form
 obtain ⟨z2A,z2c,rfl,hz2c,hz2m,hz2A⟩:=hz2.form
 obtain ⟨z3A,z3c,rfl,hz3c,hz3m,hz3A⟩:=hz3.form
 refine zr (N:=115) func74 (Mem.ofDatsP hP0 (dc (dlp hz0) (dc (dlp hz1) (dc (dlp hz2) (dc (dlp hz3) dn))))) ?_
 refine (go 2) (yu fun b2=>zz fun b4=>?_)
 refine (go 7) ?_
 refine yH call21 wn rfl (fun w1 hM=>vf _ _ _ _ z (In w1) w1 (fun _ h=>h) (hM.slp 2 rfl) (hM.slp 3 rfl) (hM.slp 4 rfl) (hM.slp 5 rfl)) ?_
 refine (go 9) (zX (fun h1=>?_) fun h1=>?_)
 ·refine (go 10) (yL results74 fun w1 hM=>?_)
  have he:Sh.roll z to=((⟨([]:List Label),([]:List Sample),([]:List Bucket),([]:List Bucket),0,0,0,0,0⟩:Shelf),(Sh.wrong z)):=Sh.roll_wrong h1
  rw [he]
  exact hM.yl (s':=(⟨([]:List Label),([]:List Sample),([]:List Bucket),([]:List Bucket),0,0,0,0,0⟩:Shelf)) (fun u=>.tuple (List.toArray [u,iV (Sh.wrong z)])) rfl (rfl) (fun _ _=>zD.zt _ _ _ _) (fun _ _=>zD.zt _ _ _ _) (fun _ _=>zD.zt _ _ _ _) (fun _ _=>zD.zt _ _ _ _)
 obtain ⟨l1,l2,l3,l4⟩:=(Sh.ok_of h1).lens
 obtain ⟨⟨g1,g2,g3,g4⟩,⟨g5,g6,g7,g8,g9⟩,g10,g11,g12,g13,g14⟩:=(Sh.ok_of h1).rng
 refine (go 8) (yN 24 (fun h2=>?_) fun h2=>?_)
 ·refine (go 15) (yL results74 fun w1 hM=>?_)
  have he:Sh.roll z to=((⟨([]:List Label),([]:List Sample),([]:List Bucket),([]:List Bucket),0,0,0,0,0⟩:Shelf),3):=Sh.roll_range h1 qO
  rw [he]
  exact hM.yl (s':=(⟨([]:List Label),([]:List Sample),([]:List Bucket),([]:List Bucket),0,0,0,0,0⟩:Shelf)) (fun u=>.tuple (List.toArray [u,iV 3])) rfl (rfl) (fun _ _=>zD.zt _ _ _ _) (fun _ _=>zD.zt _ _ _ _) (fun _ _=>zD.zt _ _ _ _) (fun _ _=>zD.zt _ _ _ _)
 refine (go 5) (zX (fun h3=>?_) fun h3=>?_)
 ·refine (go 9) (yL results74 fun w1 hM=>?_)
  have he:Sh.roll z to=((⟨([]:List Label),([]:List Sample),([]:List Bucket),([]:List Bucket),0,0,0,0,0⟩:Shelf),3):=Sh.roll_range h1 qO
  rw [he]
  exact hM.yl (s':=(⟨([]:List Label),([]:List Sample),([]:List Bucket),([]:List Bucket),0,0,0,0,0⟩:Shelf)) (fun u=>.tuple (List.toArray [u,iV 3])) rfl (rfl) (fun _ _=>zD.zt _ _ _ _) (fun _ _=>zD.zt _ _ _ _) (fun _ _=>zD.zt _ _ _ _) (fun _ _=>zD.zt _ _ _ _)
 obtain ⟨ft1,ft2,ft3,ft4⟩:=Sh.fineTo_rng (Sh.ok_of h1) (to:=to) qO qO
 obtain ⟨ct1,ct2,ct3⟩:=Sh.coarseTo_rng (Sh.ok_of h1) (to:=to) qO qO
 have hu0:=Roll.inT_len z.raw z.zF (Sh.zF z to)
 have hb0:=Sh.bIn_len (z.fine++(Roll.up (Roll.inT z.raw z.zF (Sh.zF z to)) 1)) z.zG (Sh.zG z to)
 have hlen2:(z.fine++(Roll.up (Roll.inT z.raw z.zF (Sh.zF z to)) 1)).length=z.fine.length + _:=List.length_append
 have hu1:=Nat.le_trans (Roll.up_len (Roll.inT z.raw z.zF (Sh.zF z to)) 1) hu0
 have hu2:=Nat.le_trans (Roll.greater_len (Sh.bIn (z.fine++(Roll.up (Roll.inT z.raw z.zF (Sh.zF z to)) 1)) z.zG (Sh.zG z to))) hb0
 refine (go 5) ?_
 refine vy z wn rfl call119 rfl (fun w1 hM=>jc _ _ _ _ z (In w1) w1 (fun _ h=>h) (hM.slp 2 rfl) (hM.slp 3 rfl) (hM.slp 4 rfl) (hM.slp 5 rfl) (Sh.wrong_lens (by assumption))) fun A1 cp1 A2 cp2 A3 cp3 A4 cp4 hb1 hA1 hA2 hA3 hA4=>zz fun b7=>?_
 refine (go 8) ?_
 refine yP wn rfl call124 rfl (fun w1 hM=>jA to 10 w1 qO qO) (yk (jI (show _=(Sh.zF z to) from rfl) (ua rfl rfl)) ?_)
 refine (go 8) ?_
 refine yP wn rfl call124 rfl (fun w1 hM=>jA (Sh.zF z to) 60 w1 qO qO) (yk (jI (show _=(Sh.zG z to) from rfl) (ua rfl rfl)) ?_)
 refine (go 5) ?_
 refine yD (zT:Sample→List Value) 41 2 ?_
 refine (go 13) ?_
 refine vV (fun (k:Nat) (vr:Value)=>[(2,.pointer (some ⟨b2,0,none⟩)),(4,.pointer (some ⟨b4,0,none⟩)),(7,.pointer (some ⟨b7,0,none⟩)),(8,iV (Sh.zF z to)),(9,iV (Sh.zG z to)),(10,vr),(42,.slice z1A z.raw.length z1c),(43,iV z.raw.length),(44,iV k)]) (fun (k:Nat) (vr:Value)=>[Row vr 41 2 zT (Roll.inT (z.raw.take k) z.zF (Sh.zF z to)),.blk b7 [.slice A1 z.zK.length cp1,.slice A2 z.raw.length cp2,.slice A3 z.fine.length cp3,.slice A4 z.coarse.length cp4,iV z.zS,iV z.zL,iV z.zF,iV z.zH,iV z.zG] 50,Row (.slice A1 z.zK.length cp1) 74 2 zQ z.zK,Row (.slice A2 z.raw.length cp2) 41 2 zT z.raw,Row (.slice A3 z.fine.length cp3) 163 8 zJ z.fine,Row (.slice A4 z.coarse.length cp4) 163 8 zJ z.coarse,.blk b4 [Zs,Zs,Zs,Zs,iV 0,iV 0,iV 0,iV 0,iV 0] 50,.blk b2 [.slice z0A z.zK.length z0c,.slice z1A z.raw.length z1c,.slice z2A z.fine.length z2c,.slice z3A z.coarse.length z3c,iV z.zS,iV z.zL,iV z.zF,iV z.zH,iV z.zG] 50,slP 2 zQ (.slice z0A z.zK.length z0c) z.zK,slP 2 zT (.slice z1A z.raw.length z1c) z.raw,slP 8 zJ (.slice z2A z.fine.length z2c) z.fine,slP 8 zJ (.slice z3A z.coarse.length z3c) z.coarse]) (fun (k:Nat) (vr:Value)=>k≤z.raw.length) (fun (k:Nat) (vr:Value)=>z.raw.length - k) 0 (Zs) (sc rfl (sc rfl (sc rfl (sc rfl (sc rfl (sc rfl (sc rfl (sc rfl (sc (ji qO) sn))))))))) (fun _ h=>h) ?_ (fun k vr hI1=>?_)
 ·omega
 have hlen:=Nat.le_trans (Roll.inT_len (z.raw.take k) z.zF (Sh.zF z to)) (List.length_take_le k z.raw)
 refine yU 0 (l:=(Roll.inT (z.raw.take k) z.zF (Sh.zF z to))) rfl fun A5 cp5 hv1 hc1 hm1 hA5=>?_
 subst hv1
 refine (go 6) (zX (fun h4=>?_) fun h4=>?_)
 ·refine (go 6) ?_
  obtain ⟨ad1,s1,hd1,hs1⟩:=elx hz1A k
  refine (go 2) (zz fun b12=>?_)
  refine (go 11) (yN 53 (fun h5=>?_) fun h5=>?_)
  ·refine (go 7) (zX (fun h6=>?_) fun h6=>?_)
   ·refine (go 3) ?_
    refine zy zT ([s1]:List Sample) wn underlying47 inf41 rfl rfl rfl rfl qD qD rfl fun b61=>yI 2 (Roll.inT (z.raw.take k) z.zF (Sh.zF z to)) ([s1]:List Sample) encSample wn rfl rfl rfl (fun _ hM=>(RowSl encSample hM 0 rfl)) underlying47 inf41 rfl rfl (by first | omega | (simp only [qL]; omega)) rfl fun A6 cp6 hc2 hm2 hA6=>?_
    refine (go 7) ?_
    refine zU (yZ (k + 1) (.slice A6 (((Roll.inT (z.raw.take k) z.zF (Sh.zF z to))++([s1]:List Sample)).length) cp6) (sc rfl (sc rfl (sc rfl (sc rfl (sc rfl (sc rfl (sc rfl (sc rfl (sc (ji qO) sn))))))))) (fun _ h=>by rw [(Roll.inT_succ (a:=z.zF) (b:=Sh.zF z to) hs1).trans (if_pos qO)]; exact (h.sel [2,3,4,5,6,7,8,9,10,11,12,13] qD rfl)) ?_ ?_)
    ·omega
    omega
   refine (go 6) ?_
   refine zU (yZ (k + 1) (.slice A5 ((Roll.inT (z.raw.take k) z.zF (Sh.zF z to)).length) cp5) (sc rfl (sc rfl (sc rfl (sc rfl (sc rfl (sc rfl (sc rfl (sc rfl (sc (ji qO) sn))))))))) (fun _ h=>by rw [(Roll.inT_succ (a:=z.zF) (b:=Sh.zF z to) hs1).trans (if_neg qO)]; exact (h.sel [1,2,3,4,5,6,7,8,9,10,11,12] qD rfl)) ?_ ?_)
   ·omega
   omega
  refine (go 14) ?_
  refine zU (yZ (k + 1) (.slice A5 ((Roll.inT (z.raw.take k) z.zF (Sh.zF z to)).length) cp5) (sc rfl (sc rfl (sc rfl (sc rfl (sc rfl (sc rfl (sc rfl (sc rfl (sc (ji qO) sn))))))))) (fun _ h=>by rw [(Roll.inT_succ (a:=z.zF) (b:=Sh.zF z to) hs1).trans (if_neg qO)]; exact (h.sel [1,2,3,4,5,6,7,8,9,10,11,12] qD rfl)) ?_ ?_)
  ·omega
  omega
 have hk1:z.raw.take k=z.raw:=List.take_of_length_le qO
 rw [hk1]
 rw [hk1] at hA5
 refine (go 6) ?_
 refine yK (Mem w ⟨no,P0⟩ [Row (.slice A5 ((Roll.inT z.raw z.zF (Sh.zF z to)).length) cp5) 41 2 zT (Roll.inT z.raw z.zF (Sh.zF z to)),Row (.slice A1 z.zK.length cp1) 74 2 zQ z.zK,Row (.slice A2 z.raw.length cp2) 41 2 zT z.raw,Row (.slice A4 z.coarse.length cp4) 163 8 zJ z.coarse,.blk b4 [Zs,Zs,Zs,Zs,iV 0,iV 0,iV 0,iV 0,iV 0] 50,.blk b2 [.slice z0A z.zK.length z0c,.slice z1A z.raw.length z1c,.slice z2A z.fine.length z2c,.slice z3A z.coarse.length z3c,iV z.zS,iV z.zL,iV z.zF,iV z.zH,iV z.zG] 50,slP 2 zQ (.slice z0A z.zK.length z0c) z.zK,slP 2 zT (.slice z1A z.raw.length z1c) z.raw,slP 8 zJ (.slice z2A z.fine.length z2c) z.fine,slP 8 zJ (.slice z3A z.coarse.length z3c) z.coarse]) mix (fun _ h=>h.drew) rfl (yJ 5 [0,2] [0,2,3,5,6,7,8,9,10,11] rfl fun KS hKS=>?_)
 refine (go 2) ?_
 refine zi hKS (jq (f:=3) [(1,.val 65 (.slice A3 z.fine.length cp3)),(3,.row 67 163 8 (Roll.up (Roll.inT z.raw z.zF (Sh.zF z to)) 1).length ((Roll.up (Roll.inT z.raw z.zF (Sh.zF z to)) 1).flatMap zJ))] rfl (by kernel_rfl) (nd [1,3] rfl qD) (nd [65,67] rfl qD) rfl ⟨jv_ [] trivial rfl rfl rfl (uG 1 rfl rfl rfl flat48),jr_ [] trivial rfl rfl rfl rfl call126 (fun w1 hM=>c_Up _ (Roll.inT z.raw z.zF (Sh.zF z to)) 1 w1 (RowSl encSample hM 0 rfl) (by first | assumption | omega | (simp only [List.length_cons,List.length_nil]; omega) | exact Nat.le_trans (Roll.up_len _ _) (by first | omega | simp))),trivial⟩ (S9 [0,2,3,5,6,7,8,9,10,11]) fun val1=>jO (E':=[(2,.pointer (some ⟨b2,0,none⟩)),(4,.pointer (some ⟨b4,0,none⟩)),(7,.pointer (some ⟨b7,0,none⟩)),(8,iV (Sh.zF z to)),(9,iV (Sh.zG z to)),(10,.slice A5 ((Roll.inT z.raw z.zF (Sh.zF z to)).length) cp5),(42,.slice z1A z.raw.length z1c),(43,iV z.raw.length),(44,iV k),(45,.bool (decide ((k:Int) < (z.raw.length:Int)))),(64,.pointer (some ⟨b7,2,none⟩)),(65,.slice A3 z.fine.length cp3),(66,.slice A5 ((Roll.inT z.raw z.zF (Sh.zF z to)).length) cp5),(67,(val1 3))]) (S':=Mem w ⟨no,P0⟩ [Row (val1 3) 163 8 zJ (Roll.up (Roll.inT z.raw z.zF (Sh.zF z to)) 1),Row (.slice A5 ((Roll.inT z.raw z.zF (Sh.zF z to)).length) cp5) 41 2 zT (Roll.inT z.raw z.zF (Sh.zF z to)),.blk b7 [.slice A1 z.zK.length cp1,.slice A2 z.raw.length cp2,.slice A3 z.fine.length cp3,.slice A4 z.coarse.length cp4,iV z.zS,iV z.zL,iV z.zF,iV z.zH,iV z.zG] 50,Row (.slice A1 z.zK.length cp1) 74 2 zQ z.zK,Row (.slice A2 z.raw.length cp2) 41 2 zT z.raw,Row (.slice A3 z.fine.length cp3) 163 8 zJ z.fine,Row (.slice A4 z.coarse.length cp4) 163 8 zJ z.coarse,.blk b4 [Zs,Zs,Zs,Zs,iV 0,iV 0,iV 0,iV 0,iV 0] 50,.blk b2 [.slice z0A z.zK.length z0c,.slice z1A z.raw.length z1c,.slice z2A z.fine.length z2c,.slice z3A z.coarse.length z3c,iV z.zS,iV z.zL,iV z.zF,iV z.zH,iV z.zG] 50,slP 2 zQ (.slice z0A z.zK.length z0c) z.zK,slP 2 zT (.slice z1A z.raw.length z1c) z.raw,slP 8 zJ (.slice z2A z.fine.length z2c) z.fine,slP 8 zJ (.slice z3A z.coarse.length z3c) z.coarse]) (sc rfl (sc rfl (sc rfl (sc rfl (sc rfl (sc rfl (sc rfl (sc rfl (sc rfl (sc rfl (sc rfl (sc rfl (sc rfl (sc rfl sn)))))))))))))) (fun _ h=>h) (uV 0 (l:=(Roll.up (Roll.inT z.raw z.zF (Sh.zF z to)) 1)) (enc:=zJ) rfl fun A7 cp7 hv2 hc3 hm3 hA7=>?_))
 rw [hv2]
 refine zf 2 4 (zg (i:=4) rfl fun KN hKN=>yI 5 z.fine (Roll.up (Roll.inT z.raw z.zF (Sh.zF z to)) 1) encBucket wn rfl rfl rfl (fun _ hM=>(RowSl encBucket hM 0 rfl)) underlying48 inf163 rfl rfl (by first | omega | (simp only [qL]; omega)) rfl fun A8 cp8 hc4 hm4 hA8=>?_)
 refine (go 1) ?_
 refine hKN _ _ (S9 [1,3,4,6,7,8,9,10,11,12]) (yJ 1 [5] [1,3,4,6,7,8,9,10,11,12] rfl fun KS hKS=>?_)
 refine (go 1) ?_
 refine zi hKS (zf 0 6 (zg (i:=6) rfl fun KN hKN=>?_))
 refine (go 2) ?_
 refine hKN _ _ (S9 [1,3,4,6,7,8,9,10,11,12]) ?_
 refine zw (by kernel_rfl) ((go 1) ?_)
 refine (go 2) ?_
 refine yD (zJ:Bucket→List Value) 163 8 ?_
 refine (go 13) ?_
 refine vV (fun (k:Nat) (vr2:Value)=>[(2,.pointer (some ⟨b2,0,none⟩)),(4,.pointer (some ⟨b4,0,none⟩)),(7,.pointer (some ⟨b7,0,none⟩)),(8,iV (Sh.zF z to)),(9,iV (Sh.zG z to)),(13,vr2),(71,.slice A8 ((z.fine++(Roll.up (Roll.inT z.raw z.zF (Sh.zF z to)) 1)).length) cp8),(72,iV ((z.fine++(Roll.up (Roll.inT z.raw z.zF (Sh.zF z to)) 1)).length:Int)),(73,iV k)]) (fun (k:Nat) (vr2:Value)=>[Row vr2 163 8 zJ (Sh.bIn ((z.fine++(Roll.up (Roll.inT z.raw z.zF (Sh.zF z to)) 1)).take k) z.zG (Sh.zG z to)),Row (.slice A7 ((Roll.up (Roll.inT z.raw z.zF (Sh.zF z to)) 1).length) cp7) 163 8 zJ (Roll.up (Roll.inT z.raw z.zF (Sh.zF z to)) 1),Row (.slice A5 ((Roll.inT z.raw z.zF (Sh.zF z to)).length) cp5) 41 2 zT (Roll.inT z.raw z.zF (Sh.zF z to)),.blk b7 [.slice A1 z.zK.length cp1,.slice A2 z.raw.length cp2,.slice A8 ((z.fine++(Roll.up (Roll.inT z.raw z.zF (Sh.zF z to)) 1)).length) cp8,.slice A4 z.coarse.length cp4,iV z.zS,iV z.zL,iV z.zF,iV z.zH,iV z.zG] 50,Row (.slice A1 z.zK.length cp1) 74 2 zQ z.zK,Row (.slice A2 z.raw.length cp2) 41 2 zT z.raw,Row (.slice A8 ((z.fine++(Roll.up (Roll.inT z.raw z.zF (Sh.zF z to)) 1)).length) cp8) 163 8 zJ (z.fine++(Roll.up (Roll.inT z.raw z.zF (Sh.zF z to)) 1)),Row (.slice A4 z.coarse.length cp4) 163 8 zJ z.coarse,.blk b4 [Zs,Zs,Zs,Zs,iV 0,iV 0,iV 0,iV 0,iV 0] 50,.blk b2 [.slice z0A z.zK.length z0c,.slice z1A z.raw.length z1c,.slice z2A z.fine.length z2c,.slice z3A z.coarse.length z3c,iV z.zS,iV z.zL,iV z.zF,iV z.zH,iV z.zG] 50,slP 2 zQ (.slice z0A z.zK.length z0c) z.zK,slP 2 zT (.slice z1A z.raw.length z1c) z.raw,slP 8 zJ (.slice z2A z.fine.length z2c) z.fine,slP 8 zJ (.slice z3A z.coarse.length z3c) z.coarse]) (fun (k:Nat) (vr2:Value)=>k≤(z.fine++(Roll.up (Roll.inT z.raw z.zF (Sh.zF z to)) 1)).length) (fun (k:Nat) (vr2:Value)=>(z.fine++(Roll.up (Roll.inT z.raw z.zF (Sh.zF z to)) 1)).length - k) 0 (Zs) (sc rfl (sc rfl (sc rfl (sc rfl (sc rfl (sc rfl (sc rfl (sc rfl (sc (ji qO) sn))))))))) (fun _ h=>h) ?_ (fun k vr2 hI2=>?_)
 ·omega
 have hlen:=Nat.le_trans (Sh.bIn_len ((z.fine++(Roll.up (Roll.inT z.raw z.zF (Sh.zF z to)) 1)).take k) z.zG (Sh.zG z to)) (List.length_take_le k (z.fine++(Roll.up (Roll.inT z.raw z.zF (Sh.zF z to)) 1)))
 refine yU 0 (l:=(Sh.bIn ((z.fine++(Roll.up (Roll.inT z.raw z.zF (Sh.zF z to)) 1)).take k) z.zG (Sh.zG z to))) rfl fun A9 cp9 hv3 hc5 hm5 hA9=>?_
 subst hv3
 refine (go 6) (zX (fun h7=>?_) fun h7=>?_)
 ·refine (go 6) ?_
  obtain ⟨ad2,s2,hd2,hs2⟩:=elx hA8 k
  refine (go 1) ?_
  refine zb (uN 6 [iV s2.at_,iV s2.sum.count,iV s2.sum.total,iV s2.sum.min,iV s2.sum.max,iV s2.sum.first,iV s2.sum.last,iV s2.sum.rise] encBucket rfl rfl hd2 hs2 rfl rfl agg163 inf163) (zz fun b15=>?_)
  refine (go 11) (yN 82 (fun h8=>?_) fun h8=>?_)
  ·refine (go 7) (zX (fun h9=>?_) fun h9=>?_)
   ·refine (go 3) ?_
    refine zy zJ ([s2]:List Bucket) wn underlying48 inf163 rfl rfl rfl rfl qD qD rfl fun b90=>yI 2 (Sh.bIn ((z.fine++(Roll.up (Roll.inT z.raw z.zF (Sh.zF z to)) 1)).take k) z.zG (Sh.zG z to)) ([s2]:List Bucket) encBucket wn rfl rfl rfl (fun _ hM=>(RowSl encBucket hM 0 rfl)) underlying48 inf163 rfl rfl (by first | omega | (simp only [qL]; omega)) rfl fun A10 cp10 hc6 hm6 hA10=>?_
    refine (go 7) ?_
    refine zU (yZ (k + 1) (.slice A10 (((Sh.bIn ((z.fine++(Roll.up (Roll.inT z.raw z.zF (Sh.zF z to)) 1)).take k) z.zG (Sh.zG z to))++([s2]:List Bucket)).length) cp10) (sc rfl (sc rfl (sc rfl (sc rfl (sc rfl (sc rfl (sc rfl (sc rfl (sc (ji qO) sn))))))))) (fun _ h=>by rw [(Sh.bIn_succ (a:=z.zG) (b:=Sh.zG z to) hs2).trans (if_pos qO)]; exact (h.sel [2,3,4,5,6,7,8,9,10,11,12,13,14,15] qD rfl)) ?_ ?_)
    ·omega
    omega
   refine (go 6) ?_
   refine zU (yZ (k + 1) (.slice A9 ((Sh.bIn ((z.fine++(Roll.up (Roll.inT z.raw z.zF (Sh.zF z to)) 1)).take k) z.zG (Sh.zG z to)).length) cp9) (sc rfl (sc rfl (sc rfl (sc rfl (sc rfl (sc rfl (sc rfl (sc rfl (sc (ji qO) sn))))))))) (fun _ h=>by rw [(Sh.bIn_succ (a:=z.zG) (b:=Sh.zG z to) hs2).trans (if_neg qO)]; exact (h.sel [1,2,3,4,5,6,7,8,9,10,11,12,13,14] qD rfl)) ?_ ?_)
   ·omega
   omega
  refine (go 14) ?_
  refine zU (yZ (k + 1) (.slice A9 ((Sh.bIn ((z.fine++(Roll.up (Roll.inT z.raw z.zF (Sh.zF z to)) 1)).take k) z.zG (Sh.zG z to)).length) cp9) (sc rfl (sc rfl (sc rfl (sc rfl (sc rfl (sc rfl (sc rfl (sc rfl (sc (ji qO) sn))))))))) (fun _ h=>by rw [(Sh.bIn_succ (a:=z.zG) (b:=Sh.zG z to) hs2).trans (if_neg qO)]; exact (h.sel [1,2,3,4,5,6,7,8,9,10,11,12,13,14] qD rfl)) ?_ ?_)
  ·omega
  omega
 have hk2:(z.fine++(Roll.up (Roll.inT z.raw z.zF (Sh.zF z to)) 1)).take k=(z.fine++(Roll.up (Roll.inT z.raw z.zF (Sh.zF z to)) 1)):=List.take_of_length_le qO
 rw [hk2]
 rw [hk2] at hA9
 refine (go 6) ?_
 refine yK (Mem w ⟨no,P0⟩ [Row (.slice A9 ((Sh.bIn (z.fine++(Roll.up (Roll.inT z.raw z.zF (Sh.zF z to)) 1)) z.zG (Sh.zG z to)).length) cp9) 163 8 zJ (Sh.bIn (z.fine++(Roll.up (Roll.inT z.raw z.zF (Sh.zF z to)) 1)) z.zG (Sh.zG z to)),Row (.slice A7 ((Roll.up (Roll.inT z.raw z.zF (Sh.zF z to)) 1).length) cp7) 163 8 zJ (Roll.up (Roll.inT z.raw z.zF (Sh.zF z to)) 1),Row (.slice A5 ((Roll.inT z.raw z.zF (Sh.zF z to)).length) cp5) 41 2 zT (Roll.inT z.raw z.zF (Sh.zF z to)),Row (.slice A1 z.zK.length cp1) 74 2 zQ z.zK,Row (.slice A2 z.raw.length cp2) 41 2 zT z.raw,Row (.slice A8 ((z.fine++(Roll.up (Roll.inT z.raw z.zF (Sh.zF z to)) 1)).length) cp8) 163 8 zJ (z.fine++(Roll.up (Roll.inT z.raw z.zF (Sh.zF z to)) 1)),.blk b4 [Zs,Zs,Zs,Zs,iV 0,iV 0,iV 0,iV 0,iV 0] 50,.blk b2 [.slice z0A z.zK.length z0c,.slice z1A z.raw.length z1c,.slice z2A z.fine.length z2c,.slice z3A z.coarse.length z3c,iV z.zS,iV z.zL,iV z.zF,iV z.zH,iV z.zG] 50,slP 2 zQ (.slice z0A z.zK.length z0c) z.zK,slP 2 zT (.slice z1A z.raw.length z1c) z.raw,slP 8 zJ (.slice z2A z.fine.length z2c) z.fine,slP 8 zJ (.slice z3A z.coarse.length z3c) z.coarse]) mix (fun _ h=>h.drew) rfl (yJ 5 [0,2] [0,1,2,4,5,6,8,9,10,11,12,13] rfl fun KS hKS=>?_)
 refine (go 2) ?_
 refine zi hKS (jq (f:=3) [(1,.val 94 (.slice A4 z.coarse.length cp4)),(3,.row 96 163 8 (Roll.greater (Sh.bIn (z.fine++(Roll.up (Roll.inT z.raw z.zF (Sh.zF z to)) 1)) z.zG (Sh.zG z to))).length ((Roll.greater (Sh.bIn (z.fine++(Roll.up (Roll.inT z.raw z.zF (Sh.zF z to)) 1)) z.zG (Sh.zG z to))).flatMap zJ))] rfl (by kernel_rfl) (nd [1,3] rfl qD) (nd [94,96] rfl qD) rfl ⟨jv_ [] trivial rfl rfl rfl (uG 3 rfl rfl rfl flat48),jr_ [] trivial rfl rfl rfl rfl call127 (fun w1 hM=>c_Greater _ (Sh.bIn (z.fine++(Roll.up (Roll.inT z.raw z.zF (Sh.zF z to)) 1)) z.zG (Sh.zG z to)) w1 (RowSl encBucket hM 0 rfl) (by first | assumption | omega | (simp only [List.length_cons,List.length_nil]; omega) | exact Nat.le_trans (Roll.up_len _ _) (by first | omega | simp))),trivial⟩ (S9 [0,1,2,4,5,6,8,9,10,11,12,13]) fun val2=>jO (E':=[(2,.pointer (some ⟨b2,0,none⟩)),(4,.pointer (some ⟨b4,0,none⟩)),(7,.pointer (some ⟨b7,0,none⟩)),(8,iV (Sh.zF z to)),(9,iV (Sh.zG z to)),(13,.slice A9 ((Sh.bIn (z.fine++(Roll.up (Roll.inT z.raw z.zF (Sh.zF z to)) 1)) z.zG (Sh.zG z to)).length) cp9),(71,.slice A8 ((z.fine++(Roll.up (Roll.inT z.raw z.zF (Sh.zF z to)) 1)).length) cp8),(72,iV ((z.fine++(Roll.up (Roll.inT z.raw z.zF (Sh.zF z to)) 1)).length:Int)),(73,iV k),(74,.bool (decide ((k:Int) < ((z.fine++(Roll.up (Roll.inT z.raw z.zF (Sh.zF z to)) 1)).length:Int)))),(93,.pointer (some ⟨b7,3,none⟩)),(94,.slice A4 z.coarse.length cp4),(95,.slice A9 ((Sh.bIn (z.fine++(Roll.up (Roll.inT z.raw z.zF (Sh.zF z to)) 1)) z.zG (Sh.zG z to)).length) cp9),(96,(val2 3))]) (S':=Mem w ⟨no,P0⟩ [Row (val2 3) 163 8 zJ (Roll.greater (Sh.bIn (z.fine++(Roll.up (Roll.inT z.raw z.zF (Sh.zF z to)) 1)) z.zG (Sh.zG z to))),Row (.slice A9 ((Sh.bIn (z.fine++(Roll.up (Roll.inT z.raw z.zF (Sh.zF z to)) 1)) z.zG (Sh.zG z to)).length) cp9) 163 8 zJ (Sh.bIn (z.fine++(Roll.up (Roll.inT z.raw z.zF (Sh.zF z to)) 1)) z.zG (Sh.zG z to)),Row (.slice A7 ((Roll.up (Roll.inT z.raw z.zF (Sh.zF z to)) 1).length) cp7) 163 8 zJ (Roll.up (Roll.inT z.raw z.zF (Sh.zF z to)) 1),Row (.slice A5 ((Roll.inT z.raw z.zF (Sh.zF z to)).length) cp5) 41 2 zT (Roll.inT z.raw z.zF (Sh.zF z to)),.blk b7 [.slice A1 z.zK.length cp1,.slice A2 z.raw.length cp2,.slice A8 ((z.fine++(Roll.up (Roll.inT z.raw z.zF (Sh.zF z to)) 1)).length) cp8,.slice A4 z.coarse.length cp4,iV z.zS,iV z.zL,iV z.zF,iV z.zH,iV z.zG] 50,Row (.slice A1 z.zK.length cp1) 74 2 zQ z.zK,Row (.slice A2 z.raw.length cp2) 41 2 zT z.raw,Row (.slice A8 ((z.fine++(Roll.up (Roll.inT z.raw z.zF (Sh.zF z to)) 1)).length) cp8) 163 8 zJ (z.fine++(Roll.up (Roll.inT z.raw z.zF (Sh.zF z to)) 1)),Row (.slice A4 z.coarse.length cp4) 163 8 zJ z.coarse,.blk b4 [Zs,Zs,Zs,Zs,iV 0,iV 0,iV 0,iV 0,iV 0] 50,.blk b2 [.slice z0A z.zK.length z0c,.slice z1A z.raw.length z1c,.slice z2A z.fine.length z2c,.slice z3A z.coarse.length z3c,iV z.zS,iV z.zL,iV z.zF,iV z.zH,iV z.zG] 50,slP 2 zQ (.slice z0A z.zK.length z0c) z.zK,slP 2 zT (.slice z1A z.raw.length z1c) z.raw,slP 8 zJ (.slice z2A z.fine.length z2c) z.fine,slP 8 zJ (.slice z3A z.coarse.length z3c) z.coarse]) (sc rfl (sc rfl (sc rfl (sc rfl (sc rfl (sc rfl (sc rfl (sc rfl (sc rfl (sc rfl (sc rfl (sc rfl (sc rfl (sc rfl sn)))))))))))))) (fun _ h=>h) (uV 0 (l:=(Roll.greater (Sh.bIn (z.fine++(Roll.up (Roll.inT z.raw z.zF (Sh.zF z to)) 1)) z.zG (Sh.zG z to)))) (enc:=zJ) rfl fun A11 cp11 hv4 hc7 hm7 hA11=>?_))
 rw [hv4]
 refine zf 2 4 (zg (i:=4) rfl fun KN hKN=>yI 8 z.coarse (Roll.greater (Sh.bIn (z.fine++(Roll.up (Roll.inT z.raw z.zF (Sh.zF z to)) 1)) z.zG (Sh.zG z to))) encBucket wn rfl rfl rfl (fun _ hM=>(RowSl encBucket hM 0 rfl)) underlying48 inf163 rfl rfl (by first | omega | (simp only [qL]; omega)) rfl fun A12 cp12 hc8 hm8 hA12=>?_)
 refine (go 1) ?_
 refine hKN _ _ (S9 [1,2,3,5,6,7,9,10,11,12,13,14]) (yJ 1 [5] [1,2,3,5,6,7,9,10,11,12,13,14] rfl fun KS hKS=>?_)
 refine (go 1) ?_
 refine zi hKS (zf 0 6 (zg (i:=6) rfl fun KN hKN=>?_))
 refine (go 2) ?_
 refine hKN _ _ (S9 [1,2,3,5,6,7,9,10,11,12,13,14]) ?_
 refine zw (by kernel_rfl) ((go 1) ?_)
 refine (go 8) (yN 103 (fun h10=>?_) fun h10=>?_)
 ·refine (go 17) (yL results74 fun w1 hM=>?_)
  have he:Sh.roll z to=((⟨([]:List Label),([]:List Sample),([]:List Bucket),([]:List Bucket),0,0,0,0,0⟩:Shelf),5):=Sh.roll_many h1 (fun g=>by omega) (.inl h10)
  rw [he]
  exact hM.yl (s':=(⟨([]:List Label),([]:List Sample),([]:List Bucket),([]:List Bucket),0,0,0,0,0⟩:Shelf)) (fun u=>.tuple (List.toArray [u,iV 5])) rfl (rfl) (fun _ _=>zD.zt _ _ _ _) (fun _ _=>zD.zt _ _ _ _) (fun _ _=>zD.zt _ _ _ _) (fun _ _=>zD.zt _ _ _ _)
 refine (go 7) (zX (fun h11=>?_) fun h11=>?_)
 ·refine (go 9) (yL results74 fun w1 hM=>?_)
  have he:Sh.roll z to=((⟨([]:List Label),([]:List Sample),([]:List Bucket),([]:List Bucket),0,0,0,0,0⟩:Shelf),5):=Sh.roll_many h1 (fun g=>by omega) (.inr h11)
  rw [he]
  exact hM.yl (s':=(⟨([]:List Label),([]:List Sample),([]:List Bucket),([]:List Bucket),0,0,0,0,0⟩:Shelf)) (fun u=>.tuple (List.toArray [u,iV 5])) rfl (rfl) (fun _ _=>zD.zt _ _ _ _) (fun _ _=>zD.zt _ _ _ _) (fun _ _=>zD.zt _ _ _ _) (fun _ _=>zD.zt _ _ _ _)
 refine (go 20) (yL results74 fun w1 hM=>?_)
 have he:Sh.roll z to=((⟨z.zK,z.raw,(z.fine++(Roll.up (Roll.inT z.raw z.zF (Sh.zF z to)) 1)),(z.coarse++(Roll.greater (Sh.bIn (z.fine++(Roll.up (Roll.inT z.raw z.zF (Sh.zF z to)) 1)) z.zG (Sh.zG z to)))),z.zS,z.zL,(Sh.zF z to),z.zH,(Sh.zG z to)⟩:Shelf),0):=Sh.roll_ok h1 (fun g=>by omega) h10 h11
 rw [he]
 have hM:=hM.zk encLabel (i:=5) rfl rfl
 have hM:=hM.zk encSample (i:=6) rfl rfl
 have hM:=hM.zk encBucket (i:=7) rfl rfl
 have hM:=hM.zk encBucket (i:=8) rfl rfl
 exact hM.yl (s':=(⟨z.zK,z.raw,(z.fine++(Roll.up (Roll.inT z.raw z.zF (Sh.zF z to)) 1)),(z.coarse++(Roll.greater (Sh.bIn (z.fine++(Roll.up (Roll.inT z.raw z.zF (Sh.zF z to)) 1)) z.zG (Sh.zG z to)))),z.zS,z.zL,(Sh.zF z to),z.zH,(Sh.zG z to)⟩:Shelf)) (fun u=>.tuple (List.toArray [u,iV 0])) rfl (rfl) (fun _ pp=>pp.sl 5 rfl) (fun _ pp=>pp.sl 6 rfl) (fun _ pp=>pp.sl 7 rfl) (fun _ pp=>pp.sl 8 rfl)
theorem vg (x:Bucket) (fp:Nat) (f:Int) (w:World) (hfp:w.heap[fp]?=some (.cells [iV f].toArray 3 (0,0)))  :
    Calls prog 121 #[.agg (zJ x).toArray,.pointer (some ⟨fp,0,none⟩)] w (Ret w (.bool (decide (x.at_ < f)))):=by
 refine zr (N:=8) func121 (Mem.ofDats (dc (ddb hfp) dn)) ?_
 refine (go 2) (yu fun b2=>?_)
 refine (go 13) (zY results121 fun w1 hM=>?_)
 exact zP rfl hM
theorem c_forget2 (x:Sample) (zp:Nat) (z0:Value) (z1:Value) (z2:Value) (z3:Value) (z:Shelf) (w:World) (hzp:w.heap[zp]?=some (.cells [z0,z1,z2,z3,iV z.zS,iV z.zL,iV z.zF,iV z.zH,iV z.zG].toArray 50 (0,0)))  :
    Calls prog 123 #[.agg (zT x).toArray,.pointer (some ⟨zp,0,none⟩)] w (Ret w (.bool (decide (x.time < z.zS)))):=by
 refine zr (N:=9) func123 (Mem.ofDats (dc (ddb hzp) dn)) ?_
 refine (go 2) (yu fun b2=>?_)
 refine (go 14) (zY results123 fun w1 hM=>?_)
 exact zP rfl hM
theorem v8 (f:Int) (w:World)   :
    Calls prog 120 #[iV f] w (RetMk w (fun b=>.func (.func 121) #[] #[.pointer (some ⟨b,0,none⟩)]) (fun b=>.blk b [iV f] 3)):=by
 refine zr (N:=4) func120 (Mem.ofDats dn) ?_
 refine (go 2) (jj fun b1=>?_)
 refine (go 5) ?_
 refine zb (yf rfl rfl) ?_
 refine (go 4) (zY results120 fun w1 hM=>?_)
 exact ⟨b1,rfl,hM⟩
set_option maxHeartbeats 1000000 in
theorem c_forget (z0:Value) (z1:Value) (z2:Value) (z3:Value) (z:Shelf) (tier:Int) (to:Int) (P0:Nat→Prop) (w:World) (hP0:∀ b,P0 b→b < w.heap.size) (hz0:zD P0 2 zQ z0 z.zK w) (hz1:zD P0 2 zT z1 z.raw w) (hz2:zD P0 8 zJ z2 z.fine w) (hz3:zD P0 8 zJ z3 z.coarse w)  :
    Calls prog 72 #[.agg (List.toArray [z0,z1,z2,z3,iV z.zS,iV z.zL,iV z.zF,iV z.zH,iV z.zG]),iV tier,iV to] w (RetSh w P0 (fun u=>.tuple (List.toArray [u,iV (Sh.forget z tier to).2])) (Sh.forget z tier to).1):=by
 obtain ⟨z0A,z0c,rfl,hz0c,hz0m,hz0A⟩:=hz0.form
 obtain ⟨z1A,z1c,rfl,hz1c,hz1m,hz1A⟩:=hz1.form
 obtain ⟨z2A,z2c,rfl,hz2c,hz2m,hz2A⟩:=hz2.form
 obtain ⟨z3A,z3c,rfl,hz3c,hz3m,hz3A⟩:=hz3.form
 refine zr (N:=82) func72 (Mem.ofDatsP hP0 (dc (dlp hz0) (dc (dlp hz1) (dc (dlp hz2) (dc (dlp hz3) dn))))) ?_
 refine (go 2) (yu fun b3=>zz fun b6=>?_)
 refine (go 7) ?_
 refine yH call21 wn rfl (fun w1 hM=>vf _ _ _ _ z (In w1) w1 (fun _ h=>h) (hM.slp 2 rfl) (hM.slp 3 rfl) (hM.slp 4 rfl) (hM.slp 5 rfl)) ?_
 refine (go 9) (zX (fun h1=>?_) fun h1=>?_)
 ·refine (go 10) (yL results72 fun w1 hM=>?_)
  have he:Sh.forget z tier to=((⟨([]:List Label),([]:List Sample),([]:List Bucket),([]:List Bucket),0,0,0,0,0⟩:Shelf),(Sh.wrong z)):=Sh.forget_wrong h1
  rw [he]
  exact hM.yl (s':=(⟨([]:List Label),([]:List Sample),([]:List Bucket),([]:List Bucket),0,0,0,0,0⟩:Shelf)) (fun u=>.tuple (List.toArray [u,iV (Sh.wrong z)])) rfl (rfl) (fun _ _=>zD.zt _ _ _ _) (fun _ _=>zD.zt _ _ _ _) (fun _ _=>zD.zt _ _ _ _) (fun _ _=>zD.zt _ _ _ _)
 obtain ⟨l1,l2,l3,l4⟩:=(Sh.ok_of h1).lens
 obtain ⟨⟨g1,g2,g3,g4⟩,⟨g5,g6,g7,g8,g9⟩,g10,g11,g12,g13,g14⟩:=(Sh.ok_of h1).rng
 refine (go 8) (yN 19 (fun h2=>?_) fun h2=>?_)
 ·refine (go 15) (yL results72 fun w1 hM=>?_)
  have he:Sh.forget z tier to=((⟨([]:List Label),([]:List Sample),([]:List Bucket),([]:List Bucket),0,0,0,0,0⟩:Shelf),3):=Sh.forget_range h1 qO
  rw [he]
  exact hM.yl (s':=(⟨([]:List Label),([]:List Sample),([]:List Bucket),([]:List Bucket),0,0,0,0,0⟩:Shelf)) (fun u=>.tuple (List.toArray [u,iV 3])) rfl (rfl) (fun _ _=>zD.zt _ _ _ _) (fun _ _=>zD.zt _ _ _ _) (fun _ _=>zD.zt _ _ _ _) (fun _ _=>zD.zt _ _ _ _)
 refine (go 5) (zX (fun h3=>?_) fun h3=>?_)
 ·refine (go 9) (yL results72 fun w1 hM=>?_)
  have he:Sh.forget z tier to=((⟨([]:List Label),([]:List Sample),([]:List Bucket),([]:List Bucket),0,0,0,0,0⟩:Shelf),3):=Sh.forget_range h1 qO
  rw [he]
  exact hM.yl (s':=(⟨([]:List Label),([]:List Sample),([]:List Bucket),([]:List Bucket),0,0,0,0,0⟩:Shelf)) (fun u=>.tuple (List.toArray [u,iV 3])) rfl (rfl) (fun _ _=>zD.zt _ _ _ _) (fun _ _=>zD.zt _ _ _ _) (fun _ _=>zD.zt _ _ _ _) (fun _ _=>zD.zt _ _ _ _)
 refine (go 5) ?_
 refine vy z wn rfl call119 rfl (fun w1 hM=>jc _ _ _ _ z (In w1) w1 (fun _ h=>h) (hM.slp 2 rfl) (hM.slp 3 rfl) (hM.slp 4 rfl) (hM.slp 5 rfl) (Sh.wrong_lens (by assumption))) fun A1 cp1 A2 cp2 A3 cp3 A4 cp4 hb1 hA1 hA2 hA3 hA4=>zz fun b9=>?_
 refine (go 21) (zX (fun h4=>?_) fun h4=>?_)
 ·refine (go 8) ?_
  refine zb (jI (show _=(Sh.rawF z to) from rfl) (ua rfl rfl)) ?_
  refine (go 7) ?_
  refine zb (yf rfl rfl) (vL 2 (Sh.fromS z.raw (Sh.rawF z to)) rfl wn rfl call122 rfl (fun w1 hM=>c_delS _ z.raw 123 #[.pointer (some ⟨b9,0,none⟩)] (fun x=>decide (x.time < (Sh.rawF z to))) w1 (hM.row (i:=2) rfl) call123 (fun x w2 h2=>c_forget2 x b9 _ _ _ _ (⟨z.zK,z.raw,z.fine,z.coarse,(Sh.rawF z to),z.zL,z.zF,z.zH,z.zG⟩:Shelf) w2 (hM.blkStay (i:=0) (j:=2) rfl rfl h2))) fun A5 cp5 hc1 hm1 hA5=>?_)
  refine (go 13) (yL results72 fun w1 hM=>?_)
  have he:Sh.forget z tier to=((⟨z.zK,(Sh.fromS z.raw (Sh.rawF z to)),z.fine,z.coarse,(Sh.rawF z to),z.zL,z.zF,z.zH,z.zG⟩:Shelf),0):=Sh.forget_raw h1 (fun g=>by omega) h4
  rw [he]
  have hM:=hM.zk encLabel (i:=1) rfl rfl
  have hM:=hM.zk encSample (i:=2) rfl rfl
  have hM:=hM.zk encBucket (i:=3) rfl rfl
  have hM:=hM.zk encBucket (i:=4) rfl rfl
  exact hM.yl (s':=(⟨z.zK,(Sh.fromS z.raw (Sh.rawF z to)),z.fine,z.coarse,(Sh.rawF z to),z.zL,z.zF,z.zH,z.zG⟩:Shelf)) (fun u=>.tuple (List.toArray [u,iV 0])) rfl (rfl) (fun _ pp=>pp.sl 1 rfl) (fun _ pp=>pp.sl 2 rfl) (fun _ pp=>pp.sl 3 rfl) (fun _ pp=>pp.sl 4 rfl)
 refine (go 6) (zX (fun h5=>?_) fun h5=>?_)
 ·refine (go 1) (uH 9 ?_)
  refine (go 6) ?_
  refine yP wn rfl call124 rfl (fun w1 hM=>jA (if z.zG < to then z.zG else to) 10 w1 qO qO) (yk (jI (show _=(Sh.fineF z to) from rfl) (ua rfl rfl)) ?_)
  refine (go 5) ?_
  refine yK (Mem w ⟨no,P0⟩ [Row (.slice A1 z.zK.length cp1) 74 2 zQ z.zK,Row (.slice A2 z.raw.length cp2) 41 2 zT z.raw,Row (.slice A4 z.coarse.length cp4) 163 8 zJ z.coarse,.blk b6 [Zs,Zs,Zs,Zs,iV 0,iV 0,iV 0,iV 0,iV 0] 50,.blk b3 [.slice z0A z.zK.length z0c,.slice z1A z.raw.length z1c,.slice z2A z.fine.length z2c,.slice z3A z.coarse.length z3c,iV z.zS,iV z.zL,iV z.zF,iV z.zH,iV z.zG] 50,slP 2 zQ (.slice z0A z.zK.length z0c) z.zK,slP 2 zT (.slice z1A z.raw.length z1c) z.raw,slP 8 zJ (.slice z2A z.fine.length z2c) z.fine,slP 8 zJ (.slice z3A z.coarse.length z3c) z.coarse]) mix (fun _ h=>h.drew) rfl (yJ 6 [0,2,3] [1,2,4,5,6,7,8,9,10] rfl fun KS hKS=>?_)
  refine (go 3) ?_
  refine zi hKS (yX (f:=5) (i:=1) (j:=4) rfl (by kernel_rfl) ?_ ?_)
  ·refine zg (i:=1) rfl fun KN hKN=>?_
   refine (go 2) ?_
   refine hKN _ _ (S9 [1,2,4,5,6,7,8,9,10]) (zf 4 4 (zg (i:=4) rfl fun KN hKN=>?_))
   refine (go 2) ?_
   refine hKN _ _ (S9 [1,2,4,5,6,7,8,9,10]) (zf 3 5 (zg (i:=5) rfl fun KN hKN=>ve (fun b=>.func (.func 121) #[] #[.pointer (some ⟨b,0,none⟩)]) (fun b=>.blk b [iV (Sh.fineF z to)] 3) (fun _=>rfl) wn rfl rfl call120 rfl (fun w1 hM=>v8 (Sh.fineF z to) w1) fun be1=>?_))
   refine (go 1) ?_
   refine hKN _ _ (S9 [2,3,5,6,7,8,9,10,11]) (zf 2 6 (zg (i:=6) rfl fun KN hKN=>vL 4 (Sh.fromB z.fine (Sh.fineF z to)) rfl wn rfl call125 rfl (fun w1 hM=>uX _ z.fine 121 #[.pointer (some ⟨be1,0,none⟩)] (fun x=>decide (x.at_ < (Sh.fineF z to))) w1 (hM.row (i:=4) rfl) call121 (fun x w2 h2=>vg x be1 (Sh.fineF z to) w2 (hM.blkStay (i:=0) (j:=4) rfl rfl h2))) fun A6 cp6 hc2 hm2 hA6=>?_))
   refine (go 1) ?_
   refine hKN _ _ (S9 [2,3,5,6,7,8,9,10,11]) (yJ 1 [7] [2,3,5,6,7,8,9,10,11] rfl fun KS hKS=>?_)
   refine (go 1) ?_
   refine zi hKS (zf 0 8 (zg (i:=8) rfl fun KN hKN=>?_))
   refine (go 2) ?_
   refine hKN _ _ (S9 [2,3,5,6,7,8,9,10,11]) ?_
   refine zw (by kernel_rfl) ((go 2) ?_)
   refine (go 8) (yL results72 fun w1 hM=>?_)
   have he:Sh.forget z tier to=((⟨z.zK,z.raw,(Sh.fromB z.fine (Sh.fineF z to)),z.coarse,z.zS,(Sh.fineF z to),z.zF,z.zH,z.zG⟩:Shelf),0):=Sh.forget_fine h1 (fun g=>by omega) h4 h5
   rw [he]
   have hM:=hM.zk encLabel (i:=2) rfl rfl
   have hM:=hM.zk encSample (i:=3) rfl rfl
   have hM:=hM.zk encBucket (i:=4) rfl rfl
   have hM:=hM.zk encBucket (i:=5) rfl rfl
   exact hM.yl (s':=(⟨z.zK,z.raw,(Sh.fromB z.fine (Sh.fineF z to)),z.coarse,z.zS,(Sh.fineF z to),z.zF,z.zH,z.zG⟩:Shelf)) (fun u=>.tuple (List.toArray [u,iV 0])) rfl (rfl) (fun _ pp=>pp.sl 2 rfl) (fun _ pp=>pp.sl 3 rfl) (fun _ pp=>pp.sl 4 rfl) (fun _ pp=>pp.sl 5 rfl)
  refine zg (i:=4) rfl fun KN hKN=>?_
  refine (go 2) ?_
  refine hKN _ _ (S9 [1,2,4,5,6,7,8,9,10]) (yX (f:=4) (i:=1) (j:=5) rfl (by kernel_rfl) ?_ ?_)
  ·refine zg (i:=1) rfl fun KN hKN=>?_
   refine (go 2) ?_
   refine hKN _ _ (S9 [1,2,4,5,6,7,8,9,10]) (zf 3 5 (zg (i:=5) rfl fun KN hKN=>ve (fun b=>.func (.func 121) #[] #[.pointer (some ⟨b,0,none⟩)]) (fun b=>.blk b [iV (Sh.fineF z to)] 3) (fun _=>rfl) wn rfl rfl call120 rfl (fun w1 hM=>v8 (Sh.fineF z to) w1) fun be2=>?_))
   refine (go 1) ?_
   refine hKN _ _ (S9 [2,3,5,6,7,8,9,10,11]) (zf 2 6 (zg (i:=6) rfl fun KN hKN=>vL 4 (Sh.fromB z.fine (Sh.fineF z to)) rfl wn rfl call125 rfl (fun w1 hM=>uX _ z.fine 121 #[.pointer (some ⟨be2,0,none⟩)] (fun x=>decide (x.at_ < (Sh.fineF z to))) w1 (hM.row (i:=4) rfl) call121 (fun x w2 h2=>vg x be2 (Sh.fineF z to) w2 (hM.blkStay (i:=0) (j:=4) rfl rfl h2))) fun A7 cp7 hc3 hm3 hA7=>?_))
   refine (go 1) ?_
   refine hKN _ _ (S9 [2,3,5,6,7,8,9,10,11]) (yJ 1 [7] [2,3,5,6,7,8,9,10,11] rfl fun KS hKS=>?_)
   refine (go 1) ?_
   refine zi hKS (zf 0 8 (zg (i:=8) rfl fun KN hKN=>?_))
   refine (go 2) ?_
   refine hKN _ _ (S9 [2,3,5,6,7,8,9,10,11]) ?_
   refine zw (by kernel_rfl) ((go 2) ?_)
   refine (go 8) (yL results72 fun w1 hM=>?_)
   have he:Sh.forget z tier to=((⟨z.zK,z.raw,(Sh.fromB z.fine (Sh.fineF z to)),z.coarse,z.zS,(Sh.fineF z to),z.zF,z.zH,z.zG⟩:Shelf),0):=Sh.forget_fine h1 (fun g=>by omega) h4 h5
   rw [he]
   have hM:=hM.zk encLabel (i:=2) rfl rfl
   have hM:=hM.zk encSample (i:=3) rfl rfl
   have hM:=hM.zk encBucket (i:=4) rfl rfl
   have hM:=hM.zk encBucket (i:=5) rfl rfl
   exact hM.yl (s':=(⟨z.zK,z.raw,(Sh.fromB z.fine (Sh.fineF z to)),z.coarse,z.zS,(Sh.fineF z to),z.zF,z.zH,z.zG⟩:Shelf)) (fun u=>.tuple (List.toArray [u,iV 0])) rfl (rfl) (fun _ pp=>pp.sl 2 rfl) (fun _ pp=>pp.sl 3 rfl) (fun _ pp=>pp.sl 4 rfl) (fun _ pp=>pp.sl 5 rfl)
  refine zg (i:=5) rfl fun KN hKN=>ve (fun b=>.func (.func 121) #[] #[.pointer (some ⟨b,0,none⟩)]) (fun b=>.blk b [iV (Sh.fineF z to)] 3) (fun _=>rfl) wn rfl rfl call120 rfl (fun w1 hM=>v8 (Sh.fineF z to) w1) fun be3=>?_
  refine (go 1) ?_
  refine hKN _ _ (S9 [2,3,5,6,7,8,9,10,11]) (zf 3 1 (zg (i:=1) rfl fun KN hKN=>?_))
  refine (go 2) ?_
  refine hKN _ _ (S9 [2,3,5,6,7,8,9,10,11]) (zf 2 6 (zg (i:=6) rfl fun KN hKN=>vL 4 (Sh.fromB z.fine (Sh.fineF z to)) rfl wn rfl call125 rfl (fun w1 hM=>uX _ z.fine 121 #[.pointer (some ⟨be3,0,none⟩)] (fun x=>decide (x.at_ < (Sh.fineF z to))) w1 (hM.row (i:=4) rfl) call121 (fun x w2 h2=>vg x be3 (Sh.fineF z to) w2 (hM.blkStay (i:=0) (j:=4) rfl rfl h2))) fun A8 cp8 hc4 hm4 hA8=>?_))
  refine (go 1) ?_
  refine hKN _ _ (S9 [2,3,5,6,7,8,9,10,11]) (yJ 1 [7] [2,3,5,6,7,8,9,10,11] rfl fun KS hKS=>?_)
  refine (go 1) ?_
  refine zi hKS (zf 0 8 (zg (i:=8) rfl fun KN hKN=>?_))
  refine (go 2) ?_
  refine hKN _ _ (S9 [2,3,5,6,7,8,9,10,11]) ?_
  refine zw (by kernel_rfl) ((go 2) ?_)
  refine (go 8) (yL results72 fun w1 hM=>?_)
  have he:Sh.forget z tier to=((⟨z.zK,z.raw,(Sh.fromB z.fine (Sh.fineF z to)),z.coarse,z.zS,(Sh.fineF z to),z.zF,z.zH,z.zG⟩:Shelf),0):=Sh.forget_fine h1 (fun g=>by omega) h4 h5
  rw [he]
  have hM:=hM.zk encLabel (i:=2) rfl rfl
  have hM:=hM.zk encSample (i:=3) rfl rfl
  have hM:=hM.zk encBucket (i:=4) rfl rfl
  have hM:=hM.zk encBucket (i:=5) rfl rfl
  exact hM.yl (s':=(⟨z.zK,z.raw,(Sh.fromB z.fine (Sh.fineF z to)),z.coarse,z.zS,(Sh.fineF z to),z.zF,z.zH,z.zG⟩:Shelf)) (fun u=>.tuple (List.toArray [u,iV 0])) rfl (rfl) (fun _ pp=>pp.sl 2 rfl) (fun _ pp=>pp.sl 3 rfl) (fun _ pp=>pp.sl 4 rfl) (fun _ pp=>pp.sl 5 rfl)
 refine (go 6) (zX (fun h6=>?_) fun h6=>?_)
 ·refine (go 1) (uH 9 ?_)
  refine (go 6) ?_
  refine yP wn rfl call124 rfl (fun w1 hM=>jA (if z.zG < to then z.zG else to) 60 w1 qO qO) (yk (jI (show _=(Sh.coarseF z to) from rfl) (ua rfl rfl)) ?_)
  refine (go 5) ?_
  refine yK (Mem w ⟨no,P0⟩ [Row (.slice A1 z.zK.length cp1) 74 2 zQ z.zK,Row (.slice A2 z.raw.length cp2) 41 2 zT z.raw,Row (.slice A3 z.fine.length cp3) 163 8 zJ z.fine,.blk b6 [Zs,Zs,Zs,Zs,iV 0,iV 0,iV 0,iV 0,iV 0] 50,.blk b3 [.slice z0A z.zK.length z0c,.slice z1A z.raw.length z1c,.slice z2A z.fine.length z2c,.slice z3A z.coarse.length z3c,iV z.zS,iV z.zL,iV z.zF,iV z.zH,iV z.zG] 50,slP 2 zQ (.slice z0A z.zK.length z0c) z.zK,slP 2 zT (.slice z1A z.raw.length z1c) z.raw,slP 8 zJ (.slice z2A z.fine.length z2c) z.fine,slP 8 zJ (.slice z3A z.coarse.length z3c) z.coarse]) mix (fun _ h=>h.drew) rfl (yJ 6 [0,2,3] [1,2,3,5,6,7,8,9,10] rfl fun KS hKS=>?_)
  refine (go 3) ?_
  refine zi hKS (yX (f:=5) (i:=1) (j:=4) rfl (by kernel_rfl) ?_ ?_)
  ·refine zg (i:=1) rfl fun KN hKN=>?_
   refine (go 2) ?_
   refine hKN _ _ (S9 [1,2,3,5,6,7,8,9,10]) (zf 4 4 (zg (i:=4) rfl fun KN hKN=>?_))
   refine (go 2) ?_
   refine hKN _ _ (S9 [1,2,3,5,6,7,8,9,10]) (zf 3 5 (zg (i:=5) rfl fun KN hKN=>ve (fun b=>.func (.func 121) #[] #[.pointer (some ⟨b,0,none⟩)]) (fun b=>.blk b [iV (Sh.coarseF z to)] 3) (fun _=>rfl) wn rfl rfl call120 rfl (fun w1 hM=>v8 (Sh.coarseF z to) w1) fun be4=>?_))
   refine (go 1) ?_
   refine hKN _ _ (S9 [2,3,4,6,7,8,9,10,11]) (zf 2 6 (zg (i:=6) rfl fun KN hKN=>vL 5 (Sh.fromB z.coarse (Sh.coarseF z to)) rfl wn rfl call125 rfl (fun w1 hM=>uX _ z.coarse 121 #[.pointer (some ⟨be4,0,none⟩)] (fun x=>decide (x.at_ < (Sh.coarseF z to))) w1 (hM.row (i:=5) rfl) call121 (fun x w2 h2=>vg x be4 (Sh.coarseF z to) w2 (hM.blkStay (i:=0) (j:=5) rfl rfl h2))) fun A9 cp9 hc5 hm5 hA9=>?_))
   refine (go 1) ?_
   refine hKN _ _ (S9 [2,3,4,6,7,8,9,10,11]) (yJ 1 [7] [2,3,4,6,7,8,9,10,11] rfl fun KS hKS=>?_)
   refine (go 1) ?_
   refine zi hKS (zf 0 8 (zg (i:=8) rfl fun KN hKN=>?_))
   refine (go 2) ?_
   refine hKN _ _ (S9 [2,3,4,6,7,8,9,10,11]) ?_
   refine zw (by kernel_rfl) ((go 2) ?_)
   refine (go 8) (yL results72 fun w1 hM=>?_)
   have he:Sh.forget z tier to=((⟨z.zK,z.raw,z.fine,(Sh.fromB z.coarse (Sh.coarseF z to)),z.zS,z.zL,z.zF,(Sh.coarseF z to),z.zG⟩:Shelf),0):=Sh.forget_coarse h1 (fun g=>by omega) h4 h5 h6
   rw [he]
   have hM:=hM.zk encLabel (i:=2) rfl rfl
   have hM:=hM.zk encSample (i:=3) rfl rfl
   have hM:=hM.zk encBucket (i:=4) rfl rfl
   have hM:=hM.zk encBucket (i:=5) rfl rfl
   exact hM.yl (s':=(⟨z.zK,z.raw,z.fine,(Sh.fromB z.coarse (Sh.coarseF z to)),z.zS,z.zL,z.zF,(Sh.coarseF z to),z.zG⟩:Shelf)) (fun u=>.tuple (List.toArray [u,iV 0])) rfl (rfl) (fun _ pp=>pp.sl 2 rfl) (fun _ pp=>pp.sl 3 rfl) (fun _ pp=>pp.sl 4 rfl) (fun _ pp=>pp.sl 5 rfl)
  refine zg (i:=4) rfl fun KN hKN=>?_
  refine (go 2) ?_
  refine hKN _ _ (S9 [1,2,3,5,6,7,8,9,10]) (yX (f:=4) (i:=1) (j:=5) rfl (by kernel_rfl) ?_ ?_)
  ·refine zg (i:=1) rfl fun KN hKN=>?_
   refine (go 2) ?_
   refine hKN _ _ (S9 [1,2,3,5,6,7,8,9,10]) (zf 3 5 (zg (i:=5) rfl fun KN hKN=>ve (fun b=>.func (.func 121) #[] #[.pointer (some ⟨b,0,none⟩)]) (fun b=>.blk b [iV (Sh.coarseF z to)] 3) (fun _=>rfl) wn rfl rfl call120 rfl (fun w1 hM=>v8 (Sh.coarseF z to) w1) fun be5=>?_))
   refine (go 1) ?_
   refine hKN _ _ (S9 [2,3,4,6,7,8,9,10,11]) (zf 2 6 (zg (i:=6) rfl fun KN hKN=>vL 5 (Sh.fromB z.coarse (Sh.coarseF z to)) rfl wn rfl call125 rfl (fun w1 hM=>uX _ z.coarse 121 #[.pointer (some ⟨be5,0,none⟩)] (fun x=>decide (x.at_ < (Sh.coarseF z to))) w1 (hM.row (i:=5) rfl) call121 (fun x w2 h2=>vg x be5 (Sh.coarseF z to) w2 (hM.blkStay (i:=0) (j:=5) rfl rfl h2))) fun A10 cp10 hc6 hm6 hA10=>?_))
   refine (go 1) ?_
   refine hKN _ _ (S9 [2,3,4,6,7,8,9,10,11]) (yJ 1 [7] [2,3,4,6,7,8,9,10,11] rfl fun KS hKS=>?_)
   refine (go 1) ?_
   refine zi hKS (zf 0 8 (zg (i:=8) rfl fun KN hKN=>?_))
   refine (go 2) ?_
   refine hKN _ _ (S9 [2,3,4,6,7,8,9,10,11]) ?_
   refine zw (by kernel_rfl) ((go 2) ?_)
   refine (go 8) (yL results72 fun w1 hM=>?_)
   have he:Sh.forget z tier to=((⟨z.zK,z.raw,z.fine,(Sh.fromB z.coarse (Sh.coarseF z to)),z.zS,z.zL,z.zF,(Sh.coarseF z to),z.zG⟩:Shelf),0):=Sh.forget_coarse h1 (fun g=>by omega) h4 h5 h6
   rw [he]
   have hM:=hM.zk encLabel (i:=2) rfl rfl
   have hM:=hM.zk encSample (i:=3) rfl rfl
   have hM:=hM.zk encBucket (i:=4) rfl rfl
   have hM:=hM.zk encBucket (i:=5) rfl rfl
   exact hM.yl (s':=(⟨z.zK,z.raw,z.fine,(Sh.fromB z.coarse (Sh.coarseF z to)),z.zS,z.zL,z.zF,(Sh.coarseF z to),z.zG⟩:Shelf)) (fun u=>.tuple (List.toArray [u,iV 0])) rfl (rfl) (fun _ pp=>pp.sl 2 rfl) (fun _ pp=>pp.sl 3 rfl) (fun _ pp=>pp.sl 4 rfl) (fun _ pp=>pp.sl 5 rfl)
  refine zg (i:=5) rfl fun KN hKN=>ve (fun b=>.func (.func 121) #[] #[.pointer (some ⟨b,0,none⟩)]) (fun b=>.blk b [iV (Sh.coarseF z to)] 3) (fun _=>rfl) wn rfl rfl call120 rfl (fun w1 hM=>v8 (Sh.coarseF z to) w1) fun be6=>?_
  refine (go 1) ?_
  refine hKN _ _ (S9 [2,3,4,6,7,8,9,10,11]) (zf 3 1 (zg (i:=1) rfl fun KN hKN=>?_))
  refine (go 2) ?_
  refine hKN _ _ (S9 [2,3,4,6,7,8,9,10,11]) (zf 2 6 (zg (i:=6) rfl fun KN hKN=>vL 5 (Sh.fromB z.coarse (Sh.coarseF z to)) rfl wn rfl call125 rfl (fun w1 hM=>uX _ z.coarse 121 #[.pointer (some ⟨be6,0,none⟩)] (fun x=>decide (x.at_ < (Sh.coarseF z to))) w1 (hM.row (i:=5) rfl) call121 (fun x w2 h2=>vg x be6 (Sh.coarseF z to) w2 (hM.blkStay (i:=0) (j:=5) rfl rfl h2))) fun A11 cp11 hc7 hm7 hA11=>?_))
  refine (go 1) ?_
  refine hKN _ _ (S9 [2,3,4,6,7,8,9,10,11]) (yJ 1 [7] [2,3,4,6,7,8,9,10,11] rfl fun KS hKS=>?_)
  refine (go 1) ?_
  refine zi hKS (zf 0 8 (zg (i:=8) rfl fun KN hKN=>?_))
  refine (go 2) ?_
  refine hKN _ _ (S9 [2,3,4,6,7,8,9,10,11]) ?_
  refine zw (by kernel_rfl) ((go 2) ?_)
  refine (go 8) (yL results72 fun w1 hM=>?_)
  have he:Sh.forget z tier to=((⟨z.zK,z.raw,z.fine,(Sh.fromB z.coarse (Sh.coarseF z to)),z.zS,z.zL,z.zF,(Sh.coarseF z to),z.zG⟩:Shelf),0):=Sh.forget_coarse h1 (fun g=>by omega) h4 h5 h6
  rw [he]
  have hM:=hM.zk encLabel (i:=2) rfl rfl
  have hM:=hM.zk encSample (i:=3) rfl rfl
  have hM:=hM.zk encBucket (i:=4) rfl rfl
  have hM:=hM.zk encBucket (i:=5) rfl rfl
  exact hM.yl (s':=(⟨z.zK,z.raw,z.fine,(Sh.fromB z.coarse (Sh.coarseF z to)),z.zS,z.zL,z.zF,(Sh.coarseF z to),z.zG⟩:Shelf)) (fun u=>.tuple (List.toArray [u,iV 0])) rfl (rfl) (fun _ pp=>pp.sl 2 rfl) (fun _ pp=>pp.sl 3 rfl) (fun _ pp=>pp.sl 4 rfl) (fun _ pp=>pp.sl 5 rfl)
 refine (go 10) (yL results72 fun w1 hM=>?_)
 have he:Sh.forget z tier to=((⟨([]:List Label),([]:List Sample),([]:List Bucket),([]:List Bucket),0,0,0,0,0⟩:Shelf),1):=Sh.forget_kind h1 (fun g=>by omega) h4 h5 h6
 rw [he]
 exact hM.yl (s':=(⟨([]:List Label),([]:List Sample),([]:List Bucket),([]:List Bucket),0,0,0,0,0⟩:Shelf)) (fun u=>.tuple (List.toArray [u,iV 1])) rfl (rfl) (fun _ _=>zD.zt _ _ _ _) (fun _ _=>zD.zt _ _ _ _) (fun _ _=>zD.zt _ _ _ _) (fun _ _=>zD.zt _ _ _ _)
end
section
namespace Bs
open Ex Sh
set_option linter.unusedVariables false
def hostL (h:ByteArray):List Label:=[⟨⟨#[104,111,115,116]⟩,h⟩]
def addD (h:ByteArray) (t v:Int):Do:=⟨1,0,0,hostL h,⟨t,v⟩,⟨#[]⟩⟩
def askD (s:ByteArray) (t:Int):Do:=⟨4,0,t,[],⟨0,0⟩,s⟩
def rollD (t:Int):Do:=⟨2,0,t,[],⟨0,0⟩,⟨#[]⟩⟩
def last (l:List Do):Ans:=if (play l).2.2≠0 then no 1 else match (play l).2.1.getLast? with | none=>no 1 | some x=>x
theorem radd_len (l:List Bucket) (t st:Int) (s:Sum):(Roll.add l t st s).length≤l.length + 1:=by
  unfold Roll.add
  split
  · split <;> simp
  · simp
theorem fold_len {α:Type} (t:α→Int) (st:Int) (f:α→Sum):∀ (l:List α) (acc:List Bucket),(l.foldl (fun b s=>Roll.add b (t s) st (f s)) acc).length≤acc.length + l.length
  | [],acc=>Nat.le_refl _
  | x :: r, acc => by
    have h1:=fold_len t st f r (Roll.add acc (t x) st (f x)); have h2:=radd_len acc (t x) st (f x)
    simp only [List.foldl_cons,List.length_cons]; omega
theorem up_len' (l:List Sample) (k:Int):(Roll.up l k).length≤l.length:=by
  unfold Roll.up
  split
  · exact Nat.zero_le _
  · have:=fold_len Sample.time (Roll.step k) (fun s:Sample=>Agg.one s.value) l []
    simpa [Roll.ups] using this
theorem fineL_len' (z:Shelf) (to:Int):(yq z to).length≤z.fine.length + z.raw.length:=by
  unfold yq
  rw [List.length_append]
  have h1:=up_len' (Roll.inT z.raw z.zF (zF z to)) 1; have h2:=Roll.inT_len z.raw z.zF (zF z to); omega
theorem coarseL_len' (z:Shelf) (to:Int):(yg z to).length≤z.coarse.length + z.fine.length + z.raw.length:=by
  unfold yg
  rw [List.length_append]
  have h1:=fold_len Bucket.at_ 60 (fun b:Bucket=>b.sum) (bIn (yq z to) z.zG (zG z to)) []
  have h2:=bIn_len (yq z to) z.zG (zG z to); have h3:=fineL_len' z to
  have h4:(Roll.greater (bIn (yq z to) z.zG (zG z to))).length≤(bIn (yq z to) z.zG (zG z to)).length:=by simpa [Roll.greater] using h1
  omega
theorem roll_few {z:Shelf} {to:Int} (h:OK z) (h0:0≤to) (h1:to≤1000000) (hl:z.coarse.length + z.fine.length + z.raw.length≤500):roll z to=(rolled z to,0) :=
  roll_mk h h0 h1 (by have:=fineL_len' z to; omega) (by have:=coarseL_len' z to; omega)
theorem fresh_is {t:List Label} {h:Int} (hw:zI.wrong t=0) (h0:0≤h) (h1:h≤1000000):fresh t h=rolled (new t) h:=by
  have:roll (new t) h=(rolled (new t) h,0):=roll_few (keep_new t hw).ok h0 h1 (by simp [new])
  unfold fresh; rw [this]
def s1 (h:ByteArray) (a v:Int):Shelf:=(append (fresh (hostL h) 0) ⟨a,v⟩).1
def s2 (h:ByteArray) (a v to:Int):Shelf:=(roll (s1 h a v) to).1
end Bs
namespace Ex
def PlayOk (z:zq × SlX zj) (S:Nat→Prop) (w:World):Prop:=zq.Ok S z.1 w∧AnssX.Ok S z.2 w
theorem PlayOk.loc (z:zq × SlX zj):Loc (PlayOk z):=fun S S' u u' hs hk h=>⟨zq.Ok.loc _ S S' u u' hs hk h.1,AnssX.Ok.loc _ S S' u u' hs hk h.2⟩
theorem PlayOk.wf {z:zq × SlX zj} {S:Nat→Prop} {w:World} (h:PlayOk z S w):zq.Wf z.1∧AnssX.Wf z.2:=⟨h.1.wf,h.2.wf⟩
theorem Mem.playX {w0 w:World} {M:Fp} {L:List Own} (h:Mem w0 M L w) (q:Nat) {z:zq × SlX zj} (hi:L[q]?=some (.pub (PlayOk z))):Mem w0 M (slP 4 vF (.slice z.2.A z.2.l.length z.2.c) z.2.l::allP zj.Ok z.2.l::okP zq.Ok z.1::L) w:=by
  have h1:=h.imp q hi (zq.Ok.loc z.1) fun _ hF=>hF.1
  have h2:=h1.imp (q + 1) hi (all_loc zj.Ok.loc z.2.l) fun _ hF=>hF.2.all
  exact h2.imp (q + 2) hi (zD.loc 4 vF _ z.2.l) fun _ hF=>hF.2.sl
end Ex
end
section
namespace Bs
open Ex Sh
set_option linter.unusedVariables false
theorem run_len:∀ (l:List Do) (b:Base),(run b l).2.length=l.length
  | [],_=>rfl
  | d::r,b=>by rw [run,List.length_cons,List.length_cons,run_len r]
section
variable {a b:zq} {k:Nat} {s t:zC}
instance:DecidableEq Base:=fun a b=>decidable_of_iff (a.zA=b.zA∧a.zO=b.zO) ⟨fun h=>by cases a; cases b; simp only at h; rw [h.1,h.2],fun h=>by rw [h]; exact ⟨rfl,rfl⟩⟩
end
section
variable {l gs:List zn} {azs:List zj} {k:Nat} {d:zn} {a:zj} {z y:zq × SlX zj}
theorem play_len (hz:(z.1.e,z.2.l.map zj.e)=((play (l.map zn.e)).1,(play (l.map zn.e)).2.1)) (h:¬ (play (l.map zn.e)).2.2≠0):z.2.l.length=l.length:=by
  have e2:=(Prod.mk.inj hz).2
  have hl:¬ 120 < (l.map zn.e).length:=fun g=>h (by unfold play; rw [if_pos g]; decide)
  have hp:play (l.map zn.e)=((run zero (l.map zn.e)).1,(run zero (l.map zn.e)).2,0):=by unfold play; rw [if_neg hl]
  rw [hp] at e2
  have:=congrArg List.length e2
  rw [List.length_map] at this; rw [this]
  show (run zero (l.map zn.e)).2.length=_
  rw [run_len,List.length_map]
theorem play_bound (h:¬ (play (l.map zn.e)).2.2≠0):l.length≤120:=by
  have hl:¬ 120 < (l.map zn.e).length:=fun g=>h (by unfold play; rw [if_pos g]; decide)
  rw [List.length_map] at hl; omega
end
def sumT9:ByteArray:=⟨#[97,108,108,32,115,117,109,32,40,115,117,109,40,123,125,91,54,48,93,41,41]⟩
def topL9:List Do:=[addD ⟨#[120]⟩ 5 7,addD ⟨#[121]⟩ 6 8,rollD 100,askD sumT9 60]
theorem alive_9:(play topL9).2.2=0∧(play topL9).2.1.length=4∧(play topL9).1.zA.length=2∧((play topL9).2.1[3]?.map fun a=>(a.cells.map (·.value),a.cost))=some ([15],2):=by decide +kernel
theorem alive9_x {l:List zn} {z:zq × SlX zj} (hl:l.map zn.e=topL9) (hz:(z.1.e,z.2.l.map zj.e)=((play (l.map zn.e)).1,(play (l.map zn.e)).2.1)) :
    (play (l.map zn.e)).2.2=0∧z.2.l.length=4∧z.1.zA.l.length=2∧∀ s,z.2.l[3]?=some s→s.cells.l.map (fun c=>c.value)=[15]∧s.cost=2:=by
  obtain ⟨h1,h2,h3,h4⟩:=alive_9
  rw [hl] at hz ⊢
  generalize play topL9=p at h1 h2 h3 h4 hz ⊢
  obtain ⟨e1,e2⟩:=Prod.mk.inj hz
  rw [← e2] at h2 h4; rw [← e1] at h3
  refine ⟨h1,by simpa using h2,by have:(z.1.zA.l.map zC.e).length=2:=h3; simpa using this,fun s hs=>?_⟩
  rw [List.getElem?_map,hs] at h4
  simp only [Option.map_some,Option.some.injEq,Prod.mk.injEq] at h4
  refine ⟨?_,h4.2⟩
  have:(s.cells.l.map zE.e).map (·.value)=[15]:=h4.1
  rw [List.map_map] at this; exact this
theorem val9_x {l:List zE} {c:zE} {n:Int} (h:l.map (fun c=>c.value)=[n]) (hs:l[0]?=some c):c.value=n:=by
  have:=congrArg (·[0]?) h
  simp only [List.getElem?_map,hs,Option.map_some] at this
  simpa using this
end Bs
end
section
open Tryz
open Ex
attribute [local irreducible] WC WL WQ WE WS
set_option linter.unusedVariables false
set_option linter.unusedSimpArgs false
set_option maxHeartbeats 1000000 in
theorem c_insertS (sv vv:Value) (l:List zC) (x:zC) (i:Nat) (Pb:Nat→Prop) (w:World) (hG:Mem w ⟨fpOf [Row sv 50 9 zW l,Row vv 50 9 zW [x]],Pb⟩ [Row sv 50 9 zW l,Row vv 50 9 zW [x]] w) (hil:i≤l.length) (hl1:l.length≤1048576) :
    Calls prog 115 #[sv,iV i,vv] w (RetA w [Row sv 50 9 zW l,Row vv 50 9 zW [x]] Pb (fun z:Value=>z) (fun _=>True) (fun z=>[Row z 50 9 zW (l.take i++x::l.drop i)])):=by
 obtain ⟨sA,sc,rfl,hsc,hsm,hsA⟩:=row_form' (hG.row (i:=0) rfl)
 obtain ⟨vA,vc,hv0,hvc,hvm,hvA⟩:=row_form' (hG.row (i:=1) rfl)
 have hv0:vv=.slice vA 1 vc:=hv0
 have hvc:1≤vc:=hvc
 subst hv0
 refine zr (N:=95) func115 hG ?_
 refine (go 9) ?_
 refine zb (jH (lo:=i) (hi:=l.length) rfl (lo1 rfl qO) hi0 qI qI qI underlying23 inf50) ?_
 refine (go 16) ?_
 refine yc rfl (decide_eq_false qD) ?_
 refine (go 17) (zX (fun h1=>?_) fun h1=>?_)
 ·refine (go 4) ?_
  refine yI 0 l [x] encShelfX wn rfl rfl rfl (fun _ hM=>(RowSl encShelfX hM 1 rfl)) underlying23 inf50 rfl rfl (by simp only [qL]; omega) rfl fun A1 cp1 hc1 hm1 hA1=>?_
  refine (go 5) (zY results115 fun w1 hM=>?_)
  exact hM.yV (.slice A1 ((l++[x]).length) cp1) rfl trivial (fun h=>row_as (v:=.slice A1 ((l++[x]).length) cp1) (n:=(l++[x]).length) (by rw [ins_len hil,List.length_append]; rfl) (ins_end qO) (h.sel [0] qD rfl))
 refine (go 5) ?_
 obtain ⟨sad,hsd⟩:=hsA (ne_nil (i:=i) qO)
 obtain ⟨vad,hvd⟩:=hvA qS
 refine (go 4) ?_
 refine zb (r_cap rfl underlying23) ?_
 refine (go 3) (zX (fun h2=>?_) fun h2=>?_)
 ·refine (go 4) ?_
  refine zb (jw (by rw [subA_zero,Nat.sub_zero,Nat.sub_zero]) (yo (lo:=0) (hi:=i) rfl lo0 (hi1 rfl qO) qO qO underlying23 inf50)) ?_
  refine (go 5) ?_
  refine l_appZ (enc:=zW) (l.take i++List.replicate (l.length + 1 - i) zeroSh) (l.length + 1) (kk:=l.length + 1 - i) (olds:=(l.take i).flatMap zW) wn rfl rfl qO qO (by rw [flat_len encShelfX.len,List.length_take]; omega) (fun h=>by rw [hsd] at h; cases h) (fun ad h=>by rw [hsd] at h; injection h with h; subst h; exact fun w hS p u hu=>rowCells 0 rfl hsd w hS p u (by have:=flat_pre (k:=9) hu; rwa [Nat.zero_mul,Nat.zero_add] at this)) qO qO rfl qD underlying23 underlying3 inf50 rfl (by rw [List.flatMap_append]; exact congrArg _ (zero_any qD encShelfX _ _ rfl _)) qO rfl fun b1 C1 hc2 hm2=>?_
  refine (go 7) ?_
  refine zb (yo (lo:=i) (hi:=(l.length + 1)) rfl (lo1 rfl qO) hi0 qO qO underlying23 inf50) ?_
  refine (go 1) ?_
  refine vz 0 (j:=i) (l.take i++List.replicate (l.length + 1 - i) zeroSh) [x] encShelfX wn rfl (subA_some rfl qO) rfl hvd rfl rfl underlying23 inf50 (by simp only [List.length_drop,List.length_cons,List.length_nil]; show _=min _ _; omega) (by simp only [List.length_append,List.length_take,List.length_drop,List.length_replicate,List.length_cons,List.length_nil]; omega) (by simp only [List.length_append,List.length_take,List.length_drop,List.length_replicate,List.length_cons,List.length_nil]; omega) (rowCells 2 rfl hvd) rfl ?_
  refine (go 3) (uH 8 ?_)
  refine (go 4) ?_
  refine yk (yo (lo:=(i + 1)) (hi:=(l.length + 1)) rfl (lo1 rfl qO) hi0 qO qO underlying23 inf50) ?_
  refine (go 2) ?_
  refine yk (yo (lo:=i) (hi:=l.length) rfl (lo1 rfl qO) hi0 qO qO underlying23 inf50) ?_
  refine (go 1) ?_
  refine vz 0 (j:=(i + 1)) ((l.take i++List.replicate (l.length + 1 - i) zeroSh).take i++[x]++(l.take i++List.replicate (l.length + 1 - i) zeroSh).drop (i + [x].length)) (l.drop i) encShelfX wn rfl (subA_some rfl qO) rfl (subA_some hsd qO) rfl rfl underlying23 inf50 (by simp only [List.length_drop,List.length_cons,List.length_nil]; show _=min _ _; omega) (by simp only [List.length_append,List.length_take,List.length_drop,List.length_replicate,List.length_cons,List.length_nil]; omega) (by simp only [List.length_append,List.length_take,List.length_drop,List.length_replicate,List.length_cons,List.length_nil]; omega) (subCells (rowCells 1 rfl hsd) fun p u hu=>flat_suf encShelfX.len qO hu) rfl ?_
  refine (go 10) (zY results115 fun w1 hM=>?_)
  exact hM.yV (.slice (some ⟨b1,0,none⟩) (l.length + 1) C1) rfl trivial (fun h=>row_as (ins_len qO) (ins_grow qO (List.length_replicate)) (h.sel [0] qD rfl))
 refine (go 8) ?_
 refine zb (jw (by rw [subA_zero,Nat.sub_zero,Nat.sub_zero]) (yo (lo:=0) (hi:=(l.length + 1)) rfl lo0 (hi1 rfl qO) qO qO underlying23 inf50)) (l_more 0 1 rfl hsd qO fun ys hys=>?_)
 refine (go 11) ?_
 refine zb (yo (lo:=(i + 1)) (hi:=(l.length + 1)) rfl (lo1 rfl qO) hi0 qO qO underlying23 inf50) (zb (r_ext rfl (over_apart (T':=4) (fn:=Tryz.f161) (qa:=1) (qb:=0) qD rfl rfl qO qO qD sad hsd (subA_some hsd qO) func161 (by kernel_rfl) (by kernel_rfl) (by kernel_rfl) (by kernel_rfl) underlying23 inf50)) (zb (yC rfl) ?_))
 refine (go 4) (uH 8 ?_)
 refine (go 4) ?_
 refine yk (yo (lo:=(i + 1)) (hi:=(l.length + 1)) rfl (lo1 rfl qO) hi0 qO qO underlying23 inf50) ?_
 refine (go 2) ?_
 refine yk (yo (lo:=i) (hi:=(l.length + 1)) rfl (lo1 rfl qO) hi0 qO qO underlying23 inf50) ?_
 refine (go 1) ?_
 refine jQ 0 (ad:=sad) (j:=i + 1) (cs:=(l.drop i).flatMap zW) _ wn rfl (subA_some hsd qO) rfl (subA_some hsd qO) rfl hsd underlying23 inf50 (by rw [flat_len encShelfX.len,List.length_drop]; show _=min _ _ * 9; omega) (by rw [flat_len encShelfX.len,List.length_drop]; omega) (subCells (rowCells 0 rfl hsd) fun p u hu=>by have:=flat_suf encShelfX.len qO hu; rw [List.getElem?_append_left (List.getElem?_eq_some_iff.1 this).1]; exact this) (fun u hu=>by obtain ⟨a,_,ha⟩:=List.mem_flatMap.1 hu; exact encShelfX.one a u ha) (ins_shift encShelfX.len qO hys) rfl ?_
 refine (go 6) ?_
 refine zb (yo (lo:=i) (hi:=(l.length + 1)) rfl (lo1 rfl qO) hi0 qO qO underlying23 inf50) ?_
 refine (go 1) ?_
 refine vz 0 (j:=i) (l.take (i + 1)++l.drop i) [x] encShelfX wn rfl (subA_some hsd qO) rfl hvd rfl hsd underlying23 inf50 (by simp only [List.length_drop,List.length_cons,List.length_nil]; show _=min _ _; omega) (by simp only [List.length_append,List.length_take,List.length_drop,List.length_replicate,List.length_cons,List.length_nil]; omega) (by simp only [List.length_append,List.length_take,List.length_drop,List.length_replicate,List.length_cons,List.length_nil]; omega) (rowCells 1 rfl hvd) rfl ?_
 refine (go 10) (zY results115 fun w1 hM=>?_)
 exact hM.yV (.slice sA (l.length + 1) sc) rfl trivial (fun h=>row_as (ins_len qO) (ins_place qO) (h.sel [0] qD rfl))
theorem c_add1 (d:zC) (tv:Value) (t:List Label) (P0:Nat→Prop) (w:World) (hP0:∀ b,P0 b→b < w.heap.size) (hd:zC.Ok P0 d w) (ht:zD P0 2 zQ tv t w)  :
    Calls prog 112 #[.agg (zW d).toArray,tv] w (Ret w (iV (zI.compare d.sr.l t))):=by
 have hwd:=hd.wf
 obtain ⟨tA,tc,rfl,htc,htm,htA⟩:=ht.form
 refine zr (N:=9) func112 (Mem.ofDatsP hP0 (dc (dp (zC.Ok.loc _) hd) (dc (dlp ht) dn))) ?_
 refine (go 2) (yu fun b2=>?_)
 refine (go 8) ?_
 refine ze (fun _ h=>h.shelfX 1 rfl) ?_
 obtain ⟨hc1,hm1,hA1⟩:=hwd.sr
 obtain ⟨hc2,hm2,hA2⟩:=hwd.raw
 obtain ⟨hc3,hm3,hA3⟩:=hwd.fine
 obtain ⟨hc4,hm4,hA4⟩:=hwd.coarse
 refine yH call22 wn rfl (fun w1 hM=>c_compare _ d.sr.l _ t w1 (hM.slp 0 rfl) (hM.slp 6 rfl)) ?_
 refine (go 4) (zY results112 fun w1 hM=>?_)
 exact zP rfl hM
theorem c_bsS (clv:Value) (cl:List zC) (tv:Value) (t:List Label) (P0:Nat→Prop) (w:World) (hP0:∀ b,P0 b→b < w.heap.size) (hcl:zD P0 9 zW clv cl w) (hcla:∀ x ∈ cl,zC.Ok P0 x w) (ht:zD P0 2 zQ tv t w) (has:Mn.Asc (cl.map zC.k)) (hl1:cl.length≤1048576) :
    Calls prog 111 #[clv,tv,.func (.func 112) #[] #[]] w (Ret w (.tuple #[iV (Mn.pos (cl.map zC.k) t:Nat),.bool (Mn.has (cl.map zC.k) t)])):=by
 have hwcl:∀ x ∈ cl,zC.Wf x:=fun x hx=>(hcla x hx).wf
 obtain ⟨clA,clc,rfl,hclc,hclm,hclA⟩:=hcl.form
 obtain ⟨tA,tc,rfl,htc,htm,htA⟩:=ht.form
 refine zr (N:=49) func111 (Mem.ofDatsP hP0 (dc (dlp hcl) (dc (dp (all_loc zC.Ok.loc _) hcla) (dc (dlp ht) dn)))) ?_
 refine (go 22) ?_
 refine vV (fun (i:Nat) (j:Nat)=>[(0,.slice clA cl.length clc),(1,.slice tA t.length tc),(2,.func (.func 112) #[] #[]),(8,iV cl.length),(9,iV i),(10,iV j)]) (fun (i:Nat) (j:Nat)=>[slP 9 zW (.slice clA cl.length clc) cl,allP zC.Ok cl,slP 2 zQ (.slice tA t.length tc) t]) (fun (i:Nat) (j:Nat)=>i≤j∧j≤cl.length∧(∀ (q:Nat) (y:Cell),(cl.map zC.k)[q]?=some y→q < i→zI.compare y.sr t < 0)∧(∀ (q:Nat) (y:Cell),(cl.map zC.k)[q]?=some y→j≤q→¬ zI.compare y.sr t < 0)) (fun (i:Nat) (j:Nat)=>j - i) 0 cl.length (sc rfl (sc rfl (sc rfl (sc rfl (sc (ji qO) (sc rfl sn)))))) (fun _ h=>h) ?_ (fun i j hI1=>?_)
 ·exact ⟨Nat.zero_le _,Nat.le_refl _,fun q y _ h=>absurd h (Nat.not_lt_zero _),fun q y h h2=>by have:=(List.getElem?_eq_some_iff.1 h).1; simp only [List.length_map] at this; omega⟩
 refine (go 8) (zX (fun h1=>?_) fun h1=>?_)
 ·refine (go 8) ?_
  refine zb (r_natu64 (a:=(i + j)) rfl qO qO (by rw [underlying3]; rfl) underlying228) (zb (r_shr (u:=(i + j)) (j:=1) rfl rfl qO qO) (zb (r_int64 (a:=((i + j) / 2 ^ 1)) rfl qO (by rw [underlying228]; rfl) underlying3) ?_))
  refine (go 8) ?_
  obtain ⟨ad1,s1,hd1,hs1⟩:=elx hclA ((i + j) / 2 ^ 1)
  refine zb (yx (i:=((i + j) / 2 ^ 1)) rfl hd1 rfl qO qI underlying23 inf50) ?_
  refine (go 2) ?_
  have hw1:=hwcl _ (List.mem_of_getElem? hs1)
  refine ze (fun _ h=>h.one 1 zC.Ok.loc rfl hs1) (uK wn rfl rfl call112 rfl (fun w1 hM=>c_add1 s1 _ t (In w1) w1 (fun _ h=>h) (hM.yR (i:=0) rfl) (hM.slp 3 rfl)) ?_)
  refine (go 3) (zX (fun h2=>?_) fun h2=>?_)
  ·refine (go 4) ?_
   refine zU (yG (yZ (((i + j) / 2 ^ 1) + 1) j (sc rfl (sc rfl (sc rfl (sc rfl (sc (ji qO) (sc rfl sn)))))) (S9 [1,2,3]) ?_ ?_))
   ·exact ⟨by omega,by omega,Mn.asc_lt (x:=zC.k s1) has (by rw [List.getElem?_map,hs1]; rfl) h2,hI1.2.2.2⟩
   omega
  refine (go 3) ?_
  refine zU (yG (yZ i ((i + j) / 2 ^ 1) (sc rfl (sc rfl (sc rfl (sc rfl (sc rfl (sc (ji qO) sn)))))) (S9 [1,2,3]) ?_ ?_))
  ·exact ⟨by omega,by omega,hI1.2.2.1,Mn.asc_ge (x:=zC.k s1) has (by rw [List.getElem?_map,hs1]; rfl) h2⟩
  omega
 refine (go 12) (yN 39 (fun h3=>?_) fun h3=>?_)
 ·refine (go 3) ?_
  obtain ⟨ad2,s2,hd2,hs2⟩:=elx hclA i
  refine (go 3) ?_
  have hw2:=hwcl _ (List.mem_of_getElem? hs2)
  refine ze (fun _ h=>h.one 1 zC.Ok.loc rfl hs2) (uK (wg rfl rfl rfl) rfl rfl call112 rfl (fun w1 hM=>c_add1 s2 _ t (In w1) w1 (fun _ h=>h) (hM.yR (i:=0) rfl) (hM.slp 3 rfl)) ?_)
  refine (go 7) (yL results111 fun w1 hM=>?_)
  have hp9:Mn.pos (cl.map zC.k) t=i:=Mn.pos_eq (by simp only [List.length_map]; omega) hI1.2.2.1 (by have:i=j:=qO; rw [this]; exact hI1.2.2.2)
  have hh9:Mn.has (cl.map zC.k) t=decide (zI.compare s2.sr.l t=0):=Mn.bs_has (x:=zC.k s2) has (by rw [List.getElem?_map,hs2]; rfl) hI1.2.2.1 (by have:j=i:=qO; exact hI1.2.2.2 i _ (by rw [List.getElem?_map,hs2]; rfl) qO)
  exact zP (by rw [hp9,hh9]) hM
 refine (go 14) (yL results111 fun w1 hM=>?_)
 have hp9:Mn.pos (cl.map zC.k) t=i:=Mn.pos_eq (by simp only [List.length_map]; omega) hI1.2.2.1 (by have:i=j:=qO; rw [this]; exact hI1.2.2.2)
 have hh9:Mn.has (cl.map zC.k) t=false:=Mn.bs_no (i:=i) (by simp only [List.length_map]; omega) hI1.2.2.1
 exact zP (by rw [hp9,hh9]) hM
end
section
open Tryz
open Ex
attribute [local irreducible] WC WL WQ WE WS
set_option linter.unusedVariables false
set_option linter.unusedSimpArgs false
theorem c_newE (lv:Value) (l:List Label) (P0:Nat→Prop) (w:World) (hP0:∀ b,P0 b→b < w.heap.size) (hl:zD P0 2 zQ lv l w) (hl1:l.length≤1048576):Calls prog 113 #[lv] w (RetE w P0 (fun z:zC=>.agg (zW z).toArray) (fun z=>z.e=⟨l,[],[],[],0,0,0,0,0⟩) (fun z S=>zC.Ok S z)):=(c_new lv l P0 w hP0 hl hl1).mono fun _ _ h=>h.toE
theorem c_rollE (z0 z1 z2 z3:Value) (z:Shelf) (to:Int) (P0:Nat→Prop) (w:World) (hP0:∀ b,P0 b→b < w.heap.size) (hz0:zD P0 2 zQ z0 z.zK w) (hz1:zD P0 2 zT z1 z.raw w) (hz2:zD P0 8 zJ z2 z.fine w) (hz3:zD P0 8 zJ z3 z.coarse w):Calls prog 74 #[.agg (List.toArray [z0,z1,z2,z3,iV z.zS,iV z.zL,iV z.zF,iV z.zH,iV z.zG]),iV to] w (RetE w P0 (fun y:zC=>.tuple #[.agg (zW y).toArray,iV (Sh.roll z to).2]) (fun y=>y.e=(Sh.roll z to).1) (fun y S=>zC.Ok S y)):=(c_roll z0 z1 z2 z3 z to P0 w hP0 hz0 hz1 hz2 hz3).mono fun _ _ h=>h.toE
theorem c_appendE (z0 z1 z2 z3:Value) (z:Shelf) (x:Sample) (P0:Nat→Prop) (w:World) (hP0:∀ b,P0 b→b < w.heap.size) (hz0:zD P0 2 zQ z0 z.zK w) (hz1:zD P0 2 zT z1 z.raw w) (hz2:zD P0 8 zJ z2 z.fine w) (hz3:zD P0 8 zJ z3 z.coarse w):Calls prog 114 #[.agg (List.toArray [z0,z1,z2,z3,iV z.zS,iV z.zL,iV z.zF,iV z.zH,iV z.zG]),.agg (zT x).toArray] w (RetE w P0 (fun y:zC=>.tuple #[.agg (zW y).toArray,iV (Sh.append z x).2]) (fun y=>y.e=(Sh.append z x).1) (fun y S=>zC.Ok S y)):=(c_append z0 z1 z2 z3 z x P0 w hP0 hz0 hz1 hz2 hz3).mono fun _ _ h=>h.toE
set_option maxHeartbeats 2000000 in
theorem c_badd (bp:Nat) (x:zq) (dad:Addr) (d:zn) (Pb:Nat→Prop) (w:World) (hG:Mem w ⟨fpOf [.blk bp [.slice x.zA.A x.zA.l.length x.zA.c,iV x.zO] 93,Row (.slice x.zA.A x.zA.l.length x.zA.c) 50 9 zW x.zA.l,allP zC.Ok x.zA.l,celP dad [iV d.kind,iV d.tier,iV d.to,.slice d.sr.A d.sr.l.length d.sr.c,iV d.zM.time,iV d.zM.value,.string d.text],okP zn.Ok d],Pb⟩ [.blk bp [.slice x.zA.A x.zA.l.length x.zA.c,iV x.zO] 93,Row (.slice x.zA.A x.zA.l.length x.zA.c) 50 9 zW x.zA.l,allP zC.Ok x.zA.l,celP dad [iV d.kind,iV d.tier,iV d.to,.slice d.sr.A d.sr.l.length d.sr.c,iV d.zM.time,iV d.zM.value,.string d.text],okP zn.Ok d] w) (hi:Bs.Inv x.e 120) :
    Calls prog 68 #[.pointer (some ⟨bp,0,none⟩),.pointer (some ((Addr.add dad 0).add 0))] w (RetA w [.blk bp [.slice x.zA.A x.zA.l.length x.zA.c,iV x.zO] 93,Row (.slice x.zA.A x.zA.l.length x.zA.c) 50 9 zW x.zA.l,allP zC.Ok x.zA.l,celP dad [iV d.kind,iV d.tier,iV d.to,.slice d.sr.A d.sr.l.length d.sr.c,iV d.zM.time,iV d.zM.value,.string d.text],okP zn.Ok d] Pb (fun z:zq × zj=>.agg (vF z.2).toArray) (fun z=>(z.1.e,z.2.e)=Bs.add x.e d.e) (fun z=>[okP zj.Ok z.2,.blk bp [.slice z.1.zA.A z.1.zA.l.length z.1.zA.c,iV z.1.zO] 93,Row (.slice z.1.zA.A z.1.zA.l.length z.1.zA.c) 50 9 zW z.1.zA.l,allP zC.Ok z.1.zA.l,celP dad (vS d),okP zn.Ok d])):=by
 have hwf:∀ y ∈ x.zA.l,zC.Wf y:=fun y hy=>((hG.yR (i:=2) rfl) y hy).wf
 have hwd:=(hG.yR (i:=4) rfl).wf
 obtain ⟨hsc,hsm,hsA⟩:=row_wf (hG.row (i:=1) rfl)
 have hasc:=asc_k hi
 have hlen:=len_k hi
 refine zr (N:=125) (vals:=[.pointer (some ⟨bp,0,none⟩),.pointer (some ((Addr.add dad 0).add 0))]) func68 hG ?_
 refine (go 2) (zz fun b4=>?_)
 refine (go 9) ?_
 refine ze (fun _ h=>h.doX 5 rfl) ?_
 obtain ⟨hc1,hm1,hA1⟩:=hwd.sr
 refine yH call42 wn rfl (fun w1 hM=>c_namesWrong _ d.sr.l w1 (hM.slp 0 rfl)) ?_
 refine (go 9) (zX (fun h1=>?_) fun h1=>?_)
 ·refine (go 9) (zY results68 fun w1 hM=>?_)
  have hM:=hM.yT (zj.Ok.loc (noX (zI.wrong d.sr.l))) fun Pb pp=>noX_ok _ _ _
  exact hM.yV (x,noX (zI.wrong d.sr.l)) rfl (add_1 h1) (fun h=>h.sel [0,3,4,5,6,7] qD rfl)
 have hsl:=Sh.names_len (Classical.not_not.1 (show ¬ zI.wrong d.sr.l≠0 from h1))
 refine (go 8) ?_
 refine zb (jP 5 [iV d.zM.time,iV d.zM.value] rfl rfl rfl rfl agg41 inf41) (zy zT ([d.zM]:List Sample) wn underlying47 inf41 rfl rfl rfl rfl qD qD rfl fun b24=>yH call43 wn rfl (fun w1 hM=>vi _ ([d.zM]:List Sample) w1 (RowSl encSample hM 0 rfl)) (zz fun b6=>?_))
 refine (go 10) (zX (fun h2=>?_) fun h2=>?_)
 ·refine (go 10) (zY results68 fun w1 hM=>?_)
  have hM:=hM.yT (zj.Ok.loc (noX ((Codec.wrong ([d.zM]:List Sample)).err))) fun Pb pp=>noX_ok _ _ _
  exact hM.yV (x,noX ((Codec.wrong ([d.zM]:List Sample)).err)) rfl (add_2 h1 h2) (fun h=>h.sel [0,5,6,7,8,9] qD rfl)
 refine (go 18) (zX (fun h3=>?_) fun h3=>?_)
 ·refine (go 8) (zY results68 fun w1 hM=>?_)
  have hM:=hM.yT (zj.Ok.loc (noX 9)) fun Pb pp=>noX_ok _ _ _
  exact hM.yV (x,noX 9) rfl (add_3 h1 h2 h3) (fun h=>h.sel [0,5,6,7,8,9] qD rfl)
 refine (go 13) ?_
 refine yP wn rfl call111 rfl (fun w1 hM=>c_bsS _ x.zA.l _ d.sr.l (In w1) w1 (fun _ h=>h) (RowSl encShelfX hM 5 rfl) (hM.yR (i:=6) rfl) (hM.slp 2 rfl) hasc qO) ?_
 refine (go 13) ?_
 refine yh (β:=zC) (fun z=>.agg (zW z).toArray) (fun z=>z.e=(⟨d.sr.l,[],[],[],0,0,0,0,0⟩:Shelf)) (fun z S=>zC.Ok S z) (fun z=>zC.Ok.loc z) wn rfl call113 rfl (fun w1 Pb hM pp=>c_newE _ d.sr.l Pb w1 pp.lt (pp.sl 2 rfl) qO) fun z1 hz1=>yw 0 rfl (fun S w h=>zC.Ok.wf h) fun hw1=>zz fun b9=>?_
 refine (go 9) (yb (fun h4=>?_) fun h4=>?_)
 ·have hpl:=pos_ltS hasc h4
  refine (go 7) ?_
  obtain ⟨ad1,s1,hd1,hs1⟩:=elx hsA (Mn.pos (x.zA.l.map zC.k) d.sr.l)
  refine zb (yx (i:=(Mn.pos (x.zA.l.map zC.k) d.sr.l)) rfl hd1 rfl qO qI underlying23 inf50) (zb (uN 7 [.slice s1.sr.A s1.sr.l.length s1.sr.c,.slice s1.raw.A s1.raw.l.length s1.raw.c,.slice s1.fine.A s1.fine.l.length s1.fine.c,.slice s1.coarse.A s1.coarse.l.length s1.coarse.c,iV s1.zS,iV s1.zL,iV s1.zF,iV s1.zH,iV s1.zG] encShelfX rfl rfl hd1 hs1 rfl rfl agg50 inf50) ?_)
  refine (go 4) ?_
  refine yK (Mem w ⟨fpOf [.blk bp [.slice x.zA.A x.zA.l.length x.zA.c,iV x.zO] 93,Row (.slice x.zA.A x.zA.l.length x.zA.c) 50 9 zW x.zA.l,allP zC.Ok x.zA.l,celP dad [iV d.kind,iV d.tier,iV d.to,.slice d.sr.A d.sr.l.length d.sr.c,iV d.zM.time,iV d.zM.value,.string d.text],okP zn.Ok d],Pb⟩ [okP zC.Ok z1,.blk b6 [iV ((Codec.wrong ([d.zM]:List Sample)).err),iV ((Codec.wrong ([d.zM]:List Sample)).at_)] 61,Row (.slice (some ⟨b24,0,none⟩) 1 1) 41 2 zT ([d.zM]:List Sample),slP 2 zQ (.slice d.sr.A d.sr.l.length d.sr.c) d.sr.l,.blk b4 [iV 0,iV 0,Zs,iV 0] 34,.blk bp [.slice x.zA.A x.zA.l.length x.zA.c,iV x.zO] 93,Row (.slice x.zA.A x.zA.l.length x.zA.c) 50 9 zW x.zA.l,allP zC.Ok x.zA.l,celP dad [iV d.kind,iV d.tier,iV d.to,.slice d.sr.A d.sr.l.length d.sr.c,iV d.zM.time,iV d.zM.value,.string d.text],okP zn.Ok d]) mix (fun _ h=>h.drew) rfl (yJ 7 [1,2,3,4] [1,2,3,4,5,6,7,8,9,10] rfl fun KS hKS=>?_)
  refine (go 3) ?_
  refine uo (jP 8 [iV d.zM.time,iV d.zM.value] rfl rfl rfl rfl agg41 inf41) (zi hKS (zf 6 0 (zg (i:=0) rfl fun KN hKN=>?_)))
  refine (go 2) ?_
  refine hKN _ _ (S9 [1,2,3,4,5,6,7,8,9,10]) (zf 5 5 (zg (i:=5) rfl fun KN hKN=>?_))
  have hw2:=hwf _ (List.mem_of_getElem? hs1)
  refine ze (fun _ h=>h.one 8 zC.Ok.loc rfl hs1) (ze (fun _ h=>h.shelfX 0 rfl) ?_)
  obtain ⟨hc2,hm2,hA2⟩:=hw2.sr
  obtain ⟨hc3,hm3,hA3⟩:=hw2.raw
  obtain ⟨hc4,hm4,hA4⟩:=hw2.fine
  obtain ⟨hc5,hm5,hA5⟩:=hw2.coarse
  refine yh (β:=zC) (fun z=>.tuple #[.agg (zW z).toArray,iV (Sh.append (zC.e s1) d.zM).2]) (fun z=>z.e=(Sh.append (zC.e s1) d.zM).1) (fun z S=>zC.Ok S z) (fun z=>zC.Ok.loc z) wn rfl call114 rfl (fun w1 Pb hM pp=>c_appendE _ _ _ _ (zC.e s1) d.zM Pb w1 pp.lt (pp.sl 0 rfl) (pp.sl 1 rfl) (pp.sl 2 rfl) (pp.sl 3 rfl)) fun z2 hz2=>yw 0 rfl (fun S w h=>zC.Ok.wf h) fun hw3=>?_
  refine (go 1) ?_
  refine hKN _ _ (S9 [7,8,9,10,11,12,13,14,15,16]) (yJ 2 [6,7,8] [7,8,9,10,11,12,13,14,15,16] rfl fun KS hKS=>?_)
  refine (go 3) ?_
  refine zi hKS (zf 1 9 (zg (i:=9) rfl fun KN hKN=>?_))
  refine (go 2) ?_
  refine hKN _ _ (S9 [7,8,9,10,11,12,13,14,15,16]) (yJ 0 [10] [7,8,9,10,11,12,13,14,15,16] rfl fun KS hKS=>?_)
  refine (go 1) ?_
  refine zi hKS ?_
  refine zw (by kernel_rfl) ((go 1) ?_)
  refine (go 7) (zX (fun h5=>?_) fun h5=>?_)
  ·refine (go 9) (zY results68 fun w1 hM=>?_)
   have hM:=hM.yT (zj.Ok.loc (noX ((Sh.append (zC.e s1) d.zM).2))) fun Pb pp=>noX_ok _ _ _
   exact hM.yV (x,noX ((Sh.append (zC.e s1) d.zM).2)) rfl (add_4 h1 h2 h3 h4 hs1 h5) (fun h=>h.sel [0,13,14,15,16,17] qD rfl)
  refine (go 8) ?_
  refine y8 rfl (by simpa using h4) (uH 8 ?_)
  refine (go 7) ?_
  refine yk (yx (i:=(Mn.pos (x.zA.l.map zC.k) d.sr.l)) rfl hd1 rfl qO qI underlying23 inf50) ?_
  refine (go 1) ?_
  refine uC 13 (vs:=[.slice z2.sr.A z2.sr.l.length z2.sr.c,.slice z2.raw.A z2.raw.l.length z2.raw.c,.slice z2.fine.A z2.fine.l.length z2.fine.c,.slice z2.coarse.A z2.coarse.l.length z2.coarse.c,iV z2.zS,iV z2.zL,iV z2.zF,iV z2.zH,iV z2.zG]) z2 encShelfX wn rfl rfl rfl rfl hd1 hs1 inf50 rfl rfl rfl rfl (ze (fun _ h=>h.allNew (l':=(x.zA.l.set (Mn.pos (x.zA.l.map zC.k) d.sr.l) z2)) 14 0 zC.Ok.loc rfl rfl mem_set_of) ?_)
  have hw4:∀ y ∈ (x.zA.l.set (Mn.pos (x.zA.l.map zC.k) d.sr.l) z2),zC.Wf y:=wf_new mem_set_of hwf hw3
  refine (go 9) (zY results68 fun w1 hM=>?_)
  have hM:=hM.yT (zj.Ok.loc (noX 0)) fun Pb pp=>noX_ok _ _ _
  exact hM.yV (⟨⟨x.zA.A,x.zA.c,(x.zA.l.set (Mn.pos (x.zA.l.map zC.k) d.sr.l) z2)⟩,x.zO⟩,noX 0) rfl (add_5 h1 h2 h3 h4 hs1 h5 hz2) (fun h=>as_set1 (n:=x.zA.l.length) (List.length_set).symm (h.sel [0,14,15,1,17,18] qD rfl))
 refine (go 12) (zX (fun h6=>?_) fun h6=>?_)
 ·refine (go 9) (zY results68 fun w1 hM=>?_)
  have hM:=hM.yT (zj.Ok.loc (noX 5)) fun Pb pp=>noX_ok _ _ _
  exact hM.yV (x,noX 5) rfl (add_6 h1 h2 h3 h4 h6) (fun h=>h.sel [0,7,8,9,10,11] qD rfl)
 refine (go 2) ?_
 refine yK (Mem w ⟨fpOf [.blk bp [.slice x.zA.A x.zA.l.length x.zA.c,iV x.zO] 93,Row (.slice x.zA.A x.zA.l.length x.zA.c) 50 9 zW x.zA.l,allP zC.Ok x.zA.l,celP dad [iV d.kind,iV d.tier,iV d.to,.slice d.sr.A d.sr.l.length d.sr.c,iV d.zM.time,iV d.zM.value,.string d.text],okP zn.Ok d],Pb⟩ [okP zC.Ok z1,.blk b6 [iV ((Codec.wrong ([d.zM]:List Sample)).err),iV ((Codec.wrong ([d.zM]:List Sample)).at_)] 61,Row (.slice (some ⟨b24,0,none⟩) 1 1) 41 2 zT ([d.zM]:List Sample),slP 2 zQ (.slice d.sr.A d.sr.l.length d.sr.c) d.sr.l,.blk b4 [iV 0,iV 0,Zs,iV 0] 34,.blk bp [.slice x.zA.A x.zA.l.length x.zA.c,iV x.zO] 93,Row (.slice x.zA.A x.zA.l.length x.zA.c) 50 9 zW x.zA.l,allP zC.Ok x.zA.l,celP dad [iV d.kind,iV d.tier,iV d.to,.slice d.sr.A d.sr.l.length d.sr.c,iV d.zM.time,iV d.zM.value,.string d.text],okP zn.Ok d]) mix (fun _ h=>h.drew) rfl (yJ 6 [1,2,3,4,5] [1,2,3,4,5,6,7,8,9,10] rfl fun KS hKS=>?_)
 refine (go 5) ?_
 refine zi hKS (zf 5 0 (zg (i:=0) rfl fun KN hKN=>?_))
 refine (go 2) ?_
 refine hKN _ _ (S9 [1,2,3,4,5,6,7,8,9,10]) (zf 4 6 (zg (i:=6) rfl fun KN hKN=>ze (fun _ h=>h.shelfX 1 rfl) ?_))
 obtain ⟨hc6,hm6,hA6⟩:=hw1.sr
 obtain ⟨hc7,hm7,hA7⟩:=hw1.raw
 obtain ⟨hc8,hm8,hA8⟩:=hw1.fine
 obtain ⟨hc9,hm9,hA9⟩:=hw1.coarse
 refine yh (β:=zC) (fun z=>.tuple #[.agg (zW z).toArray,iV (Sh.roll (zC.e z1) x.zO).2]) (fun z=>z.e=(Sh.roll (zC.e z1) x.zO).1) (fun z S=>zC.Ok S z) (fun z=>zC.Ok.loc z) wn rfl call74 rfl (fun w1 Pb hM pp=>c_rollE _ _ _ _ (zC.e z1) x.zO Pb w1 pp.lt (pp.sl 0 rfl) (pp.sl 1 rfl) (pp.sl 2 rfl) (pp.sl 3 rfl)) fun z3 hz3=>yw 0 rfl (fun S w h=>zC.Ok.wf h) fun hw5=>?_
 refine (go 1) ?_
 refine hKN _ _ (S9 [6,7,8,9,10,11,12,13,14,15]) (yJ 1 [7,8,9] [6,7,8,9,10,11,12,13,14,15] rfl fun KS hKS=>?_)
 refine (go 3) ?_
 refine zi hKS (zf 0 10 (zg (i:=10) rfl fun KN hKN=>?_))
 refine (go 2) ?_
 refine hKN _ _ (S9 [6,7,8,9,10,11,12,13,14,15]) ?_
 refine zw (by kernel_rfl) ((go 1) ?_)
 refine (go 1) ?_
 refine yK (Mem w ⟨fpOf [.blk bp [.slice x.zA.A x.zA.l.length x.zA.c,iV x.zO] 93,Row (.slice x.zA.A x.zA.l.length x.zA.c) 50 9 zW x.zA.l,allP zC.Ok x.zA.l,celP dad [iV d.kind,iV d.tier,iV d.to,.slice d.sr.A d.sr.l.length d.sr.c,iV d.zM.time,iV d.zM.value,.string d.text],okP zn.Ok d],Pb⟩ [okP zC.Ok z3,slP 2 zQ (.slice z1.sr.A z1.sr.l.length z1.sr.c) z1.sr.l,slP 2 zT (.slice z1.raw.A z1.raw.l.length z1.raw.c) z1.raw.l,slP 8 zJ (.slice z1.fine.A z1.fine.l.length z1.fine.c) z1.fine.l,slP 8 zJ (.slice z1.coarse.A z1.coarse.l.length z1.coarse.c) z1.coarse.l,okP zC.Ok z1,.blk b6 [iV ((Codec.wrong ([d.zM]:List Sample)).err),iV ((Codec.wrong ([d.zM]:List Sample)).at_)] 61,Row (.slice (some ⟨b24,0,none⟩) 1 1) 41 2 zT ([d.zM]:List Sample),slP 2 zQ (.slice d.sr.A d.sr.l.length d.sr.c) d.sr.l,.blk b4 [iV 0,iV 0,Zs,iV 0] 34,.blk bp [.slice x.zA.A x.zA.l.length x.zA.c,iV x.zO] 93,Row (.slice x.zA.A x.zA.l.length x.zA.c) 50 9 zW x.zA.l,allP zC.Ok x.zA.l,celP dad [iV d.kind,iV d.tier,iV d.to,.slice d.sr.A d.sr.l.length d.sr.c,iV d.zM.time,iV d.zM.value,.string d.text],okP zn.Ok d]) mix (fun _ h=>h.drew) rfl (yJ 7 [1,2,3,4] [0,1,2,3,4,6,7,8,9,10,11,12,13,14,15] rfl fun KS hKS=>?_)
 refine (go 3) ?_
 refine uo (jP 13 [iV d.zM.time,iV d.zM.value] rfl rfl rfl rfl agg41 inf41) (zi hKS (zf 6 0 (zg (i:=0) rfl fun KN hKN=>?_)))
 refine (go 2) ?_
 refine hKN _ _ (S9 [0,1,2,3,4,6,7,8,9,10,11,12,13,14,15]) (zf 5 5 (zg (i:=5) rfl fun KN hKN=>ze (fun _ h=>h.shelfX 0 rfl) ?_))
 obtain ⟨hc10,hm10,hA10⟩:=hw5.sr
 obtain ⟨hc11,hm11,hA11⟩:=hw5.raw
 obtain ⟨hc12,hm12,hA12⟩:=hw5.fine
 obtain ⟨hc13,hm13,hA13⟩:=hw5.coarse
 refine yh (β:=zC) (fun z=>.tuple #[.agg (zW z).toArray,iV (Sh.append (zC.e z3) d.zM).2]) (fun z=>z.e=(Sh.append (zC.e z3) d.zM).1) (fun z S=>zC.Ok S z) (fun z=>zC.Ok.loc z) wn rfl call114 rfl (fun w1 Pb hM pp=>c_appendE _ _ _ _ (zC.e z3) d.zM Pb w1 pp.lt (pp.sl 0 rfl) (pp.sl 1 rfl) (pp.sl 2 rfl) (pp.sl 3 rfl)) fun z4 hz4=>yw 0 rfl (fun S w h=>zC.Ok.wf h) fun hw6=>?_
 refine (go 1) ?_
 refine hKN _ _ (S9 [5,6,7,8,9,11,12,13,14,15,16,17,18,19,20]) (yJ 2 [6,7,8] [5,6,7,8,9,11,12,13,14,15,16,17,18,19,20] rfl fun KS hKS=>?_)
 refine (go 3) ?_
 refine zi hKS (zf 1 9 (zg (i:=9) rfl fun KN hKN=>?_))
 refine (go 2) ?_
 refine hKN _ _ (S9 [5,6,7,8,9,11,12,13,14,15,16,17,18,19,20]) (yJ 0 [10] [5,6,7,8,9,11,12,13,14,15,16,17,18,19,20] rfl fun KS hKS=>?_)
 refine (go 1) ?_
 refine zi hKS ?_
 refine zw (by kernel_rfl) ((go 1) ?_)
 refine (go 7) (zX (fun h7=>?_) fun h7=>?_)
 ·refine (go 9) (zY results68 fun w1 hM=>?_)
  have hf9:Bs.fresh d.sr.l x.zO=zC.e z3:=by rw [hz3,hz1]; rfl
  have hM:=hM.yT (zj.Ok.loc (noX ((Sh.append (zC.e z3) d.zM).2))) fun Pb pp=>noX_ok _ _ _
  exact hM.yV (x,noX ((Sh.append (zC.e z3) d.zM).2)) rfl (by have e9:=add_7 (x:=x) (d:=d) h1 h2 h3 h4 h6; rw [hf9] at e9; exact e9 h7) (fun h=>h.sel [0,17,18,19,20,21] qD rfl)
 refine (go 8) ?_
 refine yc rfl (by simpa using h4) (yK (Mem w ⟨fpOf [.blk bp [.slice x.zA.A x.zA.l.length x.zA.c,iV x.zO] 93,Row (.slice x.zA.A x.zA.l.length x.zA.c) 50 9 zW x.zA.l,allP zC.Ok x.zA.l,celP dad [iV d.kind,iV d.tier,iV d.to,.slice d.sr.A d.sr.l.length d.sr.c,iV d.zM.time,iV d.zM.value,.string d.text],okP zn.Ok d],Pb⟩ [okP zC.Ok z4,slP 2 zQ (.slice z3.sr.A z3.sr.l.length z3.sr.c) z3.sr.l,slP 2 zT (.slice z3.raw.A z3.raw.l.length z3.raw.c) z3.raw.l,slP 8 zJ (.slice z3.fine.A z3.fine.l.length z3.fine.c) z3.fine.l,slP 8 zJ (.slice z3.coarse.A z3.coarse.l.length z3.coarse.c) z3.coarse.l,okP zC.Ok z3,slP 2 zQ (.slice z1.sr.A z1.sr.l.length z1.sr.c) z1.sr.l,slP 2 zT (.slice z1.raw.A z1.raw.l.length z1.raw.c) z1.raw.l,slP 8 zJ (.slice z1.fine.A z1.fine.l.length z1.fine.c) z1.fine.l,slP 8 zJ (.slice z1.coarse.A z1.coarse.l.length z1.coarse.c) z1.coarse.l,.blk b9 [.slice z4.sr.A z4.sr.l.length z4.sr.c,.slice z4.raw.A z4.raw.l.length z4.raw.c,.slice z4.fine.A z4.fine.l.length z4.fine.c,.slice z4.coarse.A z4.coarse.l.length z4.coarse.c,iV z4.zS,iV z4.zL,iV z4.zF,iV z4.zH,iV z4.zG] 50,okP zC.Ok z1,.blk b6 [iV ((Codec.wrong ([d.zM]:List Sample)).err),iV ((Codec.wrong ([d.zM]:List Sample)).at_)] 61,Row (.slice (some ⟨b24,0,none⟩) 1 1) 41 2 zT ([d.zM]:List Sample),slP 2 zQ (.slice d.sr.A d.sr.l.length d.sr.c) d.sr.l,.blk b4 [iV 0,iV 0,Zs,iV 0] 34,celP dad [iV d.kind,iV d.tier,iV d.to,.slice d.sr.A d.sr.l.length d.sr.c,iV d.zM.time,iV d.zM.value,.string d.text],okP zn.Ok d]) mix (fun _ h=>h.drew) rfl (yJ 7 [0,1,2,3,4,6,7] [0,1,2,3,4,5,6,7,8,9,10,11,12,13,14,15,19,20] rfl fun KS hKS=>?_))
 refine (go 7) ?_
 refine zi hKS (yX (f:=6) (i:=5) (j:=8) rfl (by kernel_rfl) ?_ ?_)
 ·refine zg (i:=5) rfl fun KN hKN=>?_
  refine (go 2) ?_
  refine hKN _ _ (S9 [0,1,2,3,4,5,6,7,8,9,10,11,12,13,14,15,19,20]) (zf 5 8 (zg (i:=8) rfl fun KN hKN=>zy zW ([z4]:List zC) wn underlying23 inf50 rfl rfl rfl rfl qD qD rfl fun b119=>?_))
  refine (go 1) ?_
  refine hKN _ _ (S9 [1,2,3,4,5,6,7,8,9,10,11,12,13,14,15,16,20,21]) (zf 4 9 (zg (i:=9) rfl fun KN hKN=>yM (α:=Value) [Row (.slice x.zA.A x.zA.l.length x.zA.c) 50 9 zW x.zA.l,Row (.slice (some ⟨b119,0,none⟩) 1 1) 50 9 zW ([z4]:List zC)] [okP zC.Ok z4,slP 2 zQ (.slice z3.sr.A z3.sr.l.length z3.sr.c) z3.sr.l,slP 2 zT (.slice z3.raw.A z3.raw.l.length z3.raw.c) z3.raw.l,slP 8 zJ (.slice z3.fine.A z3.fine.l.length z3.fine.c) z3.fine.l,slP 8 zJ (.slice z3.coarse.A z3.coarse.l.length z3.coarse.c) z3.coarse.l,okP zC.Ok z3,slP 2 zQ (.slice z1.sr.A z1.sr.l.length z1.sr.c) z1.sr.l,slP 2 zT (.slice z1.raw.A z1.raw.l.length z1.raw.c) z1.raw.l,slP 8 zJ (.slice z1.fine.A z1.fine.l.length z1.fine.c) z1.fine.l,slP 8 zJ (.slice z1.coarse.A z1.coarse.l.length z1.coarse.c) z1.coarse.l,.blk b9 [.slice z4.sr.A z4.sr.l.length z4.sr.c,.slice z4.raw.A z4.raw.l.length z4.raw.c,.slice z4.fine.A z4.fine.l.length z4.fine.c,.slice z4.coarse.A z4.coarse.l.length z4.coarse.c,iV z4.zS,iV z4.zL,iV z4.zF,iV z4.zH,iV z4.zG] 50,okP zC.Ok z1,.blk b6 [iV ((Codec.wrong ([d.zM]:List Sample)).err),iV ((Codec.wrong ([d.zM]:List Sample)).at_)] 61,Row (.slice (some ⟨b24,0,none⟩) 1 1) 41 2 zT ([d.zM]:List Sample),slP 2 zQ (.slice d.sr.A d.sr.l.length d.sr.c) d.sr.l,.blk b4 [iV 0,iV 0,Zs,iV 0] 34,.blk bp [.slice x.zA.A x.zA.l.length x.zA.c,iV x.zO] 93,allP zC.Ok x.zA.l,celP dad [iV d.kind,iV d.tier,iV d.to,.slice d.sr.A d.sr.l.length d.sr.c,iV d.zM.time,iV d.zM.value,.string d.text],okP zn.Ok d] (fun z=>z) (fun z5=>True) (fun z5=>[Row z5 50 9 zW (x.zA.l.take (Mn.pos (x.zA.l.map zC.k) d.sr.l)++z4::x.zA.l.drop (Mn.pos (x.zA.l.map zC.k) d.sr.l))]) _ (fun _=>rfl) (S9 [18,0,1,2,3,4,5,6,7,8,9,10,11,12,13,14,15,16,17,19,20,21]) (fun _=>rfl) wn rfl rfl call115 rfl (fun w1 Pb hG=>c_insertS _ _ x.zA.l z4 (Mn.pos (x.zA.l.map zC.k) d.sr.l) Pb w1 hG pos_leS qO) fun z5 hz5=>uU 0 (l:=(x.zA.l.take (Mn.pos (x.zA.l.map zC.k) d.sr.l)++z4::x.zA.l.drop (Mn.pos (x.zA.l.map zC.k) d.sr.l))) rfl fun A1 cp1 hv1 hc14 hm14 hA14=>?_))
  subst hv1
  refine ze (fun _ h=>h.allNew (l':=(x.zA.l.take (Mn.pos (x.zA.l.map zC.k) d.sr.l)++z4::x.zA.l.drop (Mn.pos (x.zA.l.map zC.k) d.sr.l))) 18 1 zC.Ok.loc rfl rfl mem_ins_of) ?_
  have hw7:∀ y ∈ (x.zA.l.take (Mn.pos (x.zA.l.map zC.k) d.sr.l)++z4::x.zA.l.drop (Mn.pos (x.zA.l.map zC.k) d.sr.l)),zC.Wf y:=wf_new mem_ins_of hwf hw6
  refine (go 1) ?_
  refine hKN _ _ (S9 [2,3,4,5,6,7,8,9,10,11,12,13,14,15,16,17,20,21]) (yJ 1 [10,11,12] [2,3,4,5,6,7,8,9,10,11,12,13,14,15,16,17,20,21] rfl fun KS hKS=>?_)
  refine (go 3) ?_
  refine zi hKS (zf 0 13 (zg (i:=13) rfl fun KN hKN=>?_))
  refine (go 2) ?_
  refine hKN _ _ (S9 [2,3,4,5,6,7,8,9,10,11,12,13,14,15,16,17,20,21]) ?_
  refine zw (by kernel_rfl) ((go 1) ?_)
  refine (go 7) (zY results68 fun w1 hM=>?_)
  have hf9:Bs.fresh d.sr.l x.zO=zC.e z3:=by rw [hz3,hz1]; rfl
  have hM:=hM.yT (zj.Ok.loc (noX 0)) fun Pb pp=>noX_ok _ _ _
  exact hM.yV (⟨⟨A1,cp1,(x.zA.l.take (Mn.pos (x.zA.l.map zC.k) d.sr.l)++z4::x.zA.l.drop (Mn.pos (x.zA.l.map zC.k) d.sr.l))⟩,x.zO⟩,noX 0) rfl (by have e9:=add_8 (x:=x) (d:=d) (z:=z4) (A:=A1) (c:=cp1) h1 h2 h3 h4 h6; rw [hf9] at e9; exact e9 h7 hz4) (fun h=>h.sel [0,19,2,1,21,22] qD rfl)
 refine zg (i:=8) rfl fun KN hKN=>zy zW ([z4]:List zC) wn underlying23 inf50 rfl rfl rfl rfl qD qD rfl fun b119=>?_
 refine (go 1) ?_
 refine hKN _ _ (S9 [1,2,3,4,5,6,7,8,9,10,11,12,13,14,15,16,20,21]) (zf 5 5 (zg (i:=5) rfl fun KN hKN=>?_))
 refine (go 2) ?_
 refine hKN _ _ (S9 [1,2,3,4,5,6,7,8,9,10,11,12,13,14,15,16,20,21]) (zf 4 9 (zg (i:=9) rfl fun KN hKN=>yM (α:=Value) [Row (.slice x.zA.A x.zA.l.length x.zA.c) 50 9 zW x.zA.l,Row (.slice (some ⟨b119,0,none⟩) 1 1) 50 9 zW ([z4]:List zC)] [okP zC.Ok z4,slP 2 zQ (.slice z3.sr.A z3.sr.l.length z3.sr.c) z3.sr.l,slP 2 zT (.slice z3.raw.A z3.raw.l.length z3.raw.c) z3.raw.l,slP 8 zJ (.slice z3.fine.A z3.fine.l.length z3.fine.c) z3.fine.l,slP 8 zJ (.slice z3.coarse.A z3.coarse.l.length z3.coarse.c) z3.coarse.l,okP zC.Ok z3,slP 2 zQ (.slice z1.sr.A z1.sr.l.length z1.sr.c) z1.sr.l,slP 2 zT (.slice z1.raw.A z1.raw.l.length z1.raw.c) z1.raw.l,slP 8 zJ (.slice z1.fine.A z1.fine.l.length z1.fine.c) z1.fine.l,slP 8 zJ (.slice z1.coarse.A z1.coarse.l.length z1.coarse.c) z1.coarse.l,.blk b9 [.slice z4.sr.A z4.sr.l.length z4.sr.c,.slice z4.raw.A z4.raw.l.length z4.raw.c,.slice z4.fine.A z4.fine.l.length z4.fine.c,.slice z4.coarse.A z4.coarse.l.length z4.coarse.c,iV z4.zS,iV z4.zL,iV z4.zF,iV z4.zH,iV z4.zG] 50,okP zC.Ok z1,.blk b6 [iV ((Codec.wrong ([d.zM]:List Sample)).err),iV ((Codec.wrong ([d.zM]:List Sample)).at_)] 61,Row (.slice (some ⟨b24,0,none⟩) 1 1) 41 2 zT ([d.zM]:List Sample),slP 2 zQ (.slice d.sr.A d.sr.l.length d.sr.c) d.sr.l,.blk b4 [iV 0,iV 0,Zs,iV 0] 34,.blk bp [.slice x.zA.A x.zA.l.length x.zA.c,iV x.zO] 93,allP zC.Ok x.zA.l,celP dad [iV d.kind,iV d.tier,iV d.to,.slice d.sr.A d.sr.l.length d.sr.c,iV d.zM.time,iV d.zM.value,.string d.text],okP zn.Ok d] (fun z=>z) (fun z6=>True) (fun z6=>[Row z6 50 9 zW (x.zA.l.take (Mn.pos (x.zA.l.map zC.k) d.sr.l)++z4::x.zA.l.drop (Mn.pos (x.zA.l.map zC.k) d.sr.l))]) _ (fun _=>rfl) (S9 [18,0,1,2,3,4,5,6,7,8,9,10,11,12,13,14,15,16,17,19,20,21]) (fun _=>rfl) wn rfl rfl call115 rfl (fun w1 Pb hG=>c_insertS _ _ x.zA.l z4 (Mn.pos (x.zA.l.map zC.k) d.sr.l) Pb w1 hG pos_leS qO) fun z6 hz6=>uU 0 (l:=(x.zA.l.take (Mn.pos (x.zA.l.map zC.k) d.sr.l)++z4::x.zA.l.drop (Mn.pos (x.zA.l.map zC.k) d.sr.l))) rfl fun A2 cp2 hv2 hc15 hm15 hA15=>?_))
 subst hv2
 refine ze (fun _ h=>h.allNew (l':=(x.zA.l.take (Mn.pos (x.zA.l.map zC.k) d.sr.l)++z4::x.zA.l.drop (Mn.pos (x.zA.l.map zC.k) d.sr.l))) 18 1 zC.Ok.loc rfl rfl mem_ins_of) ?_
 have hw8:∀ y ∈ (x.zA.l.take (Mn.pos (x.zA.l.map zC.k) d.sr.l)++z4::x.zA.l.drop (Mn.pos (x.zA.l.map zC.k) d.sr.l)),zC.Wf y:=wf_new mem_ins_of hwf hw6
 refine (go 1) ?_
 refine hKN _ _ (S9 [2,3,4,5,6,7,8,9,10,11,12,13,14,15,16,17,20,21]) (yJ 1 [10,11,12] [2,3,4,5,6,7,8,9,10,11,12,13,14,15,16,17,20,21] rfl fun KS hKS=>?_)
 refine (go 3) ?_
 refine zi hKS (zf 0 13 (zg (i:=13) rfl fun KN hKN=>?_))
 refine (go 2) ?_
 refine hKN _ _ (S9 [2,3,4,5,6,7,8,9,10,11,12,13,14,15,16,17,20,21]) ?_
 refine zw (by kernel_rfl) ((go 1) ?_)
 refine (go 7) (zY results68 fun w1 hM=>?_)
 have hf9:Bs.fresh d.sr.l x.zO=zC.e z3:=by rw [hz3,hz1]; rfl
 have hM:=hM.yT (zj.Ok.loc (noX 0)) fun Pb pp=>noX_ok _ _ _
 exact hM.yV (⟨⟨A2,cp2,(x.zA.l.take (Mn.pos (x.zA.l.map zC.k) d.sr.l)++z4::x.zA.l.drop (Mn.pos (x.zA.l.map zC.k) d.sr.l))⟩,x.zO⟩,noX 0) rfl (by have e9:=add_8 (x:=x) (d:=d) (z:=z4) (A:=A2) (c:=cp2) h1 h2 h3 h4 h6; rw [hf9] at e9; exact e9 h7 hz4) (fun h=>h.sel [0,19,2,1,21,22] qD rfl)
end
section
open Tryz
open Ex
attribute [local irreducible] WC WL WQ WE WS
set_option linter.unusedVariables false
set_option linter.unusedSimpArgs false
theorem c_do1 (s:zC) (db dad:Addr) (d:zn) (P0:Nat→Prop) (w:World) (hP0:∀ b,P0 b→b < w.heap.size) (hs:zC.Ok P0 s w) (hdb:ya P0 db [.pointer (some ((Addr.add dad 0).add 0))] w) (hdc:ya P0 dad (vS d) w) (hd:zn.Ok P0 d w)  :
    Calls prog 71 #[.agg (zW s).toArray,.pointer (some db)] w (RetE w P0 (fun z:zC=>.tuple #[.agg (zW z).toArray,iV (Sh.forget s.e d.tier d.to).2]) (fun z=>z.e=(Sh.forget s.e d.tier d.to).1) (fun z S=>zC.Ok S z)):=by
 have hws:=hs.wf
 have hwd:=hd.wf
 refine zr (N:=17) (vals:=[.agg (zW s).toArray,.pointer (some ((Addr.add db 0).add 0))]) func71 (Mem.ofDatsP hP0 (dc (dp (zC.Ok.loc _) hs) (dc (dp (ya.loc _ _) hdb) (dc (dp (ya.loc _ _) hdc) (dc (dp (zn.Ok.loc _) hd) dn))))) ?_
 refine (go 2) (yu fun b2=>zz fun b3=>?_)
 refine (go 4) ?_
 refine yK (Mem w ⟨no,P0⟩ [.blk b2 [.slice s.sr.A s.sr.l.length s.sr.c,.slice s.raw.A s.raw.l.length s.raw.c,.slice s.fine.A s.fine.l.length s.fine.c,.slice s.coarse.A s.coarse.l.length s.coarse.c,iV s.zS,iV s.zL,iV s.zF,iV s.zH,iV s.zG] 50,okP zC.Ok s,celP db [.pointer (some ((Addr.add dad 0).add 0))],celP dad [iV d.kind,iV d.tier,iV d.to,.slice d.sr.A d.sr.l.length d.sr.c,iV d.zM.time,iV d.zM.value,.string d.text],okP zn.Ok d]) mix (fun _ h=>h.drew) rfl (yJ 5 [0,1,2,3,4,5,6,7,8] [1,2,3,4,5] rfl fun KS hKS=>?_)
 refine (go 9) ?_
 refine zi hKS (zf 4 9 (zg (i:=9) rfl fun KN hKN=>ze (fun _ h=>h.shelfX 2 rfl) ?_))
 obtain ⟨hc1,hm1,hA1⟩:=hws.sr
 obtain ⟨hc2,hm2,hA2⟩:=hws.raw
 obtain ⟨hc3,hm3,hA3⟩:=hws.fine
 obtain ⟨hc4,hm4,hA4⟩:=hws.coarse
 refine l_callSh (fun u=>.tuple (List.toArray [u,iV ((Sh.forget (zC.e s) d.tier d.to).2)])) ((Sh.forget (zC.e s) d.tier d.to).1) wn rfl call72 rfl (fun w1 Pb hM pp=>c_forget _ _ _ _ (zC.e s) d.tier d.to Pb w1 pp.lt (pp.sl 0 rfl) (pp.sl 1 rfl) (pp.sl 2 rfl) (pp.sl 3 rfl)) fun A1 cp1 A2 cp2 A3 cp3 A4 cp4 hb1 hA5 hA6 hA7 hA8=>?_
 refine (go 1) ?_
 refine hKN _ _ (S9 [9,10,11,12,13]) (yJ 2 [10,11] [9,10,11,12,13] rfl fun KS hKS=>?_)
 refine (go 2) ?_
 refine zi hKS (zf 1 12 (zg (i:=12) rfl fun KN hKN=>?_))
 refine (go 2) ?_
 refine hKN _ _ (S9 [9,10,11,12,13]) (yJ 0 [13] [9,10,11,12,13] rfl fun KS hKS=>?_)
 refine (go 1) ?_
 refine zi hKS ?_
 refine zw (by kernel_rfl) ((go 1) ?_)
 refine (go 1) (yL results71 fun w1 hM=>?_)
 exact hM.vT (zC.mk ⟨A1,cp1,((Sh.forget (zC.e s) d.tier d.to).1).zK⟩ ⟨A2,cp2,((Sh.forget (zC.e s) d.tier d.to).1).raw⟩ ⟨A3,cp3,((Sh.forget (zC.e s) d.tier d.to).1).fine⟩ ⟨A4,cp4,((Sh.forget (zC.e s) d.tier d.to).1).coarse⟩ (((Sh.forget (zC.e s) d.tier d.to).1).zS) (((Sh.forget (zC.e s) d.tier d.to).1).zL) (((Sh.forget (zC.e s) d.tier d.to).1).zF) (((Sh.forget (zC.e s) d.tier d.to).1).zH) (((Sh.forget (zC.e s) d.tier d.to).1).zG)) rfl rfl fun Pb pp=>⟨pp.sl 0 rfl,pp.sl 1 rfl,pp.sl 2 rfl,pp.sl 3 rfl⟩
theorem c_do2 (s:zC) (db dad:Addr) (d:zn) (P0:Nat→Prop) (w:World) (hP0:∀ b,P0 b→b < w.heap.size) (hs:zC.Ok P0 s w) (hdb:ya P0 db [.pointer (some ((Addr.add dad 0).add 0))] w) (hdc:ya P0 dad (vS d) w) (hd:zn.Ok P0 d w)  :
    Calls prog 73 #[.agg (zW s).toArray,.pointer (some db)] w (RetE w P0 (fun z:zC=>.tuple #[.agg (zW z).toArray,iV (Sh.roll s.e d.to).2]) (fun z=>z.e=(Sh.roll s.e d.to).1) (fun z S=>zC.Ok S z)):=by
 have hws:=hs.wf
 have hwd:=hd.wf
 refine zr (N:=13) (vals:=[.agg (zW s).toArray,.pointer (some ((Addr.add db 0).add 0))]) func73 (Mem.ofDatsP hP0 (dc (dp (zC.Ok.loc _) hs) (dc (dp (ya.loc _ _) hdb) (dc (dp (ya.loc _ _) hdc) (dc (dp (zn.Ok.loc _) hd) dn))))) ?_
 refine (go 2) (yu fun b2=>zz fun b3=>?_)
 refine (go 4) ?_
 refine yK (Mem w ⟨no,P0⟩ [.blk b2 [.slice s.sr.A s.sr.l.length s.sr.c,.slice s.raw.A s.raw.l.length s.raw.c,.slice s.fine.A s.fine.l.length s.fine.c,.slice s.coarse.A s.coarse.l.length s.coarse.c,iV s.zS,iV s.zL,iV s.zF,iV s.zH,iV s.zG] 50,okP zC.Ok s,celP db [.pointer (some ((Addr.add dad 0).add 0))],celP dad [iV d.kind,iV d.tier,iV d.to,.slice d.sr.A d.sr.l.length d.sr.c,iV d.zM.time,iV d.zM.value,.string d.text],okP zn.Ok d]) mix (fun _ h=>h.drew) rfl (yJ 5 [0,1,2,3,4] [1,2,3,4,5] rfl fun KS hKS=>?_)
 refine (go 5) ?_
 refine zi hKS (zf 4 5 (zg (i:=5) rfl fun KN hKN=>ze (fun _ h=>h.shelfX 2 rfl) ?_))
 obtain ⟨hc1,hm1,hA1⟩:=hws.sr
 obtain ⟨hc2,hm2,hA2⟩:=hws.raw
 obtain ⟨hc3,hm3,hA3⟩:=hws.fine
 obtain ⟨hc4,hm4,hA4⟩:=hws.coarse
 refine l_callSh (fun u=>.tuple (List.toArray [u,iV ((Sh.roll (zC.e s) d.to).2)])) ((Sh.roll (zC.e s) d.to).1) wn rfl call74 rfl (fun w1 Pb hM pp=>c_roll _ _ _ _ (zC.e s) d.to Pb w1 pp.lt (pp.sl 0 rfl) (pp.sl 1 rfl) (pp.sl 2 rfl) (pp.sl 3 rfl)) fun A1 cp1 A2 cp2 A3 cp3 A4 cp4 hb1 hA5 hA6 hA7 hA8=>?_
 refine (go 1) ?_
 refine hKN _ _ (S9 [9,10,11,12,13]) (yJ 2 [6,7] [9,10,11,12,13] rfl fun KS hKS=>?_)
 refine (go 2) ?_
 refine zi hKS (zf 1 8 (zg (i:=8) rfl fun KN hKN=>?_))
 refine (go 2) ?_
 refine hKN _ _ (S9 [9,10,11,12,13]) (yJ 0 [9] [9,10,11,12,13] rfl fun KS hKS=>?_)
 refine (go 1) ?_
 refine zi hKS ?_
 refine zw (by kernel_rfl) ((go 1) ?_)
 refine (go 1) (yL results73 fun w1 hM=>?_)
 exact hM.vT (zC.mk ⟨A1,cp1,((Sh.roll (zC.e s) d.to).1).zK⟩ ⟨A2,cp2,((Sh.roll (zC.e s) d.to).1).raw⟩ ⟨A3,cp3,((Sh.roll (zC.e s) d.to).1).fine⟩ ⟨A4,cp4,((Sh.roll (zC.e s) d.to).1).coarse⟩ (((Sh.roll (zC.e s) d.to).1).zS) (((Sh.roll (zC.e s) d.to).1).zL) (((Sh.roll (zC.e s) d.to).1).zF) (((Sh.roll (zC.e s) d.to).1).zH) (((Sh.roll (zC.e s) d.to).1).zG)) rfl rfl fun Pb pp=>⟨pp.sl 0 rfl,pp.sl 1 rfl,pp.sl 2 rfl,pp.sl 3 rfl⟩
set_option maxHeartbeats 1000000 in
theorem c_each (bp:Nat) (x:zq) (f:Nat) (fcap:Array Value) (C:(Nat→Prop)→World→Prop) (g:Shelf→Shelf × Int) (Pb:Nat→Prop) (w:World) (hG:Mem w ⟨fpOf [.blk bp [.slice x.zA.A x.zA.l.length x.zA.c,iV x.zO] 93,Row (.slice x.zA.A x.zA.l.length x.zA.c) 50 9 zW x.zA.l,allP zC.Ok x.zA.l,.pub C],Pb⟩ [.blk bp [.slice x.zA.A x.zA.l.length x.zA.c,iV x.zO] 93,Row (.slice x.zA.A x.zA.l.length x.zA.c) 50 9 zW x.zA.l,allP zC.Ok x.zA.l,.pub C] w) (hf:ShFn prog f fcap C g) (hlen:x.zA.l.length≤8) :
    Calls prog 70 #[.pointer (some ⟨bp,0,none⟩),.func (.func f) #[] fcap] w (RetA w [.blk bp [.slice x.zA.A x.zA.l.length x.zA.c,iV x.zO] 93,Row (.slice x.zA.A x.zA.l.length x.zA.c) 50 9 zW x.zA.l,allP zC.Ok x.zA.l,.pub C] Pb (fun _:zq=>iV (Bs.each g x.e.zA).2) (fun z=>z.e=if (Bs.each g x.e.zA).2≠0 then x.e else ⟨(Bs.each g x.e.zA).1,x.zO⟩) (fun z=>[.blk bp [.slice z.zA.A z.zA.l.length z.zA.c,iV z.zO] 93,Row (.slice z.zA.A z.zA.l.length z.zA.c) 50 9 zW z.zA.l,allP zC.Ok z.zA.l,.pub C])):=by
 have hwf:∀ y ∈ x.zA.l,zC.Wf y:=fun y hy=>((hG.yR (i:=2) rfl) y hy).wf
 obtain ⟨hsc,hsm,hsA⟩:=row_wf (hG.row (i:=1) rfl)
 refine zr (N:=39) func70 hG ?_
 refine (go 7) ?_
 refine yD (zW:zC→List Value) 50 9 (ze (fun _ h=>h.all0 zC.Ok.loc) ?_)
 refine (go 16) ?_
 refine uL (fun (k:Nat) (zs:List zC) (ov:Value)=>[(0,.pointer (some ⟨bp,0,none⟩)),(1,.func (.func f) #[] fcap),(5,ov),(14,.slice x.zA.A x.zA.l.length x.zA.c),(15,iV x.zA.l.length),(16,iV k)]) (fun (k:Nat) (zs:List zC) (ov:Value)=>[allP zC.Ok zs,Row ov 50 9 zW zs,.blk bp [.slice x.zA.A x.zA.l.length x.zA.c,iV x.zO] 93,Row (.slice x.zA.A x.zA.l.length x.zA.c) 50 9 zW x.zA.l,allP zC.Ok x.zA.l,.pub C]) (fun (k:Nat) (zs:List zC) (ov:Value)=>k≤x.zA.l.length∧(∀ y ∈ zs,zC.Wf y)∧Bs.each g ((x.zA.l.take k).map zC.e)=(zs.map zC.e,0)∧zs.length=k) (fun (k:Nat) (zs:List zC) (ov:Value)=>x.zA.l.length - k) 0 [] (Zs) (sc rfl (sc rfl (sc rfl (sc rfl (sc rfl (sc (ji qO) sn)))))) (fun _ h=>h) ?_ (fun k zs ov hI1=>?_)
 ·exact ⟨Nat.zero_le _,fun x hx=>(by cases hx),rfl,rfl⟩
 have hwz:=hI1.2.1
 have hzl:=hI1.2.2.2
 refine yU 1 (l:=zs) rfl fun A1 cp1 hv1 hc1 hm1 hA1=>?_
 subst hv1
 refine (go 6) (zX (fun h1=>?_) fun h1=>?_)
 ·refine (go 6) ?_
  obtain ⟨ad1,s1,hd1,hs1⟩:=elx hsA k
  refine (go 1) ?_
  refine zb (uN 3 [.slice s1.sr.A s1.sr.l.length s1.sr.c,.slice s1.raw.A s1.raw.l.length s1.raw.c,.slice s1.fine.A s1.fine.l.length s1.fine.c,.slice s1.coarse.A s1.coarse.l.length s1.coarse.c,iV s1.zS,iV s1.zL,iV s1.zF,iV s1.zH,iV s1.zG] encShelfX rfl rfl hd1 hs1 rfl rfl agg50 inf50) (zz fun b7=>?_)
  refine (go 7) ?_
  have hw1:=hwf _ (List.mem_of_getElem? hs1)
  refine ze (fun _ h=>h.one 5 zC.Ok.loc rfl hs1) (l_callE (β:=zC) (fun z=>.tuple #[.agg (zW z).toArray,iV (g (zC.e s1)).2]) (fun z=>z.e=(g (zC.e s1)).1) (fun z S=>zC.Ok S z) (fun z=>zC.Ok.loc z) wn rfl rfl hf.call rfl (fun w1 Pb hM pp=>hf.run s1 w1 Pb pp.lt (pp.at_ 0 _ rfl) (pp.at_ 7 _ rfl)) fun z1 hz1=>yw 0 rfl (fun S w h=>zC.Ok.wf h) fun hw2=>?_)
  refine (go 3) (zz fun b8=>?_)
  refine (go 11) (zX (fun h2=>?_) fun h2=>?_)
  ·refine (go 13) (zY results70 fun w1 hM=>?_)
   have hb9:(Bs.each g x.e.zA).2=(g s1.e).2:=eachX_bad hs1 hI1.2.2.1 h2
   exact hM.yV x (by rw [hb9]) (by rw [hb9,if_pos h2]) (fun h=>h.sel [6,7,8,9] qD rfl)
  refine (go 5) ?_
  refine zy zW ([z1]:List zC) wn underlying23 inf50 rfl rfl rfl rfl qD qD rfl fun b31=>yI 6 zs ([z1]:List zC) encShelfX wn rfl rfl rfl (fun _ hM=>(RowSl encShelfX hM 0 rfl)) underlying23 inf50 rfl rfl (by simp only [qL]; omega) rfl fun A2 cp2 hc2 hm2 hA2=>ze (fun _ h=>h.allSnoc 5 2 zC.Ok.loc rfl rfl) ?_
  have hw3:∀ x ∈ (zs++([z1]:List zC)),zC.Wf x:=fun x hx=>(List.mem_append.1 hx).elim (hwz x) fun h=>by rw [List.mem_singleton.1 h]; exact hw2
  refine (go 7) ?_
  refine zU (yO (k + 1) (zs++([z1]:List zC)) (.slice A2 ((zs++([z1]:List zC)).length) cp2) (sc rfl (sc rfl (sc rfl (sc rfl (sc rfl (sc (ji qO) sn)))))) (S9 [0,7,8,9,10,11]) ?_ ?_)
  ·exact ⟨by omega,hw3,eachX_next hs1 hI1.2.2.1 h2 hz1,by rw [List.length_append,List.length_singleton]; omega⟩
  omega
 refine (go 21) (zY results70 fun w1 hM=>?_)
 have hb9:Bs.each g x.e.zA=(zs.map zC.e,0):=eachX_end hI1.2.2.1 qO
 exact hM.yV (⟨⟨A1,cp1,zs⟩,x.zO⟩:zq) (by rw [hb9]) (by rw [hb9]; rfl) (fun h=>h.sel [2,1,0,5] qD rfl)
end
end Go.Proofs.YtgojhpocpajmlaaGreatDoor
