/- Laws and walks for the proof of TopWords, packed by program; each theorem bears its own conditions. -/
import Derived.Lib.AtoiAll
import Derived.Lib.Strings
import Derived.KernelRfl
import Derived.Test.YtgojhpocpajmlaaGreatDoorProg
import Derived.Lib.AppendStr
import Derived.Lib.UnsafeStr
import Derived.Lib.Builder
import Derived.LaidEqlPtr
import Derived.Laws.Externs
import Derived.Lib.ItoaLen
import Derived.Lib.Join
import Derived.Lib.LaidTab
import Derived.Lib.Itoa
import Derived.Sort.Grow
import Derived.Shelf.Strings.Builder1
import Derived.Shelf.Strings.Builder2
import Derived.Shelf.Strings.OnBuilder
import Derived.Shelf.Strconv.Atoi
import Derived.Shelf.Strconv.Itoa0
import Derived.Shelf.Strconv.Itoa1
import Derived.Shelf.LaysM
import Derived.Shelf.Strconv.Itoa2
import Derived.Shelf.Strconv.Itoa3
import Derived.Shelf.Strconv.AtoiErrFast
import Derived.Shelf.Strconv.ParseIntEmpty
import Derived.Shelf.Strconv.AtoiFail
import Derived.Shelf.Strconv.Clone
import Derived.Shelf.Strconv.SyntaxError
import Derived.Shelf.LaysC
import Derived.Shelf.Strconv.ToError
import Derived.Shelf.Strconv.AtoiErr
import Derived.Shelf.Strconv.ErrVar
import Derived.Shelf.Strconv.Lower
import Derived.Shelf.Strconv.ParseUint10
import Derived.Shelf.Strconv.ParseUint10Empty
import Derived.Shelf.Strconv.ParseUint10Any
import Derived.Shelf.Strconv.ParseInt10
import Derived.Shelf.Strconv.AtoiLong
import Derived.Shelf.Strconv.AtoiInnerAll
import Derived.Shelf.Strconv.RangeError
import Derived.Shelf.Strconv.ToErrorRange
import Derived.Shelf.Strconv.AtoiAll
import Derived.Shelf.Strconv.ErrVarAll
import Derived.Shelf.Strings.Prefix
import Derived.Shelf.Slices.Turned
import Derived.Test.YtgojhpocpajmlaaGreatDoorKWrd2
namespace Go.Proofs.YtgojhpocpajmlaaGreatDoor
section
namespace Ex
set_option linter.unusedVariables false
def thrown (T:TypeId) (f:Pz.F):Value:=.iface T (.agg (List.toArray [.int .i64 f.1,.int .i64 f.2]))
@[reducible] def pan (T:TypeId) (f:Pz.F):List PanicEntry:=[{ v:=thrown T f,recovered:=false }]
def RetX {α:Type} (w:World) (A:List Own) (Pb:Nat→Prop) (PT:TypeId) (mk:α→Value) (pure:α→Prop) (A':α→List Own) (bad:Pz.F→Prop):Ending→World→Prop:=fun e w' =>
  RetA w A Pb mk pure A' e w'∨∃ f,e=.panicked (pan PT f)∧bad f∧Fr (fpOf A) w w'
section
variable {P:Program} {N:Nat} {D:List Deferred} {E E':Env} {S S':World→Prop} {Q:Exit→Act→World→Prop} {K:Act→World→Prop} {w0 w w':World} {M:Fp} {L A A' R:List Own} {Pb:Nat→Prop}
  {ops:Array Oper} {rest:List Oper} {d:Nat} {ty T PT:TypeId} {pos:String} {aft:Array Edge} {g:Option (Nat × Bool)} {v u:Value} {x y:Operand}
theorem Mem.dropA (h:Mem w0 M (A++R) w) (k:Fr (fpOf A) w w'):Mem w0 M R w':=by
  have hR:∀ (j:Nat) (o:Own),R[j]?=some o→(A++R)[A.length + j]?=some o:=fun j o hj=>by rw [List.getElem?_append_right qO]; simpa using hj
  have hfA:∀ b,fpOf A b→∃ (i:Nat) (o:Own),(A++R)[i]?=some o∧i < A.length∧o.mut=true∧o.fp b:=by
    rintro b ⟨o,ho,hm,hb⟩
    obtain ⟨i,hi,rfl⟩:=List.mem_iff_getElem.1 ho
    exact ⟨i,_,by rw [List.getElem?_append_left hi]; exact List.getElem?_eq_getElem hi,hi,hm,hb⟩
  have hRk:∀ (j:Nat) (o:Own),R[j]?=some o→∀ b,o.fp b→w'.heap[b]?=w.heap[b]?:=fun j o hj b hb=>k.block b ((h.ok _ o (hR j o hj)).2.1 b hb) fun hf=>by
    obtain ⟨i,o',hi,hil,hm,hb'⟩:=hfA b hf
    exact h.dj i _ o' o hi (hR j o hj) qO (.inl hm) b hb' hb
  have hsz:=k.size
  refine ⟨h.fr.trans k fun b hb hf=>?_,fun i o hi=>?_,fun i j o o' hi hj hij hmm=>h.dj _ _ o o' (hR i o hi) (hR j o' hj) qO hmm,?_⟩
  · obtain ⟨i,o',hi,_,hm,hb'⟩:=hfA b hf
    exact ((h.ok i o' hi).2.2 hm b hb').resolve_left qO
  · obtain ⟨a1,a2,a3⟩:=h.ok _ o (hR i o hi)
    exact ⟨Own.holds_keep a1 (hRk i o hi),fun b hb=>Nat.lt_of_lt_of_le (a2 b hb) hsz,a3⟩
  · obtain ⟨Pb,pp⟩:=h.pb
    refine ⟨Pb,pp.sub,fun b hb=>Nat.lt_of_lt_of_le (pp.lt b hb) hsz,fun i o hi=>pp.dj _ o (hR i o hi),fun i F hi=>?_⟩
    exact (h.ok _ _ (hR i _ hi)).1 Pb Pb w w' (fun _ h=>h) (fun b hb=>k.block b (pp.lt b hb) fun hf=>by
      obtain ⟨j,o',hj,_,hm,hb'⟩:=hfA b hf
      exact pp.dj j o' hj hm b hb hb') (pp.at_ _ F (hR i _ hi))
theorem zZ {α:Type} {f:Nat} {args:Array Operand} {ts:Array TypeId} {vs cap:List Value} (A R:List Own) (mk:α→Value) (pure:α→Prop) (A' L':α→List Own) (bad:Pz.F→Prop) (hL':∀ z,A' z++R=L' z) (hA:∀ w,Mem w0 M L w→Mem w0 M (A++R) w) (hq:∀ z,(A' z).all (fun o=>o.mut || o.isPub)=true)
    (hw:Want N D ops E g true) (hx:ev E x=some (.func (.func f) #[] cap.toArray)) (hargs:evs E args.toList=some vs)
    (hcall:∀ vs w,(callFunc f vs).run P w=.ok (.enter f vs) w) (hd:Nat.blt d N=true)
    (hc:∀ w Pb,Mem w ⟨fpOf A,Pb⟩ A w→Calls P f (vs++cap).toArray w (RetX w A Pb PT mk pure A' bad))
    (hb:∀ f,bad f→WE N D Q (.panic (pan PT f)) E (Mem w0 M R))
    (h:∀ z,pure z→WL P N D ops Q rest ((d,mk z)::E) (Mem w0 M (L' z))) :
    WL P N D ops Q (⟨some d,.call { callee:=.value x,args:=args,argTypes:=ts },ty,pos,aft,g⟩::rest) E (Mem w0 M L):=fun w hS a ha=>by
  unfold wpList
  rw [if_pos (hw _ rfl a ha)]
  left
  unfold Oper.wp
  rw [run_call ha hx hargs hcall rfl,Oper.upon_enter]
  have hS':=hA w hS
  obtain ⟨Pb,pp⟩:=hS'.pb
  have h9:=hc w Pb (hS'.give pp)
  rw [← List.append_toArray] at h9
  refine h9.mono ?_
  rintro e w' (⟨z,rfl,hz,hk⟩ | ⟨f,rfl,hf,hfr⟩)
  · exact h z hz w' (by rw [← hL' z]; exact hS'.take pp hk (hq z)) _ (ha.put _ hd)
  · exact hb f hf w' (hS'.dropA hfr) a ha
theorem Mem.vf {α:Type} {mk:α→Value} {pure:α→Prop} {A':α→List Own} {bad:Pz.F→Prop} (h:Mem w ⟨fpOf A,Pb⟩ L w') (z:α) (hv:v=mk z) (hz:pure z) (hs:Mem w ⟨fpOf A,Pb⟩ L w'→Mem w ⟨fpOf A,Pb⟩ (A' z) w'):RetX w A Pb PT mk pure A' bad (.returned v) w':=.inl (h.yR z hv hz hs)
theorem Mem.ze {α:Type} {mk:α→Value} {pure:α→Prop} {A':α→List Own} {bad:Pz.F→Prop} (h:Mem w ⟨fpOf A,Pb⟩ L w') (f:Pz.F) (hf:bad f):RetX w A Pb PT mk pure A' bad (.panicked (pan PT f)) w':=.inr ⟨f,rfl,hf,h.fr⟩
theorem zR {c:List PanicEntry} (h:WE N D Q (.panic c) E S):WE N D (Exit.then K Q) (.panic c) E S:=h
theorem yA {c:List PanicEntry} {id:Nat} (h:WE N D Q (.panic c) E S):WE N D (Exit.inBlock id Q) (.panic c) E S:=h
theorem yr {K:Exit→Act→World→Prop} {c:List PanicEntry} (hP:∀ c S',WE N D Q (.panic c) [] S'→∀ E',WE N D K (.panic c) E' S') (h:WE N D Q (.panic c) [] S):WE N D K (.panic c) E S:=hP c S h E
theorem zV {fn:Func} {R:Ending→World→Prop} {c:List PanicEntry} (h:∀ w,S w→R (.panicked c) w):WE N [] (bodyPost P fn R) (.panic c) E S:=fun w hw a ha=>⟨ha.d,h w hw⟩
section
variable {α β γ δ:Type} {c:List PanicEntry}
theorem vV {env:α→β→γ→δ→Env} {Lf:α→β→γ→δ→List Own} {inv:α→β→γ→δ→Prop} {μ:α→β→γ→δ→Nat} {m:Nat} (h:WE N D Q (.panic c) E S):WE N D (LQ4 N D w0 M env Lf inv μ m Q) (.panic c) E S:=h
theorem yV {ε:Type} {env:α→β→γ→δ→ε→Env} {Lf:α→β→γ→δ→ε→List Own} {inv:α→β→γ→δ→ε→Prop} {μ:α→β→γ→δ→ε→Nat} {m:Nat} (h:WE N D Q (.panic c) E S):WE N D (LQ5 N D w0 M env Lf inv μ m Q) (.panic c) E S:=h
end
theorem r_mkI {cs:List Value} (hx:ev E x=some (.agg cs.toArray)) (hT:P.concrete T=true):Runs P N D E S (.makeInterface T x) ty (.iface T (.agg cs.toArray)):=fun o ho _ a w ha _=>by
  unfold execOp; rw [ho]; simp [ha.eval hx,run_makeInterface _ T _ hT]
theorem l_panic (hw:Want N D ops E g true) (hx:ev E x=some (.iface T v)) (h:WE N D Q (.panic [{ v:=.iface T v,recovered:=false }]) E S):WL P N D ops Q (⟨none,.panic x,ty,pos,aft,g⟩::rest) E S:=fun w hS a ha=>by
  unfold wpList
  rw [if_pos (hw _ rfl a ha)]
  left
  unfold Oper.wp
  rw [show (execOp a.eval ⟨none,.panic x,ty,pos,aft,g⟩).run P w=.halt (.panic (.iface T v)) w from by unfold execOp; simp [ha.eval hx,Instr.panic,goPanic],Oper.upon_panic]
  exact h w hS a ha
theorem fp2 {p:Nat} {cs:List Value} {T:TypeId} {F:(Nat→Prop)→World→Prop} (b:Nat) (h:fpOf [.blk p cs T,.pub F] b):b=p:=by
  obtain ⟨o,ho,hm,hb⟩:=h
  rcases List.mem_cons.1 ho with rfl | ho
  · exact hb
  · rw [List.mem_singleton.1 ho] at hm; cases hm
theorem Mem.notP {o:Own} {i j p:Nat} {cs:List Value} (h:Mem w0 M L w) (hi:L[i]?=some o) (hj:L[j]?=some (.blk p cs T)) (hij:i≠j) (hm:o.mut=true) (hM:∀ b,M.m b→b=p):∀ b,o.fp b→w0.heap.size≤b∨M.p b:=fun b hb=>by
  rcases (h.ok i o hi).2.2 hm b hb with h1 | h1
  · exact .inl h1
  · exact absurd (show (Own.blk p cs T).fp b from hM b h1) (h.dj i j o _ hi hj hij (.inl hm) b hb)
theorem Mem.sealRowX {α:Type} {enc:α→List Value} {k p:Nat} {cs:List Value} {e:TypeId} {l:List α} (he:Enc enc k) (h:Mem w0 M L w) {i j:Nat} (hi:L[i]?=some (Row v e k enc l)) (hj:L[j]?=some (.blk p cs T)) (hM:∀ b,M.m b→b=p):Mem w0 M (L.set i (slP k enc v l)) w:=by
  have hij:i≠j:=by rintro rfl; rw [hi] at hj; cases hj
  refine h.jj hi rfl (h.notP hi hj hij rfl hM) (zD.loc _ _ _ _) fun Pb pp=>?_
  have hrow:=h.row hi
  obtain ⟨A,c,rfl,e2,e3,e4⟩:=row_form' hrow
  refine ⟨A,c,rfl,e2,by simpa [maxLen] using e3,fun hne=>?_⟩
  obtain ⟨ad,rfl⟩:=e4 hne
  have hb:(Value.slice (some ad) l.length c).ownBlock=some ad.block:=by
    rcases hrow.2 with ⟨h1,h2⟩ | ⟨gb,cap,cur,h1,_⟩
    · cases h1
    · injection h1 with h1 _ _; injection h1 with h1; subst h1; rfl
  refine ⟨ad,rfl,.inr hb,fun i' x hx j u hu=>?_⟩
  exact (RowSl he h i hi).cell rfl hx hu
theorem vB {α:Type} {enc:α→List Value} {k p:Nat} {cs:List Value} {e:TypeId} {l:List α} (i j:Nat) (he:Enc enc k) (hi:L[i]?=some (Row v e k enc l)) (hj:L[j]?=some (.blk p cs T)) (hM:∀ b,M.m b→b=p) (h:WL P N D ops Q rest E (Mem w0 M (L.set i (slP k enc v l)))):WL P N D ops Q rest E (Mem w0 M L) :=
  fun w hS=>h w (hS.sealRowX he hi hj hM)
theorem Mem.exprG (h:Mem w0 M L w) {k n r:Int} {wd:ByteArray} {ms:SlX Match} {bs:SlX ByteArray} {ks:SlX zB} (hm:∀ Pb,Pubs w0 M L w Pb→zD Pb 3 zl (.slice ms.A ms.l.length ms.c) ms.l w) (hb:∀ Pb,Pubs w0 M L w Pb→zD Pb 1 strE (.slice bs.A bs.l.length bs.c) bs.l w)
    (hk:∀ Pb,Pubs w0 M L w Pb→zD Pb 7 zk (.slice ks.A ks.l.length ks.c) ks.l w) (ha:∀ Pb,Pubs w0 M L w Pb→∀ x ∈ ks.l,zB.Ok Pb x w) (hw:wd.size≤100) (hms:∀ x ∈ ms.l,x.key.size≤100∧x.val.size≤100) (hbs:∀ x ∈ bs.l,x.size≤100) :
    Mem w0 M (okP zB.Ok (.mk k n r wd ms bs ks)::L) w :=
  h.yX (zB.Ok.loc _) fun Pb pp=>.mk (hm Pb pp) (hb Pb pp) (hk Pb pp) (ha Pb pp) ⟨Nat.le_trans hw qD,fun x hx=>⟨Nat.le_trans (hms x hx).1 qD,Nat.le_trans (hms x hx).2 qD⟩,fun x hx=>Nat.le_trans (hbs x hx) qD⟩
theorem l_as (d:Nat) (v:Value) (L:List Own) (h:WL P N D ops Q rest ((d,v)::E) (Mem w0 M L)):WL P N D ops Q rest ((d,v)::E) (Mem w0 M L):=h
theorem r_tassert {xT:TypeId} {fs:Array Field} (hx:ev E x=some (.iface T v)) (hT:P.underlying T=some (.struct fs)):Runs P N D E S (.typeAssert x xT T true) ty (.tuple (List.toArray [v,.bool true])):=fun o ho _ a w ha _=>by
  unfold execOp; rw [ho]; simp [ha.eval hx,Instr.typeAssert,run_underlying hT]
def isNil:Value→Bool
  | .nilIface=>true
  | _=>false
theorem run_ieq {ms:Array (String × TypeId)} (hT:P.underlying T=some (.interface ms)) (hv:v=.nilIface∨∃ t u,v=.iface t u) (d:Nat):(Op.equalIn (d + 1) T v .nilIface).run P w=.ok (isNil v) w:=by
  rcases hv with rfl | ⟨t,u,rfl⟩ <;> simp [Op.equalIn,run_underlying hT,isNil]
theorem r_ineq {ms:Array (String × TypeId)} {T':TypeId} (hx:ev E x=some v) (hv:v=.nilIface∨∃ t u,v=.iface t u) (hT:P.underlying T=some (.interface ms)):Runs P N D E S (.binOp .neq T x (.const .nilIface) T') ty (.bool (!(isNil v))):=fun o ho _ a w ha _=>by
  have h:=run_ieq (w:=w) hT hv 9999
  have hy:a.eval (.const .nilIface)=.nilIface:=rfl
  unfold execOp; rw [ho]
  rcases hv with rfl | ⟨t,u,rfl⟩ <;> simp [ha.eval hx,hy,eqGuard,binOp,Op.equal,Op.maxDepth,h]
theorem r_ieq {ms:Array (String × TypeId)} {T':TypeId} (hx:ev E x=some v) (hv:v=.nilIface∨∃ t u,v=.iface t u) (hT:P.underlying T=some (.interface ms)):Runs P N D E S (.binOp .eql T x (.const .nilIface) T') ty (.bool (isNil v)):=fun o ho _ a w ha _=>by
  have h:=run_ieq (w:=w) hT hv 9999
  have hy:a.eval (.const .nilIface)=.nilIface:=rfl
  unfold execOp; rw [ho]
  rcases hv with rfl | ⟨t,u,rfl⟩ <;> simp [ha.eval hx,hy,eqGuard,binOp,Op.equal,Op.maxDepth,h]
end
def VarI (P:Program) (name:String) (S:Nat→Prop) (w:World):Prop:=(∀ g,P.globalNamed name=some g→S g)∧∃ tp p,w.var? P name=some #[.iface tp p]
theorem VarI.loc (P:Program) (name:String):Loc (VarI P name):=fun S S' u u' hs hk h=>by
  obtain ⟨h1,tp,p,h2⟩:=h
  refine ⟨fun g hg=>hs _ (h1 g hg),tp,p,?_⟩
  unfold World.var? at h2 ⊢
  cases hg:P.globalNamed name with
  | none=>rw [hg] at h2; cases h2
  | some g=>rw [hg] at h2; simp only [Option.bind_some] at h2 ⊢; rw [hk _ (h1 g hg)]; exact h2
end Ex
namespace Pz
open Ex
theorem rest_ext (s:ByteArray) (j:Nat):(s.extract j s.size).data.toList=rest s j:=by
  unfold rest
  rw [ByteArray.data_extract,Array.toList_extract,List.extract_eq_take_drop]
  exact List.take_of_length_le (by rw [List.length_drop,size_l]; exact Nat.le_refl _)
theorem pfx_ext (s sg:ByteArray) (j:Nat):Go.Lib.hasPrefix (s.extract j s.size).data.toList sg.data.toList=pfx s sg j:=by unfold Go.Lib.hasPrefix pfx; rw [rest_ext]
theorem eat_yes {s sg:ByteArray} {i j:Nat} (hj:blank s i=j) (h:pfx s sg j=true):eat s sg i=(true,j + sg.size):=by unfold eat; rw [hj,if_pos h]
theorem eat_no {s sg:ByteArray} {i j:Nat} (hj:blank s i=j) (h:¬ pfx s sg j=true):eat s sg i=(false,j):=by unfold eat; rw [hj,if_neg h]
theorem ext_size (s:ByteArray) {i j:Nat} (h:j≤s.size):(s.extract i j).size=j - i:=by rw [ByteArray.size_extract]; omega
theorem word_ok {s:ByteArray} {i j k:Nat} {n:Int} (hj:blank s i=j) (hk:wend s j=k) (h:¬ (12:Int) < ((s.extract j k).size:Int)) (hs:k≤s.size):word s ⟨i,n⟩=.ok (s.extract j k,⟨k,n⟩):=by
  unfold word
  show (if 12 < wend s (blank s i) - blank s i then _ else _)=_
  rw [hj,hk,if_neg (by rw [ext_size s hs] at h; omega)]; rfl
theorem word_no {s:ByteArray} {i j k:Nat} {n:Int} (hj:blank s i=j) (hk:wend s j=k) (h:(12:Int) < ((s.extract j k).size:Int)) (hs:k≤s.size):word s ⟨i,n⟩=.no (7,j):=by
  unfold word
  show (if 12 < wend s (blank s i) - blank s i then _ else _)=_
  rw [hj,hk,if_pos (by rw [ext_size s hs] at h; omega)]
theorem word_size {s:ByteArray} {t:St} {x:ByteArray × St} (ht:t.at_≤s.size) (h:word s t=.ok x):x.1.size≤12:=by
  unfold word at h
  split at h
  · cases h
  · rename_i h1
    obtain rfl:=Res.ok.inj h
    show (s.extract _ _).size≤12
    rw [ext_size s (wend_le (blank_le ht).2).2]; omega
theorem name_size {s:ByteArray} {t:St} {x:ByteArray × St} (ht:t.at_≤s.size) (h:name s t=.ok x):x.1.size≤12:=by
  unfold name at h
  cases hw:word s t with
  | no f=>rw [hw] at h; cases h
  | ok y =>
    rw [hw,then_ok] at h
    split at h
    · cases h
    · obtain rfl:=Res.ok.inj h; exact word_size ht hw
theorem empty_size:(⟨#[]⟩:ByteArray).size≤12:=by decide
theorem then_some {α β:Type} {x:Res α} {g:α→Res β} {b:β} (h:x.then g=.ok b):∃ a,x=.ok a∧g a=.ok b:=by
  cases x with
  | no f=>cases h
  | ok a=>exact ⟨a,rfl,h⟩
theorem match_size {s:ByteArray} {t:St} {x:Match × St} (ht:t.at_≤s.size) (h:match_ s t=.ok x):x.1.key.size≤12∧x.1.val.size≤12:=by
  unfold match_ at h
  have h0:=(eat_le ⟨#[33]⟩ ht).2
  split at h
  · obtain ⟨a,h1,h2⟩:=then_some h
    obtain rfl:=Res.ok.inj h2
    exact ⟨name_size (t:=t.go _) h0 h1,empty_size⟩
  · obtain ⟨a,h1,h2⟩:=then_some h
    have hn:=name_size (t:=t.go _) h0 h1
    have ha:a.2.at_≤s.size:=((name_go h0).ok_ h1).at_
    split at h2
    · obtain ⟨b,h3,h4⟩:=then_some h2
      obtain rfl:=Res.ok.inj h4
      exact ⟨hn,name_size (t:=a.2.go _) (eat_le _ ha).2 h3⟩
    · split at h2
      · obtain ⟨b,h3,h4⟩:=then_some h2
        obtain rfl:=Res.ok.inj h4
        exact ⟨hn,name_size (t:=a.2.go _) (eat_le _ (eat_le _ ha).2).2 h3⟩
      · obtain rfl:=Res.ok.inj h2
        exact ⟨hn,empty_size⟩
def fold (n:Nat) (l:List UInt8):Nat:=l.foldl (fun n b=>10 * n + (b.toNat - 48)) n
theorem fold_ge:∀ (l:List UInt8) (n:Nat),n≤fold n l
  | [],n=>Nat.le_refl _
  | c::l,n=>by have:=fold_ge l (10 * n + (c.toNat - 48)); unfold fold at this ⊢; rw [List.foldl_cons]; omega
theorem parse_dig:∀ (l:List UInt8) (acc:Nat),(∀ c ∈ l,48≤c.toNat∧c.toNat≤57)→acc < 18446744073709551616→(Go.Lib.parseUint10 acc l=.ok (fold acc l)∧fold acc l < 18446744073709551616)∨(Go.Lib.parseUint10 acc l=.range∧18446744073709551616≤fold acc l)
  | [],acc,_,h=>.inl ⟨rfl,h⟩
  | c :: l, acc, hc, h => by
    have h1:=hc c (List.mem_cons_self ..)
    have hf:fold acc (c::l)=fold (acc * 10 + (c.toNat - 48)) l:=by unfold fold; rw [List.foldl_cons,Nat.mul_comm]
    simp only [Go.Lib.parseUint10,if_pos h1]
    by_cases g1:1844674407370955162≤acc
    · rw [if_pos g1]
      refine .inr ⟨rfl,?_⟩
      have:=fold_ge l (acc * 10 + (c.toNat - 48))
      rw [hf]; omega
    · rw [if_neg g1]
      by_cases g2:18446744073709551616≤acc * 10 + (c.toNat - 48)
      · rw [if_pos g2]
        have:=fold_ge l (acc * 10 + (c.toNat - 48))
        exact .inr ⟨rfl,by rw [hf]; omega⟩
      · rw [if_neg g2,hf]
        exact parse_dig l _ (fun x hx=>hc x (List.mem_cons_of_mem _ hx)) qO
theorem atoi_dig {l:List UInt8} (hl:l≠[]) (hc:∀ c ∈ l,48≤c.toNat∧c.toNat≤57):(Go.Lib.atoiAll l=.ok (dval l:Int)∧dval l < 9223372036854775808)∨(Go.Lib.atoiAll l=.range∧9223372036854775808≤dval l):=by
  cases l with
  | nil=>exact absurd rfl hl
  | cons c r =>
    have h1:=hc c (List.mem_cons_self ..)
    have hp:=parse_dig (c::r) 0 hc qD
    have hd:fold 0 (c::r)=dval (c::r):=rfl
    rw [hd] at hp
    have h43:¬ (c.toNat=43∨c.toNat=45):=qO
    have h45:¬ (c.toNat=45):=qO
    unfold Go.Lib.atoiAll
    simp only [if_neg h43,Go.Lib.parseMag,if_neg hl]
    rcases hp with ⟨e,hlt⟩ | ⟨e,hle⟩
    · rw [e]
      simp only [h45,not_false_eq_true,true_and,false_and,if_false]
      by_cases g:9223372036854775808≤dval (c::r)
      · rw [if_pos g]; exact .inr ⟨rfl,g⟩
      · rw [if_neg g]; exact .inl ⟨rfl,by omega⟩
    · rw [e]; exact .inr ⟨rfl,by omega⟩
theorem take_dig:∀ (l:List UInt8) (c:UInt8),c ∈ l.takeWhile dig→48≤c.toNat∧c.toNat≤57
  | b :: l, c, h => by
    rw [List.takeWhile_cons] at h
    split at h
    · rename_i hb
      rcases List.mem_cons.1 h with rfl | h
      · simpa [dig] using hb
      · exact take_dig l c h
    · cases h
theorem ext_take (s:ByteArray) (j:Nat) (p:UInt8→Bool):(s.extract j (run p s j)).data.toList=(rest s j).takeWhile p:=by
  rw [ByteArray.data_extract,Array.toList_extract,List.extract_eq_take_drop]
  unfold run rest
  rw [show j + ((s.data.toList.drop j).takeWhile p).length - j=((s.data.toList.drop j).takeWhile p).length by omega]
  exact (List.prefix_iff_eq_take.1 (List.takeWhile_prefix p)).symm
theorem ext_dig {s:ByteArray} {j k:Nat} (hk:run dig s j=k):∀ c ∈ (s.extract j k).data.toList,48≤c.toNat∧c.toNat≤57:=fun c hc=>by
  subst hk; rw [ext_take] at hc; exact take_dig _ c hc
theorem sat_dig {l:List UInt8} (hd:∀ c ∈ l,48≤c.toNat∧c.toNat≤57):Go.Lib.atoiSat l=9223372036854775807:=by
  unfold Go.Lib.atoiSat
  cases l with
  | nil=>rfl
  | cons c r =>
    have:=hd c (List.mem_cons_self ..)
    rw [if_neg]
    intro h
    simp at h
    omega
def AtoiR (l:List UInt8) (z:Int × Value):Prop:=(z.2=.nilIface∧z.1=(dval l:Int))∨((∃ u v,z.2=.iface u v)∧z.1=9223372036854775807∧9223372036854775808≤dval l)
theorem AtoiR.ifc {l:List UInt8} {z:Int × Value} (h:AtoiR l z):z.2=.nilIface∨∃ t u,z.2=.iface t u:=h.imp (·.1) (·.1)
theorem AtoiR.bad {l:List UInt8} {z:Int × Value} (h:AtoiR l z) (most:Int) (hm:most≤9223372036854775806) (hn:((!(isNil z.2))=true∨most < z.1)):most < (dval l:Int):=by
  rcases h with ⟨h1,h2⟩ | ⟨⟨u,v,h1⟩,h2,h3⟩
  · rcases hn with hn | hn
    · rw [h1] at hn; cases hn
    · rw [← h2]; exact hn
  · omega
theorem AtoiR.good {l:List UInt8} {z:Int × Value} (h:AtoiR l z) (hn:¬ (!(isNil z.2))=true):z.1=(dval l:Int):=by
  rcases h with ⟨h1,h2⟩ | ⟨⟨u,v,h1⟩,h2,h3⟩
  · exact h2
  · rw [h1] at hn; exact absurd rfl hn
theorem num_form {s:ByteArray} {i j k:Nat} {n:Int} (least most:Int) (hj:blank s i=j) (hk:run dig s j=k) (h:(k:Int)=(j:Int)):num s least most ⟨i,n⟩=.no (2,j):=by
  unfold num
  show (if run dig s (blank s i)=blank s i then _ else _)=_
  rw [hj,hk,if_pos qO]
theorem num_no {s:ByteArray} {i j k:Nat} {n least most:Int} (hj:blank s i=j) (hk:run dig s j=k) (h:¬ (k:Int)=(j:Int)) (hb:badNum s least most j):num s least most ⟨i,n⟩=.no (3,j):=by
  unfold num
  show (if run dig s (blank s i)=blank s i then _ else _)=_
  rw [hj,hk,if_neg qO,if_pos hb]
theorem num_ok {s:ByteArray} {i j k:Nat} {n least most:Int} (hj:blank s i=j) (hk:run dig s j=k) (h:¬ (k:Int)=(j:Int)) (hb:¬ badNum s least most j):num s least most ⟨i,n⟩=.ok (numAt s j,⟨k,n⟩):=by
  unfold num
  show (if run dig s (blank s i)=blank s i then _ else _)=_
  rw [hj,hk,if_neg qO,if_neg hb]; rfl
theorem num_at {s:ByteArray} {j k:Nat} (hk:run dig s j=k):numAt s j=(dval (s.extract j k).data.toList:Int):=by subst hk; rfl
theorem atoi_lt {s:ByteArray} {j k:Nat} (h:(k:Int)≠(j:Int)) (hk:run dig s j=k) (hs:k≤s.size):(s.extract j k).data.toList≠[]:=fun e=>by
  have h1:=ext_size s (i:=j) hs
  have h2:(s.extract j k).size=(s.extract j k).data.toList.length:=(size_l _).symm
  rw [e] at h2
  have h3:j≤k:=by subst hk; unfold run; omega
  simp at h2; omega
theorem num_bad {s:ByteArray} {j k:Nat} {least most:Int} {z:Int × Value} (hk:run dig s j=k) (hz:AtoiR (s.extract j k).data.toList z) (hm:most≤9223372036854775806) (h:(!(isNil z.2))=true∨z.1 < least∨most < z.1∨(s[j]?=some 48∧(j:Int) + 1 < (k:Int))):badNum s least most j:=by
  unfold badNum
  rw [num_at hk]
  rcases h with h | h | h | ⟨h1,h2⟩
  · exact .inr (.inl (hz.bad most hm (.inl h)))
  · rcases hz with ⟨h1,h2⟩ | ⟨h1,h2,h3⟩
    · exact .inl (by rw [← h2]; exact h)
    · exact .inr (.inl qO)
  · exact .inr (.inl (hz.bad most hm (.inr h)))
  · exact .inr (.inr ⟨h1,by rw [hk]; omega⟩)
theorem num_good {s:ByteArray} {j k:Nat} {least most:Int} {z:Int × Value} (hk:run dig s j=k) (hz:AtoiR (s.extract j k).data.toList z) (h1:¬ (!(isNil z.2))=true) (h2:¬ z.1 < least) (h3:¬ most < z.1) (h4:¬ (s[j]?=some 48∧(j:Int) + 1 < (k:Int))):¬ badNum s least most j∧numAt s j=z.1:=by
  have hg:=hz.good h1
  unfold badNum
  rw [num_at hk,← hg]
  refine ⟨?_,rfl⟩
  rintro (h | h | ⟨h5,h6⟩)
  · exact h2 h
  · exact h3 h
  · exact h4 ⟨h5,by rw [hk] at h6; omega⟩
theorem at48 {s:ByteArray} {j:Nat} {c:UInt8} (h:s[j]?=some c) (hc:(c.toNat:Int)=48):s[j]?=some 48:=by
  rw [h]
  have:c=48:=by
    apply UInt8.toNat_inj.1
    show c.toNat=48
    omega
  rw [this]
theorem not48 {s:ByteArray} {j:Nat} {c:UInt8} (h:s[j]?=some c) (hc:¬ (c.toNat:Int)=48) {q:Prop}:¬ (s[j]?=some 48∧q):=fun g=>by
  rw [h] at g
  injection g.1 with g1
  subst g1
  exact hc rfl
theorem node_yes {i:Nat} {n:Int} (h:n + 1≤100):node ⟨i,n⟩=.ok ⟨i,n + 1⟩:=by unfold node; rw [if_neg (by show ¬ 100 < n + 1; omega)]
theorem node_no {i:Nat} {n:Int} (h:100 < n + 1):node ⟨i,n⟩=.no (4,i):=by unfold node; rw [if_pos (by show 100 < n + 1; exact h)]
theorem win_done {X:Res (List Match × St)} {s:ByteArray} {q k j:Nat} {m:Int} {ms:List Match} (hX:X=winL s (q + 1) ms ⟨k,m⟩) (he:eat s ⟨#[125]⟩ k=(true,j)):X=.ok (ms,⟨j,m⟩):=by
  rw [hX,winL]; simp only [he,if_true,St.go]
theorem win_more {X:Res (List Match × St)} {s:ByteArray} {q k j:Nat} {m:Int} {ms:List Match} (hX:X=winL s (q + 1) ms ⟨k,m⟩) (he:eat s ⟨#[125]⟩ k=(false,j)):X=(if 0 < ms.length then must s ⟨#[44]⟩ ⟨j,m⟩ else .ok ⟨j,m⟩).then fun u=>if ms.length=5 then .no (5,u.at_) else (match_ s u).then fun x=>winL s q (ms++[x.1]) x.2:=by
  rw [hX,winL]; simp only [he,if_false,St.go,Bool.false_eq_true]
theorem win_sep {s:ByteArray} {j:Nat} {m:Int} {ms:List Match} (h:¬ (0:Int) < (ms.length:Int)):(if 0 < ms.length then must s ⟨#[44]⟩ ⟨j,m⟩ else .ok ⟨j,m⟩)=.ok ⟨j,m⟩:=if_neg qO
theorem win_sep' {s:ByteArray} {j:Nat} {m:Int} {ms:List Match} {r:Res St} (h:(0:Int) < (ms.length:Int)) (he:must s ⟨#[44]⟩ ⟨j,m⟩=r):(if 0 < ms.length then must s ⟨#[44]⟩ ⟨j,m⟩ else .ok ⟨j,m⟩)=r:=by rw [if_pos qO,he]
theorem win_next {X:Res (List Match × St)} {s:ByteArray} {q:Nat} {ms:List Match} {a:Res St} {u:St} {r:Res (Match × St)} (hX:X=a.then fun u=>if ms.length=5 then .no (5,u.at_) else (match_ s u).then fun x=>winL s q (ms++[x.1]) x.2) (ha:a=.ok u) (h5:¬ (ms.length:Int)=5) (hm:match_ s u=r):X=r.then fun x=>winL s q (ms++[x.1]) x.2:=by
  rw [hX,ha,then_ok,if_neg qO,hm]
theorem win_many {X:Res (List Match × St)} {s:ByteArray} {q:Nat} {ms:List Match} {a:Res St} {u:St} (hX:X=a.then fun u=>if ms.length=5 then .no (5,u.at_) else (match_ s u).then fun x=>winL s q (ms++[x.1]) x.2) (ha:a=.ok u) (h5:(ms.length:Int)=5):X=.no (5,u.at_):=by
  rw [hX,ha,then_ok,if_pos qO]
theorem winL_size {s:ByteArray}:∀ (q:Nat) {ms:List Match} {t:St} {x:List Match × St},t.at_≤s.size→winL s q ms t=.ok x→(∀ m ∈ ms,m.key.size≤12∧m.val.size≤12)→∀ m ∈ x.1,m.key.size≤12∧m.val.size≤12
  | 0,_,_,_,_,h,_=>by cases h
  | q + 1, ms, t, x, ht, h, hms => by
    rw [winL] at h
    split at h
    · obtain rfl:=Res.ok.inj h; exact hms
    · obtain ⟨u,h1,h2⟩:=then_some h
      have h0:=(eat_le (s:=s) ⟨#[125]⟩ ht).2
      have hu:u.at_≤s.size:=by
        split at h1
        · exact ((must_fine (t:=t.go _) _ h0).ok_ h1).at_
        · obtain rfl:=Res.ok.inj h1; exact h0
      split at h2
      · cases h2
      · obtain ⟨y,h3,h4⟩:=then_some h2
        have hy:=match_size hu h3
        refine winL_size q ((match_fine hu).ok_ h3).at_ h4 fun m hm=>?_
        rcases List.mem_append.1 hm with hm | hm
        · exact hms m hm
        · rw [List.mem_singleton.1 hm]; exact hy
theorem by_done {X:Res (List ByteArray × St)} {s:ByteArray} {q k j:Nat} {m:Int} {l:List ByteArray} (hX:X=byL s (q + 1) l ⟨k,m⟩) (he:eat s ⟨#[44]⟩ k=(false,j)):X=.ok (l,⟨j,m⟩):=by
  rw [hX,byL]; simp only [he,if_false,St.go,Bool.false_eq_true]
theorem by_many {X:Res (List ByteArray × St)} {s:ByteArray} {q k j:Nat} {m:Int} {l:List ByteArray} (hX:X=byL s (q + 1) l ⟨k,m⟩) (he:eat s ⟨#[44]⟩ k=(true,j)) (h4:(l.length:Int)=4):X=.no (5,j):=by
  rw [hX,byL]; simp only [he,if_true]; rw [if_pos qO]
theorem by_next {X:Res (List ByteArray × St)} {s:ByteArray} {q k j:Nat} {m:Int} {l:List ByteArray} {r:Res (ByteArray × St)} (hX:X=byL s (q + 1) l ⟨k,m⟩) (he:eat s ⟨#[44]⟩ k=(true,j)) (h4:¬ (l.length:Int)=4) (hr:name s ⟨j,m⟩=r):X=r.then fun x=>byL s q (l++[x.1]) x.2:=by
  rw [hX,byL]; simp only [he,if_true,St.go]; rw [if_neg qO,hr]
theorem byL_size {s:ByteArray}:∀ (q:Nat) {l:List ByteArray} {t:St} {x:List ByteArray × St},t.at_≤s.size→byL s q l t=.ok x→(∀ m ∈ l,m.size≤12)→∀ m ∈ x.1,m.size≤12
  | 0,_,_,_,_,h,_=>by cases h
  | q + 1, l, t, x, ht, h, hl => by
    rw [byL] at h
    have h0:=(eat_le (s:=s) ⟨#[44]⟩ ht).2
    split at h
    · split at h
      · cases h
      · obtain ⟨y,h3,h4⟩:=then_some h
        have hy:=name_size (t:=t.go _) h0 h3
        refine byL_size q ((name_go h0).ok_ h3).at_ h4 fun m hm=>?_
        rcases List.mem_append.1 hm with hm | hm
        · exact hl m hm
        · rw [List.mem_singleton.1 hm]; exact hy
    · obtain rfl:=Res.ok.inj h; exact hl
section
variable {X:Res (Expr × St)} {s:ByteArray} {sub:St→Res (Expr × St)} {signs:List ByteArray} {q k j:Nat} {m:Int} {e:Expr} {wd:ByteArray}
theorem bin_done (hX:X=binL s sub signs (q + 1) e ⟨k,m⟩) (hp:pick s signs k=(⟨#[]⟩,j)):X=.ok (e,⟨j,m⟩):=by
  rw [hX,binL]; simp only [hp,if_true,St.go]
theorem bin_next {r:Res (Expr × St)} (hX:X=binL s sub signs (q + 1) e ⟨k,m⟩) (hp:pick s signs k=(wd,j)) (hw:wd≠⟨#[]⟩) (hr:sub ⟨j,m⟩=r):X=r.then fun f=>(node f.2).then fun u=>binL s sub signs q (.mk 4 0 0 wd [] [] [e,f.1]) u:=by
  rw [hX,binL]; simp only [hp,if_neg hw,St.go,hr]
theorem star1 {j:Nat} (h:eat s ⟨#[42]⟩ k=(true,j)):pick s star k=(⟨#[42]⟩,j):=by unfold star; simp only [pick,h,if_true]
theorem star0 {j:Nat} (h:eat s ⟨#[42]⟩ k=(false,j)):pick s star k=(⟨#[]⟩,j):=by unfold star; simp only [pick,h,if_false,Bool.false_eq_true]
theorem plus1 {j:Nat} (h:eat s ⟨#[43]⟩ k=(true,j)):pick s plus k=(⟨#[43]⟩,j):=by unfold plus; simp only [pick,h,if_true]
theorem minus1 {j j':Nat} (h:eat s ⟨#[43]⟩ k=(false,j)) (h':eat s ⟨#[45]⟩ j=(true,j')):pick s plus k=(⟨#[45]⟩,j'):=by unfold plus; simp only [pick,h,h',if_true,if_false,Bool.false_eq_true]
theorem plus0 {j j':Nat} (h:eat s ⟨#[43]⟩ k=(false,j)) (h':eat s ⟨#[45]⟩ j=(false,j')):pick s plus k=(⟨#[]⟩,j'):=by unfold plus; simp only [pick,h,h',if_false,Bool.false_eq_true]
end
theorem okZero (S:Nat→Prop) (w:World):zB.Ok S (.mk 0 0 0 ⟨#[]⟩ ⟨none,0,[]⟩ ⟨none,0,[]⟩ ⟨none,0,[]⟩) w :=
  .mk (zD.zu _ _ _ _) (zD.zu _ _ _ _) (zD.zu _ _ _ _) (fun x hx=>by cases hx) ⟨by decide,fun x hx=>(by cases hx),fun x hx=>(by cases hx)⟩
theorem parse_big {s:ByteArray} (h:(2000:Int) < (s.size:Int)):parse s=(none_,(4,0)):=if_pos qO
theorem parse_no {s:ByteArray} {f:F} (h:¬ (2000:Int) < (s.size:Int)) (hx:xpr s 20 ⟨0,0⟩=.no f):parse s=(none_,f):=by unfold parse; rw [if_neg qO,hx]
theorem parse_form {s:ByteArray} {x:Expr} {j k:Nat} {m:Int} (h:¬ (2000:Int) < (s.size:Int)) (hx:xpr s 20 ⟨0,0⟩=.ok (x,⟨j,m⟩)) (hb:blank s j=k) (hk:k < s.size):parse s=(none_,((2:Int),(k:Int))):=by
  unfold parse; rw [if_neg qO,hx]; simp only [hb,if_pos hk]
theorem parse_much {s:ByteArray} {x:Expr} {j k:Nat} {m:Int} (h:¬ (2000:Int) < (s.size:Int)) (hx:xpr s 20 ⟨0,0⟩=.ok (x,⟨j,m⟩)) (hb:blank s j=k) (hk:¬ k < s.size) (hw:(Lg.shape x 1 0).1≠0):parse s=(none_,((4:Int),(k:Int))):=by
  unfold parse; rw [if_neg qO,hx]; simp only [hb,if_neg hk]; rw [if_pos (show Lg.wrong x≠0 from hw)]
theorem parse_ok {s:ByteArray} {x:Expr} {j k:Nat} {m:Int} (h:¬ (2000:Int) < (s.size:Int)) (hx:xpr s 20 ⟨0,0⟩=.ok (x,⟨j,m⟩)) (hb:blank s j=k) (hk:¬ k < s.size) (hw:¬ (Lg.shape x 1 0).1≠0):parse s=(x,(0,0)):=by
  unfold parse; rw [if_neg qO,hx]; simp only [hb,if_neg hk]; rw [if_neg (show ¬ Lg.wrong x≠0 from hw)]
end Pz
end
section
namespace Ex
class FlatI (P:Program) (T:TypeId):Prop where h:flatT P T=true
class AggI (P:Program) (T:TypeId):Prop where h:aggT P T=true
class InfI (P:Program) (T:TypeId) (k b:outParam Nat) (z:outParam Value):Prop where h:Inf P T k b z
class FldI (P:Program) (T fs:Nat) (o:outParam Nat):Prop where h:fldAt P T fs=some o
class PlI (P:Program) (T:TypeId) (l:outParam (List (Nat × Nat))):Prop where h:placesOf P T=some l
class SliI (P:Program) (T:TypeId) (e:outParam TypeId):Prop where h:P.underlying T=some (.slice e)
class StrI (P:Program) (T:TypeId):Prop where h:P.underlying T=some .string
class MixI (P:Program):Prop where h:P.follows .mixedOrders=true
section
variable {P:Program} {N:Nat} {D:List Deferred} {E:Env} {S:World→Prop} {Q:Exit→Act→World→Prop} {w0:World} {M:Fp} {L:List Own} {ops:Array Oper} {rest:List Oper} {T ty:TypeId} {v u:Value} {x y:Operand} {op:Op}
  {α:Type} {Sb:Nat→Prop} {k:Nat} {enc:α→List Value} {l:List α} {A:Option Addr} {c len:Nat} {ad:Addr}
def Th (P:Program) (y:Code) (Q:Exit→Act→World→Prop):Exit→Act→World→Prop:=Exit.then (fun a w=>y.wp P Q a w) Q
theorem c_sq {x y:Code} (h:WC P N D x (Th P y Q) E S):WC P N D (.seq x y) Q E S:=fun w hw a ha=>wp_seq (h w hw a ha)
theorem e_gT {y:Code} (h:WC P N D y Q E S):WE N D (Th P y Q) .normal E S:=fun w hw a ha=>h w hw a ha
def Tl (P:Program) (ops:Array Oper) (Q:Exit→Act→World→Prop) (l:List Oper):Act→World→Prop:=fun a w=>wpList P ops Q l a w
theorem vE {id:Nat} {l:List Oper} (n:Nat) (h:WQ P N D l.toArray (Tl P l.toArray Q (l.drop n)) (l.take n) E S) (hB:Region.lexTailB .any l.toArray n=true:=by kernel_rfl) (hm:P.follows .mixedOrders=true:=by exact MixI.h) (hd:∀ w,S w→S w.drew:=by exact fun _ h=>h.drew):WC P N D (.region id l.toArray true) Q E S :=
  fun w hw a ha=>wp_region_quiet_tail (C:=S) n hm hB (hd w hw) (h a ha)
theorem q_tl (h:WL P N D ops Q rest E S):WQ P N D ops (Tl P ops Q rest) [] E S:=q_nil fun w hw a ha=>h w hw a ha
theorem bx0 {o:Own}:(o::L)[0]?=some o:=rfl
theorem bxS {i:Nat} {o p:Own} (h:L[i]?=some o):(p::L)[i + 1]?=some o:=by simpa using h
theorem r_lbw (i:Nat) {b k1 by1:Nat} {z1:Value} {cs:List Value} {t:TypeId} (hx:ev E x=some (.pointer (some ⟨b,0,none⟩))) (hL:L[i]?=some (.blk b cs t)) (hl:cs.length=k1) (hg:aggT P T=true) (hs:Inf P T k1 by1 z1) :
    Runs P N D E (Mem w0 M L) (.load T x) ty (.agg cs.toArray):=ja i cs hx hL (by subst hl; simp) hl hg hs
theorem r_ldbw (i:Nat) {b k1 by1:Nat} {z1:Value} {cs:List Value} {t:TypeId} (hx:ev E x=some (.pointer (some ⟨b,0,none⟩))) (hL:L[i]?=some (datB b cs t)) (hl:cs.length=k1) (hg:aggT P T=true) (hs:Inf P T k1 by1 z1) :
    Runs P N D E (Mem w0 M L) (.load T x) ty (.agg cs.toArray):=r_ldbn i cs hx hL (by subst hl; simp) hl hg hs
theorem r_pl' (q:Nat) {i j:Nat} {e:α} (hx:ev E x=some (.pointer (some ((ad.add (i * k)).add j)))) (hA:A=some ad) (hL:L[q]?=some (slP k enc (.slice A len c) l)) (hi:l[i]?=some e) (hj:(enc e)[j]?=some u) (hf:flatT P T=true):Runs P N D E (Mem w0 M L) (.load T x) ty u:=r_pl q hx hL hA hi hj hf
theorem r_el' (q:Nat) {i j:Nat} {e:α} (hx:ev E x=some (.pointer (some ((ad.add (i * k)).add j)))) (hA:A=some ad) (hL:L[q]?=some (slO Sb k enc (.slice A len c) l)) (hi:l[i]?=some e) (hj:(enc e)[j]?=some u) (hf:flatT P T=true):Runs P N D E (Mem w0 M L) (.load T x) ty u:=r_el q hx hL hA hi hj hf
theorem r_plw (q:Nat) {i k1 by1:Nat} {z1:Value} {e:α} (hx:ev E x=some (.pointer (some ((ad.add (i * k)).add 0)))) (hA:A=some ad) (hL:L[q]?=some (slP k enc (.slice A len c) l)) (hi:l[i]?=some e) (hl:(enc e).length=k1) (hg:aggT P T=true) (hs:Inf P T k1 by1 z1) :
    Runs P N D E (Mem w0 M L) (.load T x) ty (.agg (enc e).toArray):=jc q (enc e) hx hL hA hi (by subst hl; simp) hl hg hs
theorem r_elw (q:Nat) {i k1 by1:Nat} {z1:Value} {e:α} (hx:ev E x=some (.pointer (some ((ad.add (i * k)).add 0)))) (hA:A=some ad) (hL:L[q]?=some (slO Sb k enc (.slice A len c) l)) (hi:l[i]?=some e) (hl:(enc e).length=k1) (hg:aggT P T=true) (hs:Inf P T k1 by1 z1) :
    Runs P N D E (Mem w0 M L) (.load T x) ty (.agg (enc e).toArray):=r_eln q (enc e) hx hL hA hi (by subst hl; simp) hl hg hs
theorem r_pln' (q:Nat) {i j k1 by1:Nat} {z1:Value} {e:α} {vs:List Value} (hx:ev E x=some (.pointer (some ((ad.add (i * k)).add j)))) (hA:A=some ad) (hL:L[q]?=some (slP k enc (.slice A len c) l)) (hi:l[i]?=some e) (hv:((enc e).drop j).take k1=vs) (hl:vs.length=k1) (hg:aggT P T=true) (hs:Inf P T k1 by1 z1) :
    Runs P N D E (Mem w0 M L) (.load T x) ty (.agg vs.toArray):=jc q vs hx hL hA hi hv hl hg hs
theorem r_eln' (q:Nat) {i j k1 by1:Nat} {z1:Value} {e:α} {vs:List Value} (hx:ev E x=some (.pointer (some ((ad.add (i * k)).add j)))) (hA:A=some ad) (hL:L[q]?=some (slO Sb k enc (.slice A len c) l)) (hi:l[i]?=some e) (hv:((enc e).drop j).take k1=vs) (hl:vs.length=k1) (hg:aggT P T=true) (hs:Inf P T k1 by1 z1) :
    Runs P N D E (Mem w0 M L) (.load T x) ty (.agg vs.toArray):=r_eln q vs hx hL hA hi hv hl hg hs
theorem elx (hA:l≠[]→∃ ad,A=some ad) (i:Nat) (hi:i < l.length:=by first | omega | (simp <;> omega)):∃ ad s,A=some ad∧l[i]?=some s:=by
  obtain ⟨ad,hd⟩:=hA (ne_nil hi)
  exact ⟨ad,_,hd,List.getElem?_eq_getElem hi⟩
theorem gx (l:List α) (i:Nat) (hi:i < l.length:=by first | omega | (simp <;> omega)):∃ s,l[i]?=some s:=⟨_,List.getElem?_eq_getElem hi⟩
def Fu (n:Nat):Prop:=0≤n
theorem Fu.dec {n:Nat} (_:Fu (n + 1)):Fu n:=Nat.zero_le n
structure Wr (R:Prop):Prop where h:R
theorem rr (h : Runs P N D E S op ty v := by first
    | (show Runs _ _ _ _ _ (.move _) _ _; exact um rfl)
    | (show Runs _ _ _ _ _ (.load _ _) _ _; first | exact uJ _ rfl (by repeat (first | exact bx0 | apply bxS)) (by rfl) FlatI.h | exact r_lbw _ rfl (by repeat (first | exact bx0 | apply bxS)) (by rfl) AggI.h InfI.h | exact r_plw _ rfl (by first | assumption | rfl) (by repeat (first | exact bx0 | apply bxS)) (by first | assumption | rfl) (by rfl) AggI.h InfI.h | exact r_pl' _ rfl (by first | assumption | rfl) (by repeat (first | exact bx0 | apply bxS)) (by first | assumption | rfl) (by rfl) FlatI.h | exact r_elw _ rfl (by first | assumption | rfl) (by repeat (first | exact bx0 | apply bxS)) (by first | assumption | rfl) (by rfl) AggI.h InfI.h | exact r_el' _ rfl (by first | assumption | rfl) (by repeat (first | exact bx0 | apply bxS)) (by first | assumption | rfl) (by rfl) FlatI.h | exact r_ldb _ rfl (by repeat (first | exact bx0 | apply bxS)) (by rfl) FlatI.h | exact r_ldbw _ rfl (by repeat (first | exact bx0 | apply bxS)) (by rfl) AggI.h InfI.h | exact ue _ rfl (by repeat (first | exact bx0 | apply bxS)) (by rfl) FlatI.h | exact r_celL _ rfl (by repeat (first | exact bx0 | apply bxS)) (by rfl) FlatI.h | exact ja _ _ rfl (by repeat (first | exact bx0 | apply bxS)) (by rfl) (by rfl) AggI.h InfI.h | exact r_ldbn _ _ rfl (by repeat (first | exact bx0 | apply bxS)) (by rfl) (by rfl) AggI.h InfI.h | exact r_pln' _ rfl (by first | assumption | rfl) (by repeat (first | exact bx0 | apply bxS)) (by first | assumption | rfl) (by rfl) (by rfl) AggI.h InfI.h | exact r_eln' _ rfl (by first | assumption | rfl) (by repeat (first | exact bx0 | apply bxS)) (by first | assumption | rfl) (by rfl) (by rfl) AggI.h InfI.h)
    | (show Runs _ _ _ _ _ (.fieldAddr _ _ _) _ _; first | exact uz rfl FldI.h | exact uf rfl FldI.h)
    | (show Runs _ _ _ _ _ (.assign _) _ _; exact r_assign rfl)
    | (show Runs _ _ _ _ _ (.binOp _ _ _ _ _) _ _; first | (show Runs _ _ _ _ _ (.binOp .eql _ _ _ _) _ _; first | exact jH rfl rfl | exact r_seql rfl rfl) | (show Runs _ _ _ _ _ (.binOp .lss _ _ _ _) _ _; first | exact jY rfl rfl | exact r_slss' rfl rfl) | (show Runs _ _ _ _ _ (.binOp .add _ _ _ _) _ _; exact uI rfl rfl (by omega)) | (show Runs _ _ _ _ _ (.binOp .neq _ _ _ _) _ _; first | exact jI rfl rfl | exact r_sneq rfl rfl) | (show Runs _ _ _ _ _ (.binOp .leq _ _ _ _) _ _; first | exact r_leq rfl rfl | exact r_sleq' rfl rfl) | (show Runs _ _ _ _ _ (.binOp .gtr _ _ _ _) _ _; first | exact jZ rfl rfl | exact r_sgtr' rfl rfl) | (show Runs _ _ _ _ _ (.binOp .geq _ _ _ _) _ _; first | exact r_geq rfl rfl | exact r_sgeq' rfl rfl) | (show Runs _ _ _ _ _ (.binOp .sub _ _ _ _) _ _; exact jM rfl rfl (by omega)) | (show Runs _ _ _ _ _ (.binOp .mul _ _ _ _) _ _; exact r_muln rfl rfl (by omega)) | (show Runs _ _ _ _ _ (.binOp .quo _ _ _ _) _ _; exact r_quon rfl rfl (by omega) (by omega)) | (show Runs _ _ _ _ _ (.binOp .rem _ _ _ _) _ _; exact r_remn rfl rfl (by omega) (by omega)))
    | (show Runs _ _ _ _ _ (.extract _ _) _ _; exact uU rfl rfl)
    | (show Runs _ _ _ _ _ (.indexAddr _ _ _) _ _; exact yz rfl (by first | assumption | rfl) rfl (by rfl) (by first | omega | (simp <;> omega)) SliI.h InfI.h)
    | (show Runs _ _ _ _ _ (.call _) _ _; first | exact jJ rfl SliI.h | exact r_slen rfl StrI.h | exact r_min rfl rfl | exact ud rfl rfl)
    | (show Runs _ _ _ _ _ (.build _ _) _ _; exact u4 _ PlI.h InfI.h rfl rfl)
    | (show Runs _ _ _ _ _ (.pick _ _ _) _ _; exact vd rfl rfl)
    | (show Runs _ _ _ _ _ (.unOp _ _ _) _ _; exact r_not rfl)
    | (show Runs _ _ _ _ _ (.nilCheck _) _ _; exact yi rfl)):Runs P N D E S op ty v:=h
theorem go (n:Nat) {G R:Prop} (hs:Fu n→Wr R→G:=by
    intro f9 h9
    repeat (replace f9:=f9.dec; first
      | (show WL _ _ _ _ _ (⟨some _,_,_,_,_,none⟩::_) _ _; refine za rr ?_)
      | (show WQ _ _ _ _ _ (⟨some _,_,_,_,_,none⟩::_) _ _; refine yZ rr ?_)
      | (show WC _ _ _ _ _ _ _; first | refine c_sq ?_ | refine zr ?_ | refine vZ ?_ | refine vo ?_ | refine uH ?_ | refine vu ?_ | refine yx rfl rfl ?_ | refine yU rfl rfl ?_ | refine c_quiet MixI.h (by kernel_rfl) (fun _ h=>h.drew) ?_)
      | (show WE _ _ _ _ _ _; first | refine e_gT ?_ | refine vG ?_ | refine yy ?_ | refine yK ?_ | refine uT ?_ | refine vH ?_ | refine e_in_miss rfl ?_)
      | (show WL _ _ _ _ _ [] _ _; refine zT ?_)
      | (show WS _ _ _ _ _ _ (⟨some _,_,_,_,_,none⟩::_) _; refine uq rr ?_)
      | (show WL _ _ _ _ _ (⟨none,_,_,_,_,none⟩::_) _ _; first | refine jr _ wn rfl rfl (by repeat (first | exact bx0 | apply bxS)) (by rfl) InfI.h (by rfl) (by rfl) ?_ | refine uw _ wn rfl rfl (by repeat (first | exact bx0 | apply bxS)) InfI.h (by rfl) (by rfl) (by rfl) ?_)
      | (show WL _ _ _ _ _ (⟨some _,_,_,_,_,some _⟩::_) _ _; first | refine vR ?_ | refine y6 rr ?_ | refine l_skip (wu rfl rfl) rfl ?_)
      | (show WQ _ _ _ _ _ (⟨some _,_,_,_,_,some _⟩::_) _ _; first | refine q_sk ?_ | refine vt rr ?_ | refine q_skip (wu rfl rfl) rfl ?_)
      | (show WQ _ _ _ _ _ [] _ _; first | refine q_end ?_ | refine q_tl ?_)
      | (show WS _ _ _ _ _ _ (⟨some _,_,_,_,_,some _⟩::_) _; first | refine s_skip (wg rfl rfl rfl) rfl ?_ | refine s_val (wg rfl rfl rfl) rr rfl ?_ | refine s_skip (wu rfl rfl) rfl ?_)
      | (show WL _ _ _ _ _ (⟨none,_,_,_,_,some _⟩::_) _ _; first | refine jr _ (wg rfl rfl rfl) rfl rfl (by repeat (first | exact bx0 | apply bxS)) (by rfl) InfI.h (by rfl) (by rfl) ?_ | refine uw _ (wg rfl rfl rfl) rfl rfl (by repeat (first | exact bx0 | apply bxS)) InfI.h (by rfl) (by rfl) (by rfl) ?_))
    exact h9.h):R→G:=fun h=>hs (Nat.zero_le n) ⟨h⟩
section
variable {d:Nat} {pos:String} {aft:Array Edge} {g:Option (Nat × Bool)} {f by1:Nat} {zv:Value} {args:Array Operand} {ts:Array TypeId} {vs cap zs:List Value} {p:Prop} [Decidable p] {t:Nat} {b:Bool} {K:Act→World→Prop}
def jT (L:List Own) (is:List Nat):List Own:=is.filterMap fun i=>L[i]?
theorem zW {c:Operand} {x y:Code} (ht:p→WC P N D x Q E S) (hf:¬ p→WC P N D y Q E S) (hc:ev E c=some (.bool (decide p)):=by rfl):WC P N D (.cond c x y) Q E S:=vK hc ht hf
theorem yg {c:Operand} {x y:Code} (ht:b=true→WC P N D x Q E S) (hf:b=false→WC P N D y Q E S) (hc:ev E c=some (.bool b):=by rfl):WC P N D (.cond c x y) Q E S:=c_condb hc ht hf
theorem yO (t:Nat) (h1:p→WL P N D ops Q rest ((t,.bool true)::E) S) (h2:¬ p→WL P N D ops Q rest ((t,.bool false)::E) S) (hl:look E t=some (.bool (decide p)):=by rfl):WL P N D ops Q rest E S:=ul hl h1 h2
theorem vh (t:Nat) (h1:p→WQ P N D ops K rest ((t,.bool true)::E) S) (h2:¬ p→WQ P N D ops K rest ((t,.bool false)::E) S) (hl:look E t=some (.bool (decide p)):=by rfl):WQ P N D ops K rest E S:=q_case hl h1 h2
theorem jB (t:Nat) (h1:b=true→WL P N D ops Q rest ((t,.bool true)::E) S) (h2:¬ b=true→WL P N D ops Q rest ((t,.bool false)::E) S) (hl:look E t=some (.bool b):=by rfl):WL P N D ops Q rest E S:=l_caseb hl h1 h2
theorem jy (t:Nat) (h1:b=true→WQ P N D ops K rest ((t,.bool true)::E) S) (h2:¬ b=true→WQ P N D ops K rest ((t,.bool false)::E) S) (hl:look E t=some (.bool b):=by rfl):WQ P N D ops K rest E S:=q_caseb hl h1 h2
theorem vC (v:Value) (h:WL P N D ops Q rest ((d,v)::E) S):WL P N D ops Q rest ((d,v)::E) S:=h
theorem zw {k:Nat} (h:∀ b,WL P N D ops Q rest ((d,.pointer (some ⟨b,0,none⟩))::E) (Mem w0 M (.blk b zs T::L))) (hw:Want N D ops E g true:=by first | exact wn | exact wg rfl rfl rfl) (hs:Inf P T k by1 (.agg zs.toArray):=by exact InfI.h) (hd:Nat.blt d N=true:=by rfl):WL P N D ops Q (⟨some d,.alloc T,ty,pos,aft,g⟩::rest) E (Mem w0 M L):=u5 hw hs hd h
theorem l_aO {k:Nat} (h:∀ b,WL P N D ops Q rest ((d,.pointer (some ⟨b,0,none⟩))::E) (Mem w0 M (.blk b [zv] T::L))) (hw:Want N D ops E g true:=by first | exact wn | exact wg rfl rfl rfl) (hs:Inf P T k by1 zv:=by exact InfI.h) (hz:zv.cells=#[zv]:=by rfl) (hd:Nat.blt d N=true:=by rfl):WL P N D ops Q (⟨some d,.alloc T,ty,pos,aft,g⟩::rest) E (Mem w0 M L):=l_alloc1 hw hs hz hd h
theorem yu (h:∀ b,WL P N D ops Q rest ((d,.pointer (some ⟨b,0,none⟩))::E) (Mem w0 M (.blk b vs T::L))) (hw:Want N D ops E g true:=by first | exact wn | exact wg rfl rfl rfl) (hx:ev E x=some (.agg vs.toArray):=by rfl) (hd:Nat.blt d N=true:=by rfl):WL P N D ops Q (⟨some d,.box T x,ty,pos,aft,g⟩::rest) E (Mem w0 M L):=jq hw hx hd h
theorem jl (h:∀ b,WL P N D ops Q rest ((d,.pointer (some ⟨b,0,none⟩))::E) (Mem w0 M (.blk b [v] T::L))) (hw:Want N D ops E g true:=by first | exact wn | exact wg rfl rfl rfl) (hx:ev E x=some v:=by rfl) (hz:v.cells=#[v]:=by rfl) (hd:Nat.blt d N=true:=by rfl):WL P N D ops Q (⟨some d,.box T x,ty,pos,aft,g⟩::rest) E (Mem w0 M L):=l_box1 hw hx hz hd h
section
variable {fn:Func} {R:Ending→World→Prop} {r r1 r2 r3:ResultVar} {v1 v2 v3:Value} {e:Exit}
theorem rvv {r:ResultVar} (h:ResV P N D E S r v:=by first | exact vL rfl | exact y9 _ rfl (by repeat (first | exact bx0 | apply bxS)) AggI.h InfI.h (by rfl)):ResV P N D E S r v:=h
theorem zX (hr:fn.results=#[r]) (hR:∀ w,S w→R (.returned v) w) (he:e=.ret∨e=.normal:=by first | exact .inl rfl | exact .inr rfl) (hv:ResV P N [] E S r v:=by exact rvv):WE N [] (bodyPost P fn R) e E S:=vM he hr hv hR
theorem yL (hr:fn.results=#[r1,r2]) (hR:∀ w,S w→R (.returned (.tuple #[v1,v2])) w) (he:e=.ret∨e=.normal:=by first | exact .inl rfl | exact .inr rfl) (h1:ResV P N [] E S r1 v1:=by exact rvv) (h2:ResV P N [] E S r2 v2:=by exact rvv):WE N [] (bodyPost P fn R) e E S:=e_ret2 he hr h1 h2 hR
theorem jC (hr:fn.results=#[r1,r2,r3]) (hR:∀ w,S w→R (.returned (.tuple #[v1,v2,v3])) w) (he:e=.ret∨e=.normal:=by first | exact .inl rfl | exact .inr rfl) (h1:ResV P N [] E S r1 v1:=by exact rvv) (h2:ResV P N [] E S r2 v2:=by exact rvv) (h3:ResV P N [] E S r3 v3:=by exact rvv):WE N [] (bodyPost P fn R) e E S:=e_ret3 he hr h1 h2 h3 hR
theorem zq {c:Code} {vals:List Value} {w:World} (hf:P.funcs[f]?=some fn) (hS:Mem w M L w) (h:WC P N [] c (bodyPost P fn R) (envOf 0 vals) (Mem w M L)) (hb:fn.body=some c:=by rfl) (hn:fn.ntmps=N:=by rfl) (hl:Nat.ble vals.length N=true:=by rfl):Calls P f vals.toArray w R:=fstart hf hb hn hl hS h
end
theorem yF (hcall:∀ vs w,(callFunc f vs).run P w=.ok (.enter f vs) w) (hw:Want N D ops E g true) (hargs:evs E args.toList=some vs) (hc:∀ w,Mem w0 M L w→Calls P f vs.toArray w (Ret w v)) (h:WL P N D ops Q rest ((d,v)::E) (Mem w0 M L)) (hd:Nat.blt d N=true:=by rfl) :
    WL P N D ops Q (⟨some d,.call { callee:=.value (.func f),args:=args,argTypes:=ts },ty,pos,aft,g⟩::rest) E (Mem w0 M L):=uM hw hargs hcall hd hc h
theorem l_gA {α:Type} {A:List Own} {mk:α→Value} {pure:α→Prop} {A':α→List Own} (ia ir:List Nat) (hw:Want N D ops E g true) (hx:ev E x=some (.func (.func f) #[] cap.toArray)) (hargs:evs E args.toList=some vs) (hcall:∀ vs w,(callFunc f vs).run P w=.ok (.enter f vs) w)
    (hc:∀ w Pb,Mem w ⟨fpOf A,Pb⟩ A w→Calls P f (vs++cap).toArray w (RetA w A Pb mk pure A')) (h:∀ z,pure z→WL P N D ops Q rest ((d,mk z)::E) (Mem w0 M (A' z++jT L ir)))
    (hn:(ia++ir).Nodup:=by decide) (he:(A++jT L ir).map some=(ia++ir).map (fun i=>L[i]?):=by rfl) (hq:∀ z,(A' z).all (fun o=>o.mut || o.isPub)=true:=by exact fun _=>rfl) (hd:Nat.blt d N=true:=by rfl) :
    WL P N D ops Q (⟨some d,.call { callee:=.value x,args:=args,argTypes:=ts },ty,pos,aft,g⟩::rest) E (Mem w0 M L) :=
  zg A (jT L ir) mk pure A' _ (fun _=>rfl) (fun _ h=>h.sel (ia++ir) hn he) hq hw hx hargs hcall hd hc h
theorem l_gX {α:Type} {A:List Own} {PT:Nat} {mk:α→Value} {pure:α→Prop} {A':α→List Own} {bad:Pz.F→Prop} (ia ir:List Nat) (hw:Want N D ops E g true) (hx:ev E x=some (.func (.func f) #[] cap.toArray)) (hargs:evs E args.toList=some vs) (hcall:∀ vs w,(callFunc f vs).run P w=.ok (.enter f vs) w)
    (hc:∀ w Pb,Mem w ⟨fpOf A,Pb⟩ A w→Calls P f (vs++cap).toArray w (RetX w A Pb PT mk pure A' bad)) (hb:∀ f,bad f→WE N D Q (.panic (pan PT f)) E (Mem w0 M (jT L ir))) (h:∀ z,pure z→WL P N D ops Q rest ((d,mk z)::E) (Mem w0 M (A' z++jT L ir)))
    (hn:(ia++ir).Nodup:=by decide) (he:(A++jT L ir).map some=(ia++ir).map (fun i=>L[i]?):=by rfl) (hq:∀ z,(A' z).all (fun o=>o.mut || o.isPub)=true:=by exact fun _=>rfl) (hd:Nat.blt d N=true:=by rfl) :
    WL P N D ops Q (⟨some d,.call { callee:=.value x,args:=args,argTypes:=ts },ty,pos,aft,g⟩::rest) E (Mem w0 M L) :=
  zZ A (jT L ir) mk pure A' _ bad (fun _=>rfl) (fun _ h=>h.sel (ia++ir) hn he) hq hw hx hargs hcall hd hc hb h
end
end
end Ex
end
section
set_option maxRecDepth 100000
instance:Ex.AggI Tryz.prog 163:=⟨by kernel_rfl⟩
instance:Ex.AggI Tryz.prog 172:=⟨by kernel_rfl⟩
instance:Ex.AggI Tryz.prog 179:=⟨by kernel_rfl⟩
instance:Ex.AggI Tryz.prog 217:=⟨by kernel_rfl⟩
instance:Ex.AggI Tryz.prog 25:=⟨by kernel_rfl⟩
instance:Ex.AggI Tryz.prog 34:=⟨by kernel_rfl⟩
instance:Ex.AggI Tryz.prog 41:=⟨by kernel_rfl⟩
instance:Ex.AggI Tryz.prog 43:=⟨by kernel_rfl⟩
instance:Ex.AggI Tryz.prog 50:=⟨by kernel_rfl⟩
instance:Ex.AggI Tryz.prog 59:=⟨by kernel_rfl⟩
instance:Ex.AggI Tryz.prog 61:=⟨by kernel_rfl⟩
instance:Ex.AggI Tryz.prog 74:=⟨by kernel_rfl⟩
instance:Ex.AggI Tryz.prog 81:=⟨by kernel_rfl⟩
instance:Ex.AggI Tryz.prog 89:=⟨by kernel_rfl⟩
instance:Ex.FlatI Tryz.prog 132:=⟨by kernel_rfl⟩
instance:Ex.FlatI Tryz.prog 170:=⟨by kernel_rfl⟩
instance:Ex.FlatI Tryz.prog 23:=⟨by kernel_rfl⟩
instance:Ex.FlatI Tryz.prog 27:=⟨by kernel_rfl⟩
instance:Ex.FlatI Tryz.prog 3:=⟨by kernel_rfl⟩
instance:Ex.FlatI Tryz.prog 32:=⟨by kernel_rfl⟩
instance:Ex.FlatI Tryz.prog 39:=⟨by kernel_rfl⟩
instance:Ex.FlatI Tryz.prog 4:=⟨by kernel_rfl⟩
instance:Ex.FlatI Tryz.prog 47:=⟨by kernel_rfl⟩
instance:Ex.FlatI Tryz.prog 48:=⟨by kernel_rfl⟩
instance:Ex.FlatI Tryz.prog 55:=⟨by kernel_rfl⟩
instance:Ex.FlatI Tryz.prog 56:=⟨by kernel_rfl⟩
instance:Ex.FlatI Tryz.prog 57:=⟨by kernel_rfl⟩
instance:Ex.FlatI Tryz.prog 79:=⟨by kernel_rfl⟩
instance:Ex.FlatI Tryz.prog 9:=⟨by kernel_rfl⟩
instance:Ex.FlatI Tryz.prog 91:=⟨by kernel_rfl⟩
instance:Ex.FlatI Tryz.prog 95:=⟨by kernel_rfl⟩
instance:Ex.FldI Tryz.prog 114 0 0:=⟨by kernel_rfl⟩
instance:Ex.FldI Tryz.prog 114 1 1:=⟨by kernel_rfl⟩
instance:Ex.FldI Tryz.prog 114 2 2:=⟨by kernel_rfl⟩
instance:Ex.FldI Tryz.prog 134 0 0:=⟨by kernel_rfl⟩
instance:Ex.FldI Tryz.prog 134 1 1:=⟨by kernel_rfl⟩
instance:Ex.FldI Tryz.prog 136 0 0:=⟨by kernel_rfl⟩
instance:Ex.FldI Tryz.prog 163 0 0:=⟨by kernel_rfl⟩
instance:Ex.FldI Tryz.prog 163 1 1:=⟨by kernel_rfl⟩
instance:Ex.FldI Tryz.prog 164 0 0:=⟨by kernel_rfl⟩
instance:Ex.FldI Tryz.prog 164 1 1:=⟨by kernel_rfl⟩
instance:Ex.FldI Tryz.prog 164 2 2:=⟨by kernel_rfl⟩
instance:Ex.FldI Tryz.prog 172 0 0:=⟨by kernel_rfl⟩
instance:Ex.FldI Tryz.prog 172 1 1:=⟨by kernel_rfl⟩
instance:Ex.FldI Tryz.prog 172 2 2:=⟨by kernel_rfl⟩
instance:Ex.FldI Tryz.prog 176 0 0:=⟨by kernel_rfl⟩
instance:Ex.FldI Tryz.prog 176 1 1:=⟨by kernel_rfl⟩
instance:Ex.FldI Tryz.prog 179 0 0:=⟨by kernel_rfl⟩
instance:Ex.FldI Tryz.prog 179 1 1:=⟨by kernel_rfl⟩
instance:Ex.FldI Tryz.prog 179 2 2:=⟨by kernel_rfl⟩
instance:Ex.FldI Tryz.prog 217 0 0:=⟨by kernel_rfl⟩
instance:Ex.FldI Tryz.prog 217 1 1:=⟨by kernel_rfl⟩
instance:Ex.FldI Tryz.prog 217 2 2:=⟨by kernel_rfl⟩
instance:Ex.FldI Tryz.prog 25 0 0:=⟨by kernel_rfl⟩
instance:Ex.FldI Tryz.prog 25 1 1:=⟨by kernel_rfl⟩
instance:Ex.FldI Tryz.prog 34 0 0:=⟨by kernel_rfl⟩
instance:Ex.FldI Tryz.prog 34 2 2:=⟨by kernel_rfl⟩
instance:Ex.FldI Tryz.prog 41 0 0:=⟨by kernel_rfl⟩
instance:Ex.FldI Tryz.prog 41 1 1:=⟨by kernel_rfl⟩
instance:Ex.FldI Tryz.prog 43 0 0:=⟨by kernel_rfl⟩
instance:Ex.FldI Tryz.prog 43 1 1:=⟨by kernel_rfl⟩
instance:Ex.FldI Tryz.prog 43 2 2:=⟨by kernel_rfl⟩
instance:Ex.FldI Tryz.prog 43 3 3:=⟨by kernel_rfl⟩
instance:Ex.FldI Tryz.prog 43 4 4:=⟨by kernel_rfl⟩
instance:Ex.FldI Tryz.prog 43 5 6:=⟨by kernel_rfl⟩
instance:Ex.FldI Tryz.prog 50 0 0:=⟨by kernel_rfl⟩
instance:Ex.FldI Tryz.prog 50 1 1:=⟨by kernel_rfl⟩
instance:Ex.FldI Tryz.prog 50 2 2:=⟨by kernel_rfl⟩
instance:Ex.FldI Tryz.prog 50 3 3:=⟨by kernel_rfl⟩
instance:Ex.FldI Tryz.prog 50 4 4:=⟨by kernel_rfl⟩
instance:Ex.FldI Tryz.prog 50 5 5:=⟨by kernel_rfl⟩
instance:Ex.FldI Tryz.prog 50 6 6:=⟨by kernel_rfl⟩
instance:Ex.FldI Tryz.prog 50 7 7:=⟨by kernel_rfl⟩
instance:Ex.FldI Tryz.prog 50 8 8:=⟨by kernel_rfl⟩
instance:Ex.FldI Tryz.prog 59 0 0:=⟨by kernel_rfl⟩
instance:Ex.FldI Tryz.prog 59 1 1:=⟨by kernel_rfl⟩
instance:Ex.FldI Tryz.prog 59 2 2:=⟨by kernel_rfl⟩
instance:Ex.FldI Tryz.prog 59 3 3:=⟨by kernel_rfl⟩
instance:Ex.FldI Tryz.prog 59 4 4:=⟨by kernel_rfl⟩
instance:Ex.FldI Tryz.prog 59 5 5:=⟨by kernel_rfl⟩
instance:Ex.FldI Tryz.prog 59 6 6:=⟨by kernel_rfl⟩
instance:Ex.FldI Tryz.prog 61 0 0:=⟨by kernel_rfl⟩
instance:Ex.FldI Tryz.prog 61 1 1:=⟨by kernel_rfl⟩
instance:Ex.FldI Tryz.prog 74 0 0:=⟨by kernel_rfl⟩
instance:Ex.FldI Tryz.prog 74 1 1:=⟨by kernel_rfl⟩
instance:Ex.FldI Tryz.prog 81 0 0:=⟨by kernel_rfl⟩
instance:Ex.FldI Tryz.prog 81 1 1:=⟨by kernel_rfl⟩
instance:Ex.FldI Tryz.prog 89 0 0:=⟨by kernel_rfl⟩
instance:Ex.FldI Tryz.prog 89 1 1:=⟨by kernel_rfl⟩
instance:Ex.FldI Tryz.prog 89 2 2:=⟨by kernel_rfl⟩
instance:Ex.FldI Tryz.prog 89 3 3:=⟨by kernel_rfl⟩
instance:Ex.FldI Tryz.prog 89 4 4:=⟨by kernel_rfl⟩
instance:Ex.FldI Tryz.prog 89 5 5:=⟨by kernel_rfl⟩
instance:Ex.FldI Tryz.prog 89 6 6:=⟨by kernel_rfl⟩
instance:Ex.FldI Tryz.prog 93 0 0:=⟨by kernel_rfl⟩
instance:Ex.InfI Tryz.prog 111 2 16 (.agg [.int .i64 0,.int .i64 0].toArray):=⟨by unfold Ex.Inf; kernel_rfl⟩
instance:Ex.InfI Tryz.prog 114 3 32 (.agg [.string ⟨#[]⟩,.int .i64 0,.int .i64 0].toArray):=⟨by unfold Ex.Inf; kernel_rfl⟩
instance:Ex.InfI Tryz.prog 119 1 8 (.agg [.int .i64 0].toArray):=⟨by unfold Ex.Inf; kernel_rfl⟩
instance:Ex.InfI Tryz.prog 132 1 8 (.pointer none):=⟨by unfold Ex.Inf; kernel_rfl⟩
instance:Ex.InfI Tryz.prog 136 2 32 (.agg [.pointer none,.slice none 0 0].toArray):=⟨by unfold Ex.Inf; kernel_rfl⟩
instance:Ex.InfI Tryz.prog 163 8 64 (.agg [.int .i64 0,.int .i64 0,.int .i64 0,.int .i64 0,.int .i64 0,.int .i64 0,.int .i64 0,.int .i64 0].toArray):=⟨by unfold Ex.Inf; kernel_rfl⟩
instance:Ex.InfI Tryz.prog 164 3 24 (.agg [.int .i64 0,.int .i64 0,.int .i64 0].toArray):=⟨by unfold Ex.Inf; kernel_rfl⟩
instance:Ex.InfI Tryz.prog 172 3 40 (.agg [.bool false,.int .i64 0,.slice none 0 0].toArray):=⟨by unfold Ex.Inf; kernel_rfl⟩
instance:Ex.InfI Tryz.prog 176 2 16 (.agg [.int .i64 0,.nilFunc].toArray):=⟨by unfold Ex.Inf; kernel_rfl⟩
instance:Ex.InfI Tryz.prog 179 3 40 (.agg [.int .i64 0,.string ⟨#[]⟩,.string ⟨#[]⟩].toArray):=⟨by unfold Ex.Inf; kernel_rfl⟩
instance:Ex.InfI Tryz.prog 217 3 24 (.agg [.int .i64 0,.int .i64 0,.int .i64 0].toArray):=⟨by unfold Ex.Inf; kernel_rfl⟩
instance:Ex.InfI Tryz.prog 23 1 24 (.slice none 0 0):=⟨by unfold Ex.Inf; kernel_rfl⟩
instance:Ex.InfI Tryz.prog 25 2 32 (.agg [.slice none 0 0,.int .i64 0].toArray):=⟨by unfold Ex.Inf; kernel_rfl⟩
instance:Ex.InfI Tryz.prog 3 1 8 (.int .i64 0):=⟨by unfold Ex.Inf; kernel_rfl⟩
instance:Ex.InfI Tryz.prog 32 1 24 (.slice none 0 0):=⟨by unfold Ex.Inf; kernel_rfl⟩
instance:Ex.InfI Tryz.prog 34 4 48 (.agg [.int .i64 0,.int .i64 0,.slice none 0 0,.int .i64 0].toArray):=⟨by unfold Ex.Inf; kernel_rfl⟩
instance:Ex.InfI Tryz.prog 39 1 24 (.slice none 0 0):=⟨by unfold Ex.Inf; kernel_rfl⟩
instance:Ex.InfI Tryz.prog 41 2 16 (.agg [.int .i64 0,.int .i64 0].toArray):=⟨by unfold Ex.Inf; kernel_rfl⟩
instance:Ex.InfI Tryz.prog 43 7 80 (.agg [.int .i64 0,.int .i64 0,.int .i64 0,.slice none 0 0,.int .i64 0,.int .i64 0,.string ⟨#[]⟩].toArray):=⟨by unfold Ex.Inf; kernel_rfl⟩
instance:Ex.InfI Tryz.prog 47 1 24 (.slice none 0 0):=⟨by unfold Ex.Inf; kernel_rfl⟩
instance:Ex.InfI Tryz.prog 48 1 24 (.slice none 0 0):=⟨by unfold Ex.Inf; kernel_rfl⟩
instance:Ex.InfI Tryz.prog 50 9 136 (.agg [.slice none 0 0,.slice none 0 0,.slice none 0 0,.slice none 0 0,.int .i64 0,.int .i64 0,.int .i64 0,.int .i64 0,.int .i64 0].toArray):=⟨by unfold Ex.Inf; kernel_rfl⟩
instance:Ex.InfI Tryz.prog 55 1 24 (.slice none 0 0):=⟨by unfold Ex.Inf; kernel_rfl⟩
instance:Ex.InfI Tryz.prog 56 1 24 (.slice none 0 0):=⟨by unfold Ex.Inf; kernel_rfl⟩
instance:Ex.InfI Tryz.prog 57 1 24 (.slice none 0 0):=⟨by unfold Ex.Inf; kernel_rfl⟩
instance:Ex.InfI Tryz.prog 59 7 112 (.agg [.int .i64 0,.int .i64 0,.int .i64 0,.string ⟨#[]⟩,.slice none 0 0,.slice none 0 0,.slice none 0 0].toArray):=⟨by unfold Ex.Inf; kernel_rfl⟩
instance:Ex.InfI Tryz.prog 61 2 16 (.agg [.int .i64 0,.int .i64 0].toArray):=⟨by unfold Ex.Inf; kernel_rfl⟩
instance:Ex.InfI Tryz.prog 74 2 32 (.agg [.string ⟨#[]⟩,.string ⟨#[]⟩].toArray):=⟨by unfold Ex.Inf; kernel_rfl⟩
instance:Ex.InfI Tryz.prog 79 1 24 (.slice none 0 0):=⟨by unfold Ex.Inf; kernel_rfl⟩
instance:Ex.InfI Tryz.prog 81 2 32 (.agg [.slice none 0 0,.int .i64 0].toArray):=⟨by unfold Ex.Inf; kernel_rfl⟩
instance:Ex.InfI Tryz.prog 89 7 56 (.agg [.int .i64 0,.int .i64 0,.int .i64 0,.int .i64 0,.int .i64 0,.int .i64 0,.int .i64 0].toArray):=⟨by unfold Ex.Inf; kernel_rfl⟩
instance:Ex.InfI Tryz.prog 9 1 16 (.string ⟨#[]⟩):=⟨by unfold Ex.Inf; kernel_rfl⟩
instance:Ex.InfI Tryz.prog 93 2 32 (.agg [.slice none 0 0,.int .i64 0].toArray):=⟨by unfold Ex.Inf; kernel_rfl⟩
instance:Ex.PlI Tryz.prog 111 [(0,2)]:=⟨by kernel_rfl⟩
instance:Ex.PlI Tryz.prog 114 [(0,1),(1,1),(2,1)]:=⟨by kernel_rfl⟩
instance:Ex.PlI Tryz.prog 119 [(0,1)]:=⟨by kernel_rfl⟩
instance:Ex.PlI Tryz.prog 136 [(0,2)]:=⟨by kernel_rfl⟩
instance:Ex.PlI Tryz.prog 163 [(0,1),(1,7)]:=⟨by kernel_rfl⟩
instance:Ex.PlI Tryz.prog 164 [(0,1),(1,1),(2,1)]:=⟨by kernel_rfl⟩
instance:Ex.PlI Tryz.prog 172 [(0,1),(1,1),(2,1)]:=⟨by kernel_rfl⟩
instance:Ex.PlI Tryz.prog 176 [(0,1),(1,1)]:=⟨by kernel_rfl⟩
instance:Ex.PlI Tryz.prog 179 [(0,1),(1,1),(2,1)]:=⟨by kernel_rfl⟩
instance:Ex.PlI Tryz.prog 217 [(0,1),(1,1),(2,1)]:=⟨by kernel_rfl⟩
instance:Ex.PlI Tryz.prog 25 [(0,1),(1,1)]:=⟨by kernel_rfl⟩
instance:Ex.PlI Tryz.prog 34 [(0,1),(1,1),(2,1),(3,1)]:=⟨by kernel_rfl⟩
instance:Ex.PlI Tryz.prog 41 [(0,1),(1,1)]:=⟨by kernel_rfl⟩
instance:Ex.PlI Tryz.prog 43 [(0,1),(1,1),(2,1),(3,1),(4,2),(6,1)]:=⟨by kernel_rfl⟩
instance:Ex.PlI Tryz.prog 50 [(0,1),(1,1),(2,1),(3,1),(4,1),(5,1),(6,1),(7,1),(8,1)]:=⟨by kernel_rfl⟩
instance:Ex.PlI Tryz.prog 59 [(0,1),(1,1),(2,1),(3,1),(4,1),(5,1),(6,1)]:=⟨by kernel_rfl⟩
instance:Ex.PlI Tryz.prog 61 [(0,1),(1,1)]:=⟨by kernel_rfl⟩
instance:Ex.PlI Tryz.prog 74 [(0,1),(1,1)]:=⟨by kernel_rfl⟩
instance:Ex.PlI Tryz.prog 81 [(0,1),(1,1)]:=⟨by kernel_rfl⟩
instance:Ex.PlI Tryz.prog 89 [(0,1),(1,1),(2,1),(3,1),(4,1),(5,1),(6,1)]:=⟨by kernel_rfl⟩
instance:Ex.PlI Tryz.prog 93 [(0,2)]:=⟨by kernel_rfl⟩
instance:Ex.SliI Tryz.prog 125 39:=⟨Tryz.underlying125⟩
instance:Ex.SliI Tryz.prog 126 89:=⟨Tryz.underlying126⟩
instance:Ex.SliI Tryz.prog 152 217:=⟨Tryz.underlying152⟩
instance:Ex.SliI Tryz.prog 165 164:=⟨Tryz.underlying165⟩
instance:Ex.SliI Tryz.prog 22 43:=⟨Tryz.underlying22⟩
instance:Ex.SliI Tryz.prog 224 172:=⟨Tryz.underlying224⟩
instance:Ex.SliI Tryz.prog 23 50:=⟨Tryz.underlying23⟩
instance:Ex.SliI Tryz.prog 26 34:=⟨Tryz.underlying26⟩
instance:Ex.SliI Tryz.prog 32 81:=⟨Tryz.underlying32⟩
instance:Ex.SliI Tryz.prog 37 3:=⟨Tryz.underlying37⟩
instance:Ex.SliI Tryz.prog 39 74:=⟨Tryz.underlying39⟩
instance:Ex.SliI Tryz.prog 47 41:=⟨Tryz.underlying47⟩
instance:Ex.SliI Tryz.prog 48 163:=⟨Tryz.underlying48⟩
instance:Ex.SliI Tryz.prog 55 179:=⟨Tryz.underlying55⟩
instance:Ex.SliI Tryz.prog 56 9:=⟨Tryz.underlying56⟩
instance:Ex.SliI Tryz.prog 57 59:=⟨Tryz.underlying57⟩
instance:Ex.SliI Tryz.prog 79 5:=⟨Tryz.underlying79⟩
instance:Ex.StrI Tryz.prog 9:=⟨Tryz.underlying9⟩
instance:Ex.MixI Tryz.prog:=⟨by kernel_rfl⟩
end
section
open Ex
set_option maxRecDepth 100000
theorem mix:Tryz.prog.follows .mixedOrders=true:=by kernel_rfl
theorem inf3:Ex.Inf Tryz.prog 3 1 8 (.int .i64 0):=by unfold Ex.Inf; kernel_rfl
theorem flat3:Ex.flatT Tryz.prog 3=true:=by kernel_rfl
theorem flat4:Ex.flatT Tryz.prog 4=true:=by kernel_rfl
theorem inf5:Ex.Inf Tryz.prog 5 1 1 (.int .u8 0):=by unfold Ex.Inf; kernel_rfl
theorem inf9:Ex.Inf Tryz.prog 9 1 16 (.string ⟨#[]⟩):=by unfold Ex.Inf; kernel_rfl
theorem flat9:Ex.flatT Tryz.prog 9=true:=by kernel_rfl
theorem flat27:Ex.flatT Tryz.prog 27=true:=by kernel_rfl
theorem flat32:Ex.flatT Tryz.prog 32=true:=by kernel_rfl
theorem inf34:Ex.Inf Tryz.prog 34 4 48 (.agg [.int .i64 0,.int .i64 0,.slice none 0 0,.int .i64 0].toArray):=by unfold Ex.Inf; kernel_rfl
theorem inf39:Ex.Inf Tryz.prog 39 1 24 (.slice none 0 0):=by unfold Ex.Inf; kernel_rfl
theorem flat39:Ex.flatT Tryz.prog 39=true:=by kernel_rfl
theorem inf41:Ex.Inf Tryz.prog 41 2 16 (.agg [.int .i64 0,.int .i64 0].toArray):=by unfold Ex.Inf; kernel_rfl
theorem agg41:Ex.aggT Tryz.prog 41=true:=by kernel_rfl
theorem inf43:Ex.Inf Tryz.prog 43 7 80 (.agg [.int .i64 0,.int .i64 0,.int .i64 0,.slice none 0 0,.int .i64 0,.int .i64 0,.string ⟨#[]⟩].toArray):=by unfold Ex.Inf; kernel_rfl
theorem flat47:Ex.flatT Tryz.prog 47=true:=by kernel_rfl
theorem flat48:Ex.flatT Tryz.prog 48=true:=by kernel_rfl
theorem inf50:Ex.Inf Tryz.prog 50 9 136 (.agg [.slice none 0 0,.slice none 0 0,.slice none 0 0,.slice none 0 0,.int .i64 0,.int .i64 0,.int .i64 0,.int .i64 0,.int .i64 0].toArray):=by unfold Ex.Inf; kernel_rfl
theorem agg50:Ex.aggT Tryz.prog 50=true:=by kernel_rfl
theorem fld50_0:Ex.fldAt Tryz.prog 50 0=some 0:=by kernel_rfl
theorem flat57:Ex.flatT Tryz.prog 57=true:=by kernel_rfl
theorem inf59:Ex.Inf Tryz.prog 59 7 112 (.agg [.int .i64 0,.int .i64 0,.int .i64 0,.string ⟨#[]⟩,.slice none 0 0,.slice none 0 0,.slice none 0 0].toArray):=by unfold Ex.Inf; kernel_rfl
theorem agg59:Ex.aggT Tryz.prog 59=true:=by kernel_rfl
theorem pl59:Ex.placesOf Tryz.prog 59=some [(0,1),(1,1),(2,1),(3,1),(4,1),(5,1),(6,1)]:=by kernel_rfl
theorem fld59_0:Ex.fldAt Tryz.prog 59 0=some 0:=by kernel_rfl
theorem fld59_6:Ex.fldAt Tryz.prog 59 6=some 6:=by kernel_rfl
theorem inf61:Ex.Inf Tryz.prog 61 2 16 (.agg [.int .i64 0,.int .i64 0].toArray):=by unfold Ex.Inf; kernel_rfl
theorem agg61:Ex.aggT Tryz.prog 61=true:=by kernel_rfl
theorem fty61_0:Ex.fldTy Tryz.prog 61 0=some 27:=by kernel_rfl
theorem fld61_0:Ex.fldAt Tryz.prog 61 0=some 0:=by kernel_rfl
theorem inf74:Ex.Inf Tryz.prog 74 2 32 (.agg [.string ⟨#[]⟩,.string ⟨#[]⟩].toArray):=by unfold Ex.Inf; kernel_rfl
theorem inf81:Ex.Inf Tryz.prog 81 2 32 (.agg [.slice none 0 0,.int .i64 0].toArray):=by unfold Ex.Inf; kernel_rfl
theorem fld81_0:Ex.fldAt Tryz.prog 81 0=some 0:=by kernel_rfl
theorem fld81_1:Ex.fldAt Tryz.prog 81 1=some 1:=by kernel_rfl
theorem inf89:Ex.Inf Tryz.prog 89 7 56 (.agg [.int .i64 0,.int .i64 0,.int .i64 0,.int .i64 0,.int .i64 0,.int .i64 0,.int .i64 0].toArray):=by unfold Ex.Inf; kernel_rfl
theorem agg89:Ex.aggT Tryz.prog 89=true:=by kernel_rfl
theorem inf111:Ex.Inf Tryz.prog 111 2 16 (.agg [.int .i64 0,.int .i64 0].toArray):=by unfold Ex.Inf; kernel_rfl
theorem fld111_0:Ex.fldAt Tryz.prog 111 0=some 0:=by kernel_rfl
theorem fld119_0:Ex.fldAt Tryz.prog 119 0=some 0:=by kernel_rfl
theorem inf134:Ex.Inf Tryz.prog 134 2 32 (.agg [.pointer none,.slice none 0 0].toArray):=by unfold Ex.Inf; kernel_rfl
theorem inf163:Ex.Inf Tryz.prog 163 8 64 (.agg [.int .i64 0,.int .i64 0,.int .i64 0,.int .i64 0,.int .i64 0,.int .i64 0,.int .i64 0,.int .i64 0].toArray):=by unfold Ex.Inf; kernel_rfl
theorem agg163:Ex.aggT Tryz.prog 163=true:=by kernel_rfl
theorem inf164:Ex.Inf Tryz.prog 164 3 24 (.agg [.int .i64 0,.int .i64 0,.int .i64 0].toArray):=by unfold Ex.Inf; kernel_rfl
theorem agg164:Ex.aggT Tryz.prog 164=true:=by kernel_rfl
theorem inf172:Ex.Inf Tryz.prog 172 3 40 (.agg [.bool false,.int .i64 0,.slice none 0 0].toArray):=by unfold Ex.Inf; kernel_rfl
theorem agg172:Ex.aggT Tryz.prog 172=true:=by kernel_rfl
theorem inf179:Ex.Inf Tryz.prog 179 3 40 (.agg [.int .i64 0,.string ⟨#[]⟩,.string ⟨#[]⟩].toArray):=by unfold Ex.Inf; kernel_rfl
theorem inf217:Ex.Inf Tryz.prog 217 3 24 (.agg [.int .i64 0,.int .i64 0,.int .i64 0].toArray):=by unfold Ex.Inf; kernel_rfl
theorem eqv74:EqV Tryz.prog 74 Label zS:=⟨fun a b w=>by
  obtain ⟨a0,a1⟩:=a
  obtain ⟨c0,c1⟩:=b
  rw [run_equalIn_struct (P:=Tryz.prog) w 9999 74 _ _ Tryz.underlying74 (by kernel_rfl)]
  simp [go_sem,zS,toList_inj]
  try ((repeat' split) <;> simp_all),by kernel_rfl⟩
end
section
open Tryz
open Ex
attribute [local irreducible] WC WL WQ WE WS
set_option linter.unusedVariables false
set_option linter.unusedSimpArgs false
theorem c_isNaN (a:ByteArray) (w:World)   :
    Calls prog 96 #[.string a] w (Ret w (.bool false)):=by
 refine zq (N:=6) func96 (Mem.ofDats dn) ?_
 refine (go 14) (zX results96 fun w1 hM=>?_)
 exact zP qS hM
theorem c_cmpS (a:ByteArray) (b:ByteArray) (w:World)   :
    Calls prog 50 #[.string a,.string b] w (Ret w (iV (zI.cmpS a b))):=by
 refine zq (N:=20) func50 (Mem.ofDats dn) ?_
 refine (go 8) ?_
 refine yF call96 wn rfl (fun w1 hM=>c_isNaN a w1) ?_
 refine (go 6) ?_
 refine yF call96 wn rfl (fun w1 hM=>c_isNaN b w1) ?_
 refine (go 29) (yg (fun h1=>?_) fun h1=>?_)
 ·refine (go 7) (zX results50 fun w1 hM=>?_)
  exact zP (by simp [zI.cmpS,h1]) hM
 refine (go 10) (yg (fun h2=>?_) fun h2=>?_)
 ·refine (go 7) (zX results50 fun w1 hM=>?_)
  exact zP (by simp [zI.cmpS,h1,h2]) hM
 refine (go 8) (zX results50 fun w1 hM=>?_)
 exact zP (by simp [zI.cmpS,h1,h2]) hM
theorem c_or (lv:Value) (l:List Int) (w:World) (hl:zD (In w) 1 intE lv l w)  :
    Calls prog 49 #[lv] w (Ret w (iV (zI.orI l))):=by
 obtain ⟨lA,lc,rfl,hlc,hlm,hlA⟩:=hl.form
 refine zq (N:=18) func49 (Mem.ofDats (dc (dl hl) dn)) ?_
 refine (go 19) ?_
 refine yJ (fun (k:Nat)=>[(3,iV 0),(6,.slice lA l.length lc),(7,iV l.length),(8,iV k)]) (fun (k:Nat)=>[slO (In w) 1 intE (.slice lA l.length lc) l]) (fun (k:Nat)=>k≤l.length∧zI.orI l=zI.orI (l.drop k)) (fun (k:Nat)=>l.length - k) 0 (sc rfl (sc rfl (sc rfl (sc (ji qO) sn)))) (fun _ h=>h) ?_ (fun k hI1=>?_)
 ·simp
 refine (go 6) (zW (fun h1=>?_) fun h1=>?_)
 ·refine (go 6) ?_
  obtain ⟨ad1,s1,hd1,hs1⟩:=elx hlA k
  refine (go 12) (zW (fun h2=>?_) fun h2=>?_)
  ·refine (go 12) (zX results49 fun w1 hM=>?_)
   exact zP (by rw [hI1.2,zI.or_step hs1,if_pos h2]) hM
  refine (go 6) ?_
  refine zT (zj (k + 1) (sc rfl (sc rfl (sc rfl (sc (ji qO) sn)))) (fun _ h=>h) ?_ ?_)
  ·exact ⟨by omega,by rw [hI1.2,zI.or_step hs1,if_neg (by simpa using h2)]⟩
  omega
 refine (go 12) (zX results49 fun w1 hM=>?_)
 exact zP (by rw [hI1.2,zI.or_end qO]) hM
theorem c_cmpL (a:Label) (b:Label) (w:World)   :
    Calls prog 48 #[.agg (zS a).toArray,.agg (zS b).toArray] w (Ret w (iV (zI.cmpL a b))):=by
 refine zq (N:=17) func48 (Mem.ofDats dn) ?_
 refine (go 2) (yu fun b2=>yu fun b3=>?_)
 refine (go 4) (vE 10 ?_)
 refine (go 4) ?_
 refine yQ wn rfl call50 rfl (fun w1 hM=>c_cmpS a.key b.key w1) ?_
 refine (go 4) ?_
 refine yQ wn rfl call50 rfl (fun w1 hM=>c_cmpS a.val b.val w1) ?_
 refine (go 1) ?_
 refine zy intE ([(zI.cmpS a.key b.key),(zI.cmpS a.val b.val)]:List Int) wn underlying37 inf3 rfl rfl rfl rfl qD qD rfl fun b15=>yF call49 wn rfl (fun w1 hM=>c_or _ ([(zI.cmpS a.key b.key),(zI.cmpS a.val b.val)]:List Int) w1 (RowSl encInt hM 0 rfl)) ?_
 refine (go 4) (zX results48 fun w1 hM=>?_)
 exact zP (by rw [zI.orI_two]; rfl) hM
theorem c_compareFunc (av:Value) (a:List Label) (bv:Value) (b:List Label) (w:World) (ha:zD (In w) 2 zS av a w) (hb:zD (In w) 2 zS bv b w)  :
    Calls prog 47 #[av,bv,.func (.func 48) #[] #[]] w (Ret w (iV (zI.compare a b))):=by
 obtain ⟨aA,ac,rfl,hac,ham,haA⟩:=ha.form
 obtain ⟨bA,bc,rfl,hbc,hbm,hbA⟩:=hb.form
 refine zq (N:=39) func47 (Mem.ofDats (dc (dl ha) (dc (dl hb) dn))) ?_
 refine (go 14) ?_
 refine yJ (fun (k:Nat)=>[(0,.slice aA a.length ac),(1,.slice bA b.length bc),(2,.func (.func 48) #[] #[]),(11,.slice aA a.length ac),(12,iV a.length),(13,iV k)]) (fun (k:Nat)=>[slO (In w) 2 zS (.slice aA a.length ac) a,slO (In w) 2 zS (.slice bA b.length bc) b]) (fun (k:Nat)=>k≤a.length∧zI.compare a b=zI.compare (a.drop k) (b.drop k)) (fun (k:Nat)=>a.length - k) 0 (sc rfl (sc rfl (sc rfl (sc rfl (sc rfl (sc (ji qO) sn)))))) (fun _ h=>h) ?_ (fun k hI1=>?_)
 ·simp
 refine (go 6) (zW (fun h1=>?_) fun h1=>?_)
 ·refine (go 7) ?_
  obtain ⟨ad1,s1,hd1,hs1⟩:=elx haA k
  refine (go 2) (zw fun b8=>?_)
  refine (go 13) (zW (fun h2=>?_) fun h2=>?_)
  ·refine (go 12) (zX results47 fun w1 hM=>?_)
   exact zP (by rw [hI1.2,zI.compare_over hs1 qO]) hM
  refine (go 6) ?_
  obtain ⟨ad2,s2,hd2,hs2⟩:=elx hbA k
  refine (go 2) (zw fun b9=>?_)
  refine (go 8) ?_
  refine uN wn rfl rfl call48 rfl (fun w1 hM=>c_cmpL s1 s2 w1) ?_
  refine (go 9) (zW (fun h3=>?_) fun h3=>?_)
  ·refine (go 12) (zX results47 fun w1 hM=>?_)
   exact zP (by rw [hI1.2,zI.compare_step hs1 hs2,if_pos h3]) hM
  refine (go 6) ?_
  refine zT (zj (k + 1) (sc rfl (sc rfl (sc rfl (sc rfl (sc rfl (sc (ji qO) sn)))))) (S9 [2,3]) ?_ ?_)
  ·exact ⟨by omega,by rw [hI1.2,zI.compare_step hs1 hs2,if_neg (by simpa using h3)]⟩
  omega
 refine (go 15) (zW (fun h4=>?_) fun h4=>?_)
 ·refine (go 7) (zX results47 fun w1 hM=>?_)
  exact zP (by rw [hI1.2,zI.compare_end qO qO,if_pos qO]) hM
 refine (go 8) (zX results47 fun w1 hM=>?_)
 exact zP (by rw [hI1.2,zI.compare_end qO qO,if_neg qO]) hM
theorem c_compare (av:Value) (a:List Label) (bv:Value) (b:List Label) (w:World) (ha:zD (In w) 2 zS av a w) (hb:zD (In w) 2 zS bv b w)  :
    Calls prog 22 #[av,bv] w (Ret w (iV (zI.compare a b))):=by
 obtain ⟨aA,ac,rfl,hac,ham,haA⟩:=ha.form
 obtain ⟨bA,bc,rfl,hbc,hbm,hbA⟩:=hb.form
 refine zq (N:=8) func22 (Mem.ofDats (dc (dl ha) (dc (dl hb) dn))) ?_
 refine (go 9) ?_
 refine yF call47 wn rfl (fun w1 hM=>c_compareFunc _ a _ b w1 (hM.sl 0 rfl) (hM.sl 1 rfl)) ?_
 refine (go 4) (zX results22 fun w1 hM=>?_)
 exact zP rfl hM
theorem c_get (lv:Value) (l:List Label) (key:ByteArray) (w:World) (hl:zD (In w) 2 zS lv l w)  :
    Calls prog 104 #[lv,.string key] w (Ret w (.tuple #[.string (zI.get l key).1,.bool (zI.get l key).2])):=by
 obtain ⟨lA,lc,rfl,hlc,hlm,hlA⟩:=hl.form
 refine zq (N:=21) func104 (Mem.ofDats (dc (dl hl) dn)) ?_
 refine (go 15) ?_
 refine yJ (fun (k:Nat)=>[(1,.string key),(8,.slice lA l.length lc),(9,iV l.length),(10,iV k)]) (fun (k:Nat)=>[slO (In w) 2 zS (.slice lA l.length lc) l]) (fun (k:Nat)=>k≤l.length∧zI.get l key=zI.get (l.drop k) key) (fun (k:Nat)=>l.length - k) 0 (sc rfl (sc rfl (sc rfl (sc (ji qO) sn)))) (fun _ h=>h) ?_ (fun k hI1=>?_)
 ·simp
 refine (go 6) (zW (fun h1=>?_) fun h1=>?_)
 ·refine (go 6) ?_
  obtain ⟨ad1,s1,hd1,hs1⟩:=elx hlA k
  refine (go 2) (zw fun b7=>?_)
  refine (go 11) (zW (fun h2=>?_) fun h2=>?_)
  ·refine (go 14) (yL results104 fun w1 hM=>?_)
   exact zP (by rw [hI1.2,zI.get_step hs1,if_pos h2]) hM
  refine (go 6) ?_
  refine zT (zj (k + 1) (sc rfl (sc rfl (sc rfl (sc (ji qO) sn)))) (S9 [1]) ?_ ?_)
  ·exact ⟨by omega,by rw [hI1.2,zI.get_step hs1,if_neg h2]⟩
  omega
 refine (go 12) (yL results104 fun w1 hM=>?_)
 exact zP (by rw [hI1.2,zI.get_end qO]) hM
theorem c_matches (rv:Value) (r:List Label) (lv:Value) (l:List Match) (w:World) (hr:zD (In w) 2 zS rv r w) (hl:zD (In w) 3 zl lv l w)  :
    Calls prog 60 #[rv,lv] w (Ret w (.bool (zI.yC r l))):=by
 obtain ⟨rA,rc,rfl,hrc,hrm,hrA⟩:=hr.form
 obtain ⟨lA,lc,rfl,hlc,hlm,hlA⟩:=hl.form
 refine zq (N:=54) func60 (Mem.ofDats (dc (dl hr) (dc (dl hl) dn))) ?_
 refine (go 14) ?_
 refine yJ (fun (k:Nat)=>[(0,.slice rA r.length rc),(10,.slice lA l.length lc),(11,iV l.length),(12,iV k)]) (fun (k:Nat)=>[slO (In w) 2 zS (.slice rA r.length rc) r,slO (In w) 3 zl (.slice lA l.length lc) l]) (fun (k:Nat)=>k≤l.length∧∀ x ∈ l.take k,zI.match1 r x=true) (fun (k:Nat)=>l.length - k) 0 (sc rfl (sc rfl (sc rfl (sc (ji qO) sn)))) (fun _ h=>h) ?_ (fun k hI1=>?_)
 ·simp
 refine (go 6) (zW (fun h1=>?_) fun h1=>?_)
 ·refine (go 6) ?_
  obtain ⟨ad1,s1,hd1,hs1⟩:=elx hlA k
  refine (go 2) (zw fun b6=>?_)
  refine (go 8) ?_
  refine yF call104 wn rfl (fun w1 hM=>c_get _ r s1.key w1 (hM.sl 1 rfl)) ?_
  refine (go 26) (zW (fun h2=>?_) fun h2=>?_)
  ·refine (go 3) (jB 28 (fun h3=>?_) fun h3=>?_)
   ·refine (go 15) (zW (fun h4=>?_) fun h4=>?_)
    ·refine (go 11) (zX results60 fun w1 hM=>?_)
     exact zP (by rw [zI.matches_stop hs1 (by (try simp at h2); (try simp at h3); (try simp at h4); simp [zI.match1,h2,h3,h4])]) hM
    refine (go 6) ?_
    refine zT (zj (k + 1) (sc rfl (sc rfl (sc rfl (sc (ji qO) sn)))) (S9 [1,2]) ?_ ?_)
    ·exact ⟨by omega,zI.matches_step hs1 (by (try simp at h2); (try simp at h3); (try simp at h4); simp [zI.match1,h2,h3,h4]) hI1.2⟩
    omega
   refine (go 12) ?_
   refine za (yE rfl) ?_
   refine (go 14) (zX results60 fun w1 hM=>?_)
   exact zP (by rw [zI.matches_stop hs1 (by (try simp at h2); (try simp at h3); simp [zI.match1,h2,h3])]) hM
  refine (go 6) (zW (fun h5=>?_) fun h5=>?_)
  ·refine (go 2) ?_
   refine za (yE rfl) ?_
   refine (go 1) (jB 38 (fun h6=>?_) fun h6=>?_)
   ·refine (go 12) ?_
    refine za (yE rfl) ?_
    refine (go 9) ?_
    refine zT (zj (k + 1) (sc rfl (sc rfl (sc rfl (sc (ji qO) sn)))) (S9 [1,2]) ?_ ?_)
    ·exact ⟨by omega,zI.matches_step hs1 (by (try simp at h2); (try simp at h5); (try simp at h6); simp [zI.match1,h2,h5,h6]) hI1.2⟩
    omega
   refine (go 15) (zW (fun h7=>?_) fun h7=>?_)
   ·refine (go 11) (zX results60 fun w1 hM=>?_)
    exact zP (by rw [zI.matches_stop hs1 (by (try simp at h2); (try simp at h5); (try simp at h6); (try simp at h7); simp [zI.match1,h2,h5,h6,h7])]) hM
   refine (go 6) ?_
   refine zT (zj (k + 1) (sc rfl (sc rfl (sc rfl (sc (ji qO) sn)))) (S9 [1,2]) ?_ ?_)
   ·exact ⟨by omega,zI.matches_step hs1 (by (try simp at h2); (try simp at h5); (try simp at h6); (try simp at h7); simp [zI.match1,h2,h5,h6,h7]) hI1.2⟩
   omega
  refine (go 6) (zW (fun h8=>?_) fun h8=>?_)
  ·refine (go 9) ?_
   refine za (yE rfl) ?_
   refine (go 2) (yg (fun h9=>?_) fun h9=>?_)
   ·refine (go 11) (zX results60 fun w1 hM=>?_)
    exact zP (by rw [zI.matches_stop hs1 (by (try simp at h2); (try simp at h5); (try simp at h8); (try simp at h9); simp [zI.match1,h2,h5,h8,h9])]) hM
   refine (go 6) ?_
   refine zT (zj (k + 1) (sc rfl (sc rfl (sc rfl (sc (ji qO) sn)))) (S9 [1,2]) ?_ ?_)
   ·exact ⟨by omega,zI.matches_step hs1 (by (try simp at h2); (try simp at h5); (try simp at h8); (try simp at h9); simp [zI.match1,h2,h5,h8,h9]) hI1.2⟩
   omega
  refine (go 6) (zW (fun h10=>?_) fun h10=>?_)
  ·refine (go 2) ?_
   refine za (yE rfl) ?_
   refine (go 7) ?_
   refine za (yE rfl) ?_
   refine (go 2) (yg (fun h11=>?_) fun h11=>?_)
   ·refine (go 11) (zX results60 fun w1 hM=>?_)
    exact zP (by rw [zI.matches_stop hs1 (by (try simp at h2); (try simp at h5); (try simp at h8); (try simp at h10); (try simp at h11); simp [zI.match1,h2,h5,h8,h10,h11])]) hM
   refine (go 6) ?_
   refine zT (zj (k + 1) (sc rfl (sc rfl (sc rfl (sc (ji qO) sn)))) (S9 [1,2]) ?_ ?_)
   ·exact ⟨by omega,zI.matches_step hs1 (by (try simp at h2); (try simp at h5); (try simp at h8); (try simp at h10); (try simp at h11); simp [zI.match1,h2,h5,h8,h10,h11]) hI1.2⟩
   omega
  refine (go 6) ?_
  refine za (yE rfl) ?_
  refine (go 14) (zX results60 fun w1 hM=>?_)
  exact zP (by rw [zI.matches_stop hs1 (by (try simp at h2); (try simp at h5); (try simp at h8); (try simp at h10); simp [zI.match1,h2,h5,h8,h10])]) hM
 refine (go 11) (zX results60 fun w1 hM=>?_)
 exact zP (by rw [zI.matches_done qO hI1.2]) hM
theorem uB (s:ByteArray) (w:World)   :
    Calls prog 92 #[.string s] w (Ret w (.bool (zI.named s))):=by
 refine zq (N:=44) func92 (Mem.ofDats dn) ?_
 refine (go 6) ?_
 refine yq [(0,.string s),(12,.bool (decide (((s.size:Int) < 1)∨(12 < (s.size:Int)))))] (Mem w no []) (fun _ hK3=>?_) ?_
 ·refine (go 5) (yO 8 (fun h1=>?_) fun h1=>?_)
  ·refine (go 4) ?_
   refine zT (zt hK3 (sc rfl (sc (jt (Or.inl h1)) sn)) (fun _ h=>h))
  refine (go 4) ?_
  refine zT (zt hK3 (sc rfl (sc (jp (iff_or_right h1 Iff.rfl)) sn)) (fun _ h=>h))
 refine zW (fun h2=>?_) fun h2=>?_
 ·refine (go 7) (zX results92 fun w1 hM=>?_)
  exact zP (by unfold zI.named; simp; omega) hM
 refine (go 11) ?_
 refine yJ (fun (k:Nat)=>[(0,.string s),(14,iV s.size),(15,iV k)]) (fun (k:Nat)=>[]) (fun (k:Nat)=>k≤s.size∧zI.namedL 0 s.data.toList=zI.namedL k (s.data.toList.drop k)) (fun (k:Nat)=>s.size - k) 0 (sc rfl (sc rfl (sc (ji qO) sn))) (fun _ h=>h) ?_ (fun k hI1=>?_)
 ·simp
 refine (go 6) (zW (fun h3=>?_) fun h3=>?_)
 ·refine (go 14) ?_
  obtain ⟨c1,hc1⟩:∃ x,s[k]?=some x:=⟨_,byte_at qI⟩
  refine za (uV rfl rfl qO hc1 underlying9) ?_
  refine (go 3) ?_
  refine yq [(0,.string s),(14,iV s.size),(15,iV k),(42,.bool (decide ((((c1.toNat:Int) < 97)∧(((k:Int)=0)∨((((c1.toNat:Int) < 48)∧((c1.toNat:Int)≠95))∨(¬ ((c1.toNat:Int) < 48)∧((57 < (c1.toNat:Int))∧((c1.toNat:Int)≠95))))))∨(¬ ((c1.toNat:Int) < 97)∧((122 < (c1.toNat:Int))∧(((k:Int)=0)∨((((c1.toNat:Int) < 48)∧((c1.toNat:Int)≠95))∨(¬ ((c1.toNat:Int) < 48)∧((57 < (c1.toNat:Int))∧((c1.toNat:Int)≠95))))))))))] (Mem w no []) (fun _ hK12=>?_) ?_
  ·refine (go 4) (yO 23 (fun h4=>?_) fun h4=>?_)
   ·refine (go 7) (yO 30 (fun h5=>?_) fun h5=>?_)
    ·refine (go 12) ?_
     refine zT (zt hK12 (sc rfl (sc rfl (sc rfl (sc (jt (Or.inl ⟨h4,(Or.inl h5)⟩)) sn)))) (fun _ h=>h))
    refine (go 3) (yO 33 (fun h6=>?_) fun h6=>?_)
    ·refine (go 9) ?_
     refine zT (zt hK12 (sc rfl (sc rfl (sc rfl (sc (jp (iff_ite_l h4 (iff_or_right h5 (iff_ite_l h6 Iff.rfl)))) sn)))) (fun _ h=>h))
    refine (go 4) (yO 37 (fun h7=>?_) fun h7=>?_)
    ·refine (go 5) ?_
     refine zT (zt hK12 (sc rfl (sc rfl (sc rfl (sc (jp (iff_ite_l h4 (iff_or_right h5 (iff_ite_r h6 (iff_and_right h7 Iff.rfl))))) sn)))) (fun _ h=>h))
    refine (go 5) ?_
    refine zT (zt hK12 (sc rfl (sc rfl (sc rfl (sc (jf (fun g=>g.elim (fun k=>(fun g=>g.elim h5 (fun g=>g.elim (fun k=>h6 k.1) (fun k=>(fun g=>h7 g.1) k.2))) k.2) (fun k=>k.1 h4))) sn)))) (fun _ h=>h))
   refine (go 4) (yO 27 (fun h8=>?_) fun h8=>?_)
   ·refine (go 3) (yO 30 (fun h9=>?_) fun h9=>?_)
    ·refine (go 12) ?_
     refine zT (zt hK12 (sc rfl (sc rfl (sc rfl (sc (jt (Or.inr ⟨h4,⟨h8,(Or.inl h9)⟩⟩)) sn)))) (fun _ h=>h))
    refine (go 3) (yO 33 (fun h10=>?_) fun h10=>?_)
    ·refine (go 9) ?_
     refine zT (zt hK12 (sc rfl (sc rfl (sc rfl (sc (jp (iff_ite_r h4 (iff_and_right h8 (iff_or_right h9 (iff_ite_l h10 Iff.rfl))))) sn)))) (fun _ h=>h))
    refine (go 4) (yO 37 (fun h11=>?_) fun h11=>?_)
    ·refine (go 5) ?_
     refine zT (zt hK12 (sc rfl (sc rfl (sc rfl (sc (jp (iff_ite_r h4 (iff_and_right h8 (iff_or_right h9 (iff_ite_r h10 (iff_and_right h11 Iff.rfl)))))) sn)))) (fun _ h=>h))
    refine (go 5) ?_
    refine zT (zt hK12 (sc rfl (sc rfl (sc rfl (sc (jf (fun g=>g.elim (fun k=>h4 k.1) (fun k=>(fun g=>(fun g=>g.elim h9 (fun g=>g.elim (fun k=>h10 k.1) (fun k=>(fun g=>h11 g.1) k.2))) g.2) k.2))) sn)))) (fun _ h=>h))
   refine (go 15) ?_
   refine zT (zt hK12 (sc rfl (sc rfl (sc rfl (sc (jf (fun g=>g.elim (fun k=>h4 k.1) (fun k=>(fun g=>h8 g.1) k.2))) sn)))) (fun _ h=>h))
  refine zW (fun h12=>?_) fun h12=>?_
  ·refine (go 11) (zX results92 fun w1 hM=>?_)
   exact zP (by unfold zI.named; rw [hI1.2,zI.named_step hc1,decide_eq_false (show ¬ zI.fineB k c1 from by unfold zI.fineB; omega)]; simp) hM
  refine (go 6) ?_
  refine zT (zj (k + 1) (sc rfl (sc rfl (sc (ji qO) sn))) (fun _ h=>h) ?_ ?_)
  ·exact ⟨by omega,by rw [hI1.2,zI.named_step hc1,decide_eq_true (show zI.fineB k c1 from by unfold zI.fineB; omega),Bool.true_and]⟩
  omega
 refine (go 11) (zX results92 fun w1 hM=>?_)
 exact zP (by unfold zI.named; rw [decide_eq_true qO,decide_eq_true qO,hI1.2,zI.named_end qO]; rfl) hM
theorem c_namesWrong (lv:Value) (l:List Label) (w:World) (hl:zD (In w) 2 zS lv l w)  :
    Calls prog 42 #[lv] w (Ret w (iV (zI.wrong l))):=by
 obtain ⟨lA,lc,rfl,hlc,hlm,hlA⟩:=hl.form
 refine zq (N:=39) func42 (Mem.ofDats (dc (dl hl) dn)) ?_
 refine (go 13) (zW (fun h1=>?_) fun h1=>?_)
 ·refine (go 7) (zX results42 fun w1 hM=>?_)
  exact zP (by rw [zI.wrong,if_pos qO]) hM
 refine (go 11) ?_
 refine yJ (fun (k:Nat)=>[(0,.slice lA l.length lc),(8,.slice lA l.length lc),(9,iV l.length),(10,iV k)]) (fun (k:Nat)=>[slO (In w) 2 zS (.slice lA l.length lc) l]) (fun (k:Nat)=>k≤l.length∧zI.wrongFrom none l=zI.wrongFrom (zI.prevOf l k) (l.drop k)) (fun (k:Nat)=>l.length - k) 0 (sc rfl (sc rfl (sc rfl (sc (ji qO) sn)))) (fun _ h=>h) ?_ (fun k hI1=>?_)
 ·exact ⟨by omega,zI.wrong_start l⟩
 refine (go 6) (zW (fun h2=>?_) fun h2=>?_)
 ·refine (go 7) ?_
  obtain ⟨ad1,s1,hd1,hs1⟩:=elx hlA k
  refine (go 2) (zw fun b4=>?_)
  refine (go 5) ?_
  refine yq [(0,.slice lA l.length lc),(3,iV k),(4,.pointer (some ⟨b4,0,none⟩)),(8,.slice lA l.length lc),(9,iV l.length),(10,iV k),(24,.bool (decide (((!(zI.named s1.key))=true)∨((!(zI.named s1.val))=true))))] (Mem w no [.blk b4 [.string s1.key,.string s1.val] 74,slO (In w) 2 zS (.slice lA l.length lc) l]) (fun _ hK12=>?_) ?_
  ·refine (go 3) ?_
   refine yF call92 wn rfl (fun w1 hM=>uB s1.key w1) (za (yE rfl) ?_)
   refine (go 1) (jB 19 (fun h3=>?_) fun h3=>?_)
   ·refine (go 5) ?_
    refine zT (zt hK12 (sc rfl (sc rfl (sc rfl (sc rfl (sc rfl (sc rfl (sc (jt (Or.inl h3)) sn))))))) (fun _ h=>h))
   refine (go 2) ?_
   refine yF call92 (wg rfl rfl rfl) rfl (fun w1 hM=>uB s1.val w1) (y6 (yE rfl) ?_)
   refine (go 1) ?_
   refine zT (zt hK12 (sc rfl (sc rfl (sc rfl (sc rfl (sc rfl (sc rfl (sc (jpb (iff_or_right h3 Iff.rfl)) sn))))))) (fun _ h=>h))
  refine zW (fun h4=>?_) fun h4=>?_
  ·refine (go 12) (zX results42 fun w1 hM=>?_)
   exact zP (by rw [zI.wrong,if_neg qO,hI1.2,zI.wrong_step hs1,if_pos h4]) hM
  refine (go 7) (vh 27 (fun h5=>?_) fun h5=>?_)
  ·refine (go 3) ?_
   refine vt (yz (i:=(k - 1)) rfl hd1 rfl qO qI underlying39 inf74) ?_
   refine (go 1) ?_
   obtain ⟨s2,hs2⟩:=gx l ((k - 1))
   refine (go 7) (yg (fun h6=>?_) fun h6=>?_)
   ·refine (go 11) (zX results42 fun w1 hM=>?_)
    exact zP (by rw [zI.wrong,if_neg qO,hI1.2,zI.wrong_step hs1,if_neg h4,if_pos (by rw [zI.prevOf,if_neg qO,hs2]; simpa [zI.behind] using h6)]) hM
   refine (go 6) ?_
   refine zT (zj (k + 1) (sc rfl (sc rfl (sc rfl (sc (ji qO) sn)))) (S9 [1]) ?_ ?_)
   ·exact ⟨by omega,by rw [hI1.2,zI.wrong_step hs1,if_neg h4,if_neg (by rw [zI.prevOf,if_neg qO,hs2]; simpa [zI.behind] using h6)]⟩
   omega
  refine (go 19) ?_
  refine zT (zj (k + 1) (sc rfl (sc rfl (sc rfl (sc (ji qO) sn)))) (S9 [1]) ?_ ?_)
  ·exact ⟨by omega,by rw [hI1.2,zI.wrong_step hs1,if_neg h4,if_neg (by rw [zI.prevOf,if_pos qO]; simp [zI.behind])]⟩
  omega
 refine (go 11) (zX results42 fun w1 hM=>?_)
 exact zP (by rw [zI.wrong,if_neg qO,hI1.2,zI.wrong_end qO]) hM
theorem c_index (lv:Value) (l:List ByteArray) (v:ByteArray) (w:World) (hl:zD (In w) 1 strE lv l w)  :
    Calls prog 185 #[lv,.string v] w (Ret w (iV (zI.indexOf l v 0))):=by
 obtain ⟨lA,lc,rfl,hlc,hlm,hlA⟩:=hl.form
 refine zq (N:=19) func185 (Mem.ofDats (dc (dl hl) dn)) ?_
 refine (go 14) ?_
 refine yJ (fun (k:Nat)=>[(0,.slice lA l.length lc),(1,.string v),(7,iV l.length),(8,iV k)]) (fun (k:Nat)=>[slO (In w) 1 strE (.slice lA l.length lc) l]) (fun (k:Nat)=>k≤l.length∧zI.indexOf l v 0=zI.indexOf (l.drop k) v k) (fun (k:Nat)=>l.length - k) 0 (sc rfl (sc rfl (sc rfl (sc (ji qO) sn)))) (fun _ h=>h) ?_ (fun k hI1=>?_)
 ·simp
 refine (go 6) (zW (fun h1=>?_) fun h1=>?_)
 ·refine (go 15) ?_
  obtain ⟨ad1,s1,hd1,hs1⟩:=elx hlA k
  refine (go 5) (zW (fun h2=>?_) fun h2=>?_)
  ·refine (go 12) (zX results185 fun w1 hM=>?_)
   exact zP (by rw [hI1.2,zI.index_step hs1,if_pos h2]) hM
  refine (go 6) ?_
  refine zT (zj (k + 1) (sc rfl (sc rfl (sc rfl (sc (ji qO) sn)))) (fun _ h=>h) ?_ ?_)
  ·exact ⟨by omega,by rw [hI1.2,zI.index_step hs1,if_neg h2]⟩
  omega
 refine (go 11) (zX results185 fun w1 hM=>?_)
 exact zP (by rw [hI1.2,zI.index_end qO]) hM
theorem vX (lv:Value) (l:List ByteArray) (v:ByteArray) (w:World) (hl:zD (In w) 1 strE lv l w)  :
    Calls prog 150 #[lv,.string v] w (Ret w (.bool (decide (0≤zI.indexOf l v 0)))):=by
 obtain ⟨lA,lc,rfl,hlc,hlm,hlA⟩:=hl.form
 refine zq (N:=9) func150 (Mem.ofDats (dc (dl hl) dn)) ?_
 refine (go 9) ?_
 refine yF call185 wn rfl (fun w1 hM=>c_index _ l v w1 (hM.sl 0 rfl)) ?_
 refine (go 5) (zX results150 fun w1 hM=>?_)
 exact zP rfl hM
theorem c_only (lv:Value) (l:List Label) (by_v:Value) (by_:List ByteArray) (w:World) (hl:zD (In w) 2 zS lv l w) (hby_:zD (In w) 1 strE by_v by_ w) (hl1:l.length≤1048576) :
    Calls prog 188 #[lv,by_v] w (RetL w 74 2 zS (zI.only l by_)):=by
 obtain ⟨lA,lc,rfl,hlc,hlm,hlA⟩:=hl.form
 obtain ⟨by_A,by_c,rfl,hby_c,hby_m,hby_A⟩:=hby_.form
 refine zq (N:=24) func188 (Mem.ofDats (dc (dl hl) (dc (dl hby_) dn))) ?_
 refine (go 2) ?_
 refine yD (zS:Label→List Value) 74 2 ?_
 refine (go 5) ?_
 refine yD (zS:Label→List Value) 74 2 ?_
 refine (go 12) ?_
 refine va (fun (k:Nat) (vr:Value)=>[(1,.slice by_A by_.length by_c),(5,vr),(8,.slice lA l.length lc),(9,iV l.length),(10,iV k)]) (fun (k:Nat) (vr:Value)=>[Row vr 74 2 zS (zI.only (l.take k) by_),Row (Zs) 74 2 zS ([]:List Label),slO (In w) 2 zS (.slice lA l.length lc) l,slO (In w) 1 strE (.slice by_A by_.length by_c) by_]) (fun (k:Nat) (vr:Value)=>k≤l.length) (fun (k:Nat) (vr:Value)=>l.length - k) 0 (Zs) (sc rfl (sc rfl (sc rfl (sc rfl (sc (ji qO) sn))))) (fun _ h=>h) ?_ (fun k vr hI1=>?_)
 ·omega
 have hlen:=Nat.le_trans (zI.only_len (l.take k) by_) (List.length_take_le k l)
 refine yW 0 (l:=(zI.only (l.take k) by_)) rfl fun A1 cp1 hv1 hc1 hm1 hA1=>?_
 subst hv1
 refine (go 6) (zW (fun h1=>?_) fun h1=>?_)
 ·refine (go 6) ?_
  obtain ⟨ad1,s1,hd1,hs1⟩:=elx hlA k
  refine (go 2) (zw fun b7=>?_)
  refine (go 8) ?_
  refine yF call150 wn rfl (fun w1 hM=>vX _ by_ s1.key w1 (hM.sl 4 rfl)) ?_
  refine (go 2) (zW (fun h2=>?_) fun h2=>?_)
  ·refine (go 3) ?_
   refine zy zS ([s1]:List Label) wn underlying39 inf74 rfl rfl rfl rfl qD qD rfl fun b20=>yH 2 (zI.only (l.take k) by_) ([s1]:List Label) encLabel wn rfl rfl rfl (fun _ hM=>(RowSl encLabel hM 0 rfl)) underlying39 inf74 rfl rfl (by simp only [qL]; omega) rfl fun A2 cp2 hc2 hm2 hA2=>?_
   refine (go 7) ?_
   refine zT (yd (k + 1) (.slice A2 (((zI.only (l.take k) by_)++([s1]:List Label)).length) cp2) (sc rfl (sc rfl (sc rfl (sc rfl (sc (ji qO) sn))))) (fun _ h=>by rw [(zI.only_succ hs1).trans (if_pos h2)]; exact (h.sel [2,3,4,5] qD rfl)) ?_ ?_)
   ·omega
   omega
  refine (go 6) ?_
  refine zT (yd (k + 1) (.slice A1 ((zI.only (l.take k) by_).length) cp1) (sc rfl (sc rfl (sc rfl (sc rfl (sc (ji qO) sn))))) (fun _ h=>by rw [(zI.only_succ hs1).trans (if_neg h2)]; exact (h.sel [1,2,3,4] qD rfl)) ?_ ?_)
  ·omega
  omega
 refine (go 12) (zX results188 fun w1 hM=>?_)
 exact hM.vp 0 rfl (by rw [List.take_of_length_le qO])
end
section
open Tryz
open Ex
attribute [local irreducible] WC WL WQ WE WS
set_option linter.unusedVariables false
set_option linter.unusedSimpArgs false
theorem c_rise (a:Int) (b:Int) (w:World)   :
    Calls prog 110 #[iV a,iV b] w (Ret w (iV (Agg.rise a b))):=by
 refine zq (N:=12) func110 (Mem.ofDats dn) ?_
 refine (go 13) (zW (fun h1=>?_) fun h1=>?_)
 ·refine (go 8) (zX results110 fun w1 hM=>?_)
  exact zP (by simp [Agg.rise,h1]) hM
 refine (go 6) ?_
 refine za (jn rfl rfl) ?_
 refine (go 4) (zX results110 fun w1 hM=>?_)
 exact zP (by simp [Agg.rise,h1]) hM
theorem je (v:Int) (w:World)   :
    Calls prog 67 #[iV v] w (Ret w (.agg (sumE (Agg.one v)).toArray)):=by
 refine zq (N:=9) func67 (Mem.ofDats dn) ?_
 refine (go 2) (zw fun b2=>?_)
 refine (go 14) (zX results67 fun w1 hM=>?_)
 exact yp rfl hM
theorem vY (a:Sum) (b:Sum) (w:World)   :
    Calls prog 66 #[.agg (sumE a).toArray,.agg (sumE b).toArray] w (Ret w (.agg (sumE (Agg.join a b)).toArray)):=by
 refine zq (N:=51) func66 (Mem.ofDats dn) ?_
 refine (go 2) (yu fun b2=>yu fun b3=>zw fun b4=>?_)
 refine (go 12) (zW (fun h1=>?_) fun h1=>?_)
 ·refine (go 9) (zX results66 fun w1 hM=>?_)
  exact yp (l1:=[iV b.count,iV b.total,iV b.min,iV b.max,iV b.first,iV b.last,iV b.rise]) (by simp [Agg.join,sumE,h1]) hM
 refine (go 8) (zW (fun h2=>?_) fun h2=>?_)
 ·refine (go 9) (zX results66 fun w1 hM=>?_)
  exact yp (l1:=[iV a.count,iV a.total,iV a.min,iV a.max,iV a.first,iV a.last,iV a.rise]) (by simp [Agg.join,sumE,h1,h2]) hM
 refine (go 4) (vE 36 ?_)
 refine (go 4) ?_
 refine yZ (uu rfl rfl) ?_
 refine (go 4) ?_
 refine yZ (uu rfl rfl) ?_
 refine (go 20) ?_
 refine yQ wn rfl call110 rfl (fun w1 hM=>c_rise a.last b.first w1) (yZ (uu rfl rfl) ?_)
 refine (go 2) ?_
 refine yZ (uu rfl rfl) ?_
 refine (go 6) (zX results66 fun w1 hM=>?_)
 exact yp (l1:=[iV (IntKind.wrap .i64 (a.count + b.count)),iV (IntKind.wrap .i64 (a.total + b.total)),iV (if b.min < a.min then b.min else a.min),iV (if a.max < b.max then b.max else a.max),iV a.first,iV b.last,iV (IntKind.wrap .i64 ((IntKind.wrap .i64 (a.rise + (Agg.rise a.last b.first))) + b.rise))]) (by simp [Agg.join,sumE,h1,h2]) hM
theorem c_Of (lv:Value) (l:List Sample) (w:World) (hl:zD (In w) 2 zQ lv l w)  :
    Calls prog 36 #[lv] w (Ret w (.agg (sumE (Agg.of l)).toArray)):=by
 obtain ⟨lA,lc,rfl,hlc,hlm,hlA⟩:=hl.form
 refine zq (N:=19) func36 (Mem.ofDats (dc (dl hl) dn)) ?_
 refine (go 2) (zw fun b2=>?_)
 refine (go 4) (zw fun b3=>?_)
 refine (go 11) ?_
 refine yJ (fun (k:Nat)=>[(2,.pointer (some ⟨b2,0,none⟩)),(3,.pointer (some ⟨b3,0,none⟩)),(6,.slice lA l.length lc),(7,iV l.length),(8,iV k)]) (fun (k:Nat)=>[.blk b3 [iV ((Agg.of (l.take k)).count),iV ((Agg.of (l.take k)).total),iV ((Agg.of (l.take k)).min),iV ((Agg.of (l.take k)).max),iV ((Agg.of (l.take k)).first),iV ((Agg.of (l.take k)).last),iV ((Agg.of (l.take k)).rise)] 89,.blk b2 [iV 0,iV 0,iV 0,iV 0,iV 0,iV 0,iV 0] 89,slO (In w) 2 zQ (.slice lA l.length lc) l]) (fun (k:Nat)=>k≤l.length) (fun (k:Nat)=>l.length - k) 0 (sc rfl (sc rfl (sc rfl (sc rfl (sc (ji qO) sn))))) (fun _ h=>h) ?_ (fun k hI1=>?_)
 ·omega
 refine (go 6) (zW (fun h1=>?_) fun h1=>?_)
 ·refine (go 6) ?_
  obtain ⟨ad1,s1,hd1,hs1⟩:=elx hlA k
  refine (go 2) (zw fun b5=>?_)
  refine (go 3) (vE 5 ?_)
  refine (go 3) ?_
  refine yQ wn rfl call67 rfl (fun w1 hM=>je s1.value w1) (yQ wn rfl call66 rfl (fun w1 hM=>vY (Agg.of (l.take k)) (Agg.one s1.value) w1) ?_)
  refine (go 8) ?_
  have hst:=Agg.of_take_succ l k s1 hs1
  refine zT (zj (k + 1) (sc rfl (sc rfl (sc rfl (sc rfl (sc (ji qO) sn))))) (fun _ h=>by rw [hst]; exact (h.sel [1,2,3] qD rfl)) ?_ ?_)
  ·omega
  omega
 refine (go 12) (zX results36 fun w1 hM=>?_)
 exact yp (l1:=[iV ((Agg.of (l.take k)).count),iV ((Agg.of (l.take k)).total),iV ((Agg.of (l.take k)).min),iV ((Agg.of (l.take k)).max),iV ((Agg.of (l.take k)).first),iV ((Agg.of (l.take k)).last),iV ((Agg.of (l.take k)).rise)]) (by rw [List.take_of_length_le qO]) hM
theorem jD  (w:World)   :
    Calls prog 33 #[] w (RetL w 9 1 strE Agg.words):=by
 refine zq (N:=2) func33 (Mem.ofDats dn) ?_
 refine (go 7) ?_
 refine zy strE ([⟨#[97,118,103]⟩,⟨#[99,111,117,110,116]⟩,⟨#[102,105,114,115,116]⟩,⟨#[108,97,115,116]⟩,⟨#[109,97,120]⟩,⟨#[109,105,110]⟩,⟨#[114,105,115,101]⟩,⟨#[115,117,109]⟩]:List ByteArray) wn underlying56 inf9 rfl rfl rfl rfl qD qD rfl fun b1=>?_
 refine (go 4) (zX results33 fun w1 hM=>?_)
 exact hM.vp 0 rfl rfl
theorem c_Value (word:ByteArray) (s:Sum) (w:World)   :
    Calls prog 35 #[.string word,.agg (sumE s).toArray] w (Ret w (.tuple #[iV (Agg.value word s).1,.bool (Agg.value word s).2])):=by
 refine zq (N:=45) func35 (Mem.ofDats dn) ?_
 refine (go 2) (yu fun b3=>?_)
 refine (go 12) (zW (fun h1=>?_) fun h1=>?_)
 ·refine (go 8) (yL results35 fun w1 hM=>?_)
  exact zP (by simp [Agg.value,h1]) hM
 refine (go 15) (zW (fun h2=>?_) fun h2=>?_)
 ·refine (go 6) ?_
  refine za (r_quo rfl rfl qO) ?_
  refine (go 7) (yL results35 fun w1 hM=>?_)
  exact zP (by simp [Agg.value,h1,h2]) hM
 refine (go 6) (zW (fun h3=>?_) fun h3=>?_)
 ·refine (go 11) (yL results35 fun w1 hM=>?_)
  exact zP (by simp [Agg.value,h1,h2,h3]) hM
 refine (go 6) (zW (fun h4=>?_) fun h4=>?_)
 ·refine (go 11) (yL results35 fun w1 hM=>?_)
  exact zP (by simp [Agg.value,h1,h2,h3,h4]) hM
 refine (go 6) (zW (fun h5=>?_) fun h5=>?_)
 ·refine (go 11) (yL results35 fun w1 hM=>?_)
  exact zP (by simp [Agg.value,h1,h2,h3,h4,h5]) hM
 refine (go 6) (zW (fun h6=>?_) fun h6=>?_)
 ·refine (go 11) (yL results35 fun w1 hM=>?_)
  exact zP (by simp [Agg.value,h1,h2,h3,h4,h5,h6]) hM
 refine (go 6) (zW (fun h7=>?_) fun h7=>?_)
 ·refine (go 11) (yL results35 fun w1 hM=>?_)
  exact zP (by simp [Agg.value,h1,h2,h3,h4,h5,h6,h7]) hM
 refine (go 6) (zW (fun h8=>?_) fun h8=>?_)
 ·refine (go 11) (yL results35 fun w1 hM=>?_)
  exact zP (by simp [Agg.value,h1,h2,h3,h4,h5,h6,h7,h8]) hM
 refine (go 6) (zW (fun h9=>?_) fun h9=>?_)
 ·refine (go 11) (yL results35 fun w1 hM=>?_)
  exact zP (by simp [Agg.value,h1,h2,h3,h4,h5,h6,h7,h8,h9]) hM
 refine (go 10) (yL results35 fun w1 hM=>?_)
 exact zP (by simp [Agg.value,h1,h2,h3,h4,h5,h6,h7,h8,h9]) hM
end
section
open Tryz
open Ex
attribute [local irreducible] WC WL WQ WE WS
set_option linter.unusedVariables false
set_option linter.unusedSimpArgs false
theorem c_idxX (lv:Value) (l:List zB) (f:Nat) (fcap:Array Value) (fp:zB→Bool) (P0:Nat→Prop) (w:World) (hP0:∀ b,P0 b→b < w.heap.size) (hl:zD P0 7 zk lv l w) (hla:∀ x ∈ l,zB.Ok P0 x w) (fc:∀ vs w,(callFunc f vs).run prog w=.ok (.enter f vs) w) (fh:∀ x:zB,x ∈ l→∀ w1:World,Fr no w w1→Calls prog f (#[.agg (zk x).toArray]++fcap) w1 (Ret w1 (.bool (fp x))))  :
    Calls prog 214 #[lv,.func (.func f) #[] fcap] w (Ret w (iV (Sh.idx fp l))):=by
 have hwl:∀ x ∈ l,zB.Wf x:=fun x hx=>(hla x hx).wf
 obtain ⟨lA,lc,rfl,hlc,hlm,hlA⟩:=hl.form
 refine zq (N:=19) func214 (Mem.ofDatsP hP0 (dc (dlp hl) (dc (dp (all_loc zB.Ok.loc _) hla) dn))) ?_
 refine (go 14) ?_
 refine yJ (fun (k:Nat)=>[(0,.slice lA l.length lc),(1,.func (.func f) #[] fcap),(7,iV l.length),(8,iV k)]) (fun (k:Nat)=>[slP 7 zk (.slice lA l.length lc) l,allP zB.Ok l]) (fun (k:Nat)=>k≤l.length∧∀ y ∈ l.take k,fp y=false) (fun (k:Nat)=>l.length - k) 0 (sc rfl (sc rfl (sc rfl (sc (ji qO) sn)))) (fun _ h=>h) ?_ (fun k hI1=>?_)
 ·simp
 refine (go 6) (zW (fun h1=>?_) fun h1=>?_)
 ·refine (go 15) ?_
  obtain ⟨ad1,s1,hd1,hs1⟩:=elx hlA k
  refine (go 2) ?_
  refine vN wn rfl rfl fc rfl (fun w1 hM=>fh s1 (List.mem_of_getElem? hs1) w1 hM.fr) ?_
  refine (go 2) (yg (fun h2=>?_) fun h2=>?_)
  ·refine (go 12) (zX results214 fun w1 hM=>?_)
   exact zP (by rw [Sh.idx_at hI1.2 hs1 h2]) hM
  refine (go 6) ?_
  refine zT (zj (k + 1) (sc rfl (sc rfl (sc rfl (sc (ji qO) sn)))) (fun _ h=>h) ?_ ?_)
  ·exact ⟨by omega,Sh.none_step hI1.2 hs1 h2⟩
  omega
 refine (go 11) (zX results214 fun w1 hM=>?_)
 exact zP (by rw [Sh.idx_none hI1.2 qO]) hM
theorem c_contX (lv:Value) (l:List zB) (f:Nat) (fcap:Array Value) (fp:zB→Bool) (P0:Nat→Prop) (w:World) (hP0:∀ b,P0 b→b < w.heap.size) (hl:zD P0 7 zk lv l w) (hla:∀ x ∈ l,zB.Ok P0 x w) (fc:∀ vs w,(callFunc f vs).run prog w=.ok (.enter f vs) w) (fh:∀ x:zB,x ∈ l→∀ w1:World,Fr no w w1→Calls prog f (#[.agg (zk x).toArray]++fcap) w1 (Ret w1 (.bool (fp x))))  :
    Calls prog 187 #[lv,.func (.func f) #[] fcap] w (Ret w (.bool (l.any fp))):=by
 have hwl:∀ x ∈ l,zB.Wf x:=fun x hx=>(hla x hx).wf
 obtain ⟨lA,lc,rfl,hlc,hlm,hlA⟩:=hl.form
 refine zq (N:=9) func187 (Mem.ofDatsP hP0 (dc (dlp hl) (dc (dp (all_loc zB.Ok.loc _) hla) dn))) ?_
 refine (go 9) ?_
 refine yF call214 wn rfl (fun w1 hM=>c_idxX _ l f fcap fp (In w1) w1 (fun _ h=>h) (hM.slp 0 rfl) (hM.yS (i:=1) rfl) fc (fun x hx w2 hf=>fh x hx w2 (hM.fr.trans hf (fun _ _ h=>h)))) ?_
 refine (go 5) (zX results187 fun w1 hM=>?_)
 exact zP (congrArg Value.bool (by rw [Bool.eq_iff_iff,decide_eq_true_iff]; exact Sh.idx_any)) hM
def uL (e:zB):Prop:=∀ (P0:Nat→Prop) (w:World) (hP0:∀ b,P0 b→b < w.heap.size) (he:zB.Ok P0 e w) ,
    Calls prog 154 #[.agg (zk e).toArray] w (Ret w (.bool (Lg.vector e.e)))
theorem c_vector_step (e:zB) (ih:∀ k:zB,SizeOf.sizeOf k < SizeOf.sizeOf e→uL k):uL e:=by
  intro P0 w hP0 he
  have hwe:=he.wf
  refine fstart (N:=11) (vals:=[.agg (zk e).toArray]) (S:=Mem w ⟨no,P0⟩ [okP zB.Ok e]) func154 rfl rfl rfl (Mem.ofDatsP hP0 (dc (dp (zB.Ok.loc _) he) dn)) (yT fun K1 hK1=>zr (jq wn rfl rfl fun b1=>ve rfl (y4 hK1 (yT fun K2 hK2=>yT fun K3 hK3=>zr (za (uf rfl fld59_0) (za (uJ 0 rfl rfl rfl flat3) (y4 hK3 ?_)))))))
  refine vZ (yq [(1,.pointer (some ⟨b1,0,none⟩)),(5,.bool (decide (((e.kind=2)∧(e.kind=2))∨(¬ (e.kind=2)∧(e.kind=3)))))] (Mem w ⟨no,P0⟩ [.blk b1 [iV e.kind,iV e.n,iV e.range,.string e.word,.slice e.ms.A e.ms.l.length e.ms.c,.slice e.by_.A e.by_.l.length e.by_.c,.slice e.kids.A e.kids.l.length e.kids.c] 59,okP zB.Ok e]) (fun K4 hK4=>?_) ?_)
  ·
    refine yT fun K5 hK5=>zr (za (jH rfl rfl) (ve rfl (y4 hK5 (vK rfl (fun h1=>?_) (fun h1=>?_)))))
    ·
      refine uH (zt hK4 (sc rfl (sc (jp (iff_ite_l h1 Iff.rfl)) sn)) (fun _ h=>h))
    ·
      refine zr (za (jH rfl rfl) (ve rfl ?_))
      refine zT (zt hK4 (sc rfl (sc (jp (iff_ite_r h1 Iff.rfl)) sn)) (fun _ h=>h))
  ·
    refine vK rfl (fun h2=>?_) (fun h2=>?_)
    ·
      refine yT fun K6 hK6=>zr (ve rfl (y4 hK6 (vo (uT (yy (vM (.inl rfl) results154 (vL rfl) fun w1 hM=>?_))))))
      exact zP (congrArg Value.bool (Lg.vector_yes (by have:=h2; omega)).symm) hM
    ·
      refine uH (yK (uy hK2 (yT fun K7 hK7=>zr (za (uf rfl fld59_6) (za (uJ 0 rfl rfl rfl flat57) (zc (fun _ h=>h.exprX 1 rfl) ?_))))))
      obtain ⟨hc1,hm1,hA1⟩:=hwe.ms
      obtain ⟨hc2,hm2,hA2⟩:=hwe.by_
      obtain ⟨hc3,hm3,hA3⟩:=hwe.kids
      refine uM wn rfl call187 rfl (fun w1 hM=>c_contX _ e.kids.l 154 #[] (fun k=>Lg.vector k.e) (In w1) w1 (fun _ h=>h) (hM.slp 2 rfl) (hM.yS (i:=3) rfl) call154 (fun k hk w2 hf=>by simpa using ih k (zB.kid_lt hk) (In w2) w2 (fun _ h=>h) (zB.Ok.loc k (In w1) (In w2) w1 w2 (fun b hb=>Nat.lt_of_lt_of_le hb hf.size) (fun b hb=>hf.block b hb id) (hM.yS (i:=3) rfl k hk)))) (ve rfl (y4 hK7 (vo (vM (.inl rfl) results154 (vL rfl) fun w1 hM=>?_))))
      exact zP (congrArg Value.bool (Lg.vector_no (by have:=h2; omega)).symm) hM
theorem c_vector (e:zB):uL e:=recX c_vector_step e
def uX (e:zB):Prop:=∀ (P0:Nat→Prop) (w:World) (hP0:∀ b,P0 b→b < w.heap.size) (he:zB.Ok P0 e w) ,
    Calls prog 102 #[.agg (zk e).toArray] w (Ret w (iV (Lg.typed e.e)))
theorem c_typed_step (e:zB) (ih:∀ k:zB,SizeOf.sizeOf k < SizeOf.sizeOf e→uX k):uX e:=by
  intro P0 w hP0 he
  have hwe:=he.wf
  refine fstart (N:=36) (vals:=[.agg (zk e).toArray]) (S:=Mem w ⟨no,P0⟩ [okP zB.Ok e]) func102 rfl rfl rfl (Mem.ofDatsP hP0 (dc (dp (zB.Ok.loc _) he) dn)) (yT fun K1 hK1=>zr (jq wn rfl rfl fun b1=>ve rfl (y4 hK1 (yT fun K2 hK2=>yq [(1,.pointer (some ⟨b1,0,none⟩)),(22,.bool (decide ((e.kind=3)∧(((e.kids.l.length:Int)=1)∧((!(e.kids.l.any fun k=>Lg.vector k.e))=true)))))] (Mem w ⟨no,P0⟩ [.blk b1 [iV e.kind,iV e.n,iV e.range,.string e.word,.slice e.ms.A e.ms.l.length e.ms.c,.slice e.by_.A e.by_.l.length e.by_.c,.slice e.kids.A e.kids.l.length e.kids.c] 59,okP zB.Ok e]) (fun K3 hK3=>?_) ?_))))
  ·
    refine zr (za (uf rfl fld59_0) (za (uJ 0 rfl rfl rfl flat3) (za (jH rfl rfl) (vI rfl (ul (t:=9) rfl (fun h1=>?_) (fun h1=>?_))))))
    ·
      refine y6 (uf rfl fld59_6) (y6 (uJ 0 rfl rfl rfl flat57) (y6 (jJ rfl underlying57) (y6 (jH rfl rfl) (za (vd rfl rfl) (vI rfl (ul (t:=15) rfl (fun h2=>?_) (fun h2=>?_)))))))
      ·
        refine y6 (uf rfl fld59_6) (y6 (uJ 0 rfl rfl rfl flat57) (zc (fun _ h=>h.exprX 1 rfl) ?_))
        obtain ⟨hc1,hm1,hA1⟩:=hwe.ms
        obtain ⟨hc2,hm2,hA2⟩:=hwe.by_
        obtain ⟨hc3,hm3,hA3⟩:=hwe.kids
        obtain ⟨ad1,hd1⟩:=hA3 (ne_nil (i:=0) qI)
        refine y6 (yz (i:=0) rfl hd1 rfl qO qI underlying57 inf59) ?_
        obtain ⟨s1,hs1⟩:∃ x,e.kids.l[0]?=some x:=⟨_,List.getElem?_eq_getElem qI⟩
        refine y6 (jc 2 [iV s1.kind,iV s1.n,iV s1.range,.string s1.word,.slice s1.ms.A s1.ms.l.length s1.ms.c,.slice s1.by_.A s1.by_.l.length s1.by_.c,.slice s1.kids.A s1.kids.l.length s1.kids.c] rfl rfl hd1 hs1 rfl rfl agg59 inf59) ?_
        have hw1:=hwe.all _ (List.mem_of_getElem? hs1)
        refine zc (fun _ h=>h.one 3 zB.Ok.loc rfl hs1) (uM (wg rfl rfl rfl) rfl call154 rfl (fun w1 hM=>c_vector s1 (In w1) w1 (fun _ h=>h) (hM.yS (i:=0) rfl)) (y6 (rv_b (show _=(!(e.kids.l.any fun k=>Lg.vector k.e)) from congrArg Bool.not (Lg.any_one qO hs1).symm) (yE rfl)) (za (vd rfl rfl) ?_)))
        refine zT (zt hK3 (sc rfl (sc (jpb (iff_and_right h1 (iff_and_right h2 Iff.rfl))) sn)) (S9 [5,6]))
      ·
        refine vR (vR (vR (vR (vR (vR (za (vd rfl rfl) ?_))))))
        refine zT (zt hK3 (sc rfl (sc (jf (fun g=>(fun g=>h2 g.1) g.2)) sn)) (fun _ h=>h))
    ·
      refine vR (vR (vR (vR (za (vd rfl rfl) (vI rfl (vR (vR (vR (vR (vR (vR ?_)))))))))))
      refine za (vd rfl rfl) ?_
      refine zT (zt hK3 (sc rfl (sc (jf (fun g=>h1 g.1)) sn)) (fun _ h=>h))
  ·
    refine vK rfl (fun h3=>?_) (fun h3=>?_)
    ·
      refine yT fun K4 hK4=>zr (ve rfl (y4 hK4 (vo (yy (vM (.inl rfl) results102 (vL rfl) fun w1 hM=>?_)))))
      exact zP (congrArg (Value.int .i64) (Lg.typed_8 h3).symm) hM
    ·
      refine jO hK2 (yT fun K5 hK5=>yT fun K6 hK6=>zr (za (uf rfl fld59_6) (za (uJ 0 rfl rfl rfl flat57) (za (jJ rfl underlying57) (vI rfl (y4 hK6 (vZ (yJ (fun (k:Nat)=>[(24,.slice e.kids.A e.kids.l.length e.kids.c),(25,iV e.kids.l.length),(26,iV k)]) (fun (k:Nat)=>[.blk b1 [iV e.kind,iV e.n,iV e.range,.string e.word,.slice e.ms.A e.ms.l.length e.ms.c,.slice e.by_.A e.by_.l.length e.by_.c,.slice e.kids.A e.kids.l.length e.kids.c] 59,okP zB.Ok e]) (fun (k:Nat)=>k≤e.kids.l.length∧Lg.typeds ((e.kids.l.take k).map zB.e)=0) (fun (k:Nat)=>e.kids.l.length - k) 0 (sc rfl (sc rfl (sc (ji qO) sn))) (fun _ h=>h) ?_ (fun k hI1=>?_)))))))))
      · exact ⟨by omega,rfl⟩
      ·
        refine yT fun K7 hK7=>zr (za (jY rfl rfl) (y4 hK7 (yT fun K8 hK8=>vK rfl (fun h4=>?_) (fun h4=>?_))))
        ·
          refine jO hK8 (yT fun K9 hK9=>vZ (yT fun K10 hK10=>zr (zc (fun _ h=>h.exprX 1 rfl) ?_)))
          obtain ⟨hc4,hm4,hA4⟩:=hwe.ms
          obtain ⟨hc5,hm5,hA5⟩:=hwe.by_
          obtain ⟨hc6,hm6,hA6⟩:=hwe.kids
          obtain ⟨ad2,hd2⟩:=hA6 (ne_nil (i:=k) qI)
          refine za (yz (i:=k) rfl hd2 rfl qO qI underlying57 inf59) ?_
          obtain ⟨s2,hs2⟩:∃ x,e.kids.l[k]?=some x:=⟨_,List.getElem?_eq_getElem qI⟩
          refine za (jc 2 [iV s2.kind,iV s2.n,iV s2.range,.string s2.word,.slice s2.ms.A s2.ms.l.length s2.ms.c,.slice s2.by_.A s2.by_.l.length s2.by_.c,.slice s2.kids.A s2.kids.l.length s2.kids.c] rfl rfl hd2 hs2 rfl rfl agg59 inf59) (u5 wn inf59 rfl fun b4=>uw 0 wn rfl rfl rfl inf59 rfl rfl rfl (y4 hK10 (yT fun K11 hK11=>zr (za (ja 0 [iV s2.kind,iV s2.n,iV s2.range,.string s2.word,.slice s2.ms.A s2.ms.l.length s2.ms.c,.slice s2.by_.A s2.by_.l.length s2.by_.c,.slice s2.kids.A s2.kids.l.length s2.kids.c] rfl rfl rfl rfl agg59 inf59) ?_))))
          have hw2:=hwe.all _ (List.mem_of_getElem? hs2)
          refine zc (fun _ h=>h.one 4 zB.Ok.loc rfl hs2) (uM wn rfl call102 rfl (fun w1 hM=>ih s2 (zB.kid_lt (List.mem_of_getElem? hs2)) (In w1) w1 (fun _ h=>h) (hM.yS (i:=0) rfl)) (ve rfl (y4 hK11 (yT fun K12 hK12=>zr (vI rfl (za (jI rfl rfl) (y4 hK12 (vK rfl (fun h5=>?_) (fun h5=>?_)))))))))
          ·
            refine yT fun K13 hK13=>zr (vI rfl (ve rfl (y4 hK13 (vo (uT (yy (e_loop1_r (uT (yy (vM (.inl rfl) results102 (vL rfl) fun w1 hM=>?_))))))))))
            exact zP (congrArg (Value.int .i64) (((Lg.typed_rest h3).trans ((Lg.typeds_next hI1.2 hs2).2 h5)).symm)) hM
          ·
            refine uH (yK (uy hK9 (zr (za (uI rfl rfl qO) (vI rfl (zT (zj (k + 1) (sc rfl (sc rfl (sc (ji qO) sn))) (S9 [6,7]) ?_ ?_)))))))
            · exact ⟨by omega,(Lg.typeds_next hI1.2 hs2).1.trans (Classical.not_not.1 h5)⟩
            · omega
        ·
          refine vu (vG (vU (vH (uy hK5 (yT fun K14 hK14=>zr (ve rfl (y4 hK14 (vo (vM (.inl rfl) results102 (vL rfl) fun w1 hM=>?_)))))))))
          exact zP (congrArg (Value.int .i64) (((Lg.typed_rest h3).trans (by rw [← hI1.2,List.take_of_length_le qO])).symm)) hM
theorem c_typed (e:zB):uX e:=recX c_typed_step e
theorem c_idxStr (lv:Value) (l:List ByteArray) (f:Nat) (fcap:Array Value) (fp:ByteArray→Bool) (w:World) (hl:zD (In w) 1 strE lv l w) (fc:∀ vs w,(callFunc f vs).run prog w=.ok (.enter f vs) w) (fh:∀ (x:ByteArray) (w1:World),Fr no w w1→Calls prog f (#[.string x]++fcap) w1 (Ret w1 (.bool (fp x))))  :
    Calls prog 186 #[lv,.func (.func f) #[] fcap] w (Ret w (iV (Sh.idx fp l))):=by
 obtain ⟨lA,lc,rfl,hlc,hlm,hlA⟩:=hl.form
 refine zq (N:=19) func186 (Mem.ofDats (dc (dl hl) dn)) ?_
 refine (go 14) ?_
 refine yJ (fun (k:Nat)=>[(0,.slice lA l.length lc),(1,.func (.func f) #[] fcap),(7,iV l.length),(8,iV k)]) (fun (k:Nat)=>[slO (In w) 1 strE (.slice lA l.length lc) l]) (fun (k:Nat)=>k≤l.length∧∀ y ∈ l.take k,fp y=false) (fun (k:Nat)=>l.length - k) 0 (sc rfl (sc rfl (sc rfl (sc (ji qO) sn)))) (fun _ h=>h) ?_ (fun k hI1=>?_)
 ·simp
 refine (go 6) (zW (fun h1=>?_) fun h1=>?_)
 ·refine (go 15) ?_
  obtain ⟨ad1,s1,hd1,hs1⟩:=elx hlA k
  refine (go 2) ?_
  refine vN wn rfl rfl fc rfl (fun w1 hM=>fh s1 w1 hM.fr) ?_
  refine (go 2) (yg (fun h2=>?_) fun h2=>?_)
  ·refine (go 12) (zX results186 fun w1 hM=>?_)
   exact zP (by rw [Sh.idx_at hI1.2 hs1 h2]) hM
  refine (go 6) ?_
  refine zT (zj (k + 1) (sc rfl (sc rfl (sc rfl (sc (ji qO) sn)))) (fun _ h=>h) ?_ ?_)
  ·exact ⟨by omega,Sh.none_step hI1.2 hs1 h2⟩
  omega
 refine (go 11) (zX results186 fun w1 hM=>?_)
 exact zP (by rw [Sh.idx_none hI1.2 qO]) hM
theorem c_contStr (lv:Value) (l:List ByteArray) (f:Nat) (fcap:Array Value) (fp:ByteArray→Bool) (w:World) (hl:zD (In w) 1 strE lv l w) (fc:∀ vs w,(callFunc f vs).run prog w=.ok (.enter f vs) w) (fh:∀ (x:ByteArray) (w1:World),Fr no w w1→Calls prog f (#[.string x]++fcap) w1 (Ret w1 (.bool (fp x))))  :
    Calls prog 152 #[lv,.func (.func f) #[] fcap] w (Ret w (.bool (l.any fp))):=by
 obtain ⟨lA,lc,rfl,hlc,hlm,hlA⟩:=hl.form
 refine zq (N:=9) func152 (Mem.ofDats (dc (dl hl) dn)) ?_
 refine (go 9) ?_
 refine yF call186 wn rfl (fun w1 hM=>c_idxStr _ l f fcap fp w1 (hM.sl 0 rfl) fc (fun x w2 h2=>fh x w2 (hM.fr.trans h2 (fun _ _ h=>h)))) ?_
 refine (go 5) (zX results152 fun w1 hM=>?_)
 exact zP (congrArg Value.bool (by rw [Bool.eq_iff_iff,decide_eq_true_iff]; exact Sh.idx_any)) hM
theorem c_own1 (k:ByteArray) (w:World)   :
    Calls prog 153 #[.string k] w (Ret w (.bool (!zI.named k))):=by
 refine zq (N:=6) func153 (Mem.ofDats dn) ?_
 refine (go 8) ?_
 refine yF call92 wn rfl (fun w1 hM=>uB k w1) (za (yE rfl) ?_)
 refine (go 4) (zX results153 fun w1 hM=>?_)
 exact zP rfl hM
theorem c_Totals  (w:World)   :
    Calls prog 151 #[] w (RetL w 9 1 strE Lg.totals):=by
 refine zq (N:=2) func151 (Mem.ofDats dn) ?_
 refine (go 7) ?_
 refine zy strE ([⟨#[99,111,117,110,116]⟩,⟨#[109,97,120]⟩,⟨#[109,105,110]⟩,⟨#[115,117,109]⟩]:List ByteArray) wn underlying56 inf9 rfl rfl rfl rfl qD qD rfl fun b1=>?_
 refine (go 4) (zX results151 fun w1 hM=>?_)
 exact hM.vp 0 rfl rfl
theorem c_kids (kind:Int) (w:World)  (h1_:1≤kind) (h2_:kind≤4) :
    Calls prog 100 #[iV kind] w (Ret w (iV (Lg.arity kind))):=by
 refine zq (N:=7) func100 (Mem.ofDats dn) ?_
 refine (go 7) ?_
 refine zy intE ([0,0,0,1,2]:List Int) wn underlying37 inf3 rfl rfl rfl rfl qD qD rfl fun b3=>?_
 refine (go 1) ?_
 refine za (yz (i:=kind.toNat) rfl rfl rfl qO qI underlying37 inf3) ?_
 obtain ⟨s1,hs1⟩:=gx ([0,0,0,1,2]:List Int) kind.toNat
 refine za (uE 0 encInt rfl rfl rfl hs1 rfl flat3) ?_
 refine (go 4) (zX results100 fun w1 hM=>?_)
 exact zP (congrArg (Value.int .i64) (Lg.arity_at h1_ h2_ hs1)) hM
set_option maxHeartbeats 1000000 in
theorem c_shWindow (h:Value) (ead:Addr) (e:zB) (P0:Nat→Prop) (w:World) (hP0:∀ b,P0 b→b < w.heap.size) (hec:yf P0 ead (zk e) w) (he:zB.Ok P0 e w)  :
    Calls prog 149 #[h,.pointer (some ead)] w (Ret w (iV (Lg.windowW e.word e.ms.l e.range))):=by
 have hwe:=he.wf
 refine zq (N:=70) (vals:=[h,.pointer (some ((Addr.add ead 0).add 0))]) func149 (Mem.ofDatsP hP0 (dc (dp (yf.loc _ _) hec) (dc (dp (zB.Ok.loc _) he) dn))) ?_
 refine (go 7) ?_
 refine yM (Mem w ⟨no,P0⟩ [celP ead [iV e.kind,iV e.n,iV e.range,.string e.word,.slice e.ms.A e.ms.l.length e.ms.c,.slice e.by_.A e.by_.l.length e.by_.c,.slice e.kids.A e.kids.l.length e.kids.c],okP zB.Ok e]) mix (fun _ h=>h.drew) rfl (uG (f:=3) [1,2,3,4] rfl rfl (by kernel_rfl) (by kernel_rfl) (fun _ h=>h) fun KS hKS=>?_)
 refine (go 4) ?_
 refine zi hKS (zf 2 0 (zh (i:=0) rfl fun KN hKN=>vP Agg.words wn rfl call33 rfl (fun w1 hM=>jD  w1) fun A1 cp1 hc1 hm1 hA1=>?_))
 refine (go 1) ?_
 refine hKN _ _ (S9 [1,2]) (zf 1 5 (zh (i:=5) rfl fun KN hKN=>yF call150 wn rfl (fun w1 hM=>vX _ Agg.words e.word w1 (RowSl encString hM 0 rfl)) ?_))
 refine (go 1) ?_
 refine hKN _ _ (S9 [1,2]) (yN 0 [6] [1,2] rfl fun KS hKS=>?_)
 refine (go 1) ?_
 refine zi hKS ?_
 refine zz (by kernel_rfl) ((go 1) (zW (fun h1=>?_) fun h1=>?_))
 ·refine (go 7) (zX results149 fun w1 hM=>?_)
  exact zP (congrArg (Value.int .i64) (by unfold Lg.windowW; grind)) hM
 refine (go 13) (zW (fun h2=>?_) fun h2=>?_)
 ·refine (go 7) (zX results149 fun w1 hM=>?_)
  exact zP (congrArg (Value.int .i64) (by unfold Lg.windowW; grind)) hM
 refine (go 14) ?_
 refine yJ (fun (k:Nat)=>[(1,.pointer (some ((Addr.add ead 0).add 0))),(23,.slice e.ms.A e.ms.l.length e.ms.c),(24,iV e.ms.l.length),(25,iV k)]) (fun (k:Nat)=>[Row (.slice A1 Agg.words.length cp1) 9 1 strE Agg.words,celP ead [iV e.kind,iV e.n,iV e.range,.string e.word,.slice e.ms.A e.ms.l.length e.ms.c,.slice e.by_.A e.by_.l.length e.by_.c,.slice e.kids.A e.kids.l.length e.kids.c],okP zB.Ok e]) (fun (k:Nat)=>k≤e.ms.l.length∧Lg.matchesW e.ms.l=Lg.matchesW (e.ms.l.drop k)) (fun (k:Nat)=>e.ms.l.length - k) 0 (sc rfl (sc rfl (sc rfl (sc (ji qO) sn)))) (fun _ h=>h) ?_ (fun k hI1=>?_)
 ·simp
 refine (go 6) (zW (fun h3=>?_) fun h3=>?_)
 ·refine (go 6) ?_
  refine zc (fun _ h=>h.exprX 2 rfl) ?_
  obtain ⟨hc2,hm2,hA2⟩:=hwe.ms
  obtain ⟨hc3,hm3,hA3⟩:=hwe.by_
  obtain ⟨hc4,hm4,hA4⟩:=hwe.kids
  obtain ⟨ad1,s1,hd1,hs1⟩:=elx hA2 k
  refine (go 2) (zw fun b6=>?_)
  refine (go 4) ?_
  refine yq [(1,.pointer (some ((Addr.add ead 0).add 0))),(6,.pointer (some ⟨b6,0,none⟩)),(23,.slice e.ms.A e.ms.l.length e.ms.c),(24,iV e.ms.l.length),(25,iV k),(36,.bool (decide ((s1.kind < 1)∨(4 < s1.kind))))] (Mem w ⟨no,P0⟩ [.blk b6 [iV s1.kind,.string s1.key,.string s1.val] 179,slP 3 zl (.slice e.ms.A e.ms.l.length e.ms.c) e.ms.l,slP 1 strE (.slice e.by_.A e.by_.l.length e.by_.c) e.by_.l,slP 7 zk (.slice e.kids.A e.kids.l.length e.kids.c) e.kids.l,allP zB.Ok e.kids.l,Row (.slice A1 Agg.words.length cp1) 9 1 strE Agg.words,celP ead [iV e.kind,iV e.n,iV e.range,.string e.word,.slice e.ms.A e.ms.l.length e.ms.c,.slice e.by_.A e.by_.l.length e.by_.c,.slice e.kids.A e.kids.l.length e.kids.c],okP zB.Ok e]) (fun _ hK15=>?_) ?_
  ·refine (go 5) (yO 32 (fun h4=>?_) fun h4=>?_)
   ·refine (go 4) ?_
    refine zT (zt hK15 (sc rfl (sc rfl (sc rfl (sc rfl (sc rfl (sc (jt (Or.inl h4)) sn)))))) (fun _ h=>h))
   refine (go 4) ?_
   refine zT (zt hK15 (sc rfl (sc rfl (sc rfl (sc rfl (sc rfl (sc (jp (iff_or_right h4 Iff.rfl)) sn)))))) (fun _ h=>h))
  refine zW (fun h5=>?_) fun h5=>?_
  ·refine (go 12) (zX results149 fun w1 hM=>?_)
   exact zP (congrArg (Value.int .i64) (by have hx:=Lg.matchesW_step hs1; unfold Lg.matchW at hx; unfold Lg.windowW; grind)) hM
  refine (go 2) ?_
  refine yq [(1,.pointer (some ((Addr.add ead 0).add 0))),(23,.slice e.ms.A e.ms.l.length e.ms.c),(24,iV e.ms.l.length),(25,iV k),(56,.bool (decide (((!(zI.named s1.key))=true)∨(((s1.kind=1)∧((!(zI.named s1.val))=true))∨(¬ (s1.kind=1)∧((s1.kind=2)∧((!(zI.named s1.val))=true)))))))] (Mem w ⟨no,P0⟩ [.blk b6 [iV s1.kind,.string s1.key,.string s1.val] 179,slP 3 zl (.slice e.ms.A e.ms.l.length e.ms.c) e.ms.l,slP 1 strE (.slice e.by_.A e.by_.l.length e.by_.c) e.by_.l,slP 7 zk (.slice e.kids.A e.kids.l.length e.kids.c) e.kids.l,allP zB.Ok e.kids.l,Row (.slice A1 Agg.words.length cp1) 9 1 strE Agg.words,celP ead [iV e.kind,iV e.n,iV e.range,.string e.word,.slice e.ms.A e.ms.l.length e.ms.c,.slice e.by_.A e.by_.l.length e.by_.c,.slice e.kids.A e.kids.l.length e.kids.c],okP zB.Ok e]) (fun _ hK17=>?_) ?_
  ·refine (go 3) ?_
   refine yF call92 wn rfl (fun w1 hM=>uB s1.key w1) (za (yE rfl) ?_)
   refine (go 1) (jB 41 (fun h6=>?_) fun h6=>?_)
   ·refine (go 15) ?_
    refine zT (zt hK17 (sc rfl (sc rfl (sc rfl (sc rfl (sc (jt (Or.inl h6)) sn))))) (fun _ h=>h))
   refine (go 4) (yO 45 (fun h7=>?_) fun h7=>?_)
   ·refine (go 7) ?_
    refine yF call92 (wg rfl rfl rfl) rfl (fun w1 hM=>uB s1.val w1) (y6 (yE rfl) ?_)
    refine (go 2) ?_
    refine zT (zt hK17 (sc rfl (sc rfl (sc rfl (sc rfl (sc (jpb (iff_or_right h6 (iff_ite_l h7 Iff.rfl))) sn))))) (fun _ h=>h))
   refine (go 5) (yO 50 (fun h8=>?_) fun h8=>?_)
   ·refine (go 2) ?_
    refine yF call92 (wg rfl rfl rfl) rfl (fun w1 hM=>uB s1.val w1) (y6 (yE rfl) ?_)
    refine (go 2) ?_
    refine zT (zt hK17 (sc rfl (sc rfl (sc rfl (sc rfl (sc (jpb (iff_or_right h6 (iff_ite_r h7 (iff_and_right h8 Iff.rfl)))) sn))))) (fun _ h=>h))
   refine (go 6) ?_
   refine zT (zt hK17 (sc rfl (sc rfl (sc rfl (sc rfl (sc (jf (fun g=>g.elim h6 (fun g=>g.elim (fun k=>h7 k.1) (fun k=>(fun g=>h8 g.1) k.2)))) sn))))) (fun _ h=>h))
  refine zW (fun h9=>?_) fun h9=>?_
  ·refine (go 11) (zX results149 fun w1 hM=>?_)
   exact zP (congrArg (Value.int .i64) (by have hx:=Lg.matchesW_step hs1; unfold Lg.matchW at hx; unfold Lg.windowW; grind)) hM
  refine (go 6) ?_
  refine zT (zj (k + 1) (sc rfl (sc rfl (sc rfl (sc (ji qO) sn)))) (S9 [5,6,7]) ?_ ?_)
  ·exact ⟨by omega,by rw [hI1.2,Lg.matchesW_step hs1]; unfold Lg.matchW; grind⟩
  omega
 refine (go 6) ?_
 refine yq [(69,.bool (decide ((e.range < 1)∨(100000 < e.range))))] (Mem w ⟨no,P0⟩ [Row (.slice A1 Agg.words.length cp1) 9 1 strE Agg.words,celP ead [iV e.kind,iV e.n,iV e.range,.string e.word,.slice e.ms.A e.ms.l.length e.ms.c,.slice e.by_.A e.by_.l.length e.by_.c,.slice e.kids.A e.kids.l.length e.kids.c],okP zB.Ok e]) (fun _ hK20=>?_) ?_
 ·refine (go 7) (yO 63 (fun h10=>?_) fun h10=>?_)
  ·refine (go 6) ?_
   refine zT (zt hK20 (sc (jt (Or.inl h10)) sn) (fun _ h=>h))
  refine (go 6) ?_
  refine zT (zt hK20 (sc (jp (iff_or_right h10 Iff.rfl)) sn) (fun _ h=>h))
 refine zW (fun h11=>?_) fun h11=>?_
 ·refine (go 7) (zX results149 fun w1 hM=>?_)
  exact zP (congrArg (Value.int .i64) (by have hx:=Lg.matchesW_end (l:=e.ms.l) (k:=k) qO; unfold Lg.windowW; grind)) hM
 refine (go 8) (zX results149 fun w1 hM=>?_)
 exact zP (congrArg (Value.int .i64) (by have hx:=Lg.matchesW_end (l:=e.ms.l) (k:=k) qO; unfold Lg.windowW; grind)) hM
set_option maxHeartbeats 1000000 in
theorem c_shOwn (h:Value) (ead:Addr) (e:zB) (P0:Nat→Prop) (w:World) (hP0:∀ b,P0 b→b < w.heap.size) (hec:yf P0 ead (zk e) w) (he:zB.Ok P0 e w)  :
    Calls prog 101 #[h,.pointer (some ead)] w (Ret w (iV (Lg.ownW e.kind e.n e.range e.word e.ms.l e.by_.l))):=by
 have hwe:=he.wf
 refine zq (N:=67) (vals:=[h,.pointer (some ((Addr.add ead 0).add 0))]) func101 (Mem.ofDatsP hP0 (dc (dp (yf.loc _ _) hec) (dc (dp (zB.Ok.loc _) he) dn))) ?_
 refine (go 21) (zW (fun h1=>?_) fun h1=>?_)
 ·refine yq [(41,.bool (decide ((e.n < 0)∨(1000000 < e.n))))] (Mem w ⟨no,P0⟩ [celP ead [iV e.kind,iV e.n,iV e.range,.string e.word,.slice e.ms.A e.ms.l.length e.ms.c,.slice e.by_.A e.by_.l.length e.by_.c,.slice e.kids.A e.kids.l.length e.kids.c],okP zB.Ok e]) (fun _ hK5=>?_) ?_
  ·refine (go 7) (yO 35 (fun h2=>?_) fun h2=>?_)
   ·refine (go 6) ?_
    refine zT (zt hK5 (sc (jt (Or.inl h2)) sn) (fun _ h=>h))
   refine (go 6) ?_
   refine zT (zt hK5 (sc (jp (iff_or_right h2 Iff.rfl)) sn) (fun _ h=>h))
  refine zW (fun h3=>?_) fun h3=>?_
  ·refine (go 8) (zX results101 fun w1 hM=>?_)
   exact zP (congrArg (Value.int .i64) (by have hx:=Lg.signs_iff e.word; unfold Lg.ownW; grind)) hM
  refine (go 9) (zX results101 fun w1 hM=>?_)
  exact zP (congrArg (Value.int .i64) (by have hx:=Lg.signs_iff e.word; unfold Lg.ownW; grind)) hM
 refine (go 6) (zW (fun h4=>?_) fun h4=>?_)
 ·refine (go 4) ?_
  refine yF call149 wn rfl (fun w1 hM=>c_shWindow h ead e (In w1) w1 (fun _ h=>h) (hM.yS (i:=0) rfl) (hM.yS (i:=1) rfl)) ?_
  refine (go 6) (zX results101 fun w1 hM=>?_)
  exact zP (congrArg (Value.int .i64) (by have hx:=Lg.signs_iff e.word; unfold Lg.ownW; grind)) hM
 refine (go 6) (zW (fun h5=>?_) fun h5=>?_)
 ·refine (go 2) ?_
  refine yM (Mem w ⟨no,P0⟩ [celP ead [iV e.kind,iV e.n,iV e.range,.string e.word,.slice e.ms.A e.ms.l.length e.ms.c,.slice e.by_.A e.by_.l.length e.by_.c,.slice e.kids.A e.kids.l.length e.kids.c],okP zB.Ok e]) mix (fun _ h=>h.drew) rfl (uG (f:=3) [1,2,3,4] rfl rfl (by kernel_rfl) (by kernel_rfl) (fun _ h=>h) fun KS hKS=>?_)
  refine (go 4) ?_
  refine zi hKS (zf 2 0 (zh (i:=0) rfl fun KN hKN=>vP Lg.totals wn rfl call151 rfl (fun w1 hM=>c_Totals  w1) fun A1 cp1 hc1 hm1 hA1=>?_))
  refine (go 1) ?_
  refine hKN _ _ (S9 [1,2]) (zf 1 5 (zh (i:=5) rfl fun KN hKN=>yF call150 wn rfl (fun w1 hM=>vX _ Lg.totals e.word w1 (RowSl encString hM 0 rfl)) ?_))
  refine (go 1) ?_
  refine hKN _ _ (S9 [1,2]) (yN 0 [6] [1,2] rfl fun KS hKS=>?_)
  refine (go 1) ?_
  refine zi hKS ?_
  refine zz (by kernel_rfl) ((go 1) (zW (fun h6=>?_) fun h6=>?_))
  ·refine (go 9) (zX results101 fun w1 hM=>?_)
   exact zP (congrArg (Value.int .i64) (by have hx:=Lg.signs_iff e.word; unfold Lg.ownW; grind)) hM
  refine (go 13) (zW (fun h7=>?_) fun h7=>?_)
  ·refine (go 9) (zX results101 fun w1 hM=>?_)
   exact zP (congrArg (Value.int .i64) (by have hx:=Lg.signs_iff e.word; unfold Lg.ownW; grind)) hM
  refine (go 8) ?_
  refine zc (fun _ h=>h.exprX 2 rfl) ?_
  obtain ⟨hc2,hm2,hA2⟩:=hwe.ms
  obtain ⟨hc3,hm3,hA3⟩:=hwe.by_
  obtain ⟨hc4,hm4,hA4⟩:=hwe.kids
  refine yF call152 wn rfl (fun w1 hM=>c_contStr _ e.by_.l 153 #[] (fun k=>!zI.named k) w1 (hM.slp 1 rfl) call153 (fun x w2 h2=>by simpa using c_own1 x w2)) ?_
  refine (go 2) (yg (fun h8=>?_) fun h8=>?_)
  ·refine (go 8) (zX results101 fun w1 hM=>?_)
   exact zP (congrArg (Value.int .i64) (by have hx:=Lg.signs_iff e.word; unfold Lg.ownW; grind)) hM
  refine (go 9) (zX results101 fun w1 hM=>?_)
  exact zP (congrArg (Value.int .i64) (by have hx:=Lg.signs_iff e.word; unfold Lg.ownW; grind)) hM
 refine yq [(27,.bool (decide ((e.word≠⟨#[43]⟩)∧((e.word≠⟨#[45]⟩)∧(e.word≠⟨#[42]⟩)))))] (Mem w ⟨no,P0⟩ [celP ead [iV e.kind,iV e.n,iV e.range,.string e.word,.slice e.ms.A e.ms.l.length e.ms.c,.slice e.by_.A e.by_.l.length e.by_.c,.slice e.kids.A e.kids.l.length e.kids.c],okP zB.Ok e]) (fun _ hK20=>?_) ?_
 ·refine (go 7) (yO 14 (fun h9=>?_) fun h9=>?_)
  ·refine (go 7) (yO 21 (fun h10=>?_) fun h10=>?_)
   ·refine (go 6) ?_
    refine zT (zt hK20 (sc (jp (iff_and_right h9 (iff_and_right h10 Iff.rfl))) sn) (fun _ h=>h))
   refine (go 6) ?_
   refine zT (zt hK20 (sc (jf (fun g=>(fun g=>h10 g.1) g.2)) sn) (fun _ h=>h))
  refine (go 13) ?_
  refine zT (zt hK20 (sc (jf (fun g=>h9 g.1)) sn) (fun _ h=>h))
 refine zW (fun h11=>?_) fun h11=>?_
 ·refine (go 8) (zX results101 fun w1 hM=>?_)
  exact zP (congrArg (Value.int .i64) (by have hx:=Lg.signs_iff e.word; unfold Lg.ownW; grind)) hM
 refine (go 9) (zX results101 fun w1 hM=>?_)
 exact zP (congrArg (Value.int .i64) (by have hx:=Lg.signs_iff e.word; unfold Lg.ownW; grind)) hM
def uY (e:zB):Prop:=∀ (hp:Nat) (cn:Int) (ead:Addr) (deep:Int) (P0:Nat→Prop) (w:World) (hhp:w.heap[hp]?=some (.cells [iV cn].toArray 119 (0,0))) (hP0:∀ b,P0 b→b < w.heap.size∧b≠hp) (hec:yf P0 ead (zk e) w) (he:zB.Ok P0 e w) (hc0:0≤cn) (hc1:cn≤100) (hd0:0≤deep),
    Calls prog 55 #[.pointer (some ⟨hp,0,none⟩),.pointer (some ead),iV deep] w (RetM w hp 119 (iV (Lg.shape e.e deep cn).1) [iV (Lg.shape e.e deep cn).2])
set_option maxHeartbeats 2000000 in
theorem c_shape_step (e:zB) (ih:∀ k:zB,SizeOf.sizeOf k < SizeOf.sizeOf e→uY k):uY e:=by
  intro hp cn ead deep P0 w hhp hP0 hec he hc0 hc1 hd0
  have hwe:=he.wf
  refine fstart (N:=77) (vals:=[.pointer (some ⟨hp,0,none⟩),.pointer (some ((Addr.add ead 0).add 0)),iV deep]) (S:=Mem w ⟨(·=hp),P0⟩ [.blk hp [iV cn] 119,celP ead [iV e.kind,iV e.n,iV e.range,.string e.word,.slice e.ms.A e.ms.l.length e.ms.c,.slice e.by_.A e.by_.l.length e.by_.c,.slice e.kids.A e.kids.l.length e.kids.c],okP zB.Ok e]) func55 rfl rfl rfl (Mem.ptrDats hhp hP0 (dc (dp (yf.loc _ _) hec) (dc (dp (zB.Ok.loc _) he) dn))) (yT fun K1 hK1=>zr (ve rfl (y4 hK1 (yT fun K2 hK2=>yT fun K3 hK3=>zr (vI rfl (za (yi rfl) (za (uf rfl fld119_0) (za (uJ 0 rfl rfl rfl flat3) ?_))))))))
  refine za (uI rfl rfl qO) (za (yi rfl) (za (uf rfl fld119_0) (jr 0 wn rfl rfl rfl rfl inf3 rfl rfl (y4 hK3 (yq [(0,.pointer (some ⟨hp,0,none⟩)),(1,.pointer (some ((Addr.add ead 0).add 0))),(2,iV deep),(25,.bool (decide ((100 < (cn + 1))∨(20 < deep))))] (Mem w ⟨(·=hp),P0⟩ [.blk hp [iV (cn + 1)] 119,celP ead [iV e.kind,iV e.n,iV e.range,.string e.word,.slice e.ms.A e.ms.l.length e.ms.c,.slice e.by_.A e.by_.l.length e.by_.c,.slice e.kids.A e.kids.l.length e.kids.c],okP zB.Ok e]) (fun K4 hK4=>?_) ?_)))))
  ·
    refine zr (vI rfl (za (yi rfl) (za (uf rfl fld119_0) (za (uJ 0 rfl rfl rfl flat3) (za (jZ rfl rfl) (vI rfl (ul (t:=22) rfl (fun h1=>?_) (fun h1=>?_))))))))
    ·
      refine vR (vR (za (vd rfl rfl) ?_))
      refine zT (zt hK4 (sc rfl (sc rfl (sc rfl (sc (jt (Or.inl h1)) sn)))) (fun _ h=>h))
    ·
      refine y6 (um rfl) (y6 (jZ rfl rfl) (za (vd rfl rfl) ?_))
      refine zT (zt hK4 (sc rfl (sc rfl (sc rfl (sc (jp (iff_or_right h1 Iff.rfl)) sn)))) (fun _ h=>h))
  ·
    refine vK rfl (fun h2=>?_) (fun h2=>?_)
    ·
      refine yT fun K5 hK5=>zr (ve rfl (y4 hK5 (vo (yy (vM (.inl rfl) results55 (vL rfl) fun w1 hM=>?_)))))
      have hq:Lg.shape e.e deep cn=(4,(cn + 1)):=by rw [Lg.shape_e]; grind
      exact hM.jk 0 rfl (by rw [hq] <;> rfl) (by rw [hq] <;> rfl)
    ·
      refine jO hK2 (yT fun K6 hK6=>yq [(0,.pointer (some ⟨hp,0,none⟩)),(1,.pointer (some ((Addr.add ead 0).add 0))),(2,iV deep),(37,.bool (decide ((e.kind < 1)∨(4 < e.kind))))] (Mem w ⟨(·=hp),P0⟩ [.blk hp [iV (cn + 1)] 119,celP ead [iV e.kind,iV e.n,iV e.range,.string e.word,.slice e.ms.A e.ms.l.length e.ms.c,.slice e.by_.A e.by_.l.length e.by_.c,.slice e.kids.A e.kids.l.length e.kids.c],okP zB.Ok e]) (fun K7 hK7=>?_) ?_)
      ·
        refine zr (vI rfl (za (yi rfl) (za (uz rfl fld59_0) (za (ue 1 rfl rfl rfl flat3) (za (jY rfl rfl) (vI rfl (ul (t:=31) rfl (fun h3=>?_) (fun h3=>?_))))))))
        ·
          refine vR (vR (vR (vR (vR (za (vd rfl rfl) ?_)))))
          refine zT (zt hK7 (sc rfl (sc rfl (sc rfl (sc (jt (Or.inl h3)) sn)))) (fun _ h=>h))
        ·
          refine y6 (um rfl) (y6 (yi rfl) (y6 (uz rfl fld59_0) (y6 (ue 1 rfl rfl rfl flat3) (y6 (jZ rfl rfl) (za (vd rfl rfl) ?_)))))
          refine zT (zt hK7 (sc rfl (sc rfl (sc rfl (sc (jp (iff_or_right h3 Iff.rfl)) sn)))) (fun _ h=>h))
      ·
        refine vK rfl (fun h4=>?_) (fun h4=>?_)
        ·
          refine yT fun K8 hK8=>zr (ve rfl (y4 hK8 (vo (yy (vM (.inl rfl) results55 (vL rfl) fun w1 hM=>?_)))))
          have hq:Lg.shape e.e deep cn=(1,(cn + 1)):=by rw [Lg.shape_e]; grind
          exact hM.jk 0 rfl (by rw [hq] <;> rfl) (by rw [hq] <;> rfl)
        ·
          refine jO hK6 (yT fun K9 hK9=>yT fun K10 hK10=>c_quiet mix (by kernel_rfl) (fun _ h=>h.drew) (q_mv rfl (yZ (yi rfl) (yZ (uz rfl fld59_6) (yZ (ue 1 rfl rfl rfl flat57) (yZ (jJ rfl underlying57) (q_mv rfl (yZ (yi rfl) (yZ (uz rfl fld59_0) ?_)))))))))
          refine yZ (ue 1 rfl rfl rfl flat3) (yQ wn rfl call100 rfl (fun w1 hM=>c_kids e.kind w1 qO qO) (yZ (jI rfl rfl) (q_end (uy hK10 (vK rfl (fun h5=>?_) (fun h5=>?_))))))
          ·
            refine yT fun K11 hK11=>zr (ve rfl (y4 hK11 (vo (yy (vM (.inl rfl) results55 (vL rfl) fun w1 hM=>?_)))))
            have hq:Lg.shape e.e deep cn=(5,(cn + 1)):=by rw [Lg.shape_e]; grind
            exact hM.jk 0 rfl (by rw [hq] <;> rfl) (by rw [hq] <;> rfl)
          ·
            refine jO hK9 (yT fun K12 hK12=>yT fun K13 hK13=>zr (vI rfl (vI rfl (uM wn rfl call101 rfl (fun w1 hM=>c_shOwn (.pointer (some ⟨hp,0,none⟩)) ead e (In w1) w1 (fun _ h=>h) (hM.yS (i:=1) rfl) (hM.yS (i:=2) rfl)) (ve rfl (y4 hK13 (yT fun K14 hK14=>zr (vI rfl ?_))))))))
            refine za (jI rfl rfl) (y4 hK14 (vK rfl (fun h6=>?_) (fun h6=>?_)))
            ·
              refine yT fun K15 hK15=>zr (vI rfl (ve rfl (y4 hK15 (vo (yy (vM (.inl rfl) results55 (vL rfl) fun w1 hM=>?_))))))
              have hq:Lg.shape e.e deep cn=((Lg.ownW e.kind e.n e.range e.word e.ms.l e.by_.l),(cn + 1)):=by rw [Lg.shape_e]; grind
              exact hM.jk 0 rfl (by rw [hq] <;> rfl) (by rw [hq] <;> rfl)
            ·
              refine jO hK12 (yT fun K16 hK16=>yT fun K17 hK17=>zr (vI rfl (za (yi rfl) (za (uz rfl fld59_6) (za (ue 1 rfl rfl rfl flat57) (za (jJ rfl underlying57) (vI rfl (y4 hK17 (vZ ?_)))))))))
              refine va (fun (k:Nat) (m:Int)=>[(0,.pointer (some ⟨hp,0,none⟩)),(1,.pointer (some ((Addr.add ead 0).add 0))),(2,iV deep),(59,iV e.kids.l.length),(60,iV k)]) (fun (k:Nat) (m:Int)=>[.blk hp [iV m] 119,celP ead [iV e.kind,iV e.n,iV e.range,.string e.word,.slice e.ms.A e.ms.l.length e.ms.c,.slice e.by_.A e.by_.l.length e.by_.c,.slice e.kids.A e.kids.l.length e.kids.c],okP zB.Ok e]) (fun (k:Nat) (m:Int)=>k≤e.kids.l.length∧(0≤m∧m≤100)∧Lg.shapes ((e.kids.l.take k).map zB.e) (deep + 1) (cn + 1)=(0,m)) (fun (k:Nat) (m:Int)=>e.kids.l.length - k) 0 (cn + 1) (sc rfl (sc rfl (sc rfl (sc rfl (sc (ji qO) sn))))) (fun _ h=>h) ?_ (fun k m hI1=>?_)
              · exact ⟨by omega,⟨by omega,by omega⟩,rfl⟩
              ·
                have hq0:=hI1.2.1.1
                have hq1:=hI1.2.1.2
                refine yT fun K18 hK18=>zr (za (jY rfl rfl) (y4 hK18 (yT fun K19 hK19=>vK rfl (fun h7=>?_) (fun h7=>?_))))
                ·
                  refine jO hK19 (yT fun K20 hK20=>vZ (yT fun K21 hK21=>zr (vI rfl (ve rfl (y4 hK21 (yT fun K22 hK22=>zr (vI rfl (vI rfl ?_))))))))
                  refine za (yi rfl) (za (uz rfl fld59_6) (za (ue 1 rfl rfl rfl flat57) (vI rfl (zc (fun _ h=>h.exprX 2 rfl) ?_))))
                  obtain ⟨hc1,hm1,hA1⟩:=hwe.ms
                  obtain ⟨hc2,hm2,hA2⟩:=hwe.by_
                  obtain ⟨hc3,hm3,hA3⟩:=hwe.kids
                  obtain ⟨ad1,hd1⟩:=hA3 (ne_nil (i:=k) qI)
                  refine za (yz (i:=k) rfl hd1 rfl qO qI underlying57 inf59) (vI rfl (za (uI rfl rfl qO) ?_))
                  obtain ⟨s1,hs1⟩:∃ x,e.kids.l[k]?=some x:=⟨_,List.getElem?_eq_getElem qI⟩
                  have hw1:=hwe.all _ (List.mem_of_getElem? hs1)
                  refine zc (fun _ h=>h.one 3 zB.Ok.loc rfl hs1) (u9 5 (v:=iV ((Lg.shape s1.e (deep + 1) m).1)) (cs':=[iV ((Lg.shape s1.e (deep + 1) m).2)]) wn rfl rfl call55 rfl (fun w1 Pb hM pp=>ih s1 (zB.kid_lt (List.mem_of_getElem? hs1)) hp m (Addr.add ad1 (k * 7)) (deep + 1) Pb w1 (hM.blk (i:=5) rfl) (pp.sub' (i:=5) rfl) (cel_of (pp.sl 3 rfl) hd1 hs1) (pp.at_ 0 _ rfl) qO qO qO) (ve rfl (y4 hK22 (yT fun K23 hK23=>zr (vI rfl (za (jI rfl rfl) (y4 hK23 (vK rfl (fun h8=>?_) (fun h8=>?_)))))))))
                  ·
                    refine yT fun K24 hK24=>zr (vI rfl (ve rfl (y4 hK24 (vo (uT (yy (e_loop2_r (uT (yy (vM (.inl rfl) results55 (vL rfl) fun w1 hM=>?_))))))))))
                    have hq:Lg.shape e.e deep cn=((Lg.shape s1.e (deep + 1) m).1,(Lg.shape s1.e (deep + 1) m).2):=(show _=Lg.shapes (e.kids.l.map zB.e) (deep + 1) (cn + 1) from by rw [Lg.shape_e]; grind).trans (((Lg.shapes_next hI1.2.2 hs1).2 h8).trans rfl)
                    exact hM.jk 5 rfl (by rw [hq] <;> rfl) (by rw [hq] <;> rfl)
                  ·
                    refine uH (yK (uy hK20 (zr (za (uI rfl rfl qO) (vI rfl (zT (yd (k + 1) ((Lg.shape s1.e (deep + 1) m).2) (sc rfl (sc rfl (sc rfl (sc rfl (sc (ji qO) sn))))) (S9 [5,6,7]) ?_ ?_)))))))
                    · exact ⟨by omega,Lg.shape_le _ _ _ hq0 hq1 (Classical.not_not.1 h8),(Lg.shapes_next hI1.2.2 hs1).1 (Classical.not_not.1 h8)⟩
                    · omega
                ·
                  refine vu (vG (e_loop2_x (vH (uy hK16 (yT fun K25 hK25=>zr (ve rfl (y4 hK25 (vo (vM (.inl rfl) results55 (vL rfl) fun w1 hM=>?_)))))))))
                  have hq:Lg.shape e.e deep cn=(0,m):=(show _=Lg.shapes (e.kids.l.map zB.e) (deep + 1) (cn + 1) from by rw [Lg.shape_e]; grind).trans (by rw [← hI1.2.2,List.take_of_length_le qO])
                  exact hM.jk 0 rfl (by rw [hq] <;> rfl) (by rw [hq] <;> rfl)
theorem c_shape (e:zB):uY e:=recX c_shape_step e
theorem c_langWrong (e:zB) (P0:Nat→Prop) (w:World) (hP0:∀ b,P0 b→b < w.heap.size) (he:zB.Ok P0 e w)  :
    Calls prog 62 #[.agg (zk e).toArray] w (Ret w (iV (Lg.wrong e.e))):=by
 have hwe:=he.wf
 refine zq (N:=6) func62 (Mem.ofDatsP hP0 (dc (dp (zB.Ok.loc _) he) dn)) ?_
 refine (go 2) (yu fun b1=>?_)
 refine (go 6) (yu fun b4=>?_)
 refine jA 1 rfl rfl (u9 0 (v:=iV ((Lg.shape e.e 1 0).1)) (cs':=[iV ((Lg.shape e.e 1 0).2)]) wn rfl rfl call55 rfl (fun w1 Pb hM pp=>c_shape e b4 0 ⟨b1,0,none⟩ 1 Pb w1 (hM.blk (i:=0) rfl) (pp.sub' (i:=0) rfl) (pp.at_ 1 _ rfl) (pp.at_ 2 _ rfl) qO qO qO) ?_)
 refine (go 4) (zX results62 fun w1 hM=>?_)
 exact zP rfl hM
end
section
namespace Ex
open Go.Lib (strCells strCells_length)
section
variable {P:Program} {N n:Nat} {D:List Deferred} {E:Env} {S S0:World→Prop} {Q:Exit→Act→World→Prop} {ops:Array Oper} {w0:World} {M:Fp} {L:List Own}
  {rest:List Oper} {d:Nat} {ty T T':TypeId} {pos:String} {aft:Array Edge} {g:Option (Nat × Bool)} {x y:Operand} {b:Nat}
theorem flat_byte (l:List UInt8):l.flatMap byteE=l.map fun b=>Value.int .u8 b.toNat:=by
  induction l with
  | nil=>rfl
  | cons a l ih=>rw [List.flatMap_cons,ih]; rfl
theorem strCells_flat (s:ByteArray):strCells s=s.data.toList.flatMap byteE:=(flat_byte _).symm
theorem r_pnil_t {te:TypeId} (hx:ev E x=some (.pointer none)) (hy:ev E y=some (.pointer none)) (hp:P.underlying T=some (.pointer te)):Runs P N D E S (.binOp .eql T x y T') ty (.bool true):=fun o ho _ a w ha _=>by
  unfold execOp; rw [ho]
  have h:∀ d:Nat,(Op.equalIn (d + 1) T (.pointer none) (.pointer none)).run P w=.ok true w:=fun d=>by
    simp [Op.equalIn,run_underlying hp]
  simp [ha.eval hx,ha.eval hy,eqGuard_at_pointer,binOp,Op.equal,Op.maxDepth,h 9999]
theorem r_pnil_f {te:TypeId} {ad:Addr} (hx:ev E x=some (.pointer (some ad))) (hy:ev E y=some (.pointer none)) (hp:P.underlying T=some (.pointer te)):Runs P N D E S (.binOp .eql T x y T') ty (.bool false):=fun o ho _ a w ha _=>by
  unfold execOp; rw [ho]
  have h:∀ d:Nat,(Op.equalIn (d + 1) T (.pointer (some ad)) (.pointer none)).run P w=.ok false w:=fun d=>by
    simp [Op.equalIn,run_underlying hp]
  simp [ha.eval hx,ha.eval hy,eqGuard_at_pointer,binOp,Op.equal,Op.maxDepth,h 9999]
theorem r_pself {te:TypeId} {k1 by1:Nat} {z1:Value} {ad:Addr} (hx:ev E x=some (.pointer (some ad))) (hy:ev E y=some (.pointer (some ad))) (hp:P.underlying T=some (.pointer te)) (hi:Inf P te k1 by1 z1):Runs P N D E S (.binOp .neq T x y T') ty (.bool false):=fun o ho _ a w ha _=>by
  unfold execOp; rw [ho]
  obtain ⟨j,hj,_⟩:=hi.get
  simp [ha.eval hx,ha.eval hy,eqGuard_at_pointer,Go.Lib.run_neq_ptr_same w ad hp hj]
theorem r_toUns (i:Nat) {t u:TypeId} {k1 by1:Nat} {z1:Value} {cs:List Value} (hx:ev E x=some (.pointer (some ⟨b,0,none⟩))) (hL:L[i]?=some (.blk b cs u)) (hs:P.underlying T=some (.pointer t)) (hd:P.underlying T'=some .unsafePointer) (ht:Inf P t k1 by1 z1) (hk:Nat.blt 0 k1=true) (hc:Nat.blt 0 cs.length=true) :
    Runs P N D E (Mem w0 M L) (.convert T T' x) ty (.pointer (some ⟨b,0,none⟩)):=fun o ho _ a w ha hS=>by
  unfold execOp; rw [ho]
  obtain ⟨j,hj,_,hz,_⟩:=ht.get
  have hb:w.heap[b]?=some (.cells cs.toArray u (0,0)):=(hS.ok i _ hL).1
  have hsh:w.shape? b=some (u,cs.length):=by simp [World.shape?,hb]
  have h0:0 < k1:=by simpa using hk
  simp [ha.eval hx,Go.Lib.run_to_unsafe w ⟨b,0,none⟩ hs hd hj qO hsh (by simpa using hc)]
theorem r_fromUns (i:Nat) {t u:TypeId} {k1 by1:Nat} {z1:Value} {cs:List Value} (hx:ev E x=some (.pointer (some ⟨b,0,none⟩))) (hL:L[i]?=some (.blk b cs u)) (hs:P.underlying T=some .unsafePointer) (hd:P.underlying T'=some (.pointer t)) (ht:Inf P t k1 by1 z1) (hl:liesAt P P.depth u (cs.length / P.cellsOf u) 0 t 1=true) :
    Runs P N D E (Mem w0 M L) (.convert T T' x) ty (.pointer (some ⟨b,0,none⟩)):=fun o ho _ a w ha hS=>by
  unfold execOp; rw [ho]
  obtain ⟨j,hj,_⟩:=ht.get
  have hb:w.heap[b]?=some (.cells cs.toArray u (0,0)):=(hS.ok i _ hL).1
  have hsh:w.shape? b=some (u,cs.length):=by simp [World.shape?,hb]
  simp [ha.eval hx,Go.Lib.run_from_unsafe w ⟨b,0,none⟩ hs hd hj hsh hl]
theorem r_ext1 {f:Nat} {ts:Array TypeId} {v u:Value} {e:Array Value→Sem Value} (hx:ev E x=some (.func (.func f) #[] #[])) (hy:ev E y=some v) (hcall:∀ args w,(callFunc f args).run P w=((e args).run P w).andThen fun v w'=>.ok (.value v) w') (he:∀ w,(e #[v]).run P w=.ok u w) :
    Runs P N D E S (.call { callee:=.value x,args:=#[y],argTypes:=ts }) ty u:=fun o ho _ a w ha _=>by
  unfold execOp; rw [ho]
  simp [resolve,Deferred.ofValue,ha.eval hx,ha.eval hy,invoke,hcall,he]
theorem run_append_str_at (w:World) (t u ty e:TypeId) (i:TypeInfo) (ht:P.underlying t=some (.slice e)) (hu:P.underlying u=some .string) (hi:P.info? e=some i) (hz:i.zero=some (.int .u8 0)) (hsize:i.size=1) (hby:i.bytes=1)
    (v:Value) (n:Nat) (xs:List Value) (hown:w.ownsRow 0 e 1 v n xs) (s:ByteArray) (hb:n + s.size≤140737488355328) :
    ∃ v' w',(Builtin.append_ #[t,u] ty #[v,.string s]).run P w=.ok v' w'∧w'.ownsRow 0 e 1 v' (n + s.size) (xs++strCells s)∧w.grownBy w' v.ownBlock∧∀ b,v'.ownBlock=some b→v.ownBlock=some b∨w.heap.size≤b:=by
  have hm:n + s.size≤maxLen:=by simp only [maxLen]; omega
  obtain ⟨v',w',hr,ho,hg,_⟩:=Go.Lib.run_append_own_string (P:=P) w 0 t u ty e i ht hu hi hz hsize hby v n xs hown s hm hb (Nat.zero_le _)
  refine ⟨v',w',hr,ho,hg,fun b hbk=>?_⟩
  rcases hown.2 with ⟨rfl,rfl⟩ | ⟨k,cap,cur,rfl,_,hgb,hnc,hcm,hcs,htake⟩
  · have hx:xs=[]:=List.eq_nil_of_length_eq_zero (by simpa using hown.1)
    subst hx
    obtain ⟨v2,w2,hr2,ho2,_⟩:=Go.Lib.run_append_own_string (P:=P) w w.heap.size t u ty e i ht hu hi hz hsize hby (.slice none 0 0) 0 [] (World.ownsRow_nil _ _ _ _) s hm hb (Nat.le_refl _)
    rw [hr] at hr2
    injection hr2 with e1 e2
    subst e1; subst e2
    exact .inr (ho2.lt b hbk).1
  · by_cases hroom:n + s.size≤cap
    · have e2:=Go.Lib.run_append_room_string (P:=P) w t u ty e i ht hu hi hsize k n cap cur hgb s hroom qO
      rw [hr] at e2
      injection e2 with e3 e4
      subst e3
      exact .inl hbk
    · have hxl:xs.length=n:=by simpa using hown.1
      have e2:=Go.Lib.run_append_grow_string (P:=P) w t u ty e i (.int .u8 0) ht hu hi hz ⟨k,0,none⟩ n cap xs (by rw [hxl,hsize,Nat.mul_one]) (fun j u hj=>hown.cells (g:=k) rfl j u hj) s qO qO (by rw [hby]; exact growslice_fits qO qO)
      rw [hr] at e2
      injection e2 with e3 e4
      subst e3
      right
      have:w.heap.size=b:=by simpa [Value.ownBlock] using hbk
      omega
theorem l_appS (i:Nat) {e:TypeId} {v:Value} {zv:Value} {by1:Nat} (l:List UInt8) (s:ByteArray) (hw:Want N D ops E g true) (hs:ev E x=some v) (hx:ev E y=some (.string s)) (hL:L[i]?=some (Row v e 1 byteE l))
    (hu:P.underlying T=some (.slice e)) (hu2:P.underlying T'=some .string) (hi:Inf P e 1 by1 zv) (hz:zv=.int .u8 0) (hp:by1=1) (hb:l.length + s.size≤140737488355328) (hd:Nat.blt d N=true)
    (h:∀ A c,(l++s.data.toList).length≤c→c≤9223372036854775807→(l++s.data.toList≠[]→∃ ad,A=some ad)→WL P N D ops Q rest ((d,.slice A (l++s.data.toList).length c)::E) (Mem w0 M (L.set i (Row (.slice A (l++s.data.toList).length c) e 1 byteE (l++s.data.toList))))) :
    WL P N D ops Q (⟨some d,.call { callee:=.builtin .append,args:=#[x,y],argTypes:=#[T,T'] },T,pos,aft,g⟩::rest) E (Mem w0 M L):=by
  refine uK hw hd fun o ho hty a w ha hS=>?_
  obtain ⟨ti,h1,h2,h3,h4⟩:=hi.get
  subst hz; subst hp
  have hown:=hS.row hL
  have hlen:(l++s.data.toList).length=l.length + s.size:=by rw [List.length_append,Array.length_toList]; rfl
  obtain ⟨v',w',hr,ho',hg',hat⟩:=run_append_str_at (P:=P) w T T' o.type e ti hu hu2 h1 h2 h3 h4 v l.length _ hown s hb
  rw [strCells_flat,← List.flatMap_append,← hlen] at ho'
  have hm:=hS.grow hL (Fr.of_grown hg') ho' hat
  obtain ⟨A,c,rfl,e2,e3,e4⟩:=row_form' ho'
  refine ⟨_,w',?_,_,hm,h A c e2 e3 e4⟩
  unfold execOp; rw [ho]; simp [resolve,invoke,builtin,ha.eval hs,ha.eval hx,hr]
theorem r_sliceData {A:Option Addr} {n c:Nat} (hx:ev E x=some (.slice A n c)) (hc:c≠0):Runs P N D E S (.call { callee:=.builtin .unsafeSliceData,args:=#[x],argTypes:=#[T] }) ty (.pointer A):=fun o ho _ a w ha _=>by
  unfold execOp; rw [ho]
  have h:(Builtin.unsafeSliceData_ #[T] o.type #[.slice A n c]).run P w=.ok (.pointer A) w:=by
    cases A with
    | none=>exact Go.Lib.run_unsafeSliceData_nil ..
    | some ad=>exact Go.Lib.run_unsafeSliceData_row w _ _ _ _ _ hc
  simp [resolve,invoke,builtin,ha.eval hx,h]
theorem l_usString (q:Nat) {e:TypeId} {A:Option Addr} {c:Nat} (l:List UInt8) (hw:Want N D ops E g true) (hx:ev E x=some (.pointer A)) (hy:ev E y=some (.int .i64 (l.length:Int))) (hL:L[q]?=some (Row (.slice A l.length c) e 1 byteE l)) (hne:l≠[])
    (hp:P.underlying T=some (.pointer e)) (hc:P.cellsOf e=1) (hd:Nat.blt d N=true)
    (h:WL P N D ops Q rest ((d,.string ⟨l.toArray⟩)::E) (Mem w0 M (L.set q (.dat (fun _=>False) (fun _=>True))))) :
    WL P N D ops Q (⟨some d,.call { callee:=.builtin .unsafeString,args:=#[x,y],argTypes:=#[T,T'] },ty,pos,aft,g⟩::rest) E (Mem w0 M L):=by
  refine uK hw hd fun o ho hty a w ha hS=>?_
  have hown:=hS.row hL
  have hl0:l.length≠0:=by simpa using hne
  rcases hown.2 with ⟨hv,hz⟩ | ⟨k,cap,cur,hv,_,hg,hnc,hcm,hcs,htake⟩
  · exact absurd hz hl0
  injection hv with e1 e2 e3
  subst e1; subst e3
  have hr:=Go.Lib.run_unsafeString_row (P:=P) w T T' o.type e hp hc k cur.size (by simp [World.shape?,hg]) l hne qO (by unfold maxLen at hcm; omega) fun j b hj=>hown.cells (g:=k) rfl j (.int .u8 b.toNat) (by rw [flat_byte,List.getElem?_map,hj]; rfl)
  refine ⟨.string ⟨l.toArray⟩,w.freeze ⟨k,0,none⟩ l.length,?_,_,hS.upd (o':=.dat (fun _=>False) (fun _=>True)) hL rfl ?_ ⟨trivial,fun _ _ _ h=>h⟩ (fun b hb=>hb.elim),h⟩
  · unfold execOp; rw [ho]; simp [resolve,invoke,builtin,ha.eval hx,ha.eval hy,hr]
  · unfold World.freeze
    rw [if_neg hl0]
    exact ⟨rfl, rfl, rfl, by simp, fun j _ hj => by
      have hjk:k≠j:=fun e9=>hj (by subst e9; rfl)
      simp only [Array.getElem?_modify]
      rw [if_neg hjk]⟩
end
end Ex
end
section
namespace Lg
open Ex Mn
def nb (n:Int):List UInt8:=Go.Lib.itoa n
def mt (m:Match):List UInt8:=if m.kind=1 then m.key.data.toList++61::m.val.data.toList else if m.kind=2 then m.key.data.toList++33::61::m.val.data.toList else if m.kind=3 then m.key.data.toList else 33::m.key.data.toList
def mts:Bool→List Match→List UInt8
  | _,[]=>[]
  | f,m::r=>(if f then mt m else 44::mt m)++mts false r
theorem mts_snoc:∀ (f:Bool) (l:List Match) (m:Match),mts f (l++[m])=mts f l++(if f=true∧l=[] then mt m else 44::mt m)
  | f,[],m=>by cases f <;> simp [mts]
  | f,x::l,m=>by rw [List.cons_append,mts,mts_snoc false l m,mts]; simp
def wint (w:ByteArray) (ms:List Match) (r:Int):List UInt8:=w.data.toList++[40,123]++mts true ms++[125,91]++nb r++[93,41]
def bys:Bool→List ByteArray→List UInt8
  | _,[]=>[]
  | f,b::r=>(if f then [32,98,121,32] else [44])++b.data.toList++bys false r
theorem bys_tail:∀ (l:List ByteArray),Go.Lib.joinTail [44] (l.map (·.data.toList))=bys false l
  | []=>rfl
  | b :: l => by
    have ih:=bys_tail l
    unfold Go.Lib.joinTail at ih ⊢
    rw [List.map_cons,List.map_cons,List.flatten_cons,ih,bys]; rfl
theorem bys_join:∀ {l:List ByteArray},l≠[]→[32,98,121,32]++Go.Lib.join (l.map (·.data.toList)) [44]=bys true l
  | [],h=>absurd rfl h
  | b::l,_=>by rw [List.map_cons,Go.Lib.join_cons,bys_tail,bys]; simp
def lv (w:ByteArray):Int:=if w=⟨#[42]⟩ then 1 else 0
theorem lv_pos (w:ByteArray):¬ lv w < 0:=by unfold lv; split <;> omega
def tb (w:ByteArray) (l:List (List UInt8)):List UInt8:=l[0]?.getD []++[32]++w.data.toList++[32]++l[1]?.getD []
mutual
def txt:Expr→Int→List UInt8
  | .mk k n r w ms by_ ks, least => if k = 1 then nb n else if k = 2 then wint w ms r else if k = 3 then [97,108,108,32] ++ w.data.toList ++ bys true by_ ++ [32,40] ++ (txts ks 0)[0]?.getD [] ++ [41]
    else if lv w < least then [40]++tb w (txts ks (lv w))++[41] else tb w (txts ks (lv w))
def txts:List Expr→Int→List (List UInt8)
  | [],_=>[]
  | x::xs,l=>txt x l::txts xs (l + 1)
end
theorem txts_at:∀ (l:List Expr) (a:Int) (i:Nat) (x:Expr),l[i]?=some x→(txts l a)[i]?=some (txt x (a + i))
  | [],_,_,_,h=>by simp at h
  | y :: l, a, 0, x, h => by
    obtain rfl:y=x:=by simpa using h
    simp [txts]
  | y :: l, a, i + 1, x, h => by
    rw [txts,List.getElem?_cons_succ,txts_at l (a + 1) i x (by simpa using h)]
    congr 2; omega
theorem kid_at {l:List zB} {i:Nat} {s:zB} {a b:Int} (h:l[i]?=some s) (hb:b=a + i):(txts (l.map zB.e) a)[i]?.getD []=txt s.e b:=by
  rw [txts_at _ a i s.e (by rw [List.getElem?_map,h]; rfl),hb]; rfl
theorem txt_num {x:zB} (h:x.kind=1) (least:Int):txt x.e least=nb x.n:=by rw [zB.uP,txt,if_pos h]
theorem txt_win {x:zB} (h:x.kind=2) (least:Int):txt x.e least=wint x.word x.ms.l x.range:=by rw [zB.uP,txt,if_neg qO,if_pos h]
theorem txt_all {x:zB} {s:zB} (h:x.kind=3) (hs:x.kids.l[0]?=some s) (least:Int):txt x.e least=[97,108,108,32]++x.word.data.toList++bys true x.by_.l++[32,40]++txt s.e 0++[41]:=by
  rw [zB.uP,txt,if_neg qO,if_neg qO,if_pos h,kid_at hs (a:=0) (b:=0) qS]
theorem txt_bin {x:zB} {s t:zB} {b:Int} (h:x.kind=4) (hs:x.kids.l[0]?=some s) (ht:x.kids.l[1]?=some t) (least:Int) (hb:b=lv x.word + 1):txt x.e least=if lv x.word < least then [40]++(txt s.e (lv x.word)++[32]++x.word.data.toList++[32]++txt t.e b)++[41] else txt s.e (lv x.word)++[32]++x.word.data.toList++[32]++txt t.e b:=by
  rw [zB.uP,txt,if_neg qO,if_neg qO,if_neg qO,tb,kid_at hs (a:=lv x.word) (b:=lv x.word) qS,kid_at ht (a:=lv x.word) (b:=b) (by rw [hb]; rfl)]
theorem txt_par {x:zB} (h:x.kind=4) {least:Int} (hl:lv x.word < least):txt x.e least=[40]++txt x.e 0++[41]:=by
  rw [zB.uP,txt,txt,if_neg qO,if_neg qO,if_neg qO,if_pos hl,if_neg qO,if_neg qO,if_neg qO,if_neg (by unfold lv; split <;> omega)]
theorem named_size {s:ByteArray} (h:zI.named s=true):s.size≤12:=by
  unfold zI.named at h
  simp only [Bool.and_eq_true,decide_eq_true_eq] at h
  exact h.1.2
theorem nb_len {n:Int} (h:0≤n∧n≤1000000):(nb n).length≤21:=Go.Lib.itoa_length_le n qO qO
structure MatchR (m:Match):Prop where
  kind:1≤m.kind∧m.kind≤4
  key:m.key.size≤12
  val:m.kind≤2→m.val.size≤12
theorem matchR_of {m:Match} (h:matchW m=0):MatchR m:=by
  unfold matchW at h
  split at h
  · cases h
  split at h
  · cases h
  rename_i g1 g2
  simp only [not_or,not_and,Bool.not_eq_false] at g2
  exact ⟨by omega,named_size g2.1,fun h=>named_size (g2.2 qO)⟩
theorem matchesR_of:∀ {l:List Match},matchesW l=0→∀ m ∈ l,MatchR m
  | [],_,m,hm=>by cases hm
  | x :: l, h, m, hm => by
    rw [matchesW] at h
    split at h
    · rename_i g; exact absurd h g
    rename_i g
    rcases List.mem_cons.1 hm with rfl | hm
    · exact matchR_of (Classical.not_not.1 g)
    · exact matchesR_of h m hm
theorem mt_len {m:Match} (h:MatchR m):(mt m).length≤26:=by
  have h1:=h.key; have h2:=h.val; have h3:=h.kind
  rw [bl_size] at h1
  unfold mt
  split
  · have h4:=h2 qO; rw [bl_size] at h4; simp only [List.length_append,List.length_cons]; omega
  split
  · have h4:=h2 qO; rw [bl_size] at h4; simp only [List.length_append,List.length_cons]; omega
  split
  · omega
  · simp only [List.length_cons]; omega
theorem mts_len:∀ (f:Bool) {l:List Match},(∀ m ∈ l,MatchR m)→(mts f l).length≤27 * l.length
  | _,[],_=>by simp [mts]
  | f, m :: l, h => by
    have h1:=mts_len false (l:=l) fun x hx=>h x (List.mem_cons_of_mem _ hx)
    have h2:=mt_len (h m List.mem_cons_self)
    rw [mts,List.length_append,List.length_cons]
    split
    · omega
    · rw [List.length_cons]; omega
theorem bys_len:∀ (f:Bool) {l:List ByteArray},(∀ b ∈ l,b.size≤12)→(bys f l).length≤16 * l.length
  | _,[],_=>by simp [bys]
  | f, b :: l, h => by
    have h1:=bys_len false (l:=l) fun x hx=>h x (List.mem_cons_of_mem _ hx)
    have h2:=h b List.mem_cons_self
    rw [bl_size] at h2
    rw [bys,List.length_append,List.length_append,List.length_cons]
    split <;> simp only [List.length_cons,List.length_nil] <;> omega
theorem mem_size {l:List ByteArray} {k:Nat} (hl:∀ x ∈ l,x.size≤k) {w:ByteArray} (h:¬ ¬ 0≤zI.indexOf l w 0):w.size≤k:=hl w ((zI.index_mem _ _ _).1 (Classical.not_not.1 h))
structure WinR (w:ByteArray) (ms:List Match) (r:Int):Prop where
  word:w.size≤5
  len:ms.length≤5
  each:∀ m ∈ ms,MatchR m
  range:1≤r∧r≤100000
theorem winR_of {n r:Int} {w:ByteArray} {ms:List Match} {by_:List ByteArray} (h:ownW 2 n r w ms by_=0):WinR w ms r:=by
  rw [ownW,if_neg qD,if_pos rfl,windowW] at h
  split at h
  · cases h
  rename_i g1
  split at h
  · cases h
  split at h
  · rename_i g; exact absurd h g
  rename_i g3
  split at h
  · cases h
  exact ⟨mem_size qD g1,by omega,matchesR_of (Classical.not_not.1 g3),by omega⟩
theorem numR_of {n r:Int} {w:ByteArray} {ms:List Match} {by_:List ByteArray} (h:ownW 1 n r w ms by_=0):0≤n∧n≤1000000:=by
  rw [ownW,if_pos rfl] at h
  split at h
  · cases h
  · omega
structure AllR (w:ByteArray) (by_:List ByteArray):Prop where
  word:w.size≤5
  len:by_.length≤4
  each:∀ b ∈ by_,b.size≤12
theorem allR_of {n r:Int} {w:ByteArray} {ms:List Match} {by_:List ByteArray} (h:ownW 3 n r w ms by_=0):AllR w by_:=by
  rw [ownW,if_neg qD,if_neg qD,if_pos rfl] at h
  split at h
  · cases h
  rename_i g1
  split at h
  · cases h
  split at h
  · cases h
  rename_i g3
  refine ⟨mem_size qD g1,by omega,fun b hb=>?_⟩
  rw [Bool.not_eq_true,List.any_eq_false] at g3
  have:=g3 b hb
  exact named_size (by simpa using this)
theorem binR_of {n r:Int} {w:ByteArray} {ms:List Match} {by_:List ByteArray} (h:ownW 4 n r w ms by_=0):w.size≤1∧(w=⟨#[43]⟩∨w=⟨#[45]⟩∨w=⟨#[42]⟩):=by
  rw [ownW,if_neg qD,if_neg qD,if_neg qD] at h
  split at h
  · cases h
  rename_i g1
  exact ⟨mem_size qD g1,(signs_iff _).1 (Classical.not_not.1 g1)⟩
theorem wint_len {w:ByteArray} {ms:List Match} {r:Int} (h:WinR w ms r):(wint w ms r).length≤200:=by
  have h1:=h.word; have h2:=h.len; have h3:=mts_len true h.each; have h4:=nb_len (n:=r) ⟨by have:=h.range; omega,by have:=h.range; omega⟩
  rw [bl_size] at h1
  unfold wint
  simp only [qL]
  omega
mutual
theorem txt_len:∀ (e:Expr) (least:Int),fineE e→((txt e least).length:Int)≤250 * nodes e
  | .mk k n r w ms by_ ks, least, hf => by
    rw [fineE] at hf
    obtain ⟨hk,ha,ho,hs⟩:=hf
    have h0:=nodess_pos ks
    rw [nodes,txt]
    split
    · rename_i h; subst h; have:=nb_len (numR_of ho); omega
    split
    · rename_i h; subst h; have:=wint_len (winR_of ho); omega
    have hks:=txts_len ks
    split
    · rename_i h; subst h
      have h3:=allR_of ho
      have h4:=bys_len true h3.each; have h5:=h3.len; have h6:=h3.word
      rw [bl_size] at h6
      have h7:=hks 0 hs
      have h8:((txts ks 0)[0]?.getD []).length≤(txts ks 0).flatten.length:=by
        match txts ks 0 with
        | []=>simp
        | a::l=>simp
      simp only [qL]
      omega
    · have h4:k=4:=qO
      subst h4
      have h6:=(binR_of ho).1
      rw [bl_size] at h6
      have h7:=hks (lv w) hs
      have h8:((txts ks (lv w))[0]?.getD []).length + ((txts ks (lv w))[1]?.getD []).length≤(txts ks (lv w)).flatten.length:=by
        match txts ks (lv w) with
        | []=>simp
        | [a]=>simp
        | a::b::l=>simp
      have h9:(tb w (txts ks (lv w))).length≤(txts ks (lv w)).flatten.length + 3:=by
        unfold tb
        simp only [qL]
        omega
      split
      · simp only [qL]; omega
      · omega
theorem txts_len:∀ (l:List Expr) (a:Int),fineEs l→((txts l a).flatten.length:Int)≤250 * nodess l
  | [],a,_=>by simp [txts,nodess]
  | x :: xs, a, h => by
    rw [fineEs] at h
    have h1:=txt_len x a h.1; have h2:=txts_len xs (a + 1) h.2
    rw [txts,nodess,List.flatten_cons,List.length_append]; omega
end
theorem fineEs_all:∀ {l:List Expr},fineEs l→∀ x ∈ l,fineE x
  | [],_,x,hx=>by cases hx
  | y :: l, h, x, hx => by
    rw [fineEs] at h
    rcases List.mem_cons.1 hx with h1 | h1
    · rw [h1]; exact h.1
    · exact fineEs_all h.2 x h1
theorem fine_x {x:zB} (h:fineE x.e):(1≤x.kind∧x.kind≤4)∧(x.kids.l.length:Int)=arity x.kind∧ownW x.kind x.n x.range x.word x.ms.l x.by_.l=0∧∀ y ∈ x.kids.l,fineE y.e:=by
  rw [zB.uP,fineE] at h
  obtain ⟨h1,h2,h3,h4⟩:=h
  rw [List.length_map] at h2
  exact ⟨h1,h2,h3,fun y hy=>fineEs_all h4 _ (List.mem_map_of_mem hy)⟩
theorem nodes_all {x s:zB} (h:x.kids.l.length=1) (hs:x.kids.l[0]?=some s):nodes x.e=1 + nodes s.e:=by
  rw [zB.uP x,nodes]
  match hq:x.kids.l,h with
  | [a], _ =>
    rw [hq] at hs
    obtain rfl:a=s:=by simpa using hs
    rw [List.map_cons,List.map_nil,nodess,nodess]; omega
theorem nodes_bin {x s t:zB} (h:x.kids.l.length=2) (hs:x.kids.l[0]?=some s) (ht:x.kids.l[1]?=some t):nodes x.e=1 + nodes s.e + nodes t.e:=by
  rw [zB.uP x,nodes]
  match hq:x.kids.l,h with
  | [a, b], _ =>
    rw [hq] at hs ht
    obtain rfl:a=s:=by simpa using hs
    obtain rfl:b=t:=by simpa using ht
    rw [List.map_cons,List.map_cons,List.map_nil,nodess,nodess,nodess]; omega
theorem right_of_wrong {e:Expr} (h:wrong e=0):fineE e∧nodes e≤100:=by
  unfold wrong at h
  obtain ⟨h1,h2,_,_⟩:=shape_of e 1 0 h
  have:=shape_le e 1 0 qO qO h
  exact ⟨h1,by omega⟩
theorem mts_at {l:List Match} {k:Nat} {m:Match} (h:l[k]?=some m):mts true (l.take (k + 1))=mts true (l.take k)++(if k=0 then mt m else 44::mt m):=by
  obtain ⟨hk,_⟩:=List.getElem?_eq_some_iff.1 h
  rw [List.take_add_one,h,Option.toList_some,mts_snoc]
  congr 1
  by_cases hk0:k=0
  · subst hk0; simp
  · rw [if_neg hk0,if_neg]
    rintro ⟨_,h1⟩
    have:=congrArg List.length h1
    rw [List.length_take,List.length_nil] at this
    omega
theorem win_len {w:ByteArray} {ms:List Match} {r:Int} (h:WinR w ms r) (k:Nat):(w.data.toList++[40,123]++mts true (ms.take k)).length≤160:=by
  have h1:=h.word; have h2:=h.len
  have h3:=mts_len true (l:=ms.take k) fun m hm=>h.each m (List.mem_of_mem_take hm)
  rw [bl_size] at h1
  rw [List.length_take] at h3
  simp only [qL]
  omega
theorem join_len {w:ByteArray} {by_:List ByteArray} (h:AllR w by_):(Go.Lib.join (by_.map (·.data.toList)) [44]).length≤64:=by
  by_cases hn:by_=[]
  · subst hn; simp [Go.Lib.join_nil]
  have h1:=congrArg List.length (bys_join hn); have h2:=bys_len true h.each; have h3:=h.len
  simp only [qL] at h1
  omega
theorem nb_ne (n:Int) (h:0≤n∧n≤1000000):nb n≠[]:=by
  have h1:nb n=Go.Lib.itoa ((n.toNat:Nat):Int):=by rw [Int.toNat_of_nonneg h.1]; rfl
  intro h2
  have h3:=congrArg List.length (h1.symm.trans h2)
  rw [Go.Lib.itoa_nonneg,Go.Lib.decDigits_length,List.length_nil] at h3
  by_cases h4:n.toNat < 10
  · rw [Go.Lib.nDigits_small h4] at h3; omega
  · rw [Go.Lib.nDigits_big h4] at h3; omega
theorem txt_ne:∀ (e:Expr) (least:Int),fineE e→txt e least≠[]
  | .mk k n r w ms by_ ks, least, hf => by
    rw [fineE] at hf
    rw [txt]
    split
    · rename_i h; subst h; exact nb_ne n (numR_of hf.2.2.1)
    split
    · simp [wint]
    split
    · simp
    split
    · simp
    · simp [tb]
def print (e:Expr):List UInt8 × Int:=if wrong e≠0 then ([],wrong e) else if 2000 < (txt e 0).length then ([],4) else (txt e 0,0)
end Lg
end
section
namespace Ex
open Go.Lib
def TabOk (P:Program) (name:String) (k:IntKind) (zs:List Int) (S:Nat→Prop) (w:World):Prop:=(∀ g,P.globalNamed name=some g→S g)∧TabIs P w name k zs
theorem TabOk.loc (P:Program) (name:String) (k:IntKind) (zs:List Int):Loc (TabOk P name k zs):=fun S S' u u' hs hk h=>by
  refine ⟨fun g hg=>hs _ (h.1 g hg),?_⟩
  have h2:=h.2
  unfold TabIs World.var? at h2 ⊢
  cases hg:P.globalNamed name with
  | none=>rw [hg] at h2; cases h2
  | some g=>rw [hg] at h2; simp only [Option.bind_some] at h2 ⊢; rw [hk _ (h.1 g hg)]; exact h2
theorem Fr.of_grow {w:World} (k:Nat) (os:Array Obj):Fr no w (Go.Sort.grow (w.drewN k) os):=by
  refine ⟨rfl,?_,rfl,?_,fun j hj _=>?_⟩
  · show (w.drewN k).tape=w.tape
    induction k <;> first | rfl | assumption
  · show w.heap.size≤((w.drewN k).heap++os).size
    rw [Array.size_append]
    exact Nat.le_add_right _ _
  · show ((w.drewN k).heap++os)[j]?=w.heap[j]?
    exact Array.getElem?_append_left hj
theorem strs_at {Sb:Nat→Prop} {v:Value} {l:List ByteArray} {w:World} (h:zD Sb 1 strE v l w) (hne:l≠[]) :
    ∃ bk o c,v=.slice (some ⟨bk,o,none⟩) l.length c∧l.length≤c∧Sb bk∧∀ (j:Nat) (x:ByteArray),l[j]?=some x→w.cell? ⟨bk,o + j,none⟩=some (.string x):=by
  obtain ⟨A,c,rfl,h1,h2,h3⟩:=h
  obtain ⟨ad,rfl,hb,hc⟩:=h3 hne
  obtain ⟨bk,o,sp⟩:=ad
  have hcell:∀ (j:Nat) (x:ByteArray),l[j]?=some x→w.cell? ((Addr.mk bk o sp).add j)=some (.string x):=fun j x hj=>by
    have:=hc j x hj 0 (.string x) rfl
    rw [Nat.mul_one] at this
    exact this
  obtain ⟨x,hx⟩:∃ x,l[0]?=some x:=by
    cases l with
    | nil=>exact absurd rfl hne
    | cons x _=>exact ⟨x,rfl⟩
  have h0:=hcell 0 x hx
  have hs:sp=none:=by
    cases sp with
    | none=>rfl
    | some z =>
      unfold World.cell? at h0
      split at h0
      · simp [Addr.add] at h0
      · cases h0
  subst hs
  refine ⟨bk,o,c,rfl,h1,hb,fun j x hj=>?_⟩
  have:=hcell j x hj
  unfold Addr.add at this
  split at this
  · rename_i e; subst e; simpa using this
  · exact this
end Ex
end
end Go.Proofs.YtgojhpocpajmlaaGreatDoor
section
namespace Go.Proofs
open Go.Shelf
def Tryz.lays156_ren:Go.Shelf.Ren:=⟨fun | 156=>109 | 165=>160 | 166=>106 | 169=>65 | 240=>158 | 241=>200 | 276=>198 | 277=>222 | n=>n,fun | 31=>56 | 9=>9 | 3=>3 | 4=>4 | 0=>0 | 20=>20 | 72=>134 | 76=>185 | 70=>132 | 37=>79 | 75=>183 | 127=>190 | 164=>255 | 5=>5 | 80=>139 | n=>n,fun | n=>n⟩
theorem Tryz.lays156:Go.Proofs.Lays.n156 Tryz.prog Tryz.lays156_ren:={
  mixed:=by kernel_rfl
  f156:=Tryz.func109.trans (congrArg some (by kernel_rfl))
  f165:=Tryz.func160.trans (congrArg some (by kernel_rfl))
  f166:=Tryz.func106.trans (congrArg some (by kernel_rfl))
  f169:=Tryz.func65.trans (congrArg some (by kernel_rfl))
  f240:=Tryz.func158.trans (congrArg some (by kernel_rfl))
  f241:=Tryz.func200.trans (congrArg some (by kernel_rfl))
  f276:=Tryz.func198.trans (congrArg some (by kernel_rfl))
  f277:=Tryz.func222.trans (congrArg some (by kernel_rfl))
  t0:=Tryz.underlying0
  a0:=Tryz.isAgg0
  z0:=Tryz.sizeOf0
  v0:=Tryz.zeroValue0
  t3:=Tryz.underlying3
  a3:=Tryz.isAgg3
  z3:=Tryz.sizeOf3
  v3:=Tryz.zeroValue3
  t4:=Tryz.underlying4
  a4:=Tryz.isAgg4
  z4:=Tryz.sizeOf4
  v4:=Tryz.zeroValue4
  t9:=Tryz.underlying9
  a9:=Tryz.isAgg9
  z9:=Tryz.sizeOf9
  v9:=Tryz.zeroValue9
  t20:=Tryz.underlying20
  a20:=Tryz.isAgg20
  z20:=Tryz.sizeOf20
  v20:=Tryz.zeroValue20
  t31:=Tryz.underlying56
  a31:=Tryz.isAgg56
  z31:=Tryz.sizeOf56
  v31:=Tryz.zeroValue56
  t37:=Tryz.underlying79
  a37:=Tryz.isAgg79
  z37:=Tryz.sizeOf79
  v37:=Tryz.zeroValue79
  t70:=Tryz.underlying132
  a70:=Tryz.isAgg132
  z70:=Tryz.sizeOf132
  v70:=Tryz.zeroValue132
  t72:=Tryz.underlying134
  a72:=Tryz.isAgg134
  z72:=Tryz.sizeOf134
  v72:=Tryz.zeroValue134
  t75:=Tryz.underlying183
  a75:=Tryz.isAgg183
  z75:=Tryz.sizeOf183
  v75:=Tryz.zeroValue183
  t76:=Tryz.underlying185
  a76:=Tryz.isAgg185
  z76:=Tryz.sizeOf185
  v76:=Tryz.zeroValue185
  t127:=Tryz.underlying190
  a127:=Tryz.isAgg190
  z127:=Tryz.sizeOf190
  v127:=Tryz.zeroValue190
  t164:=Tryz.underlying255
  a164:=Tryz.isAgg255
  z164:=Tryz.sizeOf255
  v164:=Tryz.zeroValue255 }
theorem Tryz.Builder_Extra_156:Builder.Extra Tryz.prog Tryz.lays156_ren:={
  sizeBuilder:=by kernel_rfl
  liesBuilder:=by kernel_rfl
  t5:=Tryz.underlying5
  a5:=Tryz.isAgg5
  z5:=Tryz.sizeOf5
  v5:=Tryz.zeroValue5
  infoByte:=by kernel_rfl
  cellsByte:=by kernel_rfl
  sizeByte:=by kernel_rfl
  neB5:=by decide }
open Go.RowKit in
theorem Tryz.strings_Join (bk o c:Nat) (xs:List ByteArray) (sep:ByteArray) (w:World) (hcells:∀ (j:Nat) x,xs[j]?=some x→w.cell? ⟨bk,o + j,none⟩=some (.string x)) (hbk:bk < w.heap.size) (hN:xs.length≤140737488355328) (hcap:xs.length≤c) (hlen:(Lib.join (xs.map (·.data.toList)) sep.data.toList).length≤140737488355328) :
    Calls Tryz.prog 109 #[.slice (some ⟨bk,o,none⟩) xs.length c,.string sep] w fun e w'=>e=.returned (.string ⟨(Lib.join (xs.map (·.data.toList)) sep.data.toList).toArray⟩)∧Below w.heap.size w w':=Any.strings_Join Tryz.lays156 Tryz.Builder_Extra_156 bk o c xs sep w hcells hbk hN hcap hlen
def Tryz.laysM171_ren:Go.Shelf.Ren:=⟨fun | 171=>107 | 243=>159 | 246=>199 | 283=>218 | 284=>219 | 285=>220 | 286=>221 | 129=>228 | 317=>227 | 318=>229 | 319=>230 | 320=>231 | 337=>238 | 338=>239 | n=>n,fun | 3=>3 | 9=>9 | 2=>2 | 4=>4 | 171=>265 | 0=>0 | 53=>266 | 37=>79 | 5=>5 | 173=>269 | 212=>275 | 51=>276 | 20=>20 | 213=>277 | 46=>228 | 232=>293 | 233=>294 | n=>n,fun | 17=>0 | 18=>4 | 19=>5 | n=>n⟩
theorem Tryz.laysM171:Go.Proofs.LaysM.n171 Tryz.prog Tryz.laysM171_ren:={
  mixed:=by kernel_rfl
  f129:=Tryz.func228.trans (congrArg some (by kernel_rfl))
  f171:=Tryz.func107.trans (congrArg some (by kernel_rfl))
  f243:=Tryz.func159.trans (congrArg some (by kernel_rfl))
  f246:=Tryz.func199.trans (congrArg some (by kernel_rfl))
  f283:=Tryz.func218.trans (congrArg some (by kernel_rfl))
  f284:=Tryz.func219.trans (congrArg some (by kernel_rfl))
  f285:=Tryz.func220.trans (congrArg some (by kernel_rfl))
  f286:=Tryz.func221.trans (congrArg some (by kernel_rfl))
  f317:=Tryz.func227.trans (congrArg some (by kernel_rfl))
  f318:=Tryz.func229.trans (congrArg some (by kernel_rfl))
  f319:=Tryz.func230.trans (congrArg some (by kernel_rfl))
  f320:=Tryz.func231.trans (congrArg some (by kernel_rfl))
  f337:=Tryz.func238.trans (congrArg some (by kernel_rfl))
  f338:=Tryz.func239.trans (congrArg some (by kernel_rfl))
  t0:=Tryz.underlying0
  a0:=Tryz.isAgg0
  z0:=Tryz.sizeOf0
  v0:=Tryz.zeroValue0
  t2:=Tryz.underlying2
  a2:=Tryz.isAgg2
  z2:=Tryz.sizeOf2
  v2:=Tryz.zeroValue2
  t3:=Tryz.underlying3
  a3:=Tryz.isAgg3
  z3:=Tryz.sizeOf3
  v3:=Tryz.zeroValue3
  t4:=Tryz.underlying4
  a4:=Tryz.isAgg4
  z4:=Tryz.sizeOf4
  v4:=Tryz.zeroValue4
  t5:=Tryz.underlying5
  a5:=Tryz.isAgg5
  z5:=Tryz.sizeOf5
  v5:=Tryz.zeroValue5
  t9:=Tryz.underlying9
  a9:=Tryz.isAgg9
  z9:=Tryz.sizeOf9
  v9:=Tryz.zeroValue9
  t20:=Tryz.underlying20
  a20:=Tryz.isAgg20
  z20:=Tryz.sizeOf20
  v20:=Tryz.zeroValue20
  t37:=Tryz.underlying79
  a37:=Tryz.isAgg79
  z37:=Tryz.sizeOf79
  v37:=Tryz.zeroValue79
  t46:=Tryz.underlying228
  a46:=Tryz.isAgg228
  z46:=Tryz.sizeOf228
  v46:=Tryz.zeroValue228
  t51:=Tryz.underlying276
  a51:=Tryz.isAgg276
  z51:=Tryz.sizeOf276
  v51:=Tryz.zeroValue276
  t53:=Tryz.underlying266
  a53:=Tryz.isAgg266
  z53:=Tryz.sizeOf266
  v53:=Tryz.zeroValue266
  t171:=Tryz.underlying265
  a171:=Tryz.isAgg265
  z171:=Tryz.sizeOf265
  v171:=Tryz.zeroValue265
  t173:=Tryz.underlying269
  a173:=Tryz.isAgg269
  z173:=Tryz.sizeOf269
  v173:=Tryz.zeroValue269
  t212:=Tryz.underlying275
  a212:=Tryz.isAgg275
  z212:=Tryz.sizeOf275
  v212:=Tryz.zeroValue275
  t213:=Tryz.underlying277
  a213:=Tryz.isAgg277
  z213:=Tryz.sizeOf277
  t232:=Tryz.underlying293
  a232:=Tryz.isAgg293
  z232:=Tryz.sizeOf293
  v232:=Tryz.zeroValue293
  t233:=Tryz.underlying294
  a233:=Tryz.isAgg294
  z233:=Tryz.sizeOf294
  v233:=Tryz.zeroValue294
  g17:=by kernel_rfl
  g18:=by kernel_rfl
  g19:=by kernel_rfl
  i0:=by kernel_rfl
  i2:=by kernel_rfl
  i3:=by kernel_rfl
  i4:=by kernel_rfl
  i5:=by kernel_rfl
  i9:=by kernel_rfl
  i20:=by kernel_rfl
  i37:=by kernel_rfl
  i46:=by kernel_rfl
  i51:=by kernel_rfl
  i53:=by kernel_rfl
  i171:=by kernel_rfl
  i173:=by kernel_rfl
  i212:=by kernel_rfl
  i232:=by kernel_rfl
  i233:=by kernel_rfl
  m17:=by kernel_rfl
  m18:=by kernel_rfl
  m19:=by kernel_rfl }
open Go.RowKit Go.Sort Go.Lib in
theorem Tryz.strconv_Itoa (n : Int) (h0 : -9223372036854775808 ≤ n) (h1 : n ≤ 9223372036854775807) (w : World) (htab : Lib.TabIs Tryz.prog w "internal/strconv.uint64pow10" .u64 Lib.pow10Tab) :
    Calls Tryz.prog 107 #[.int .i64 n] w fun e w'=>e=.returned (.string ⟨(Lib.itoa n).toArray⟩)∧∃ k os,w'=grow (w.drewN k) os:=Any.strconv_Itoa Tryz.laysM171 n h0 h1 w htab
def Tryz.laysC172_ren:Go.Shelf.Ren:=⟨fun | 172=>212 | 244=>224 | 245=>225 | 247=>232 | 279=>233 | 280=>234 | 281=>235 | 282=>236 | 287=>240 | 316=>241 | 171=>107 | 205=>242 | 321=>243 | 322=>244 | 243=>159 | 246=>199 | 283=>218 | 284=>219 | 285=>220 | 286=>221 | 129=>228 | 317=>227 | 318=>229 | 319=>230 | 320=>231 | 337=>238 | 338=>239 | n=>n,fun | 9=>9 | 3=>3 | 75=>183 | 76=>185 | 4=>4 | 5=>5 | 167=>279 | 37=>79 | 0=>0 | 85=>280 | 2=>2 | 168=>282 | 53=>266 | 175=>287 | 46=>228 | 210=>291 | 127=>190 | 145=>298 | 143=>296 | 21=>21 | 171=>265 | 173=>269 | 212=>275 | 51=>276 | 20=>20 | 213=>277 | 232=>293 | 233=>294 | 80=>139 | n=>n,fun | 15=>2 | 16=>3 | 17=>0 | 18=>4 | 19=>5 | n=>n⟩
theorem Tryz.laysC172:Go.Proofs.LaysC.n172 Tryz.prog Tryz.laysC172_ren:={
  mixed:=by kernel_rfl
  f129:=Tryz.func228.trans (congrArg some (by kernel_rfl))
  f171:=Tryz.func107.trans (congrArg some (by kernel_rfl))
  f172:=Tryz.func212.trans (congrArg some (by kernel_rfl))
  f205:=Tryz.func242.trans (congrArg some (by kernel_rfl))
  f243:=Tryz.func159.trans (congrArg some (by kernel_rfl))
  f244:=Tryz.func224.trans (congrArg some (by kernel_rfl))
  f245:=Tryz.func225.trans (congrArg some (by kernel_rfl))
  f246:=Tryz.func199.trans (congrArg some (by kernel_rfl))
  f247:=Tryz.func232.trans (congrArg some (by kernel_rfl))
  f279:=Tryz.func233.trans (congrArg some (by kernel_rfl))
  f280:=Tryz.func234.trans (congrArg some (by kernel_rfl))
  f281:=Tryz.func235.trans (congrArg some (by kernel_rfl))
  f282:=Tryz.func236.trans (congrArg some (by kernel_rfl))
  f283:=Tryz.func218.trans (congrArg some (by kernel_rfl))
  f284:=Tryz.func219.trans (congrArg some (by kernel_rfl))
  f285:=Tryz.func220.trans (congrArg some (by kernel_rfl))
  f286:=Tryz.func221.trans (congrArg some (by kernel_rfl))
  f287:=Tryz.func240.trans (congrArg some (by kernel_rfl))
  f316:=Tryz.func241.trans (congrArg some (by kernel_rfl))
  f317:=Tryz.func227.trans (congrArg some (by kernel_rfl))
  f318:=Tryz.func229.trans (congrArg some (by kernel_rfl))
  f319:=Tryz.func230.trans (congrArg some (by kernel_rfl))
  f320:=Tryz.func231.trans (congrArg some (by kernel_rfl))
  f321:=Tryz.func243.trans (congrArg some (by kernel_rfl))
  f322:=Tryz.func244.trans (congrArg some (by kernel_rfl))
  f337:=Tryz.func238.trans (congrArg some (by kernel_rfl))
  f338:=Tryz.func239.trans (congrArg some (by kernel_rfl))
  t0:=Tryz.underlying0
  a0:=Tryz.isAgg0
  z0:=Tryz.sizeOf0
  v0:=Tryz.zeroValue0
  t2:=Tryz.underlying2
  a2:=Tryz.isAgg2
  z2:=Tryz.sizeOf2
  v2:=Tryz.zeroValue2
  t3:=Tryz.underlying3
  a3:=Tryz.isAgg3
  z3:=Tryz.sizeOf3
  v3:=Tryz.zeroValue3
  t4:=Tryz.underlying4
  a4:=Tryz.isAgg4
  z4:=Tryz.sizeOf4
  v4:=Tryz.zeroValue4
  t5:=Tryz.underlying5
  a5:=Tryz.isAgg5
  z5:=Tryz.sizeOf5
  v5:=Tryz.zeroValue5
  t9:=Tryz.underlying9
  a9:=Tryz.isAgg9
  z9:=Tryz.sizeOf9
  v9:=Tryz.zeroValue9
  t20:=Tryz.underlying20
  a20:=Tryz.isAgg20
  z20:=Tryz.sizeOf20
  v20:=Tryz.zeroValue20
  t21:=Tryz.underlying21
  a21:=Tryz.isAgg21
  z21:=Tryz.sizeOf21
  v21:=Tryz.zeroValue21
  t37:=Tryz.underlying79
  a37:=Tryz.isAgg79
  z37:=Tryz.sizeOf79
  v37:=Tryz.zeroValue79
  t46:=Tryz.underlying228
  a46:=Tryz.isAgg228
  z46:=Tryz.sizeOf228
  v46:=Tryz.zeroValue228
  t51:=Tryz.underlying276
  a51:=Tryz.isAgg276
  z51:=Tryz.sizeOf276
  v51:=Tryz.zeroValue276
  t53:=Tryz.underlying266
  a53:=Tryz.isAgg266
  z53:=Tryz.sizeOf266
  v53:=Tryz.zeroValue266
  t75:=Tryz.underlying183
  a75:=Tryz.isAgg183
  z75:=Tryz.sizeOf183
  v75:=Tryz.zeroValue183
  t76:=Tryz.underlying185
  a76:=Tryz.isAgg185
  z76:=Tryz.sizeOf185
  v76:=Tryz.zeroValue185
  t85:=Tryz.underlying280
  a85:=Tryz.isAgg280
  z85:=Tryz.sizeOf280
  v85:=Tryz.zeroValue280
  t127:=Tryz.underlying190
  a127:=Tryz.isAgg190
  z127:=Tryz.sizeOf190
  v127:=Tryz.zeroValue190
  t143:=Tryz.underlying296
  a143:=Tryz.isAgg296
  z143:=Tryz.sizeOf296
  v143:=Tryz.zeroValue296
  t145:=Tryz.underlying298
  a145:=Tryz.isAgg298
  z145:=Tryz.sizeOf298
  v145:=Tryz.zeroValue298
  t167:=Tryz.underlying279
  a167:=Tryz.isAgg279
  z167:=Tryz.sizeOf279
  v167:=Tryz.zeroValue279
  t168:=Tryz.underlying282
  a168:=Tryz.isAgg282
  z168:=Tryz.sizeOf282
  v168:=Tryz.zeroValue282
  t171:=Tryz.underlying265
  a171:=Tryz.isAgg265
  z171:=Tryz.sizeOf265
  v171:=Tryz.zeroValue265
  t173:=Tryz.underlying269
  a173:=Tryz.isAgg269
  z173:=Tryz.sizeOf269
  v173:=Tryz.zeroValue269
  t175:=Tryz.underlying287
  a175:=Tryz.isAgg287
  z175:=Tryz.sizeOf287
  v175:=Tryz.zeroValue287
  t210:=Tryz.underlying291
  a210:=Tryz.isAgg291
  z210:=Tryz.sizeOf291
  v210:=Tryz.zeroValue291
  t212:=Tryz.underlying275
  a212:=Tryz.isAgg275
  z212:=Tryz.sizeOf275
  v212:=Tryz.zeroValue275
  t213:=Tryz.underlying277
  a213:=Tryz.isAgg277
  z213:=Tryz.sizeOf277
  t232:=Tryz.underlying293
  a232:=Tryz.isAgg293
  z232:=Tryz.sizeOf293
  v232:=Tryz.zeroValue293
  t233:=Tryz.underlying294
  a233:=Tryz.isAgg294
  z233:=Tryz.sizeOf294
  v233:=Tryz.zeroValue294
  g15:=by kernel_rfl
  g16:=by kernel_rfl
  g17:=by kernel_rfl
  g18:=by kernel_rfl
  g19:=by kernel_rfl
  t80:=Tryz.underlying139
  a80:=Tryz.isAgg139
  z80:=Tryz.sizeOf139
  v80:=Tryz.zeroValue139
  i0:=by kernel_rfl
  i2:=by kernel_rfl
  i3:=by kernel_rfl
  i4:=by kernel_rfl
  i5:=by kernel_rfl
  i9:=by kernel_rfl
  i20:=by kernel_rfl
  i21:=by kernel_rfl
  i37:=by kernel_rfl
  i46:=by kernel_rfl
  i51:=by kernel_rfl
  i53:=by kernel_rfl
  i75:=by kernel_rfl
  i76:=by kernel_rfl
  i80:=by kernel_rfl
  i85:=by kernel_rfl
  i127:=by kernel_rfl
  i143:=by kernel_rfl
  i145:=by kernel_rfl
  i167:=by kernel_rfl
  i168:=by kernel_rfl
  i171:=by kernel_rfl
  i173:=by kernel_rfl
  i175:=by kernel_rfl
  i210:=by kernel_rfl
  i212:=by kernel_rfl
  i232:=by kernel_rfl
  i233:=by kernel_rfl
  m15:=by kernel_rfl
  m16:=by kernel_rfl
  m17:=by kernel_rfl
  m18:=by kernel_rfl
  m19:=by kernel_rfl
  c0:=by kernel_rfl
  c2:=by kernel_rfl
  c3:=by kernel_rfl
  c4:=by kernel_rfl
  c5:=by kernel_rfl
  c9:=by kernel_rfl
  c20:=by kernel_rfl
  c21:=by kernel_rfl
  c37:=by kernel_rfl
  c46:=by kernel_rfl
  c51:=by kernel_rfl
  c53:=by kernel_rfl
  c75:=by kernel_rfl
  c76:=by kernel_rfl
  c80:=by kernel_rfl
  c85:=by kernel_rfl
  c127:=by kernel_rfl
  c143:=by kernel_rfl
  c145:=by kernel_rfl
  c167:=by kernel_rfl
  c168:=by kernel_rfl
  c171:=by kernel_rfl
  c173:=by kernel_rfl
  c175:=by kernel_rfl
  c210:=by kernel_rfl
  c212:=by kernel_rfl
  c213:=by kernel_rfl
  c232:=by kernel_rfl
  c233:=by kernel_rfl }
open Go.RowKit in
theorem Tryz.strconv_Atoi_ok (s:ByteArray) (hmax:s.size≤9223372036854775806) (v:Int) (h:Lib.atoiAll s.data.toList=.ok v) (w:World) :
    Calls Tryz.prog 212 #[.string s] w fun e w'=>e=.returned (.tuple #[.int .i64 v,.nilIface])∧(w'=w∨∃ t,w'=Lib.bytesWorld w 5 t):=Any.strconv_Atoi_ok Tryz.laysC172 s hmax v h w
open Go.RowKit in
theorem Tryz.strconv_Atoi_range_var (s : ByteArray) (hlim : s.size ≤ 281474976710656) (h : Lib.atoiAll s.data.toList = .range) (tp : TypeId) (p : Value) (w : World) (hvar : w.var? Tryz.prog "strconv.ErrRange" = some #[.iface tp p]) :
    Calls Tryz.prog 212 #[.string s] w fun e w'=>∃ N,e=.returned (.tuple #[.int .i64 (Lib.atoiSat s.data.toList),.iface 282 (.pointer (some ⟨N,0,none⟩))])∧w.heap.size≤N∧w'.heap[N]?=some (.cells #[.string ⟨#[65,116,111,105]⟩,.string s,.iface tp p] 291 (0,0))∧Below w.heap.size w w':=Any.strconv_Atoi_range_var Tryz.laysC172 s hlim h tp p w hvar
def Tryz.lays99_ren:Go.Shelf.Ren:=⟨fun | 99=>148 | 206=>184 | n=>n,fun | 9=>9 | 4=>4 | 3=>3 | n=>n,fun | n=>n⟩
theorem Tryz.lays99:Go.Proofs.Lays.n99 Tryz.prog Tryz.lays99_ren:={
  mixed:=by kernel_rfl
  f99:=Tryz.func148.trans (congrArg some (by kernel_rfl))
  f206:=Tryz.func184.trans (congrArg some (by kernel_rfl))
  t3:=Tryz.underlying3
  a3:=Tryz.isAgg3
  z3:=Tryz.sizeOf3
  v3:=Tryz.zeroValue3
  t4:=Tryz.underlying4
  a4:=Tryz.isAgg4
  z4:=Tryz.sizeOf4
  v4:=Tryz.zeroValue4
  t9:=Tryz.underlying9
  a9:=Tryz.isAgg9
  z9:=Tryz.sizeOf9
  v9:=Tryz.zeroValue9 }
open Go.RowKit Go.Lib in
theorem Tryz.strings_HasPrefix (s p:ByteArray) (w:World) :
    Calls Tryz.prog 148 #[.string s,.string p] w fun e w'=>e=.returned (.bool (Lib.hasPrefix s.data.toList p.data.toList))∧w'=w:=Any.strings_HasPrefix Tryz.lays99 s p w
end Go.Proofs
end
namespace Go.Proofs.YtgojhpocpajmlaaGreatDoor
section
open Tryz
open Ex
attribute [local irreducible] WC WL WQ WE WS
set_option linter.unusedVariables false
set_option linter.unusedSimpArgs false
theorem c_cc0 (b:Nat) (v:Value) (Pb:Nat→Prop) (w:World) (hG:Mem w ⟨fpOf [.blk b [.pointer none,v] 136],Pb⟩ [.blk b [.pointer none,v] 136] w)  :
    Calls prog 158 #[.pointer (some ⟨b,0,none⟩)] w (RetA w [.blk b [.pointer none,v] 136] Pb (fun _:Unit=>.tuple #[]) (fun _=>True) (fun _=>[.blk b [.pointer (some ⟨b,0,none⟩),v] 136])):=by
 refine zq (N:=20) func158 hG ?_
 refine (go 6) ?_
 refine za (r_pnil_t rfl rfl underlying132) ?_
 refine (go 6) ?_
 refine za (r_toUns 0 rfl rfl underlying132 underlying255 inf134 rfl rfl) (za (r_ext1 rfl rfl (run_callFunc_extern func198 (by kernel_rfl) (by kernel_rfl) (by kernel_rfl) (e:=Extern.AbiNoEscape.same) (by kernel_rfl)) fun _=>rfl) (za (r_fromUns 0 rfl rfl underlying255 underlying132 inf134 (by kernel_rfl)) ?_))
 refine (go 4) ?_
 refine yo (.inr rfl) results158 fun w1 hM=>?_
 exact hM.yR () rfl trivial (fun h=>h.sel [0] qD rfl)
theorem c_cc1 (b:Nat) (v:Value) (Pb:Nat→Prop) (w:World) (hG:Mem w ⟨fpOf [.blk b [.pointer (some ⟨b,0,none⟩),v] 136],Pb⟩ [.blk b [.pointer (some ⟨b,0,none⟩),v] 136] w)  :
    Calls prog 158 #[.pointer (some ⟨b,0,none⟩)] w (RetA w [.blk b [.pointer (some ⟨b,0,none⟩),v] 136] Pb (fun _:Unit=>.tuple #[]) (fun _=>True) (fun _=>[.blk b [.pointer (some ⟨b,0,none⟩),v] 136])):=by
 refine zq (N:=20) func158 hG ?_
 refine (go 6) ?_
 refine za (r_pnil_f rfl rfl underlying132) ?_
 refine (go 10) ?_
 refine za (r_pself rfl rfl underlying132 inf134) ?_
 refine (go 4) ?_
 refine yo (.inr rfl) results158 fun w1 hM=>?_
 exact hM.yR () rfl trivial (fun h=>h.sel [0] qD rfl)
theorem c_cpc (b:Nat) (p v:Value) (Pb:Nat→Prop) (w:World) (hG:Mem w ⟨fpOf [.blk b [p,v] 136],Pb⟩ [.blk b [p,v] 136] w) (hp:p=.pointer none∨p=.pointer (some ⟨b,0,none⟩)):Calls prog 158 #[.pointer (some ⟨b,0,none⟩)] w (RetA w [.blk b [p,v] 136] Pb (fun _:Unit=>.tuple #[]) (fun _=>True) (fun _=>[.blk b [.pointer (some ⟨b,0,none⟩),v] 136])):=by
 rcases hp with rfl | rfl
 ·exact c_cc0 b v Pb w hG
 exact c_cc1 b v Pb w hG
theorem jU (b:Nat) (p:Value) (v:Value) (bs:List UInt8) (c:UInt8) (cv:Int) (Pb:Nat→Prop) (w:World) (hG:Mem w ⟨fpOf [.blk b [p,v] 136,Row v 5 1 byteE bs],Pb⟩ [.blk b [p,v] 136,Row v 5 1 byteE bs] w) (hp:p=.pointer none∨p=.pointer (some ⟨b,0,none⟩)) (hc:cv=(c.toNat:Int)) (hbl:bs.length≤1000000000) :
    Calls prog 105 #[.pointer (some ⟨b,0,none⟩),.int .u8 cv] w (RetA w [.blk b [p,v] 136,Row v 5 1 byteE bs] Pb (fun _:Value=>.nilIface) (fun _=>True) (fun z=>[.blk b [.pointer (some ⟨b,0,none⟩),z] 136,Row z 5 1 byteE (bs++[c])])):=by
 subst hc
 obtain ⟨rA,rc,rfl,hrc,hrm,hrA⟩:=row_form' (hG.row (i:=1) rfl)
 refine zq (N:=17) func105 hG ?_
 refine (go 8) ?_
 refine zg (α:=Unit) [.blk b [p,.slice rA bs.length rc] 136] [Row (.slice rA bs.length rc) 5 1 byteE bs] (fun _=>.tuple #[]) (fun z1=>True) (fun z1=>[.blk b [.pointer (some ⟨b,0,none⟩),.slice rA bs.length rc] 136]) _ (fun _=>rfl) (S9 [0,1]) (fun _=>rfl) wn rfl rfl call158 rfl (fun w1 Pb hG=>c_cpc b p (.slice rA bs.length rc) Pb w1 hG hp) fun z1 hz1=>?_
 refine (go 10) ?_
 refine zy byteE ([c]:List UInt8) wn underlying79 inf5 rfl rfl rfl rfl qD qD rfl fun b13=>yH 2 bs ([c]:List UInt8) encByte wn rfl rfl rfl (fun _ hM=>(RowSl encByte hM 0 rfl)) underlying79 inf5 rfl rfl (by simp only [List.length_cons,List.length_nil]; omega) rfl fun A1 cp1 hc1 hm1 hA1=>?_
 refine (go 11) (zX results105 fun w1 hM=>?_)
 exact hM.yR (.slice A1 ((bs++([c]:List UInt8)).length) cp1) rfl trivial (fun h=>h.sel [1,2] qD rfl)
theorem uZ (b:Nat) (p:Value) (v:Value) (bs:List UInt8) (s:ByteArray) (t:List UInt8) (Pb:Nat→Prop) (w:World) (hG:Mem w ⟨fpOf [.blk b [p,v] 136,Row v 5 1 byteE bs],Pb⟩ [.blk b [p,v] 136,Row v 5 1 byteE bs] w) (hp:p=.pointer none∨p=.pointer (some ⟨b,0,none⟩)) (ht:s.data.toList=t) (hbl:bs.length + t.length≤1000000000) :
    Calls prog 106 #[.pointer (some ⟨b,0,none⟩),.string s] w (RetA w [.blk b [p,v] 136,Row v 5 1 byteE bs] Pb (fun _:Value=>.tuple #[iV s.size,.nilIface]) (fun _=>True) (fun z=>[.blk b [.pointer (some ⟨b,0,none⟩),z] 136,Row z 5 1 byteE (bs++t)])):=by
 obtain ⟨rA,rc,rfl,hrc,hrm,hrA⟩:=row_form' (hG.row (i:=1) rfl)
 have hsz:s.size=t.length:=by rw [bl_size,ht]
 refine zq (N:=19) func106 hG ?_
 refine (go 9) ?_
 refine zg (α:=Unit) [.blk b [p,.slice rA bs.length rc] 136] [Row (.slice rA bs.length rc) 5 1 byteE bs] (fun _=>.tuple #[]) (fun z1=>True) (fun z1=>[.blk b [.pointer (some ⟨b,0,none⟩),.slice rA bs.length rc] 136]) _ (fun _=>rfl) (S9 [0,1]) (fun _=>rfl) wn rfl rfl call158 rfl (fun w1 Pb hG=>c_cpc b p (.slice rA bs.length rc) Pb w1 hG hp) fun z1 hz1=>?_
 refine (go 10) ?_
 refine l_appS 1 bs s wn rfl rfl rfl underlying79 underlying9 inf5 rfl rfl qO rfl fun A1 cp1 hc1 hm1 hA1=>?_
 refine (go 14) (yL results106 fun w1 hM=>?_)
 have hl9:(bs++s.data.toList)=(bs++t):=by rw [ht]
 rw [hl9] at hM
 exact hM.yR (.slice A1 ((bs++t).length) cp1) rfl trivial (fun h=>h.sel [0,1] qD rfl)
theorem c_blen (b:Nat) (p:Value) (v:Value) (bs:List UInt8) (Pb:Nat→Prop) (w:World) (hG:Mem w ⟨fpOf [.blk b [p,v] 136,Row v 5 1 byteE bs],Pb⟩ [.blk b [p,v] 136,Row v 5 1 byteE bs] w)  :
    Calls prog 64 #[.pointer (some ⟨b,0,none⟩)] w (RetA w [.blk b [p,v] 136,Row v 5 1 byteE bs] Pb (fun _:Unit=>iV bs.length) (fun _=>True) (fun _=>[.blk b [p,v] 136,Row v 5 1 byteE bs])):=by
 obtain ⟨rA,rc,rfl,hrc,hrm,hrA⟩:=row_form' (hG.row (i:=1) rfl)
 refine zq (N:=8) func64 hG ?_
 refine (go 16) (zX results64 fun w1 hM=>?_)
 exact hM.yR () rfl trivial (fun h=>h)
theorem c_bstr (b:Nat) (p:Value) (v:Value) (bs:List UInt8) (Pb:Nat→Prop) (w:World) (hG:Mem w ⟨fpOf [.blk b [p,v] 136,Row v 5 1 byteE bs],Pb⟩ [.blk b [p,v] 136,Row v 5 1 byteE bs] w) (hne:bs≠[]) :
    Calls prog 65 #[.pointer (some ⟨b,0,none⟩)] w (RetA w [.blk b [p,v] 136,Row v 5 1 byteE bs] Pb (fun _:Unit=>.string ⟨bs.toArray⟩) (fun _=>True) (fun _=>[.blk b [p,v] 136])):=by
 obtain ⟨rA,rc,rfl,hrc,hrm,hrA⟩:=row_form' (hG.row (i:=1) rfl)
 have hcap:rc≠0:=fun h=>hne (List.eq_nil_of_length_eq_zero qO)
 refine zq (N:=14) func65 hG ?_
 refine (go 6) ?_
 refine yM (Mem w ⟨fpOf [.blk b [p,.slice rA bs.length rc] 136,Row (.slice rA bs.length rc) 5 1 byteE bs],Pb⟩ [.blk b [p,.slice rA bs.length rc] 136]) mix (fun _ h=>h.drew) rfl (yN 3 [0,1,2,3,5,6,7,8,9] [0] rfl fun KS hKS=>?_)
 refine (go 9) ?_
 refine zi hKS (zf 2 4 (zh (i:=4) rfl fun KN hKN=>za (r_sliceData rfl (by exact hcap)) ?_))
 refine (go 1) ?_
 refine hKN _ _ (S9 [0]) (zf 1 10 (zh (i:=10) rfl fun KN hKN=>l_usString 1 bs wn rfl rfl rfl (by exact hne) underlying190 (by kernel_rfl) rfl ?_))
 refine (go 1) ?_
 refine hKN _ _ (S9 [0]) (yN 0 [11] [0] rfl fun KS hKS=>?_)
 refine (go 1) ?_
 refine zi hKS ?_
 refine zz (by kernel_rfl) ((go 1) ?_)
 refine (go 1) (zX results65 fun w1 hM=>?_)
 exact hM.yR () rfl trivial (fun h=>h.sel [0] qD rfl)
def Tab : (Nat → Prop) → World → Prop := TabOk prog "internal/strconv.uint64pow10" .u64 Go.Lib.pow10Tab
theorem Tab.loc:Ex.Loc Tab:=TabOk.loc _ _ _ _
theorem c_itoa (n:Int) (P0:Nat→Prop) (w:World) (hP0:∀ b,P0 b→b < w.heap.size) (hn:-9223372036854775808≤n∧n≤9223372036854775807) (hT:Tab P0 w):Calls prog 107 #[iV n] w (Ret w (.string ⟨(Lg.nb n).toArray⟩)) :=
  (Tryz.strconv_Itoa n hn.1 hn.2 w hT.2).mono fun e w' ⟨he,k,os,hw⟩=>⟨he,by rw [hw]; exact Fr.of_grow k os⟩
theorem c_join (lv:Value) (l:List ByteArray) (sep:ByteArray) (P0:Nat→Prop) (w:World) (hP0:∀ b,P0 b→b < w.heap.size) (hl:zD P0 1 strE lv l w) (hne:l≠[]) (hn:l.length≤1000000) (hlen:(Go.Lib.join (l.map (·.data.toList)) sep.data.toList).length≤1000000) :
    Calls prog 109 #[lv,.string sep] w (Ret w (.string ⟨(Go.Lib.join (l.map (·.data.toList)) sep.data.toList).toArray⟩)):=by
 obtain ⟨bk,o,c,rfl,h1,h2,h3⟩:=strs_at hl hne
 exact (Tryz.strings_Join bk o c l sep w h3 (hP0 _ h2) qO h1 qO).mono fun e w' ⟨he,hw⟩=>⟨he,Fr.of_below hw⟩
set_option maxHeartbeats 1000000 in
theorem c_match (b:Nat) (p:Value) (v:Value) (bs:List UInt8) (mad:Addr) (m:Match) (Pb:Nat→Prop) (w:World) (hG:Mem w ⟨fpOf [.blk b [p,v] 136,Row v 5 1 byteE bs,celP mad [iV m.kind,.string m.key,.string m.val]],Pb⟩ [.blk b [p,v] 136,Row v 5 1 byteE bs,celP mad [iV m.kind,.string m.key,.string m.val]] w) (hp:p=.pointer none∨p=.pointer (some ⟨b,0,none⟩)) (hmr:Lg.MatchR m) (hbl:bs.length≤1001000) :
    Calls prog 108 #[.pointer (some ⟨b,0,none⟩),.pointer (some ((Addr.add mad 0).add 0))] w (RetA w [.blk b [p,v] 136,Row v 5 1 byteE bs,celP mad [iV m.kind,.string m.key,.string m.val]] Pb (fun _:Value=>.tuple #[]) (fun _=>True) (fun z=>[.blk b [.pointer (some ⟨b,0,none⟩),z] 136,Row z 5 1 byteE (bs++Lg.mt m),celP mad [iV m.kind,.string m.key,.string m.val]])):=by
 obtain ⟨rA,rc,rfl,hrc,hrm,hrA⟩:=row_form' (hG.row (i:=1) rfl)
 have hkey:=hmr.key
 have hval:=hmr.val
 rw [bl_size] at hkey hval
 refine zq (N:=59) (vals:=[.pointer (some ⟨b,0,none⟩),.pointer (some ((Addr.add mad 0).add 0))]) func108 hG ?_
 refine (go 15) (zW (fun h1=>?_) fun h1=>?_)
 ·refine vE 13 ?_
  refine (go 7) ?_
  refine yZ (y8 rfl rfl (by simp only [bl_size,bl_app,bl_mk,qL]; omega)) ?_
  refine (go 4) ?_
  refine yZ (y8 rfl rfl (by simp only [bl_size,bl_app,bl_mk,qL]; omega)) ?_
  refine (go 1) ?_
  refine zg (α:=Value) [.blk b [p,.slice rA bs.length rc] 136,Row (.slice rA bs.length rc) 5 1 byteE bs] [celP mad [iV m.kind,.string m.key,.string m.val]] (fun _=>.tuple #[iV ((((m.key++⟨#[61]⟩)++m.val):ByteArray).size:Int),.nilIface]) (fun z1=>True) (fun z1=>[.blk b [.pointer (some ⟨b,0,none⟩),z1] 136,Row z1 5 1 byteE (bs++(m.key.data.toList++([61]:List UInt8)++m.val.data.toList))]) _ (fun _=>rfl) (S9 [0,1,2]) (fun _=>rfl) wn rfl rfl call106 rfl (fun w1 Pb hG=>uZ b p (.slice rA bs.length rc) bs ((m.key++⟨#[61]⟩)++m.val) (m.key.data.toList++([61]:List UInt8)++m.val.data.toList) Pb w1 hG hp (by first | rfl | (simp only [bl_app,bl_mk]; done) | (simp only [bl_app,bl_mk]; rfl)) (by first | omega | (simp only [qL]; omega))) fun z1 hz1=>yP 1 (l:=(bs++(m.key.data.toList++([61]:List UInt8)++m.val.data.toList))) rfl fun A1 cp1 hv1 hc1 hm1 hA1=>?_
  subst hv1
  refine (go 2) ?_
  refine yo (.inr rfl) results108 fun w1 hM=>?_
  have hl9:(bs++(m.key.data.toList++([61]:List UInt8)++m.val.data.toList))=(bs++Lg.mt m):=by unfold Lg.mt; simp [h1]
  rw [hl9] at hM
  exact hM.yR (.slice A1 ((bs++Lg.mt m).length) cp1) rfl trivial (fun h=>h.sel [0,1,2] qD rfl)
 refine (go 6) (zW (fun h2=>?_) fun h2=>?_)
 ·refine vE 13 ?_
  refine (go 7) ?_
  refine yZ (y8 rfl rfl (by simp only [bl_size,bl_app,bl_mk,qL]; omega)) ?_
  refine (go 4) ?_
  refine yZ (y8 rfl rfl (by simp only [bl_size,bl_app,bl_mk,qL]; omega)) ?_
  refine (go 1) ?_
  refine zg (α:=Value) [.blk b [p,.slice rA bs.length rc] 136,Row (.slice rA bs.length rc) 5 1 byteE bs] [celP mad [iV m.kind,.string m.key,.string m.val]] (fun _=>.tuple #[iV ((((m.key++⟨#[33,61]⟩)++m.val):ByteArray).size:Int),.nilIface]) (fun z2=>True) (fun z2=>[.blk b [.pointer (some ⟨b,0,none⟩),z2] 136,Row z2 5 1 byteE (bs++(m.key.data.toList++([33,61]:List UInt8)++m.val.data.toList))]) _ (fun _=>rfl) (S9 [0,1,2]) (fun _=>rfl) wn rfl rfl call106 rfl (fun w1 Pb hG=>uZ b p (.slice rA bs.length rc) bs ((m.key++⟨#[33,61]⟩)++m.val) (m.key.data.toList++([33,61]:List UInt8)++m.val.data.toList) Pb w1 hG hp (by first | rfl | (simp only [bl_app,bl_mk]; done) | (simp only [bl_app,bl_mk]; rfl)) (by first | omega | (simp only [qL]; omega))) fun z2 hz2=>yP 1 (l:=(bs++(m.key.data.toList++([33,61]:List UInt8)++m.val.data.toList))) rfl fun A2 cp2 hv2 hc2 hm2 hA2=>?_
  subst hv2
  refine (go 2) ?_
  refine yo (.inr rfl) results108 fun w1 hM=>?_
  have hl9:(bs++(m.key.data.toList++([33,61]:List UInt8)++m.val.data.toList))=(bs++Lg.mt m):=by unfold Lg.mt; simp [h1,h2]
  rw [hl9] at hM
  exact hM.yR (.slice A2 ((bs++Lg.mt m).length) cp2) rfl trivial (fun h=>h.sel [0,1,2] qD rfl)
 refine (go 6) (zW (fun h3=>?_) fun h3=>?_)
 ·refine vE 7 ?_
  refine (go 8) ?_
  refine zg (α:=Value) [.blk b [p,.slice rA bs.length rc] 136,Row (.slice rA bs.length rc) 5 1 byteE bs] [celP mad [iV m.kind,.string m.key,.string m.val]] (fun _=>.tuple #[iV ((m.key:ByteArray).size:Int),.nilIface]) (fun z3=>True) (fun z3=>[.blk b [.pointer (some ⟨b,0,none⟩),z3] 136,Row z3 5 1 byteE (bs++m.key.data.toList)]) _ (fun _=>rfl) (S9 [0,1,2]) (fun _=>rfl) wn rfl rfl call106 rfl (fun w1 Pb hG=>uZ b p (.slice rA bs.length rc) bs m.key m.key.data.toList Pb w1 hG hp (by first | rfl | (simp only [bl_app,bl_mk]; done) | (simp only [bl_app,bl_mk]; rfl)) (by first | omega | (simp only [qL]; omega))) fun z3 hz3=>yP 1 (l:=(bs++m.key.data.toList)) rfl fun A3 cp3 hv3 hc3 hm3 hA3=>?_
  subst hv3
  refine (go 2) ?_
  refine yo (.inr rfl) results108 fun w1 hM=>?_
  have hl9:(bs++m.key.data.toList)=(bs++Lg.mt m):=by unfold Lg.mt; simp [h1,h2,h3]
  rw [hl9] at hM
  exact hM.yR (.slice A3 ((bs++Lg.mt m).length) cp3) rfl trivial (fun h=>h.sel [0,1,2] qD rfl)
 refine vE 8 ?_
 refine (go 7) ?_
 refine yZ (y8 rfl rfl (by simp only [bl_size,bl_app,bl_mk,qL]; omega)) ?_
 refine (go 1) ?_
 refine zg (α:=Value) [.blk b [p,.slice rA bs.length rc] 136,Row (.slice rA bs.length rc) 5 1 byteE bs] [celP mad [iV m.kind,.string m.key,.string m.val]] (fun _=>.tuple #[iV (((⟨#[33]⟩++m.key):ByteArray).size:Int),.nilIface]) (fun z4=>True) (fun z4=>[.blk b [.pointer (some ⟨b,0,none⟩),z4] 136,Row z4 5 1 byteE (bs++(([33]:List UInt8)++m.key.data.toList))]) _ (fun _=>rfl) (S9 [0,1,2]) (fun _=>rfl) wn rfl rfl call106 rfl (fun w1 Pb hG=>uZ b p (.slice rA bs.length rc) bs (⟨#[33]⟩++m.key) (([33]:List UInt8)++m.key.data.toList) Pb w1 hG hp (by first | rfl | (simp only [bl_app,bl_mk]; done) | (simp only [bl_app,bl_mk]; rfl)) (by first | omega | (simp only [qL]; omega))) fun z4 hz4=>yP 1 (l:=(bs++(([33]:List UInt8)++m.key.data.toList))) rfl fun A4 cp4 hv4 hc4 hm4 hA4=>?_
 subst hv4
 refine (go 2) ?_
 refine yo (.inr rfl) results108 fun w1 hM=>?_
 have hl9:(bs++(([33]:List UInt8)++m.key.data.toList))=(bs++Lg.mt m):=by unfold Lg.mt; simp [h1,h2,h3]
 rw [hl9] at hM
 exact hM.yR (.slice A4 ((bs++Lg.mt m).length) cp4) rfl trivial (fun h=>h.sel [0,1,2] qD rfl)
def ur (e:zB):Prop:=∀ (b:Nat) (p:Value) (v:Value) (bs:List UInt8) (ead:Addr) (least:Int) (Pb:Nat→Prop) (w:World) (hG:Mem w ⟨fpOf [.blk b [p,v] 136,Row v 5 1 byteE bs,celP ead [iV e.kind,iV e.n,iV e.range,.string e.word,.slice e.ms.A e.ms.l.length e.ms.c,.slice e.by_.A e.by_.l.length e.by_.c,.slice e.kids.A e.kids.l.length e.kids.c],okP zB.Ok e,.pub Tab],Pb⟩ [.blk b [p,v] 136,Row v 5 1 byteE bs,celP ead [iV e.kind,iV e.n,iV e.range,.string e.word,.slice e.ms.A e.ms.l.length e.ms.c,.slice e.by_.A e.by_.l.length e.by_.c,.slice e.kids.A e.kids.l.length e.kids.c],okP zB.Ok e,.pub Tab] w) (hp:p=.pointer none∨p=.pointer (some ⟨b,0,none⟩)) (hfine:Mn.fineE e.e) (hl:0≤least∧least≤2) (hbl:(bs.length:Int) + 250 * Mn.nodes e.e≤1000000),
    Calls prog 63 #[.pointer (some ⟨b,0,none⟩),.pointer (some ((Addr.add ead 0).add 0)),iV least] w (RetA w [.blk b [p,v] 136,Row v 5 1 byteE bs,celP ead [iV e.kind,iV e.n,iV e.range,.string e.word,.slice e.ms.A e.ms.l.length e.ms.c,.slice e.by_.A e.by_.l.length e.by_.c,.slice e.kids.A e.kids.l.length e.kids.c],okP zB.Ok e,.pub Tab] Pb (fun _:Value=>.tuple #[]) (fun _=>True) (fun z=>[.blk b [.pointer (some ⟨b,0,none⟩),z] 136,Row z 5 1 byteE (bs++Lg.txt e.e least),celP ead [iV e.kind,iV e.n,iV e.range,.string e.word,.slice e.ms.A e.ms.l.length e.ms.c,.slice e.by_.A e.by_.l.length e.by_.c,.slice e.kids.A e.kids.l.length e.kids.c],okP zB.Ok e,.pub Tab]))
set_option maxHeartbeats 4000000 in
set_option maxRecDepth 4000 in
theorem ua (b:Nat) (p:Value) (v:Value) (bs:List UInt8) (ead:Addr) (e:zB) (least:Int) (Pb:Nat→Prop) (w:World) (hG:Mem w ⟨fpOf [.blk b [p,v] 136,Row v 5 1 byteE bs,celP ead [iV e.kind,iV e.n,iV e.range,.string e.word,.slice e.ms.A e.ms.l.length e.ms.c,.slice e.by_.A e.by_.l.length e.by_.c,.slice e.kids.A e.kids.l.length e.kids.c],okP zB.Ok e,.pub Tab],Pb⟩ [.blk b [p,v] 136,Row v 5 1 byteE bs,celP ead [iV e.kind,iV e.n,iV e.range,.string e.word,.slice e.ms.A e.ms.l.length e.ms.c,.slice e.by_.A e.by_.l.length e.by_.c,.slice e.kids.A e.kids.l.length e.kids.c],okP zB.Ok e,.pub Tab] w) (hp:p=.pointer none∨p=.pointer (some ⟨b,0,none⟩)) (hfine:Mn.fineE e.e) (hl:0≤least∧least≤2) (hbl:(bs.length:Int) + 250 * Mn.nodes e.e≤1000001) (hlv:¬ (e.kind=4∧Lg.lv e.word < least)) (ih:∀ k:zB,SizeOf.sizeOf k < SizeOf.sizeOf e→ur k) :
    Calls prog 63 #[.pointer (some ⟨b,0,none⟩),.pointer (some ((Addr.add ead 0).add 0)),iV least] w (RetA w [.blk b [p,v] 136,Row v 5 1 byteE bs,celP ead [iV e.kind,iV e.n,iV e.range,.string e.word,.slice e.ms.A e.ms.l.length e.ms.c,.slice e.by_.A e.by_.l.length e.by_.c,.slice e.kids.A e.kids.l.length e.kids.c],okP zB.Ok e,.pub Tab] Pb (fun _:Value=>.tuple #[]) (fun _=>True) (fun z=>[.blk b [.pointer (some ⟨b,0,none⟩),z] 136,Row z 5 1 byteE (bs++Lg.txt e.e least),celP ead [iV e.kind,iV e.n,iV e.range,.string e.word,.slice e.ms.A e.ms.l.length e.ms.c,.slice e.by_.A e.by_.l.length e.by_.c,.slice e.kids.A e.kids.l.length e.kids.c],okP zB.Ok e,.pub Tab])):=by
 obtain ⟨rA,rc,rfl,hrc,hrm,hrA⟩:=row_form' (hG.row (i:=1) rfl)
 have htn:=Mn.nodes_pos e.e
 have hwe:=(hG.yS (i:=3) rfl).wf
 obtain ⟨hk9,ha9,ho9,hf9⟩:=Lg.fine_x hfine
 refine zq (N:=161) (vals:=[.pointer (some ⟨b,0,none⟩),.pointer (some ((Addr.add ead 0).add 0)),iV least]) func63 hG ?_
 refine (go 15) (zW (fun h1=>?_) fun h1=>?_)
 ·refine (go 14) (zW (fun h2=>?_) fun h2=>?_)
  ·refine (go 12) ?_
   refine yU rfl (decide_eq_false (fun h=>hlv ⟨h1,by rw [show Lg.lv e.word=1 from by unfold Lg.lv; rw [if_pos h2]]; exact h⟩)) ?_
   refine (go 17) ?_
   refine yU rfl (decide_eq_false qO) ?_
   refine (go 6) ?_
   refine yU rfl (decide_eq_false qO) ?_
   refine (go 6) ?_
   refine yU rfl (decide_eq_false qO) ?_
   refine (go 2) ?_
   have hbin:=Lg.binR_of (by have h9:=ho9; rw [h1] at h9; exact h9)
   have hwl:=hbin.1
   rw [bl_size] at hwl
   have hkl:e.kids.l.length=2:=by have h9:=ha9; rw [h1] at h9; simp [Lg.arity] at h9; omega
   obtain ⟨k0,hk0⟩:∃ x,e.kids.l[0]?=some x:=⟨_,List.getElem?_eq_getElem qO⟩
   obtain ⟨k1,hk1⟩:∃ x,e.kids.l[1]?=some x:=⟨_,List.getElem?_eq_getElem qO⟩
   have hnd:=Lg.nodes_bin hkl hk0 hk1
   have hp0:=Mn.nodes_pos k0.e
   have hp1:=Mn.nodes_pos k1.e
   have htl:=Lg.txt_len k0.e 1 (hf9 _ (List.mem_of_getElem? hk0))
   refine (go 5) ?_
   refine zc (fun _ h=>h.exprX 3 rfl) ?_
   obtain ⟨hc1,hm1,hA1⟩:=hwe.ms
   obtain ⟨hc2,hm2,hA2⟩:=hwe.by_
   obtain ⟨hc3,hm3,hA3⟩:=hwe.kids
   obtain ⟨ad1,s1,hd1,hs1⟩:=elx hA3 0
   refine (go 2) ?_
   have hq0:s1=k0:=Option.some.inj (hs1.symm.trans hk0)
   rw [← hq0] at hnd htl hp0
   refine zc (fun _ h=>h.celAt 2 rfl hd1 hs1) ?_
   have hw1:=hwe.all _ (List.mem_of_getElem? hs1)
   refine zc (fun _ h=>h.one 4 zB.Ok.loc rfl hs1) (zg (α:=Value) [.blk b [p,.slice rA bs.length rc] 136,Row (.slice rA bs.length rc) 5 1 byteE bs,celP (Addr.add ad1 (0 * 7)) [iV s1.kind,iV s1.n,iV s1.range,.string s1.word,.slice s1.ms.A s1.ms.l.length s1.ms.c,.slice s1.by_.A s1.by_.l.length s1.by_.c,.slice s1.kids.A s1.kids.l.length s1.kids.c],okP zB.Ok s1,.pub Tab] [slP 3 zl (.slice e.ms.A e.ms.l.length e.ms.c) e.ms.l,slP 1 strE (.slice e.by_.A e.by_.l.length e.by_.c) e.by_.l,slP 7 zk (.slice e.kids.A e.kids.l.length e.kids.c) e.kids.l,allP zB.Ok e.kids.l,celP ead [iV e.kind,iV e.n,iV e.range,.string e.word,.slice e.ms.A e.ms.l.length e.ms.c,.slice e.by_.A e.by_.l.length e.by_.c,.slice e.kids.A e.kids.l.length e.kids.c],okP zB.Ok e] (fun _=>.tuple #[]) (fun z1=>True) (fun z1=>[.blk b [.pointer (some ⟨b,0,none⟩),z1] 136,Row z1 5 1 byteE (bs++Lg.txt s1.e 1),celP (Addr.add ad1 (0 * 7)) [iV s1.kind,iV s1.n,iV s1.range,.string s1.word,.slice s1.ms.A s1.ms.l.length s1.ms.c,.slice s1.by_.A s1.by_.l.length s1.by_.c,.slice s1.kids.A s1.kids.l.length s1.kids.c],okP zB.Ok s1,.pub Tab]) _ (fun _=>rfl) (S9 [6,7,1,0,10,2,3,4,5,8,9]) (fun _=>rfl) wn rfl rfl call63 rfl (fun w1 Pb hG=>ih s1 (zB.kid_lt (List.mem_of_getElem? hs1)) b p (.slice rA bs.length rc) bs (Addr.add ad1 (0 * 7)) 1 Pb w1 hG hp (hf9 _ (List.mem_of_getElem? hs1)) qO (by first | omega | (simp only [qL]; omega))) fun z1 hz1=>yP 1 (l:=(bs++Lg.txt s1.e 1)) rfl fun A1 cp1 hv1 hc4 hm4 hA4=>?_)
   subst hv1
   refine (go 3) (vE 9 ?_)
   refine (go 7) ?_
   refine yZ (y8 rfl rfl (by simp only [bl_size,bl_app,bl_mk,qL]; omega)) (yZ (y8 rfl rfl (by simp only [bl_size,bl_app,bl_mk,qL]; omega)) ?_)
   refine (go 1) ?_
   refine zg (α:=Value) [.blk b [.pointer (some ⟨b,0,none⟩),.slice A1 ((bs++Lg.txt s1.e 1).length) cp1] 136,Row (.slice A1 ((bs++Lg.txt s1.e 1).length) cp1) 5 1 byteE (bs++Lg.txt s1.e 1)] [celP (Addr.add ad1 (0 * 7)) [iV s1.kind,iV s1.n,iV s1.range,.string s1.word,.slice s1.ms.A s1.ms.l.length s1.ms.c,.slice s1.by_.A s1.by_.l.length s1.by_.c,.slice s1.kids.A s1.kids.l.length s1.kids.c],okP zB.Ok s1,.pub Tab,slP 3 zl (.slice e.ms.A e.ms.l.length e.ms.c) e.ms.l,slP 1 strE (.slice e.by_.A e.by_.l.length e.by_.c) e.by_.l,slP 7 zk (.slice e.kids.A e.kids.l.length e.kids.c) e.kids.l,allP zB.Ok e.kids.l,celP ead [iV e.kind,iV e.n,iV e.range,.string e.word,.slice e.ms.A e.ms.l.length e.ms.c,.slice e.by_.A e.by_.l.length e.by_.c,.slice e.kids.A e.kids.l.length e.kids.c],okP zB.Ok e] (fun _=>.tuple #[iV ((((⟨#[32]⟩++e.word)++⟨#[32]⟩):ByteArray).size:Int),.nilIface]) (fun z2=>True) (fun z2=>[.blk b [.pointer (some ⟨b,0,none⟩),z2] 136,Row z2 5 1 byteE ((bs++Lg.txt s1.e 1)++(([32]:List UInt8)++e.word.data.toList++([32]:List UInt8)))]) _ (fun _=>rfl) (S9 [0,1,2,3,4,5,6,7,8,9,10]) (fun _=>rfl) wn rfl rfl call106 rfl (fun w1 Pb hG=>uZ b (.pointer (some ⟨b,0,none⟩)) (.slice A1 ((bs++Lg.txt s1.e 1).length) cp1) (bs++Lg.txt s1.e 1) ((⟨#[32]⟩++e.word)++⟨#[32]⟩) (([32]:List UInt8)++e.word.data.toList++([32]:List UInt8)) Pb w1 hG (.inr rfl) (by first | rfl | (simp only [bl_app,bl_mk]; done) | (simp only [bl_app,bl_mk]; rfl)) (by first | omega | (simp only [qL]; omega))) fun z2 hz2=>yP 1 (l:=((bs++Lg.txt s1.e 1)++(([32]:List UInt8)++e.word.data.toList++([32]:List UInt8)))) rfl fun A2 cp2 hv2 hc5 hm5 hA5=>?_
   subst hv2
   refine (go 11) ?_
   obtain ⟨s2,hs2⟩:=gx e.kids.l 1
   have hq1:s2=k1:=Option.some.inj (hs2.symm.trans hk1)
   rw [← hq1] at hnd hp1
   refine zc (fun _ h=>h.celAt 7 rfl hd1 hs2) ?_
   have hw2:=hwe.all _ (List.mem_of_getElem? hs2)
   refine zc (fun _ h=>h.one 9 zB.Ok.loc rfl hs2) (zg (α:=Value) [.blk b [.pointer (some ⟨b,0,none⟩),.slice A2 (((bs++Lg.txt s1.e 1)++(([32]:List UInt8)++e.word.data.toList++([32]:List UInt8))).length) cp2] 136,Row (.slice A2 (((bs++Lg.txt s1.e 1)++(([32]:List UInt8)++e.word.data.toList++([32]:List UInt8))).length) cp2) 5 1 byteE ((bs++Lg.txt s1.e 1)++(([32]:List UInt8)++e.word.data.toList++([32]:List UInt8))),celP (Addr.add ad1 (1 * 7)) [iV s2.kind,iV s2.n,iV s2.range,.string s2.word,.slice s2.ms.A s2.ms.l.length s2.ms.c,.slice s2.by_.A s2.by_.l.length s2.by_.c,.slice s2.kids.A s2.kids.l.length s2.kids.c],okP zB.Ok s2,.pub Tab] [celP (Addr.add ad1 (0 * 7)) [iV s1.kind,iV s1.n,iV s1.range,.string s1.word,.slice s1.ms.A s1.ms.l.length s1.ms.c,.slice s1.by_.A s1.by_.l.length s1.by_.c,.slice s1.kids.A s1.kids.l.length s1.kids.c],okP zB.Ok s1,slP 3 zl (.slice e.ms.A e.ms.l.length e.ms.c) e.ms.l,slP 1 strE (.slice e.by_.A e.by_.l.length e.by_.c) e.by_.l,slP 7 zk (.slice e.kids.A e.kids.l.length e.kids.c) e.kids.l,allP zB.Ok e.kids.l,celP ead [iV e.kind,iV e.n,iV e.range,.string e.word,.slice e.ms.A e.ms.l.length e.ms.c,.slice e.by_.A e.by_.l.length e.by_.c,.slice e.kids.A e.kids.l.length e.kids.c],okP zB.Ok e] (fun _=>.tuple #[]) (fun z3=>True) (fun z3=>[.blk b [.pointer (some ⟨b,0,none⟩),z3] 136,Row z3 5 1 byteE (((bs++Lg.txt s1.e 1)++(([32]:List UInt8)++e.word.data.toList++([32]:List UInt8)))++Lg.txt s2.e (1 + 1)),celP (Addr.add ad1 (1 * 7)) [iV s2.kind,iV s2.n,iV s2.range,.string s2.word,.slice s2.ms.A s2.ms.l.length s2.ms.c,.slice s2.by_.A s2.by_.l.length s2.by_.c,.slice s2.kids.A s2.kids.l.length s2.kids.c],okP zB.Ok s2,.pub Tab]) _ (fun _=>rfl) (S9 [2,3,1,0,6,4,5,7,8,9,10,11,12]) (fun _=>rfl) wn rfl rfl call63 rfl (fun w1 Pb hG=>ih s2 (zB.kid_lt (List.mem_of_getElem? hs2)) b (.pointer (some ⟨b,0,none⟩)) (.slice A2 (((bs++Lg.txt s1.e 1)++(([32]:List UInt8)++e.word.data.toList++([32]:List UInt8))).length) cp2) ((bs++Lg.txt s1.e 1)++(([32]:List UInt8)++e.word.data.toList++([32]:List UInt8))) (Addr.add ad1 (1 * 7)) (1 + 1) Pb w1 hG (.inr rfl) (hf9 _ (List.mem_of_getElem? hs2)) qO (by first | omega | (simp only [qL]; omega))) fun z3 hz3=>yP 1 (l:=(((bs++Lg.txt s1.e 1)++(([32]:List UInt8)++e.word.data.toList++([32]:List UInt8)))++Lg.txt s2.e (1 + 1))) rfl fun A3 cp3 hv3 hc6 hm6 hA6=>?_)
   subst hv3
   refine (go 2) ?_
   refine yo (.inr rfl) results63 fun w1 hM=>?_
   have hlv9:Lg.lv e.word=1:=by unfold Lg.lv; rw [if_pos h2]
   have hl9:(((bs++Lg.txt s1.e 1)++(([32]:List UInt8)++e.word.data.toList++([32]:List UInt8)))++Lg.txt s2.e (1 + 1))=(bs++Lg.txt e.e least):=by rw [Lg.txt_bin (b:=(1 + 1)) h1 hs1 hs2 least (by rw [hlv9]),if_neg (fun g=>hlv ⟨h1,g⟩),hlv9]; simp
   rw [hl9] at hM
   exact hM.yR (.slice A3 ((bs++Lg.txt e.e least).length) cp3) rfl trivial (fun h=>h.sel [0,1,11,12,4] qD rfl)
  refine (go 10) ?_
  refine yU rfl (decide_eq_false (fun h=>hlv ⟨h1,by rw [show Lg.lv e.word=0 from by unfold Lg.lv; rw [if_neg h2]]; exact h⟩)) ?_
  refine (go 17) ?_
  refine yU rfl (decide_eq_false qO) ?_
  refine (go 6) ?_
  refine yU rfl (decide_eq_false qO) ?_
  refine (go 6) ?_
  refine yU rfl (decide_eq_false qO) ?_
  refine (go 2) ?_
  have hbin:=Lg.binR_of (by have h9:=ho9; rw [h1] at h9; exact h9)
  have hwl:=hbin.1
  rw [bl_size] at hwl
  have hkl:e.kids.l.length=2:=by have h9:=ha9; rw [h1] at h9; simp [Lg.arity] at h9; omega
  obtain ⟨k0,hk0⟩:∃ x,e.kids.l[0]?=some x:=⟨_,List.getElem?_eq_getElem qO⟩
  obtain ⟨k1,hk1⟩:∃ x,e.kids.l[1]?=some x:=⟨_,List.getElem?_eq_getElem qO⟩
  have hnd:=Lg.nodes_bin hkl hk0 hk1
  have hp0:=Mn.nodes_pos k0.e
  have hp1:=Mn.nodes_pos k1.e
  have htl:=Lg.txt_len k0.e 0 (hf9 _ (List.mem_of_getElem? hk0))
  refine (go 5) ?_
  refine zc (fun _ h=>h.exprX 3 rfl) ?_
  obtain ⟨hc7,hm7,hA7⟩:=hwe.ms
  obtain ⟨hc8,hm8,hA8⟩:=hwe.by_
  obtain ⟨hc9,hm9,hA9⟩:=hwe.kids
  obtain ⟨ad2,s3,hd2,hs3⟩:=elx hA9 0
  refine (go 2) ?_
  have hq0:s3=k0:=Option.some.inj (hs3.symm.trans hk0)
  rw [← hq0] at hnd htl hp0
  refine zc (fun _ h=>h.celAt 2 rfl hd2 hs3) ?_
  have hw3:=hwe.all _ (List.mem_of_getElem? hs3)
  refine zc (fun _ h=>h.one 4 zB.Ok.loc rfl hs3) (zg (α:=Value) [.blk b [p,.slice rA bs.length rc] 136,Row (.slice rA bs.length rc) 5 1 byteE bs,celP (Addr.add ad2 (0 * 7)) [iV s3.kind,iV s3.n,iV s3.range,.string s3.word,.slice s3.ms.A s3.ms.l.length s3.ms.c,.slice s3.by_.A s3.by_.l.length s3.by_.c,.slice s3.kids.A s3.kids.l.length s3.kids.c],okP zB.Ok s3,.pub Tab] [slP 3 zl (.slice e.ms.A e.ms.l.length e.ms.c) e.ms.l,slP 1 strE (.slice e.by_.A e.by_.l.length e.by_.c) e.by_.l,slP 7 zk (.slice e.kids.A e.kids.l.length e.kids.c) e.kids.l,allP zB.Ok e.kids.l,celP ead [iV e.kind,iV e.n,iV e.range,.string e.word,.slice e.ms.A e.ms.l.length e.ms.c,.slice e.by_.A e.by_.l.length e.by_.c,.slice e.kids.A e.kids.l.length e.kids.c],okP zB.Ok e] (fun _=>.tuple #[]) (fun z4=>True) (fun z4=>[.blk b [.pointer (some ⟨b,0,none⟩),z4] 136,Row z4 5 1 byteE (bs++Lg.txt s3.e 0),celP (Addr.add ad2 (0 * 7)) [iV s3.kind,iV s3.n,iV s3.range,.string s3.word,.slice s3.ms.A s3.ms.l.length s3.ms.c,.slice s3.by_.A s3.by_.l.length s3.by_.c,.slice s3.kids.A s3.kids.l.length s3.kids.c],okP zB.Ok s3,.pub Tab]) _ (fun _=>rfl) (S9 [6,7,1,0,10,2,3,4,5,8,9]) (fun _=>rfl) wn rfl rfl call63 rfl (fun w1 Pb hG=>ih s3 (zB.kid_lt (List.mem_of_getElem? hs3)) b p (.slice rA bs.length rc) bs (Addr.add ad2 (0 * 7)) 0 Pb w1 hG hp (hf9 _ (List.mem_of_getElem? hs3)) qO (by first | omega | (simp only [qL]; omega))) fun z4 hz4=>yP 1 (l:=(bs++Lg.txt s3.e 0)) rfl fun A4 cp4 hv4 hc10 hm10 hA10=>?_)
  subst hv4
  refine (go 3) (vE 9 ?_)
  refine (go 7) ?_
  refine yZ (y8 rfl rfl (by simp only [bl_size,bl_app,bl_mk,qL]; omega)) (yZ (y8 rfl rfl (by simp only [bl_size,bl_app,bl_mk,qL]; omega)) ?_)
  refine (go 1) ?_
  refine zg (α:=Value) [.blk b [.pointer (some ⟨b,0,none⟩),.slice A4 ((bs++Lg.txt s3.e 0).length) cp4] 136,Row (.slice A4 ((bs++Lg.txt s3.e 0).length) cp4) 5 1 byteE (bs++Lg.txt s3.e 0)] [celP (Addr.add ad2 (0 * 7)) [iV s3.kind,iV s3.n,iV s3.range,.string s3.word,.slice s3.ms.A s3.ms.l.length s3.ms.c,.slice s3.by_.A s3.by_.l.length s3.by_.c,.slice s3.kids.A s3.kids.l.length s3.kids.c],okP zB.Ok s3,.pub Tab,slP 3 zl (.slice e.ms.A e.ms.l.length e.ms.c) e.ms.l,slP 1 strE (.slice e.by_.A e.by_.l.length e.by_.c) e.by_.l,slP 7 zk (.slice e.kids.A e.kids.l.length e.kids.c) e.kids.l,allP zB.Ok e.kids.l,celP ead [iV e.kind,iV e.n,iV e.range,.string e.word,.slice e.ms.A e.ms.l.length e.ms.c,.slice e.by_.A e.by_.l.length e.by_.c,.slice e.kids.A e.kids.l.length e.kids.c],okP zB.Ok e] (fun _=>.tuple #[iV ((((⟨#[32]⟩++e.word)++⟨#[32]⟩):ByteArray).size:Int),.nilIface]) (fun z5=>True) (fun z5=>[.blk b [.pointer (some ⟨b,0,none⟩),z5] 136,Row z5 5 1 byteE ((bs++Lg.txt s3.e 0)++(([32]:List UInt8)++e.word.data.toList++([32]:List UInt8)))]) _ (fun _=>rfl) (S9 [0,1,2,3,4,5,6,7,8,9,10]) (fun _=>rfl) wn rfl rfl call106 rfl (fun w1 Pb hG=>uZ b (.pointer (some ⟨b,0,none⟩)) (.slice A4 ((bs++Lg.txt s3.e 0).length) cp4) (bs++Lg.txt s3.e 0) ((⟨#[32]⟩++e.word)++⟨#[32]⟩) (([32]:List UInt8)++e.word.data.toList++([32]:List UInt8)) Pb w1 hG (.inr rfl) (by first | rfl | (simp only [bl_app,bl_mk]; done) | (simp only [bl_app,bl_mk]; rfl)) (by first | omega | (simp only [qL]; omega))) fun z5 hz5=>yP 1 (l:=((bs++Lg.txt s3.e 0)++(([32]:List UInt8)++e.word.data.toList++([32]:List UInt8)))) rfl fun A5 cp5 hv5 hc11 hm11 hA11=>?_
  subst hv5
  refine (go 11) ?_
  obtain ⟨s4,hs4⟩:=gx e.kids.l 1
  have hq1:s4=k1:=Option.some.inj (hs4.symm.trans hk1)
  rw [← hq1] at hnd hp1
  refine zc (fun _ h=>h.celAt 7 rfl hd2 hs4) ?_
  have hw4:=hwe.all _ (List.mem_of_getElem? hs4)
  refine zc (fun _ h=>h.one 9 zB.Ok.loc rfl hs4) (zg (α:=Value) [.blk b [.pointer (some ⟨b,0,none⟩),.slice A5 (((bs++Lg.txt s3.e 0)++(([32]:List UInt8)++e.word.data.toList++([32]:List UInt8))).length) cp5] 136,Row (.slice A5 (((bs++Lg.txt s3.e 0)++(([32]:List UInt8)++e.word.data.toList++([32]:List UInt8))).length) cp5) 5 1 byteE ((bs++Lg.txt s3.e 0)++(([32]:List UInt8)++e.word.data.toList++([32]:List UInt8))),celP (Addr.add ad2 (1 * 7)) [iV s4.kind,iV s4.n,iV s4.range,.string s4.word,.slice s4.ms.A s4.ms.l.length s4.ms.c,.slice s4.by_.A s4.by_.l.length s4.by_.c,.slice s4.kids.A s4.kids.l.length s4.kids.c],okP zB.Ok s4,.pub Tab] [celP (Addr.add ad2 (0 * 7)) [iV s3.kind,iV s3.n,iV s3.range,.string s3.word,.slice s3.ms.A s3.ms.l.length s3.ms.c,.slice s3.by_.A s3.by_.l.length s3.by_.c,.slice s3.kids.A s3.kids.l.length s3.kids.c],okP zB.Ok s3,slP 3 zl (.slice e.ms.A e.ms.l.length e.ms.c) e.ms.l,slP 1 strE (.slice e.by_.A e.by_.l.length e.by_.c) e.by_.l,slP 7 zk (.slice e.kids.A e.kids.l.length e.kids.c) e.kids.l,allP zB.Ok e.kids.l,celP ead [iV e.kind,iV e.n,iV e.range,.string e.word,.slice e.ms.A e.ms.l.length e.ms.c,.slice e.by_.A e.by_.l.length e.by_.c,.slice e.kids.A e.kids.l.length e.kids.c],okP zB.Ok e] (fun _=>.tuple #[]) (fun z6=>True) (fun z6=>[.blk b [.pointer (some ⟨b,0,none⟩),z6] 136,Row z6 5 1 byteE (((bs++Lg.txt s3.e 0)++(([32]:List UInt8)++e.word.data.toList++([32]:List UInt8)))++Lg.txt s4.e (0 + 1)),celP (Addr.add ad2 (1 * 7)) [iV s4.kind,iV s4.n,iV s4.range,.string s4.word,.slice s4.ms.A s4.ms.l.length s4.ms.c,.slice s4.by_.A s4.by_.l.length s4.by_.c,.slice s4.kids.A s4.kids.l.length s4.kids.c],okP zB.Ok s4,.pub Tab]) _ (fun _=>rfl) (S9 [2,3,1,0,6,4,5,7,8,9,10,11,12]) (fun _=>rfl) wn rfl rfl call63 rfl (fun w1 Pb hG=>ih s4 (zB.kid_lt (List.mem_of_getElem? hs4)) b (.pointer (some ⟨b,0,none⟩)) (.slice A5 (((bs++Lg.txt s3.e 0)++(([32]:List UInt8)++e.word.data.toList++([32]:List UInt8))).length) cp5) ((bs++Lg.txt s3.e 0)++(([32]:List UInt8)++e.word.data.toList++([32]:List UInt8))) (Addr.add ad2 (1 * 7)) (0 + 1) Pb w1 hG (.inr rfl) (hf9 _ (List.mem_of_getElem? hs4)) qO (by first | omega | (simp only [qL]; omega))) fun z6 hz6=>yP 1 (l:=(((bs++Lg.txt s3.e 0)++(([32]:List UInt8)++e.word.data.toList++([32]:List UInt8)))++Lg.txt s4.e (0 + 1))) rfl fun A6 cp6 hv6 hc12 hm12 hA12=>?_)
  subst hv6
  refine (go 2) ?_
  refine yo (.inr rfl) results63 fun w1 hM=>?_
  have hlv9:Lg.lv e.word=0:=by unfold Lg.lv; rw [if_neg h2]
  have hl9:(((bs++Lg.txt s3.e 0)++(([32]:List UInt8)++e.word.data.toList++([32]:List UInt8)))++Lg.txt s4.e (0 + 1))=(bs++Lg.txt e.e least):=by rw [Lg.txt_bin (b:=(0 + 1)) h1 hs3 hs4 least (by rw [hlv9]),if_neg (fun g=>hlv ⟨h1,g⟩),hlv9]; simp
  rw [hl9] at hM
  exact hM.yR (.slice A6 ((bs++Lg.txt e.e least).length) cp6) rfl trivial (fun h=>h.sel [0,1,11,12,4] qD rfl)
 refine (go 10) ?_
 refine yU rfl (decide_eq_false qO) ?_
 refine (go 17) (zW (fun h3=>?_) fun h3=>?_)
 ·refine vE 8 ?_
  have hnum:-9223372036854775808≤e.n∧e.n≤9223372036854775807:=by have h9:=ho9; rw [h3] at h9; have:=Lg.numR_of h9; omega
  have hnl:(Lg.nb e.n).length≤21:=by have h9:=ho9; rw [h3] at h9; exact Lg.nb_len (Lg.numR_of h9)
  refine (go 7) ?_
  refine yQ wn rfl call107 rfl (fun w1 hM=>c_itoa e.n (In w1) w1 (fun _ h=>h) (by first | exact hnum | omega) (hM.yS (i:=4) rfl)) ?_
  refine (go 1) ?_
  refine zg (α:=Value) [.blk b [p,.slice rA bs.length rc] 136,Row (.slice rA bs.length rc) 5 1 byteE bs] [celP ead [iV e.kind,iV e.n,iV e.range,.string e.word,.slice e.ms.A e.ms.l.length e.ms.c,.slice e.by_.A e.by_.l.length e.by_.c,.slice e.kids.A e.kids.l.length e.kids.c],okP zB.Ok e,.pub Tab] (fun _=>.tuple #[iV (((⟨(Lg.nb e.n).toArray⟩:ByteArray):ByteArray).size:Int),.nilIface]) (fun z7=>True) (fun z7=>[.blk b [.pointer (some ⟨b,0,none⟩),z7] 136,Row z7 5 1 byteE (bs++(Lg.nb e.n))]) _ (fun _=>rfl) (S9 [0,1,2,3,4]) (fun _=>rfl) wn rfl rfl call106 rfl (fun w1 Pb hG=>uZ b p (.slice rA bs.length rc) bs (⟨(Lg.nb e.n).toArray⟩:ByteArray) (Lg.nb e.n) Pb w1 hG hp (by first | rfl | (simp only [bl_app,bl_mk]; done) | (simp only [bl_app,bl_mk]; rfl)) (by first | omega | (simp only [qL]; omega))) fun z7 hz7=>yP 1 (l:=(bs++(Lg.nb e.n))) rfl fun A7 cp7 hv7 hc13 hm13 hA13=>?_
  subst hv7
  refine (go 2) ?_
  refine yo (.inr rfl) results63 fun w1 hM=>?_
  have hl9:(bs++(Lg.nb e.n))=(bs++Lg.txt e.e least):=by rw [Lg.txt_num h3]
  rw [hl9] at hM
  exact hM.yR (.slice A7 ((bs++Lg.txt e.e least).length) cp7) rfl trivial (fun h=>h.sel [0,1,2,3,4] qD rfl)
 refine (go 6) (zW (fun h4=>?_) fun h4=>?_)
 ·refine (go 1) (vE 8 ?_)
  have hwin:Lg.WinR e.word e.ms.l e.range:=by have h9:=ho9; rw [h4] at h9; exact Lg.winR_of h9
  have hwl:=hwin.word
  rw [bl_size] at hwl
  refine (go 7) ?_
  refine yZ (y8 rfl rfl (by simp only [bl_size,bl_app,bl_mk,qL]; omega)) ?_
  refine (go 1) ?_
  refine zg (α:=Value) [.blk b [p,.slice rA bs.length rc] 136,Row (.slice rA bs.length rc) 5 1 byteE bs] [celP ead [iV e.kind,iV e.n,iV e.range,.string e.word,.slice e.ms.A e.ms.l.length e.ms.c,.slice e.by_.A e.by_.l.length e.by_.c,.slice e.kids.A e.kids.l.length e.kids.c],okP zB.Ok e,.pub Tab] (fun _=>.tuple #[iV (((e.word++⟨#[40,123]⟩):ByteArray).size:Int),.nilIface]) (fun z8=>True) (fun z8=>[.blk b [.pointer (some ⟨b,0,none⟩),z8] 136,Row z8 5 1 byteE (bs++(e.word.data.toList++([40,123]:List UInt8)))]) _ (fun _=>rfl) (S9 [0,1,2,3,4]) (fun _=>rfl) wn rfl rfl call106 rfl (fun w1 Pb hG=>uZ b p (.slice rA bs.length rc) bs (e.word++⟨#[40,123]⟩) (e.word.data.toList++([40,123]:List UInt8)) Pb w1 hG hp (by first | rfl | (simp only [bl_app,bl_mk]; done) | (simp only [bl_app,bl_mk]; rfl)) (by first | omega | (simp only [qL]; omega))) fun z8 hz8=>yP 1 (l:=(bs++(e.word.data.toList++([40,123]:List UInt8)))) rfl fun A8 cp8 hv8 hc14 hm14 hA14=>?_
  subst hv8
  refine (go 14) ?_
  refine vb (fun (k:Nat) (cs:List UInt8) (rv:Value)=>[(0,.pointer (some ⟨b,0,none⟩)),(1,.pointer (some ((Addr.add ead 0).add 0))),(89,iV e.ms.l.length),(90,iV k)]) (fun (k:Nat) (cs:List UInt8) (rv:Value)=>[.blk b [.pointer (some ⟨b,0,none⟩),rv] 136,Row rv 5 1 byteE cs,celP ead [iV e.kind,iV e.n,iV e.range,.string e.word,.slice e.ms.A e.ms.l.length e.ms.c,.slice e.by_.A e.by_.l.length e.by_.c,.slice e.kids.A e.kids.l.length e.kids.c],okP zB.Ok e,.pub Tab]) (fun (k:Nat) (cs:List UInt8) (rv:Value)=>k≤e.ms.l.length∧cs=bs++(e.word.data.toList++[40,123]++Lg.mts true (e.ms.l.take k))) (fun (k:Nat) (cs:List UInt8) (rv:Value)=>e.ms.l.length - k) 0 (bs++(e.word.data.toList++([40,123]:List UInt8))) (.slice A8 ((bs++(e.word.data.toList++([40,123]:List UInt8))).length) cp8) (sc rfl (sc rfl (sc rfl (sc (ji qO) sn)))) (fun _ h=>h) ?_ (fun k cs rv hI1=>?_)
  ·exact ⟨Nat.zero_le _,by simp [Lg.mts]⟩
  have hcl:cs.length≤bs.length + 160:=by rw [hI1.2]; have:=Lg.win_len hwin k; simp only [qL] at this ⊢; omega
  refine yW 1 (l:=cs) rfl fun A9 cp9 hv9 hc15 hm15 hA15=>?_
  subst hv9
  refine (go 6) (zW (fun h5=>?_) fun h5=>?_)
  ·refine (go 17) (zW (fun h6=>?_) fun h6=>?_)
   ·refine (go 4) ?_
    refine zg (α:=Value) [.blk b [.pointer (some ⟨b,0,none⟩),.slice A9 cs.length cp9] 136,Row (.slice A9 cs.length cp9) 5 1 byteE cs] [celP ead [iV e.kind,iV e.n,iV e.range,.string e.word,.slice e.ms.A e.ms.l.length e.ms.c,.slice e.by_.A e.by_.l.length e.by_.c,.slice e.kids.A e.kids.l.length e.kids.c],okP zB.Ok e,.pub Tab] (fun _=>.nilIface) (fun z9=>True) (fun z9=>[.blk b [.pointer (some ⟨b,0,none⟩),z9] 136,Row z9 5 1 byteE (cs++([44]:List UInt8))]) _ (fun _=>rfl) (S9 [0,1,2,3,4]) (fun _=>rfl) wn rfl rfl call105 rfl (fun w1 Pb hG=>jU b (.pointer (some ⟨b,0,none⟩)) (.slice A9 cs.length cp9) cs 44 44 Pb w1 hG (.inr rfl) (by first | rfl | decide) (by first | omega | (simp only [qL]; omega))) fun z9 hz9=>yP 1 (l:=(cs++([44]:List UInt8))) rfl fun A10 cp10 hv10 hc16 hm16 hA16=>?_
    subst hv10
    refine (go 9) ?_
    refine zc (fun _ h=>h.exprX 3 rfl) ?_
    obtain ⟨hc17,hm17,hA17⟩:=hwe.ms
    obtain ⟨hc18,hm18,hA18⟩:=hwe.by_
    obtain ⟨hc19,hm19,hA19⟩:=hwe.kids
    obtain ⟨ad3,s5,hd3,hs5⟩:=elx hA17 k
    refine (go 1) ?_
    refine zc (fun _ h=>h.celAt 0 rfl hd3 hs5) (zg (α:=Value) [.blk b [.pointer (some ⟨b,0,none⟩),.slice A10 ((cs++([44]:List UInt8)).length) cp10] 136,Row (.slice A10 ((cs++([44]:List UInt8)).length) cp10) 5 1 byteE (cs++([44]:List UInt8)),celP (Addr.add ad3 (k * 3)) [iV s5.kind,.string s5.key,.string s5.val]] [slP 3 zl (.slice e.ms.A e.ms.l.length e.ms.c) e.ms.l,slP 1 strE (.slice e.by_.A e.by_.l.length e.by_.c) e.by_.l,slP 7 zk (.slice e.kids.A e.kids.l.length e.kids.c) e.kids.l,allP zB.Ok e.kids.l,celP ead [iV e.kind,iV e.n,iV e.range,.string e.word,.slice e.ms.A e.ms.l.length e.ms.c,.slice e.by_.A e.by_.l.length e.by_.c,.slice e.kids.A e.kids.l.length e.kids.c],okP zB.Ok e,.pub Tab] (fun _=>.tuple #[]) (fun z10=>True) (fun z10=>[.blk b [.pointer (some ⟨b,0,none⟩),z10] 136,Row z10 5 1 byteE ((cs++([44]:List UInt8))++Lg.mt s5),celP (Addr.add ad3 (k * 3)) [iV s5.kind,.string s5.key,.string s5.val]]) _ (fun _=>rfl) (S9 [5,6,0,1,2,3,4,7,8,9]) (fun _=>rfl) wn rfl rfl call108 rfl (fun w1 Pb hG=>c_match b (.pointer (some ⟨b,0,none⟩)) (.slice A10 ((cs++([44]:List UInt8)).length) cp10) (cs++([44]:List UInt8)) (Addr.add ad3 (k * 3)) s5 Pb w1 hG (.inr rfl) (hwin.each _ (List.mem_of_getElem? hs5)) (by first | omega | (simp only [qL]; omega))) fun z10 hz10=>yP 1 (l:=((cs++([44]:List UInt8))++Lg.mt s5)) rfl fun A11 cp11 hv11 hc20 hm20 hA20=>?_)
    subst hv11
    refine (go 6) ?_
    refine zT (yG (k + 1) ((cs++([44]:List UInt8))++Lg.mt s5) (.slice A11 (((cs++([44]:List UInt8))++Lg.mt s5).length) cp11) (sc rfl (sc rfl (sc rfl (sc (ji qO) sn)))) (S9 [0,1,7,8,9]) ?_ ?_)
    ·exact ⟨by omega,by rw [hI1.2,Lg.mts_at hs5,if_neg qO]; simp⟩
    omega
   refine (go 9) ?_
   refine zc (fun _ h=>h.exprX 3 rfl) ?_
   obtain ⟨hc21,hm21,hA21⟩:=hwe.ms
   obtain ⟨hc22,hm22,hA22⟩:=hwe.by_
   obtain ⟨hc23,hm23,hA23⟩:=hwe.kids
   obtain ⟨ad4,s6,hd4,hs6⟩:=elx hA21 k
   refine (go 1) ?_
   refine zc (fun _ h=>h.celAt 0 rfl hd4 hs6) (zg (α:=Value) [.blk b [.pointer (some ⟨b,0,none⟩),.slice A9 cs.length cp9] 136,Row (.slice A9 cs.length cp9) 5 1 byteE cs,celP (Addr.add ad4 (k * 3)) [iV s6.kind,.string s6.key,.string s6.val]] [slP 3 zl (.slice e.ms.A e.ms.l.length e.ms.c) e.ms.l,slP 1 strE (.slice e.by_.A e.by_.l.length e.by_.c) e.by_.l,slP 7 zk (.slice e.kids.A e.kids.l.length e.kids.c) e.kids.l,allP zB.Ok e.kids.l,celP ead [iV e.kind,iV e.n,iV e.range,.string e.word,.slice e.ms.A e.ms.l.length e.ms.c,.slice e.by_.A e.by_.l.length e.by_.c,.slice e.kids.A e.kids.l.length e.kids.c],okP zB.Ok e,.pub Tab] (fun _=>.tuple #[]) (fun z11=>True) (fun z11=>[.blk b [.pointer (some ⟨b,0,none⟩),z11] 136,Row z11 5 1 byteE (cs++Lg.mt s6),celP (Addr.add ad4 (k * 3)) [iV s6.kind,.string s6.key,.string s6.val]]) _ (fun _=>rfl) (S9 [5,6,0,1,2,3,4,7,8,9]) (fun _=>rfl) wn rfl rfl call108 rfl (fun w1 Pb hG=>c_match b (.pointer (some ⟨b,0,none⟩)) (.slice A9 cs.length cp9) cs (Addr.add ad4 (k * 3)) s6 Pb w1 hG (.inr rfl) (hwin.each _ (List.mem_of_getElem? hs6)) (by first | omega | (simp only [qL]; omega))) fun z11 hz11=>yP 1 (l:=(cs++Lg.mt s6)) rfl fun A12 cp12 hv12 hc24 hm24 hA24=>?_)
   subst hv12
   refine (go 6) ?_
   refine zT (yG (k + 1) (cs++Lg.mt s6) (.slice A12 ((cs++Lg.mt s6).length) cp12) (sc rfl (sc rfl (sc rfl (sc (ji qO) sn)))) (S9 [0,1,7,8,9]) ?_ ?_)
   ·exact ⟨by omega,by rw [hI1.2,Lg.mts_at hs6,if_pos qO]; simp⟩
   omega
  refine (go 5) (vE 10 ?_)
  have hnum:-9223372036854775808≤e.range∧e.range≤9223372036854775807:=by have:=hwin.range; omega
  have hnl:(Lg.nb e.range).length≤21:=Lg.nb_len ⟨by have:=hwin.range; omega,by have:=hwin.range; omega⟩
  refine (go 7) ?_
  refine yQ wn rfl call107 rfl (fun w1 hM=>c_itoa e.range (In w1) w1 (fun _ h=>h) (by first | exact hnum | omega) (hM.yS (i:=4) rfl)) (yZ (y8 rfl rfl (by simp only [bl_size,bl_app,bl_mk,qL]; omega)) (yZ (y8 rfl rfl (by simp only [bl_size,bl_app,bl_mk,qL]; omega)) ?_))
  refine (go 1) ?_
  refine zg (α:=Value) [.blk b [.pointer (some ⟨b,0,none⟩),.slice A9 cs.length cp9] 136,Row (.slice A9 cs.length cp9) 5 1 byteE cs] [celP ead [iV e.kind,iV e.n,iV e.range,.string e.word,.slice e.ms.A e.ms.l.length e.ms.c,.slice e.by_.A e.by_.l.length e.by_.c,.slice e.kids.A e.kids.l.length e.kids.c],okP zB.Ok e,.pub Tab] (fun _=>.tuple #[iV ((((⟨#[125,91]⟩++(⟨(Lg.nb e.range).toArray⟩:ByteArray))++⟨#[93,41]⟩):ByteArray).size:Int),.nilIface]) (fun z12=>True) (fun z12=>[.blk b [.pointer (some ⟨b,0,none⟩),z12] 136,Row z12 5 1 byteE (cs++(([125,91]:List UInt8)++(Lg.nb e.range)++([93,41]:List UInt8)))]) _ (fun _=>rfl) (S9 [0,1,2,3,4]) (fun _=>rfl) wn rfl rfl call106 rfl (fun w1 Pb hG=>uZ b (.pointer (some ⟨b,0,none⟩)) (.slice A9 cs.length cp9) cs ((⟨#[125,91]⟩++(⟨(Lg.nb e.range).toArray⟩:ByteArray))++⟨#[93,41]⟩) (([125,91]:List UInt8)++(Lg.nb e.range)++([93,41]:List UInt8)) Pb w1 hG (.inr rfl) (by first | rfl | (simp only [bl_app,bl_mk]; done) | (simp only [bl_app,bl_mk]; rfl)) (by first | omega | (simp only [qL]; omega))) fun z12 hz12=>yP 1 (l:=(cs++(([125,91]:List UInt8)++(Lg.nb e.range)++([93,41]:List UInt8)))) rfl fun A13 cp13 hv13 hc25 hm25 hA25=>?_
  subst hv13
  refine (go 2) ?_
  refine yo (.inr rfl) results63 fun w1 hM=>?_
  have hl9:(cs++(([125,91]:List UInt8)++(Lg.nb e.range)++([93,41]:List UInt8)))=(bs++Lg.txt e.e least):=by rw [Lg.txt_win h4,hI1.2,List.take_of_length_le qO]; simp [Lg.wint]
  rw [hl9] at hM
  exact hM.yR (.slice A13 ((bs++Lg.txt e.e least).length) cp13) rfl trivial (fun h=>h.sel [0,1,2,3,4] qD rfl)
 refine (go 6) ?_
 refine yx rfl (decide_eq_true qO) ?_
 refine (go 1) (vE 8 ?_)
 have hall:Lg.AllR e.word e.by_.l:=by have h9:=ho9; rw [(show e.kind=3 by omega)] at h9; exact Lg.allR_of h9
 have hwl:=hall.word
 rw [bl_size] at hwl
 have hkl:e.kids.l.length=1:=by have h9:=ha9; rw [(show e.kind=3 by omega)] at h9; simp [Lg.arity] at h9; omega
 refine (go 7) ?_
 refine yZ (y8 rfl rfl (by simp only [bl_size,bl_app,bl_mk,qL]; omega)) ?_
 refine (go 1) ?_
 refine zg (α:=Value) [.blk b [p,.slice rA bs.length rc] 136,Row (.slice rA bs.length rc) 5 1 byteE bs] [celP ead [iV e.kind,iV e.n,iV e.range,.string e.word,.slice e.ms.A e.ms.l.length e.ms.c,.slice e.by_.A e.by_.l.length e.by_.c,.slice e.kids.A e.kids.l.length e.kids.c],okP zB.Ok e,.pub Tab] (fun _=>.tuple #[iV (((⟨#[97,108,108,32]⟩++e.word):ByteArray).size:Int),.nilIface]) (fun z13=>True) (fun z13=>[.blk b [.pointer (some ⟨b,0,none⟩),z13] 136,Row z13 5 1 byteE (bs++(([97,108,108,32]:List UInt8)++e.word.data.toList))]) _ (fun _=>rfl) (S9 [0,1,2,3,4]) (fun _=>rfl) wn rfl rfl call106 rfl (fun w1 Pb hG=>uZ b p (.slice rA bs.length rc) bs (⟨#[97,108,108,32]⟩++e.word) (([97,108,108,32]:List UInt8)++e.word.data.toList) Pb w1 hG hp (by first | rfl | (simp only [bl_app,bl_mk]; done) | (simp only [bl_app,bl_mk]; rfl)) (by first | omega | (simp only [qL]; omega))) fun z13 hz13=>yP 1 (l:=(bs++(([97,108,108,32]:List UInt8)++e.word.data.toList))) rfl fun A14 cp14 hv14 hc26 hm26 hA26=>?_
 subst hv14
 refine (go 13) (zW (fun h7=>?_) fun h7=>?_)
 ·refine vE 9 ?_
  have hjne:e.by_.l≠[]:=fun h=>by rw [h] at h7; simp at h7
  have hjl:=Lg.join_len hall
  have hjlen:(Go.Lib.join (e.by_.l.map (·.data.toList)) [44]).length≤1000000:=qO
  have hbyl:=hall.len
  refine (go 7) ?_
  refine q_opn (fun _ h=>h.exprX 3 rfl) (fun _ h=>h.drop1.drop1.drop1.drop1) ?_
  obtain ⟨hc27,hm27,hA27⟩:=hwe.ms
  obtain ⟨hc28,hm28,hA28⟩:=hwe.by_
  obtain ⟨hc29,hm29,hA29⟩:=hwe.kids
  refine yQ wn rfl call109 rfl (fun w1 hM=>c_join _ e.by_.l ⟨#[44]⟩ (In w1) w1 (fun _ h=>h) (hM.slp 1 rfl) (by first | exact hjne | assumption) qO (by exact hjlen)) (yZ (y8 rfl rfl (by simp only [bl_size,bl_app,bl_mk,qL]; omega)) ?_)
  refine (go 1) ?_
  refine zg (α:=Value) [.blk b [.pointer (some ⟨b,0,none⟩),.slice A14 ((bs++(([97,108,108,32]:List UInt8)++e.word.data.toList)).length) cp14] 136,Row (.slice A14 ((bs++(([97,108,108,32]:List UInt8)++e.word.data.toList)).length) cp14) 5 1 byteE (bs++(([97,108,108,32]:List UInt8)++e.word.data.toList))] [slP 3 zl (.slice e.ms.A e.ms.l.length e.ms.c) e.ms.l,slP 1 strE (.slice e.by_.A e.by_.l.length e.by_.c) e.by_.l,slP 7 zk (.slice e.kids.A e.kids.l.length e.kids.c) e.kids.l,allP zB.Ok e.kids.l,celP ead [iV e.kind,iV e.n,iV e.range,.string e.word,.slice e.ms.A e.ms.l.length e.ms.c,.slice e.by_.A e.by_.l.length e.by_.c,.slice e.kids.A e.kids.l.length e.kids.c],okP zB.Ok e,.pub Tab] (fun _=>.tuple #[iV (((⟨#[32,98,121,32]⟩++(⟨(Go.Lib.join (e.by_.l.map (·.data.toList)) ([44]:List UInt8)).toArray⟩:ByteArray)):ByteArray).size:Int),.nilIface]) (fun z14=>True) (fun z14=>[.blk b [.pointer (some ⟨b,0,none⟩),z14] 136,Row z14 5 1 byteE ((bs++(([97,108,108,32]:List UInt8)++e.word.data.toList))++(([32,98,121,32]:List UInt8)++(Go.Lib.join (e.by_.l.map (·.data.toList)) ([44]:List UInt8))))]) _ (fun _=>rfl) (S9 [4,5,0,1,2,3,6,7,8]) (fun _=>rfl) wn rfl rfl call106 rfl (fun w1 Pb hG=>uZ b (.pointer (some ⟨b,0,none⟩)) (.slice A14 ((bs++(([97,108,108,32]:List UInt8)++e.word.data.toList)).length) cp14) (bs++(([97,108,108,32]:List UInt8)++e.word.data.toList)) (⟨#[32,98,121,32]⟩++(⟨(Go.Lib.join (e.by_.l.map (·.data.toList)) ([44]:List UInt8)).toArray⟩:ByteArray)) (([32,98,121,32]:List UInt8)++(Go.Lib.join (e.by_.l.map (·.data.toList)) ([44]:List UInt8))) Pb w1 hG (.inr rfl) (by first | rfl | (simp only [bl_app,bl_mk]; done) | (simp only [bl_app,bl_mk]; rfl)) (by first | omega | (simp only [qL]; omega))) fun z14 hz14=>yP 1 (l:=((bs++(([97,108,108,32]:List UInt8)++e.word.data.toList))++(([32,98,121,32]:List UInt8)++(Go.Lib.join (e.by_.l.map (·.data.toList)) ([44]:List UInt8))))) rfl fun A15 cp15 hv15 hc30 hm30 hA30=>?_
  subst hv15
  refine (go 7) ?_
  refine zg (α:=Value) [.blk b [.pointer (some ⟨b,0,none⟩),.slice A15 (((bs++(([97,108,108,32]:List UInt8)++e.word.data.toList))++(([32,98,121,32]:List UInt8)++(Go.Lib.join (e.by_.l.map (·.data.toList)) ([44]:List UInt8)))).length) cp15] 136,Row (.slice A15 (((bs++(([97,108,108,32]:List UInt8)++e.word.data.toList))++(([32,98,121,32]:List UInt8)++(Go.Lib.join (e.by_.l.map (·.data.toList)) ([44]:List UInt8)))).length) cp15) 5 1 byteE ((bs++(([97,108,108,32]:List UInt8)++e.word.data.toList))++(([32,98,121,32]:List UInt8)++(Go.Lib.join (e.by_.l.map (·.data.toList)) ([44]:List UInt8))))] [slP 3 zl (.slice e.ms.A e.ms.l.length e.ms.c) e.ms.l,slP 1 strE (.slice e.by_.A e.by_.l.length e.by_.c) e.by_.l,slP 7 zk (.slice e.kids.A e.kids.l.length e.kids.c) e.kids.l,allP zB.Ok e.kids.l,celP ead [iV e.kind,iV e.n,iV e.range,.string e.word,.slice e.ms.A e.ms.l.length e.ms.c,.slice e.by_.A e.by_.l.length e.by_.c,.slice e.kids.A e.kids.l.length e.kids.c],okP zB.Ok e,.pub Tab] (fun _=>.tuple #[iV ((⟨#[32,40]⟩:ByteArray).size:Int),.nilIface]) (fun z15=>True) (fun z15=>[.blk b [.pointer (some ⟨b,0,none⟩),z15] 136,Row z15 5 1 byteE (((bs++(([97,108,108,32]:List UInt8)++e.word.data.toList))++(([32,98,121,32]:List UInt8)++(Go.Lib.join (e.by_.l.map (·.data.toList)) ([44]:List UInt8))))++([32,40]:List UInt8))]) _ (fun _=>rfl) (S9 [0,1,2,3,4,5,6,7,8]) (fun _=>rfl) wn rfl rfl call106 rfl (fun w1 Pb hG=>uZ b (.pointer (some ⟨b,0,none⟩)) (.slice A15 (((bs++(([97,108,108,32]:List UInt8)++e.word.data.toList))++(([32,98,121,32]:List UInt8)++(Go.Lib.join (e.by_.l.map (·.data.toList)) ([44]:List UInt8)))).length) cp15) ((bs++(([97,108,108,32]:List UInt8)++e.word.data.toList))++(([32,98,121,32]:List UInt8)++(Go.Lib.join (e.by_.l.map (·.data.toList)) ([44]:List UInt8)))) ⟨#[32,40]⟩ ([32,40]:List UInt8) Pb w1 hG (.inr rfl) (by first | rfl | (simp only [bl_app,bl_mk]; done) | (simp only [bl_app,bl_mk]; rfl)) (by first | omega | (simp only [qL]; omega))) fun z15 hz15=>yP 1 (l:=(((bs++(([97,108,108,32]:List UInt8)++e.word.data.toList))++(([32,98,121,32]:List UInt8)++(Go.Lib.join (e.by_.l.map (·.data.toList)) ([44]:List UInt8))))++([32,40]:List UInt8))) rfl fun A16 cp16 hv16 hc31 hm31 hA31=>?_
  subst hv16
  refine (go 9) ?_
  obtain ⟨ad5,s7,hd5,hs7⟩:=elx hA29 0
  refine (go 1) ?_
  have hnd:=Lg.nodes_all hkl hs7
  have hp0:=Mn.nodes_pos s7.e
  have htl:=Lg.txt_len s7.e 0 (hf9 _ (List.mem_of_getElem? hs7))
  refine zc (fun _ h=>h.celAt 4 rfl hd5 hs7) ?_
  have hw5:=hwe.all _ (List.mem_of_getElem? hs7)
  refine zc (fun _ h=>h.one 6 zB.Ok.loc rfl hs7) (zg (α:=Value) [.blk b [.pointer (some ⟨b,0,none⟩),.slice A16 ((((bs++(([97,108,108,32]:List UInt8)++e.word.data.toList))++(([32,98,121,32]:List UInt8)++(Go.Lib.join (e.by_.l.map (·.data.toList)) ([44]:List UInt8))))++([32,40]:List UInt8)).length) cp16] 136,Row (.slice A16 ((((bs++(([97,108,108,32]:List UInt8)++e.word.data.toList))++(([32,98,121,32]:List UInt8)++(Go.Lib.join (e.by_.l.map (·.data.toList)) ([44]:List UInt8))))++([32,40]:List UInt8)).length) cp16) 5 1 byteE (((bs++(([97,108,108,32]:List UInt8)++e.word.data.toList))++(([32,98,121,32]:List UInt8)++(Go.Lib.join (e.by_.l.map (·.data.toList)) ([44]:List UInt8))))++([32,40]:List UInt8)),celP (Addr.add ad5 (0 * 7)) [iV s7.kind,iV s7.n,iV s7.range,.string s7.word,.slice s7.ms.A s7.ms.l.length s7.ms.c,.slice s7.by_.A s7.by_.l.length s7.by_.c,.slice s7.kids.A s7.kids.l.length s7.kids.c],okP zB.Ok s7,.pub Tab] [slP 3 zl (.slice e.ms.A e.ms.l.length e.ms.c) e.ms.l,slP 1 strE (.slice e.by_.A e.by_.l.length e.by_.c) e.by_.l,slP 7 zk (.slice e.kids.A e.kids.l.length e.kids.c) e.kids.l,allP zB.Ok e.kids.l,celP ead [iV e.kind,iV e.n,iV e.range,.string e.word,.slice e.ms.A e.ms.l.length e.ms.c,.slice e.by_.A e.by_.l.length e.by_.c,.slice e.kids.A e.kids.l.length e.kids.c],okP zB.Ok e] (fun _=>.tuple #[]) (fun z16=>True) (fun z16=>[.blk b [.pointer (some ⟨b,0,none⟩),z16] 136,Row z16 5 1 byteE ((((bs++(([97,108,108,32]:List UInt8)++e.word.data.toList))++(([32,98,121,32]:List UInt8)++(Go.Lib.join (e.by_.l.map (·.data.toList)) ([44]:List UInt8))))++([32,40]:List UInt8))++Lg.txt s7.e 0),celP (Addr.add ad5 (0 * 7)) [iV s7.kind,iV s7.n,iV s7.range,.string s7.word,.slice s7.ms.A s7.ms.l.length s7.ms.c,.slice s7.by_.A s7.by_.l.length s7.by_.c,.slice s7.kids.A s7.kids.l.length s7.kids.c],okP zB.Ok s7,.pub Tab]) _ (fun _=>rfl) (S9 [2,3,1,0,10,4,5,6,7,8,9]) (fun _=>rfl) wn rfl rfl call63 rfl (fun w1 Pb hG=>ih s7 (zB.kid_lt (List.mem_of_getElem? hs7)) b (.pointer (some ⟨b,0,none⟩)) (.slice A16 ((((bs++(([97,108,108,32]:List UInt8)++e.word.data.toList))++(([32,98,121,32]:List UInt8)++(Go.Lib.join (e.by_.l.map (·.data.toList)) ([44]:List UInt8))))++([32,40]:List UInt8)).length) cp16) (((bs++(([97,108,108,32]:List UInt8)++e.word.data.toList))++(([32,98,121,32]:List UInt8)++(Go.Lib.join (e.by_.l.map (·.data.toList)) ([44]:List UInt8))))++([32,40]:List UInt8)) (Addr.add ad5 (0 * 7)) 0 Pb w1 hG (.inr rfl) (hf9 _ (List.mem_of_getElem? hs7)) qO (by first | omega | (simp only [qL]; omega))) fun z16 hz16=>yP 1 (l:=((((bs++(([97,108,108,32]:List UInt8)++e.word.data.toList))++(([32,98,121,32]:List UInt8)++(Go.Lib.join (e.by_.l.map (·.data.toList)) ([44]:List UInt8))))++([32,40]:List UInt8))++Lg.txt s7.e 0)) rfl fun A17 cp17 hv17 hc32 hm32 hA32=>?_)
  subst hv17
  refine (go 6) ?_
  refine zg (α:=Value) [.blk b [.pointer (some ⟨b,0,none⟩),.slice A17 (((((bs++(([97,108,108,32]:List UInt8)++e.word.data.toList))++(([32,98,121,32]:List UInt8)++(Go.Lib.join (e.by_.l.map (·.data.toList)) ([44]:List UInt8))))++([32,40]:List UInt8))++Lg.txt s7.e 0).length) cp17] 136,Row (.slice A17 (((((bs++(([97,108,108,32]:List UInt8)++e.word.data.toList))++(([32,98,121,32]:List UInt8)++(Go.Lib.join (e.by_.l.map (·.data.toList)) ([44]:List UInt8))))++([32,40]:List UInt8))++Lg.txt s7.e 0).length) cp17) 5 1 byteE ((((bs++(([97,108,108,32]:List UInt8)++e.word.data.toList))++(([32,98,121,32]:List UInt8)++(Go.Lib.join (e.by_.l.map (·.data.toList)) ([44]:List UInt8))))++([32,40]:List UInt8))++Lg.txt s7.e 0)] [celP (Addr.add ad5 (0 * 7)) [iV s7.kind,iV s7.n,iV s7.range,.string s7.word,.slice s7.ms.A s7.ms.l.length s7.ms.c,.slice s7.by_.A s7.by_.l.length s7.by_.c,.slice s7.kids.A s7.kids.l.length s7.kids.c],okP zB.Ok s7,.pub Tab,slP 3 zl (.slice e.ms.A e.ms.l.length e.ms.c) e.ms.l,slP 1 strE (.slice e.by_.A e.by_.l.length e.by_.c) e.by_.l,slP 7 zk (.slice e.kids.A e.kids.l.length e.kids.c) e.kids.l,allP zB.Ok e.kids.l,celP ead [iV e.kind,iV e.n,iV e.range,.string e.word,.slice e.ms.A e.ms.l.length e.ms.c,.slice e.by_.A e.by_.l.length e.by_.c,.slice e.kids.A e.kids.l.length e.kids.c],okP zB.Ok e] (fun _=>.nilIface) (fun z17=>True) (fun z17=>[.blk b [.pointer (some ⟨b,0,none⟩),z17] 136,Row z17 5 1 byteE (((((bs++(([97,108,108,32]:List UInt8)++e.word.data.toList))++(([32,98,121,32]:List UInt8)++(Go.Lib.join (e.by_.l.map (·.data.toList)) ([44]:List UInt8))))++([32,40]:List UInt8))++Lg.txt s7.e 0)++([41]:List UInt8))]) _ (fun _=>rfl) (S9 [0,1,2,3,4,5,6,7,8,9,10]) (fun _=>rfl) wn rfl rfl call105 rfl (fun w1 Pb hG=>jU b (.pointer (some ⟨b,0,none⟩)) (.slice A17 (((((bs++(([97,108,108,32]:List UInt8)++e.word.data.toList))++(([32,98,121,32]:List UInt8)++(Go.Lib.join (e.by_.l.map (·.data.toList)) ([44]:List UInt8))))++([32,40]:List UInt8))++Lg.txt s7.e 0).length) cp17) ((((bs++(([97,108,108,32]:List UInt8)++e.word.data.toList))++(([32,98,121,32]:List UInt8)++(Go.Lib.join (e.by_.l.map (·.data.toList)) ([44]:List UInt8))))++([32,40]:List UInt8))++Lg.txt s7.e 0) 41 41 Pb w1 hG (.inr rfl) (by first | rfl | decide) (by first | omega | (simp only [qL]; omega))) fun z17 hz17=>yP 1 (l:=(((((bs++(([97,108,108,32]:List UInt8)++e.word.data.toList))++(([32,98,121,32]:List UInt8)++(Go.Lib.join (e.by_.l.map (·.data.toList)) ([44]:List UInt8))))++([32,40]:List UInt8))++Lg.txt s7.e 0)++([41]:List UInt8))) rfl fun A18 cp18 hv18 hc33 hm33 hA33=>?_
  subst hv18
  refine (go 2) ?_
  refine yo (.inr rfl) results63 fun w1 hM=>?_
  have hl9:(((((bs++(([97,108,108,32]:List UInt8)++e.word.data.toList))++(([32,98,121,32]:List UInt8)++(Go.Lib.join (e.by_.l.map (·.data.toList)) ([44]:List UInt8))))++([32,40]:List UInt8))++Lg.txt s7.e 0)++([41]:List UInt8))=(bs++Lg.txt e.e least):=by rw [Lg.txt_all (show e.kind=3 by omega) hs7,← Lg.bys_join hjne]; simp
  rw [hl9] at hM
  exact hM.yR (.slice A18 ((bs++Lg.txt e.e least).length) cp18) rfl trivial (fun h=>h.sel [0,1,9,10,4] qD rfl)
 refine (go 7) ?_
 refine zg (α:=Value) [.blk b [.pointer (some ⟨b,0,none⟩),.slice A14 ((bs++(([97,108,108,32]:List UInt8)++e.word.data.toList)).length) cp14] 136,Row (.slice A14 ((bs++(([97,108,108,32]:List UInt8)++e.word.data.toList)).length) cp14) 5 1 byteE (bs++(([97,108,108,32]:List UInt8)++e.word.data.toList))] [celP ead [iV e.kind,iV e.n,iV e.range,.string e.word,.slice e.ms.A e.ms.l.length e.ms.c,.slice e.by_.A e.by_.l.length e.by_.c,.slice e.kids.A e.kids.l.length e.kids.c],okP zB.Ok e,.pub Tab] (fun _=>.tuple #[iV ((⟨#[32,40]⟩:ByteArray).size:Int),.nilIface]) (fun z18=>True) (fun z18=>[.blk b [.pointer (some ⟨b,0,none⟩),z18] 136,Row z18 5 1 byteE ((bs++(([97,108,108,32]:List UInt8)++e.word.data.toList))++([32,40]:List UInt8))]) _ (fun _=>rfl) (S9 [0,1,2,3,4]) (fun _=>rfl) wn rfl rfl call106 rfl (fun w1 Pb hG=>uZ b (.pointer (some ⟨b,0,none⟩)) (.slice A14 ((bs++(([97,108,108,32]:List UInt8)++e.word.data.toList)).length) cp14) (bs++(([97,108,108,32]:List UInt8)++e.word.data.toList)) ⟨#[32,40]⟩ ([32,40]:List UInt8) Pb w1 hG (.inr rfl) (by first | rfl | (simp only [bl_app,bl_mk]; done) | (simp only [bl_app,bl_mk]; rfl)) (by first | omega | (simp only [qL]; omega))) fun z18 hz18=>yP 1 (l:=((bs++(([97,108,108,32]:List UInt8)++e.word.data.toList))++([32,40]:List UInt8))) rfl fun A19 cp19 hv19 hc34 hm34 hA34=>?_
 subst hv19
 refine (go 9) ?_
 refine zc (fun _ h=>h.exprX 3 rfl) ?_
 obtain ⟨hc35,hm35,hA35⟩:=hwe.ms
 obtain ⟨hc36,hm36,hA36⟩:=hwe.by_
 obtain ⟨hc37,hm37,hA37⟩:=hwe.kids
 obtain ⟨ad6,s8,hd6,hs8⟩:=elx hA37 0
 refine (go 1) ?_
 have hnd:=Lg.nodes_all hkl hs8
 have hp0:=Mn.nodes_pos s8.e
 have htl:=Lg.txt_len s8.e 0 (hf9 _ (List.mem_of_getElem? hs8))
 refine zc (fun _ h=>h.celAt 2 rfl hd6 hs8) ?_
 have hw6:=hwe.all _ (List.mem_of_getElem? hs8)
 refine zc (fun _ h=>h.one 4 zB.Ok.loc rfl hs8) (zg (α:=Value) [.blk b [.pointer (some ⟨b,0,none⟩),.slice A19 (((bs++(([97,108,108,32]:List UInt8)++e.word.data.toList))++([32,40]:List UInt8)).length) cp19] 136,Row (.slice A19 (((bs++(([97,108,108,32]:List UInt8)++e.word.data.toList))++([32,40]:List UInt8)).length) cp19) 5 1 byteE ((bs++(([97,108,108,32]:List UInt8)++e.word.data.toList))++([32,40]:List UInt8)),celP (Addr.add ad6 (0 * 7)) [iV s8.kind,iV s8.n,iV s8.range,.string s8.word,.slice s8.ms.A s8.ms.l.length s8.ms.c,.slice s8.by_.A s8.by_.l.length s8.by_.c,.slice s8.kids.A s8.kids.l.length s8.kids.c],okP zB.Ok s8,.pub Tab] [slP 3 zl (.slice e.ms.A e.ms.l.length e.ms.c) e.ms.l,slP 1 strE (.slice e.by_.A e.by_.l.length e.by_.c) e.by_.l,slP 7 zk (.slice e.kids.A e.kids.l.length e.kids.c) e.kids.l,allP zB.Ok e.kids.l,celP ead [iV e.kind,iV e.n,iV e.range,.string e.word,.slice e.ms.A e.ms.l.length e.ms.c,.slice e.by_.A e.by_.l.length e.by_.c,.slice e.kids.A e.kids.l.length e.kids.c],okP zB.Ok e] (fun _=>.tuple #[]) (fun z19=>True) (fun z19=>[.blk b [.pointer (some ⟨b,0,none⟩),z19] 136,Row z19 5 1 byteE (((bs++(([97,108,108,32]:List UInt8)++e.word.data.toList))++([32,40]:List UInt8))++Lg.txt s8.e 0),celP (Addr.add ad6 (0 * 7)) [iV s8.kind,iV s8.n,iV s8.range,.string s8.word,.slice s8.ms.A s8.ms.l.length s8.ms.c,.slice s8.by_.A s8.by_.l.length s8.by_.c,.slice s8.kids.A s8.kids.l.length s8.kids.c],okP zB.Ok s8,.pub Tab]) _ (fun _=>rfl) (S9 [6,7,1,0,10,2,3,4,5,8,9]) (fun _=>rfl) wn rfl rfl call63 rfl (fun w1 Pb hG=>ih s8 (zB.kid_lt (List.mem_of_getElem? hs8)) b (.pointer (some ⟨b,0,none⟩)) (.slice A19 (((bs++(([97,108,108,32]:List UInt8)++e.word.data.toList))++([32,40]:List UInt8)).length) cp19) ((bs++(([97,108,108,32]:List UInt8)++e.word.data.toList))++([32,40]:List UInt8)) (Addr.add ad6 (0 * 7)) 0 Pb w1 hG (.inr rfl) (hf9 _ (List.mem_of_getElem? hs8)) qO (by first | omega | (simp only [qL]; omega))) fun z19 hz19=>yP 1 (l:=(((bs++(([97,108,108,32]:List UInt8)++e.word.data.toList))++([32,40]:List UInt8))++Lg.txt s8.e 0)) rfl fun A20 cp20 hv20 hc38 hm38 hA38=>?_)
 subst hv20
 refine (go 6) ?_
 refine zg (α:=Value) [.blk b [.pointer (some ⟨b,0,none⟩),.slice A20 ((((bs++(([97,108,108,32]:List UInt8)++e.word.data.toList))++([32,40]:List UInt8))++Lg.txt s8.e 0).length) cp20] 136,Row (.slice A20 ((((bs++(([97,108,108,32]:List UInt8)++e.word.data.toList))++([32,40]:List UInt8))++Lg.txt s8.e 0).length) cp20) 5 1 byteE (((bs++(([97,108,108,32]:List UInt8)++e.word.data.toList))++([32,40]:List UInt8))++Lg.txt s8.e 0)] [celP (Addr.add ad6 (0 * 7)) [iV s8.kind,iV s8.n,iV s8.range,.string s8.word,.slice s8.ms.A s8.ms.l.length s8.ms.c,.slice s8.by_.A s8.by_.l.length s8.by_.c,.slice s8.kids.A s8.kids.l.length s8.kids.c],okP zB.Ok s8,.pub Tab,slP 3 zl (.slice e.ms.A e.ms.l.length e.ms.c) e.ms.l,slP 1 strE (.slice e.by_.A e.by_.l.length e.by_.c) e.by_.l,slP 7 zk (.slice e.kids.A e.kids.l.length e.kids.c) e.kids.l,allP zB.Ok e.kids.l,celP ead [iV e.kind,iV e.n,iV e.range,.string e.word,.slice e.ms.A e.ms.l.length e.ms.c,.slice e.by_.A e.by_.l.length e.by_.c,.slice e.kids.A e.kids.l.length e.kids.c],okP zB.Ok e] (fun _=>.nilIface) (fun z20=>True) (fun z20=>[.blk b [.pointer (some ⟨b,0,none⟩),z20] 136,Row z20 5 1 byteE ((((bs++(([97,108,108,32]:List UInt8)++e.word.data.toList))++([32,40]:List UInt8))++Lg.txt s8.e 0)++([41]:List UInt8))]) _ (fun _=>rfl) (S9 [0,1,2,3,4,5,6,7,8,9,10]) (fun _=>rfl) wn rfl rfl call105 rfl (fun w1 Pb hG=>jU b (.pointer (some ⟨b,0,none⟩)) (.slice A20 ((((bs++(([97,108,108,32]:List UInt8)++e.word.data.toList))++([32,40]:List UInt8))++Lg.txt s8.e 0).length) cp20) (((bs++(([97,108,108,32]:List UInt8)++e.word.data.toList))++([32,40]:List UInt8))++Lg.txt s8.e 0) 41 41 Pb w1 hG (.inr rfl) (by first | rfl | decide) (by first | omega | (simp only [qL]; omega))) fun z20 hz20=>yP 1 (l:=((((bs++(([97,108,108,32]:List UInt8)++e.word.data.toList))++([32,40]:List UInt8))++Lg.txt s8.e 0)++([41]:List UInt8))) rfl fun A21 cp21 hv21 hc39 hm39 hA39=>?_
 subst hv21
 refine (go 2) ?_
 refine yo (.inr rfl) results63 fun w1 hM=>?_
 have hl9:((((bs++(([97,108,108,32]:List UInt8)++e.word.data.toList))++([32,40]:List UInt8))++Lg.txt s8.e 0)++([41]:List UInt8))=(bs++Lg.txt e.e least):=by rw [Lg.txt_all (show e.kind=3 by omega) hs8,show e.by_.l=[] from List.eq_nil_of_length_eq_zero qO]; simp [Lg.bys]
 rw [hl9] at hM
 exact hM.yR (.slice A21 ((bs++Lg.txt e.e least).length) cp21) rfl trivial (fun h=>h.sel [0,1,9,10,4] qD rfl)
set_option maxHeartbeats 2000000 in
theorem c_at_par (b:Nat) (p:Value) (v:Value) (bs:List UInt8) (ead:Addr) (e:zB) (least:Int) (Pb:Nat→Prop) (w:World) (hG:Mem w ⟨fpOf [.blk b [p,v] 136,Row v 5 1 byteE bs,celP ead [iV e.kind,iV e.n,iV e.range,.string e.word,.slice e.ms.A e.ms.l.length e.ms.c,.slice e.by_.A e.by_.l.length e.by_.c,.slice e.kids.A e.kids.l.length e.kids.c],okP zB.Ok e,.pub Tab],Pb⟩ [.blk b [p,v] 136,Row v 5 1 byteE bs,celP ead [iV e.kind,iV e.n,iV e.range,.string e.word,.slice e.ms.A e.ms.l.length e.ms.c,.slice e.by_.A e.by_.l.length e.by_.c,.slice e.kids.A e.kids.l.length e.kids.c],okP zB.Ok e,.pub Tab] w) (hp:p=.pointer none∨p=.pointer (some ⟨b,0,none⟩)) (hfine:Mn.fineE e.e) (hl:0≤least∧least≤2) (hbl:(bs.length:Int) + 250 * Mn.nodes e.e≤1000000) (hlv:e.kind=4∧Lg.lv e.word < least) (ih:∀ k:zB,SizeOf.sizeOf k < SizeOf.sizeOf e→ur k) :
    Calls prog 63 #[.pointer (some ⟨b,0,none⟩),.pointer (some ((Addr.add ead 0).add 0)),iV least] w (RetA w [.blk b [p,v] 136,Row v 5 1 byteE bs,celP ead [iV e.kind,iV e.n,iV e.range,.string e.word,.slice e.ms.A e.ms.l.length e.ms.c,.slice e.by_.A e.by_.l.length e.by_.c,.slice e.kids.A e.kids.l.length e.kids.c],okP zB.Ok e,.pub Tab] Pb (fun _:Value=>.tuple #[]) (fun _=>True) (fun z=>[.blk b [.pointer (some ⟨b,0,none⟩),z] 136,Row z 5 1 byteE (bs++Lg.txt e.e least),celP ead [iV e.kind,iV e.n,iV e.range,.string e.word,.slice e.ms.A e.ms.l.length e.ms.c,.slice e.by_.A e.by_.l.length e.by_.c,.slice e.kids.A e.kids.l.length e.kids.c],okP zB.Ok e,.pub Tab])):=by
 obtain ⟨rA,rc,rfl,hrc,hrm,hrA⟩:=row_form' (hG.row (i:=1) rfl)
 have htn:=Mn.nodes_pos e.e
 have hwe:=(hG.yS (i:=3) rfl).wf
 obtain ⟨hk9,ha9,ho9,hf9⟩:=Lg.fine_x hfine
 have htl:=Lg.txt_len e.e 0 hfine
 have hbl0:=hbl
 refine zq (N:=161) (vals:=[.pointer (some ⟨b,0,none⟩),.pointer (some ((Addr.add ead 0).add 0)),iV least]) func63 hG ?_
 refine (go 15) ?_
 refine yx rfl (decide_eq_true hlv.1) ?_
 refine (go 14) (zW (fun h1=>?_) fun h1=>?_)
 ·refine (go 12) ?_
  refine yx rfl (decide_eq_true (by have h9:=hlv.2; unfold Lg.lv at h9; rw [if_pos h1] at h9; exact h9)) ?_
  refine (go 5) ?_
  refine zg (α:=Value) [.blk b [p,.slice rA bs.length rc] 136,Row (.slice rA bs.length rc) 5 1 byteE bs] [celP ead [iV e.kind,iV e.n,iV e.range,.string e.word,.slice e.ms.A e.ms.l.length e.ms.c,.slice e.by_.A e.by_.l.length e.by_.c,.slice e.kids.A e.kids.l.length e.kids.c],okP zB.Ok e,.pub Tab] (fun _=>.nilIface) (fun z1=>True) (fun z1=>[.blk b [.pointer (some ⟨b,0,none⟩),z1] 136,Row z1 5 1 byteE (bs++([40]:List UInt8))]) _ (fun _=>rfl) (S9 [0,1,2,3,4]) (fun _=>rfl) wn rfl rfl call105 rfl (fun w1 Pb hG=>jU b p (.slice rA bs.length rc) bs 40 40 Pb w1 hG hp (by first | rfl | decide) (by first | omega | (simp only [qL]; omega))) fun z1 hz1=>yP 1 (l:=(bs++([40]:List UInt8))) rfl fun A1 cp1 hv1 hc1 hm1 hA1=>?_
  subst hv1
  refine (go 6) ?_
  refine zg (α:=Value) [.blk b [.pointer (some ⟨b,0,none⟩),.slice A1 ((bs++([40]:List UInt8)).length) cp1] 136,Row (.slice A1 ((bs++([40]:List UInt8)).length) cp1) 5 1 byteE (bs++([40]:List UInt8)),celP ead [iV e.kind,iV e.n,iV e.range,.string e.word,.slice e.ms.A e.ms.l.length e.ms.c,.slice e.by_.A e.by_.l.length e.by_.c,.slice e.kids.A e.kids.l.length e.kids.c],okP zB.Ok e,.pub Tab] [] (fun _=>.tuple #[]) (fun z2=>True) (fun z2=>[.blk b [.pointer (some ⟨b,0,none⟩),z2] 136,Row z2 5 1 byteE ((bs++([40]:List UInt8))++Lg.txt e.e 0),celP ead [iV e.kind,iV e.n,iV e.range,.string e.word,.slice e.ms.A e.ms.l.length e.ms.c,.slice e.by_.A e.by_.l.length e.by_.c,.slice e.kids.A e.kids.l.length e.kids.c],okP zB.Ok e,.pub Tab]) _ (fun _=>rfl) (S9 [0,1,2,3,4]) (fun _=>rfl) wn rfl rfl call63 rfl (fun w1 Pb hG=>ua b (.pointer (some ⟨b,0,none⟩)) (.slice A1 ((bs++([40]:List UInt8)).length) cp1) (bs++([40]:List UInt8)) ead e 0 Pb w1 hG (.inr rfl) hfine qO (by first | omega | (simp only [qL]; omega)) (fun h=>absurd h.2 (Lg.lv_pos e.word)) ih) fun z2 hz2=>yP 1 (l:=((bs++([40]:List UInt8))++Lg.txt e.e 0)) rfl fun A2 cp2 hv2 hc2 hm2 hA2=>?_
  subst hv2
  refine (go 7) ?_
  refine zg (α:=Value) [.blk b [.pointer (some ⟨b,0,none⟩),.slice A2 (((bs++([40]:List UInt8))++Lg.txt e.e 0).length) cp2] 136,Row (.slice A2 (((bs++([40]:List UInt8))++Lg.txt e.e 0).length) cp2) 5 1 byteE ((bs++([40]:List UInt8))++Lg.txt e.e 0)] [celP ead [iV e.kind,iV e.n,iV e.range,.string e.word,.slice e.ms.A e.ms.l.length e.ms.c,.slice e.by_.A e.by_.l.length e.by_.c,.slice e.kids.A e.kids.l.length e.kids.c],okP zB.Ok e,.pub Tab] (fun _=>.nilIface) (fun z3=>True) (fun z3=>[.blk b [.pointer (some ⟨b,0,none⟩),z3] 136,Row z3 5 1 byteE (((bs++([40]:List UInt8))++Lg.txt e.e 0)++([41]:List UInt8))]) _ (fun _=>rfl) (S9 [0,1,2,3,4]) (fun _=>rfl) wn rfl rfl call105 rfl (fun w1 Pb hG=>jU b (.pointer (some ⟨b,0,none⟩)) (.slice A2 (((bs++([40]:List UInt8))++Lg.txt e.e 0).length) cp2) ((bs++([40]:List UInt8))++Lg.txt e.e 0) 41 41 Pb w1 hG (.inr rfl) (by first | rfl | decide) (by first | omega | (simp only [qL]; omega))) fun z3 hz3=>yP 1 (l:=(((bs++([40]:List UInt8))++Lg.txt e.e 0)++([41]:List UInt8))) rfl fun A3 cp3 hv3 hc3 hm3 hA3=>?_
  subst hv3
  refine (go 4) ?_
  refine yo (.inl rfl) results63 fun w1 hM=>?_
  have hl9:(((bs++([40]:List UInt8))++Lg.txt e.e 0)++([41]:List UInt8))=(bs++Lg.txt e.e least):=by rw [Lg.txt_par hlv.1 hlv.2]; simp
  rw [hl9] at hM
  exact hM.yR (.slice A3 ((bs++Lg.txt e.e least).length) cp3) rfl trivial (fun h=>h.sel [0,1,2,3,4] qD rfl)
 refine (go 10) ?_
 refine yx rfl (decide_eq_true (by have h9:=hlv.2; unfold Lg.lv at h9; rw [if_neg h1] at h9; exact h9)) ?_
 refine (go 5) ?_
 refine zg (α:=Value) [.blk b [p,.slice rA bs.length rc] 136,Row (.slice rA bs.length rc) 5 1 byteE bs] [celP ead [iV e.kind,iV e.n,iV e.range,.string e.word,.slice e.ms.A e.ms.l.length e.ms.c,.slice e.by_.A e.by_.l.length e.by_.c,.slice e.kids.A e.kids.l.length e.kids.c],okP zB.Ok e,.pub Tab] (fun _=>.nilIface) (fun z4=>True) (fun z4=>[.blk b [.pointer (some ⟨b,0,none⟩),z4] 136,Row z4 5 1 byteE (bs++([40]:List UInt8))]) _ (fun _=>rfl) (S9 [0,1,2,3,4]) (fun _=>rfl) wn rfl rfl call105 rfl (fun w1 Pb hG=>jU b p (.slice rA bs.length rc) bs 40 40 Pb w1 hG hp (by first | rfl | decide) (by first | omega | (simp only [qL]; omega))) fun z4 hz4=>yP 1 (l:=(bs++([40]:List UInt8))) rfl fun A4 cp4 hv4 hc4 hm4 hA4=>?_
 subst hv4
 refine (go 6) ?_
 refine zg (α:=Value) [.blk b [.pointer (some ⟨b,0,none⟩),.slice A4 ((bs++([40]:List UInt8)).length) cp4] 136,Row (.slice A4 ((bs++([40]:List UInt8)).length) cp4) 5 1 byteE (bs++([40]:List UInt8)),celP ead [iV e.kind,iV e.n,iV e.range,.string e.word,.slice e.ms.A e.ms.l.length e.ms.c,.slice e.by_.A e.by_.l.length e.by_.c,.slice e.kids.A e.kids.l.length e.kids.c],okP zB.Ok e,.pub Tab] [] (fun _=>.tuple #[]) (fun z5=>True) (fun z5=>[.blk b [.pointer (some ⟨b,0,none⟩),z5] 136,Row z5 5 1 byteE ((bs++([40]:List UInt8))++Lg.txt e.e 0),celP ead [iV e.kind,iV e.n,iV e.range,.string e.word,.slice e.ms.A e.ms.l.length e.ms.c,.slice e.by_.A e.by_.l.length e.by_.c,.slice e.kids.A e.kids.l.length e.kids.c],okP zB.Ok e,.pub Tab]) _ (fun _=>rfl) (S9 [0,1,2,3,4]) (fun _=>rfl) wn rfl rfl call63 rfl (fun w1 Pb hG=>ua b (.pointer (some ⟨b,0,none⟩)) (.slice A4 ((bs++([40]:List UInt8)).length) cp4) (bs++([40]:List UInt8)) ead e 0 Pb w1 hG (.inr rfl) hfine qO (by first | omega | (simp only [qL]; omega)) (fun h=>absurd h.2 (Lg.lv_pos e.word)) ih) fun z5 hz5=>yP 1 (l:=((bs++([40]:List UInt8))++Lg.txt e.e 0)) rfl fun A5 cp5 hv5 hc5 hm5 hA5=>?_
 subst hv5
 refine (go 7) ?_
 refine zg (α:=Value) [.blk b [.pointer (some ⟨b,0,none⟩),.slice A5 (((bs++([40]:List UInt8))++Lg.txt e.e 0).length) cp5] 136,Row (.slice A5 (((bs++([40]:List UInt8))++Lg.txt e.e 0).length) cp5) 5 1 byteE ((bs++([40]:List UInt8))++Lg.txt e.e 0)] [celP ead [iV e.kind,iV e.n,iV e.range,.string e.word,.slice e.ms.A e.ms.l.length e.ms.c,.slice e.by_.A e.by_.l.length e.by_.c,.slice e.kids.A e.kids.l.length e.kids.c],okP zB.Ok e,.pub Tab] (fun _=>.nilIface) (fun z6=>True) (fun z6=>[.blk b [.pointer (some ⟨b,0,none⟩),z6] 136,Row z6 5 1 byteE (((bs++([40]:List UInt8))++Lg.txt e.e 0)++([41]:List UInt8))]) _ (fun _=>rfl) (S9 [0,1,2,3,4]) (fun _=>rfl) wn rfl rfl call105 rfl (fun w1 Pb hG=>jU b (.pointer (some ⟨b,0,none⟩)) (.slice A5 (((bs++([40]:List UInt8))++Lg.txt e.e 0).length) cp5) ((bs++([40]:List UInt8))++Lg.txt e.e 0) 41 41 Pb w1 hG (.inr rfl) (by first | rfl | decide) (by first | omega | (simp only [qL]; omega))) fun z6 hz6=>yP 1 (l:=(((bs++([40]:List UInt8))++Lg.txt e.e 0)++([41]:List UInt8))) rfl fun A6 cp6 hv6 hc6 hm6 hA6=>?_
 subst hv6
 refine (go 4) ?_
 refine yo (.inl rfl) results63 fun w1 hM=>?_
 have hl9:(((bs++([40]:List UInt8))++Lg.txt e.e 0)++([41]:List UInt8))=(bs++Lg.txt e.e least):=by rw [Lg.txt_par hlv.1 hlv.2]; simp
 rw [hl9] at hM
 exact hM.yR (.slice A6 ((bs++Lg.txt e.e least).length) cp6) rfl trivial (fun h=>h.sel [0,1,2,3,4] qD rfl)
theorem c_at_step (e:zB) (ih:∀ k:zB,SizeOf.sizeOf k < SizeOf.sizeOf e→ur k):ur e:=by
  intro b p v bs ead least Pb w hG hp hfine hl hbl
  by_cases hlv:e.kind=4∧Lg.lv e.word < least
  · exact c_at_par b p v bs ead e least Pb w hG hp hfine hl hbl hlv ih
  · exact ua b p v bs ead e least Pb w hG hp hfine hl qO hlv ih
theorem c_at (e:zB):ur e:=recX c_at_step e
set_option maxHeartbeats 1000000 in
theorem c_print (e:zB) (P0:Nat→Prop) (w:World) (hP0:∀ b,P0 b→b < w.heap.size) (he:zB.Ok P0 e w) (hT:Tab P0 w)  :
    Calls prog 34 #[.agg (zk e).toArray] w (Ret w (.tuple #[.string ⟨(Lg.print e.e).1.toArray⟩,iV (Lg.print e.e).2])):=by
 have hwe:=he.wf
 refine zq (N:=24) func34 (Mem.ofDatsP hP0 (dc (dp (zB.Ok.loc _) he) (dc (dp Tab.loc hT) dn))) ?_
 refine (go 2) (yu fun b1=>?_)
 refine (go 8) ?_
 refine yF call62 wn rfl (fun w1 hM=>c_langWrong e (In w1) w1 (fun _ h=>h) (hM.yS (i:=1) rfl)) ?_
 refine (go 9) (zW (fun h1=>?_) fun h1=>?_)
 ·refine (go 9) (yL results34 fun w1 hM=>?_)
  exact zP (by rw [Lg.print,if_pos h1]) hM
 refine (go 5) (yu fun b12=>?_)
 refine (go 5) ?_
 obtain ⟨hfine,hnodes⟩:=Lg.right_of_wrong (Classical.not_not.1 h1)
 have htl:=Lg.txt_len e.e 0 hfine
 have hbs0:(([]:List UInt8).length:Int)=0:=rfl
 refine (go 1) ?_
 refine yD byteE 5 1 (jA 2 rfl rfl (zg (α:=Value) [.blk b12 [.pointer none,Zs] 136,Row (Zs) 5 1 byteE ([]:List UInt8),celP ⟨b1,0,none⟩ [iV e.kind,iV e.n,iV e.range,.string e.word,.slice e.ms.A e.ms.l.length e.ms.c,.slice e.by_.A e.by_.l.length e.by_.c,.slice e.kids.A e.kids.l.length e.kids.c],okP zB.Ok e,.pub Tab] [] (fun _=>.tuple #[]) (fun z1=>True) (fun z1=>[.blk b12 [.pointer (some ⟨b12,0,none⟩),z1] 136,Row z1 5 1 byteE (([]:List UInt8)++Lg.txt e.e 0),celP ⟨b1,0,none⟩ [iV e.kind,iV e.n,iV e.range,.string e.word,.slice e.ms.A e.ms.l.length e.ms.c,.slice e.by_.A e.by_.l.length e.by_.c,.slice e.kids.A e.kids.l.length e.kids.c],okP zB.Ok e,.pub Tab]) _ (fun _=>rfl) (S9 [1,0,2,3,4]) (fun _=>rfl) wn rfl rfl call63 rfl (fun w1 Pb hG=>c_at e b12 (.pointer none) (Zs) ([]:List UInt8) ⟨b1,0,none⟩ 0 Pb w1 hG (.inl rfl) hfine qO (by first | omega | (simp only [qL]; omega))) fun z1 hz1=>yP 1 (l:=(([]:List UInt8)++Lg.txt e.e 0)) rfl fun A1 cp1 hv1 hc1 hm1 hA1=>?_))
 subst hv1
 refine (go 8) ?_
 refine zg (α:=Unit) [.blk b12 [.pointer (some ⟨b12,0,none⟩),.slice A1 ((([]:List UInt8)++Lg.txt e.e 0).length) cp1] 136,Row (.slice A1 ((([]:List UInt8)++Lg.txt e.e 0).length) cp1) 5 1 byteE (([]:List UInt8)++Lg.txt e.e 0)] [celP ⟨b1,0,none⟩ [iV e.kind,iV e.n,iV e.range,.string e.word,.slice e.ms.A e.ms.l.length e.ms.c,.slice e.by_.A e.by_.l.length e.by_.c,.slice e.kids.A e.kids.l.length e.kids.c],okP zB.Ok e,.pub Tab] (fun _=>iV ((([]:List UInt8)++Lg.txt e.e 0).length:Int)) (fun z2=>True) (fun z2=>[.blk b12 [.pointer (some ⟨b12,0,none⟩),.slice A1 ((([]:List UInt8)++Lg.txt e.e 0).length) cp1] 136,Row (.slice A1 ((([]:List UInt8)++Lg.txt e.e 0).length) cp1) 5 1 byteE (([]:List UInt8)++Lg.txt e.e 0)]) _ (fun _=>rfl) (S9 [0,1,2,3,4]) (fun _=>rfl) wn rfl rfl call64 rfl (fun w1 Pb hG=>c_blen b12 (.pointer (some ⟨b12,0,none⟩)) (.slice A1 ((([]:List UInt8)++Lg.txt e.e 0).length) cp1) (([]:List UInt8)++Lg.txt e.e 0) Pb w1 hG) fun z2 hz2=>?_
 refine (go 3) (zW (fun h2=>?_) fun h2=>?_)
 ·refine (go 8) (yL results34 fun w1 hM=>?_)
  exact zP (by rw [Lg.print,if_neg h1,if_pos (by have h9:=h2; simp only [List.nil_append] at h9; omega)]) hM
 refine (go 7) ?_
 refine zg (α:=Unit) [.blk b12 [.pointer (some ⟨b12,0,none⟩),.slice A1 ((([]:List UInt8)++Lg.txt e.e 0).length) cp1] 136,Row (.slice A1 ((([]:List UInt8)++Lg.txt e.e 0).length) cp1) 5 1 byteE (([]:List UInt8)++Lg.txt e.e 0)] [celP ⟨b1,0,none⟩ [iV e.kind,iV e.n,iV e.range,.string e.word,.slice e.ms.A e.ms.l.length e.ms.c,.slice e.by_.A e.by_.l.length e.by_.c,.slice e.kids.A e.kids.l.length e.kids.c],okP zB.Ok e,.pub Tab] (fun _=>.string ⟨(([]:List UInt8)++Lg.txt e.e 0).toArray⟩) (fun z3=>True) (fun z3=>[.blk b12 [.pointer (some ⟨b12,0,none⟩),.slice A1 ((([]:List UInt8)++Lg.txt e.e 0).length) cp1] 136]) _ (fun _=>rfl) (S9 [0,1,2,3,4]) (fun _=>rfl) wn rfl rfl call65 rfl (fun w1 Pb hG=>c_bstr b12 (.pointer (some ⟨b12,0,none⟩)) (.slice A1 ((([]:List UInt8)++Lg.txt e.e 0).length) cp1) (([]:List UInt8)++Lg.txt e.e 0) Pb w1 hG (by simpa using Lg.txt_ne e.e 0 hfine)) fun z3 hz3=>?_
 refine (go 5) (yL results34 fun w1 hM=>?_)
 exact zP (by rw [Lg.print,if_neg h1,if_neg (by have h9:=h2; simp only [List.nil_append] at h9; omega)]; rfl) hM
end
section
namespace Ex
section
variable {P:Program} {N:Nat} {D:List Deferred} {E:Env} {Q:Exit→Act→World→Prop} {w0 w w':World} {M:Fp} {L:List Own} {P0:Nat→Prop}
  {ops:Array Oper} {rest:List Oper} {d:Nat} {ty:TypeId} {pos:String} {aft:Array Edge} {g:Option (Nat × Bool)} {v:Value}
theorem fp_nil:fpOf []=no:=by
  funext b
  unfold fpOf
  simp [no]
theorem Mem.retR {α:Type} {mk:α→Value} {pure:α→Prop} {A':α→List Own} (h:Mem w ⟨no,P0⟩ L w') (z:α) (hv:v=mk z) (hz:pure z) (hs:Mem w ⟨no,P0⟩ L w'→Mem w ⟨no,P0⟩ (A' z) w'):RetA w [] P0 mk pure A' (.returned v) w':=⟨z,by rw [hv],hz,by rw [fp_nil]; exact hs h⟩
theorem l_callRA {α:Type} {f:Nat} {args:Array Operand} {ts:Array TypeId} {vs:List Value} (mk:α→Value) (pure:α→Prop) (A':α→List Own) (hq:∀ z,(A' z).all (fun o=>o.mut || o.isPub)=true)
    (hw:Want N D ops E g true) (hargs:evs E args.toList=some vs)
    (hcall:∀ vs w,(callFunc f vs).run P w=.ok (.enter f vs) w) (hd:Nat.blt d N=true)
    (hc:∀ w Pb,Mem w0 M L w→Pubs w0 M L w Pb→Calls P f vs.toArray w (RetA w [] Pb mk pure A'))
    (h:∀ z,pure z→WL P N D ops Q rest ((d,mk z)::E) (Mem w0 M (A' z++L))) :
    WL P N D ops Q (⟨some d,.call { callee:=.value (.func f),args:=args,argTypes:=ts },ty,pos,aft,g⟩::rest) E (Mem w0 M L) :=
  ug (Φ:=fun v w'=>∃ z,v=mk z∧pure z∧Mem w0 M (A' z++L) w') hw hargs hcall hd (fun w hS=>by
    obtain ⟨Pb,pp⟩:=hS.pb
    exact (hc w Pb hS pp).mono fun e w' ⟨z,he,hz,hk⟩=>⟨mk z,he,z,rfl,hz,Mem.take (A:=[]) hS pp hk (hq z)⟩) fun v w hw a ha=>by obtain ⟨z,rfl,hz,hm⟩:=hw; exact h z hz w hm a ha
theorem l_rowz {α:Type} {enc:α→List Value} {e k:Nat} {z:SlX α} (i:Nat) (hL:L[i]?=some (Row (.slice z.A z.l.length z.c) e k enc z.l)) (h:Wf z→WL P N D ops Q rest E (Mem w0 M L)):WL P N D ops Q rest E (Mem w0 M L):=fun w hS=>h (row_wf (hS.row hL)) w hS
end
end Ex
end
section
namespace Ex
set_option linter.unusedVariables false
section
variable {w0 w:World} {M:Fp} {L:List Own} {α:Type} {ok:(Nat→Prop)→α→World→Prop}
theorem Mem.allApp {l l':List α} (h:Mem w0 M L w) (q q2:Nat) (hl:∀ x,Loc (fun S=>ok S x)) (hi:L[q]?=some (allP ok l)) (hi2:L[q2]?=some (allP ok l')):Mem w0 M (allP ok (l++l')::L) w :=
  h.yX (all_loc hl _) fun Pb pp x hx=>(List.mem_append.1 hx).elim (pp.at_ q _ hi x) (pp.at_ q2 _ hi2 x)
theorem litX_ok (k n r:Int) {wd:ByteArray} (hw:wd.size≤9223372036854775807) (S:Nat→Prop) (w:World):zB.Ok S (zB.mk k n r wd ⟨none,0,[]⟩ ⟨none,0,[]⟩ ⟨none,0,[]⟩) w :=
  .mk (zD.zu _ _ _ _) (zD.zu _ _ _ _) (zD.zu _ _ _ _) (fun k hk=>(by cases hk)) ⟨hw,fun x hx=>(by cases hx),fun x hx=>(by cases hx)⟩
end
end Ex
end
section
namespace Bs
open Ex Sh
set_option linter.unusedVariables false
def hostL (h:ByteArray):List Label:=[⟨⟨#[104,111,115,116]⟩,h⟩]
def addD (h:ByteArray) (t v:Int):Do:=⟨1,0,0,hostL h,⟨t,v⟩,⟨#[]⟩⟩
def askD (s:ByteArray) (t:Int):Do:=⟨4,0,t,[],⟨0,0⟩,s⟩
def rollD (t:Int):Do:=⟨2,0,t,[],⟨0,0⟩,⟨#[]⟩⟩
def aB:ByteArray:=⟨#[97]⟩
def last (l:List Do):Ans:=if (play l).2.2≠0 then no 1 else match (play l).2.1.getLast? with | none=>no 1 | some x=>x
def sumT:ByteArray:=⟨#[115,117,109,40,123,125,91,54,48,93,41]⟩
def topL:List Do:=[addD aB 5 7,rollD 60,askD sumT 60]
theorem alive_top:(last topL).err=0∧(last topL).cells.map (·.value)=[7]:=by decide +kernel
section
variable {z:yB × SlX zn} {l:List Do} {s:zn}
theorem last_of (hz:(z.1.e,z.2.l.map zn.e)=((play l).1,(play l).2.1)) (h0:¬ (play l).2.2≠0) (hs:z.2.l[z.2.l.length - 1]?=some s):s.e=last l:=by
  have h2:(play l).2.1=z.2.l.map zn.e:=(congrArg Prod.snd hz).symm
  unfold last
  rw [if_neg h0,h2,List.getLast?_map,List.getLast?_eq_getElem?,hs]; rfl
theorem last_no (hz:(z.1.e,z.2.l.map zn.e)=((play l).1,(play l).2.1)) (h0:(play l).2.2≠0∨(z.2.l.length:Int)=0):(noX 1).e=last l:=by
  have h2:(play l).2.1=z.2.l.map zn.e:=(congrArg Prod.snd hz).symm
  unfold last
  by_cases h1:(play l).2.2≠0
  · rw [if_pos h1]; rfl
  · have h3:z.2.l=[]:=List.eq_nil_of_length_eq_zero (by have:=h0.resolve_left h1; omega)
    rw [if_neg h1,h2,h3]; rfl
end
theorem alive_x {z:zn} (h:z.e=last topL):z.err=0∧z.cells.l.map (fun c=>c.value)=[7]:=by
  have h1:=alive_top.1; have h2:=alive_top.2
  rw [← h] at h1 h2
  refine ⟨h1,?_⟩
  have:z.e.cells.map (·.value)=z.cells.l.map (fun c=>c.value):=by show (z.cells.l.map zG.e).map _=_; rw [List.map_map]; rfl
  rw [← this]; exact h2
theorem val_x {l:List zG} {c:zG} (h:l.map (fun c=>c.value)=[7]) (hs:l[0]?=some c):c.value=7:=by
  have:=congrArg (·[0]?) h
  simp only [List.getElem?_map,hs,Option.map_some] at this
  simpa using this
theorem radd_len (l:List Bucket) (t st:Int) (s:Sum):(Roll.add l t st s).length≤l.length + 1:=by
  unfold Roll.add
  split
  · split <;> simp
  · simp
theorem fold_len {α:Type} (t:α→Int) (st:Int) (f:α→Sum):∀ (l:List α) (acc:List Bucket),(l.foldl (fun b s=>Roll.add b (t s) st (f s)) acc).length≤acc.length + l.length
  | [],acc=>Nat.le_refl _
  | x :: r, acc => by
    have h1:=fold_len t st f r (Roll.add acc (t x) st (f x)); have h2:=radd_len acc (t x) st (f x)
    simp only [List.foldl_cons,List.length_cons]; omega
theorem up_len' (l:List Sample) (k:Int):(Roll.up l k).length≤l.length:=by
  unfold Roll.up
  split
  · exact Nat.zero_le _
  · have:=fold_len Sample.time (Roll.step k) (fun s:Sample=>Agg.one s.value) l []
    simpa [Roll.ups] using this
theorem fineL_len' (z:Shelf) (to:Int):(yv z to).length≤z.fine.length + z.raw.length:=by
  unfold yv
  rw [List.length_append]
  have h1:=up_len' (Roll.inT z.raw z.zE (zE z to)) 1; have h2:=Roll.inT_len z.raw z.zE (zE z to); omega
theorem coarseL_len' (z:Shelf) (to:Int):(yk z to).length≤z.coarse.length + z.fine.length + z.raw.length:=by
  unfold yk
  rw [List.length_append]
  have h1:=fold_len Bucket.at_ 60 (fun b:Bucket=>b.sum) (bIn (yv z to) z.zF (zF z to)) []
  have h2:=bIn_len (yv z to) z.zF (zF z to); have h3:=fineL_len' z to
  have h4:(Roll.greater (bIn (yv z to) z.zF (zF z to))).length≤(bIn (yv z to) z.zF (zF z to)).length:=by simpa [Roll.greater] using h1
  omega
theorem roll_few {z:Shelf} {to:Int} (h:OK z) (h0:0≤to) (h1:to≤1000000) (hl:z.coarse.length + z.fine.length + z.raw.length≤500):roll z to=(rolled z to,0) :=
  roll_mk h h0 h1 (by have:=fineL_len' z to; omega) (by have:=coarseL_len' z to; omega)
theorem codec_one {t v:Int} (h0:0≤t) (h1:t≤1000000) (hv:-1000000000≤v∧v≤1000000000):(Codec.wrong [⟨t,v⟩]).err=0:=by
  exact Codec.wrong_right ⟨by simp,fun x hx=>by obtain rfl:=List.mem_singleton.1 hx; exact ⟨h0,h1,hv⟩,by simp⟩
theorem fresh_is {t:List Label} {h:Int} (hw:zI.wrong t=0) (h0:0≤h) (h1:h≤1000000):fresh t h=rolled (new t) h:=by
  have:roll (new t) h=(rolled (new t) h,0):=roll_few (keep_new t hw).ok h0 h1 (by simp [new])
  unfold fresh; rw [this]
theorem append_new {t:List Label} {h a v:Int} (hw:zI.wrong t=0) (h0:0≤h) (h1:h≤1000000) (hh:h % 10=0) (ha:h≤a) (ha1:a≤1000000) (hv:-1000000000≤v∧v≤1000000000) :
    append (fresh t h) ⟨a,v⟩=(⟨t,[⟨a,v⟩],(fresh t h).fine,(fresh t h).coarse,0,0,h,0,(fresh t h).zF⟩,0)∧(fresh t h).zE=h:=by
  obtain ⟨f1,f2,f3,f4⟩:=fresh_keep hw h0 h1
  have e4:(fresh t h).zE=h:=by rw [f4]; unfold mx; split <;> omega
  have e:=fresh_is hw h0 h1
  have er:(fresh t h).raw=[]:=by rw [e]; rfl
  refine ⟨?_,e4⟩
  rw [append_ok (by simp [f1.ok.wrong]) (by rw [codec_one qO ha1 hv]; simp) (by rw [e4,er]; show ¬ (a < h∨late [] _=true); simp [late]; omega) (by rw [er]; decide)]
  rw [f3,er,e4,e]; rfl
theorem wrong_a:zI.wrong (hostL aB)=0:=by decide +kernel
theorem add_first {b:Base} {h:ByteArray} {t v:Int} (hw:zI.wrong (hostL h)=0) (hh:0≤b.zM∧b.zM≤1000000∧b.zM % 10=0) (ht:0≤t∧t≤1000000) (hv:-1000000000≤v∧v≤1000000000) (hn:there b.zA (hostL h)=false) (hl:b.zA.length < 8) :
    one b (addD h t v)=if t < b.zM then (b,no 9) else (⟨b.zA.take (place b.zA (hostL h))++(append (fresh (hostL h) b.zM) ⟨t,v⟩).1::b.zA.drop (place b.zA (hostL h)),b.zM⟩,no 0):=by
  have hc:=codec_one ht.1 ht.2 hv
  show (if (1:Int)=1 then add b (addD h t v) else _)=_
  rw [if_pos rfl,add,if_neg (by show ¬ zI.wrong (hostL h)≠0; simp [hw]),if_neg (by show ¬ (Codec.wrong [⟨t,v⟩]).err≠0; simp [hc])]
  by_cases h3:t < b.zM
  · rw [if_pos (show (addD h t v).zO.time < b.zM from h3),if_pos h3]
  · rw [if_neg (show ¬ (addD h t v).zO.time < b.zM from h3),if_neg h3,if_neg (by show ¬ there b.zA (hostL h)=true; rw [hn]; decide),if_neg qO]
    have ha:=(append_new hw hh.1 hh.2.1 hh.2.2 (by omega:b.zM≤t) ht.2 hv).1
    rw [if_neg (by show ¬ (append (fresh (hostL h) b.zM) ⟨t,v⟩).2≠0; rw [ha]; simp)]; rfl
def s1 (h:ByteArray) (a v:Int):Shelf:=(append (fresh (hostL h) 0) ⟨a,v⟩).1
theorem s1_is {h:ByteArray} {a v:Int} (hw:zI.wrong (hostL h)=0) (ha:0≤a∧a≤1000000) (hv:-1000000000≤v∧v≤1000000000):Keep (s1 h a v) [⟨a,v⟩]∧s1 h a v=⟨hostL h,[⟨a,v⟩],[],[],0,0,0,0,0⟩:=by
  have ho:=append_new hw (by decide:(0:Int)≤0) qD qD ha.1 ha.2 hv
  have hk:=(fresh_keep hw (by decide:(0:Int)≤0) qD).1
  refine ⟨by have:=hk.append (x:=⟨a,v⟩) (by rw [ho.1]); exact this,?_⟩
  unfold s1; rw [ho.1,fresh_is hw qD qD]; rfl
theorem run_first {h:ByteArray} {a v:Int} (hw:zI.wrong (hostL h)=0) (ha:0≤a∧a≤1000000) (hv:-1000000000≤v∧v≤1000000000):one zero (addD h a v)=(⟨[s1 h a v],0⟩,no 0):=by
  rw [add_first hw ⟨by decide,by decide,by decide⟩ ha hv (by rfl) qD,if_neg (show ¬ a < zero.zM by show ¬ a < (0:Int); omega)]; rfl
def s2 (h:ByteArray) (a v to:Int):Shelf:=(roll (s1 h a v) to).1
end Bs
namespace Ex
def PlayOk (z:yB × SlX zn) (S:Nat→Prop) (w:World):Prop:=yB.Ok S z.1 w∧AnssX.Ok S z.2 w
theorem PlayOk.loc (z:yB × SlX zn):Loc (PlayOk z):=fun S S' u u' hs hk h=>⟨yB.Ok.loc _ S S' u u' hs hk h.1,AnssX.Ok.loc _ S S' u u' hs hk h.2⟩
theorem PlayOk.wf {z:yB × SlX zn} {S:Nat→Prop} {w:World} (h:PlayOk z S w):yB.Wf z.1∧AnssX.Wf z.2:=⟨h.1.wf,h.2.wf⟩
theorem Mem.playX {w0 w:World} {M:Fp} {L:List Own} (h:Mem w0 M L w) (q:Nat) {z:yB × SlX zn} (hi:L[q]?=some (.pub (PlayOk z))):Mem w0 M (slP 4 vJ (.slice z.2.A z.2.l.length z.2.c) z.2.l::allP zn.Ok z.2.l::okP yB.Ok z.1::L) w:=by
  have h1:=h.imp q hi (yB.Ok.loc z.1) fun _ hF=>hF.1
  have h2:=h1.imp (q + 1) hi (all_loc zn.Ok.loc z.2.l) fun _ hF=>hF.2.all
  exact h2.imp (q + 2) hi (zD.loc 4 vJ _ z.2.l) fun _ hF=>hF.2.sl
end Ex
end
section
namespace Ex
structure LinesX.Ok (S:Nat→Prop) (z:SlX yc) (w:World):Prop where
  sl:zD S 2 lineE (.slice z.A z.l.length z.c) z.l w
  all:∀ c ∈ z.l,yc.Ok S c w
theorem LinesX.Ok.loc (x:SlX yc):Loc (fun S=>LinesX.Ok S x):=fun S S' u u' hs hk h=>⟨zD.loc _ _ _ _ S S' u u' hs hk h.sl,fun c hc=>yc.Ok.loc c S S' u u' hs hk (h.all c hc)⟩
structure LinesX.Wf (z:SlX yc):Prop where
  sl:Ex.Wf z
  all:∀ c ∈ z.l,yc.Wf c
end Ex
end
section
namespace Bs
open Ex Sh
set_option linter.unusedVariables false
def Kept (n:Nat) (x:Line) (s:Shelf):Prop:=x.sr=s.zJ∧Keep s x.sm∧x.sm.length≤n
section
variable {n:Nat} {x:Line} {s z:Shelf}
theorem Kept.up {m:Nat} (h:Kept n x s) (hm:n≤m):Kept m x s:=⟨h.1,h.2.1,by have:=h.2.2; omega⟩
end
end Bs
end
section
namespace Sh
section
variable {z:Shelf} {all:List Sample} {f g t:Int}
theorem costs_nn (ho:OK z) (l:List Part):0≤costs z l:=by
  induction l using List.reverseRecOn' with
  | nil=>exact Int.le_refl _
  | snoc l p ih=>rw [costs_snoc]; have:=(partCost_rng ho p).1; omega
end
end Sh
namespace Bs
open Ex Sh
set_option linter.unusedVariables false
structure Like (n:Nat) (s s':Shelf):Prop where
  ser:s.zJ=s'.zJ
  all:∃ all,Keep s all∧Keep s' all∧all.length≤n
  whole:s.zU=0∧s'.zU=0∧s'.zE=0
theorem Like.up {n m:Nat} {s s':Shelf} (h:Like n s s') (hm:n≤m):Like m s s':=⟨h.ser,by obtain ⟨a,h1,h2,h3⟩:=h.all; exact ⟨a,h1,h2,by omega⟩,h.whole⟩
def twin (n:Nat):List Shelf→List Shelf→Prop
  | [],[]=>True
  | s::r,s'::r'=>Like n s s'∧twin n r r'
  | _,_=>False
theorem twin_up {n m:Nat} (hm:n≤m):∀ {l l':List Shelf},twin n l l'→twin m l l'
  | [],[],_=>trivial
  | [],_::_,h=>h.elim
  | _::_,[],h=>h.elim
  | s::r,s'::r',h=>⟨h.1.up hm,twin_up hm h.2⟩
structure Twin (n:Nat) (b b':Base):Prop where
  sh:twin n b.zA b'.zA
  hor:0≤b.zM∧b.zM≤1000000∧b.zM % 10=0
  hor':b'.zM=0
theorem Twin.up {n m:Nat} {b b':Base} (h:Twin n b b') (hm:n≤m):Twin m b b':=⟨twin_up hm h.sh,h.hor,h.hor'⟩
def Alike (x y:Ans):Prop:=y.err=x.err∧y.cells=x.cells∧x.cost≤y.cost
theorem Alike.of {x y:Ans} (h:y=x):Alike x y:=by subst h; exact ⟨rfl,rfl,Int.le_refl _⟩
def pairs:List Do→List Ans→List Ans→Prop
  | [],_,_=>True
  | d::l,x::a,c=>if d.kind=2 then pairs l a c else ∃ y r,c=y::r∧Alike x y∧pairs l a r
  | _::_,[],_=>False
end Bs
end
section
namespace Bs
open Ex Sh
set_option linter.unusedVariables false
def tL (l:List Sample):List Do:=l.map fun s=>addD aB s.time s.value
def shL (l:List Sample):Shelf:=⟨hostL aB,l,[],[],0,0,0,0,0⟩
def baseL (l:List Sample):Base:=if l=[] then zero else ⟨[shL l],0⟩
def small (l:List Sample):Prop:=(Codec.wrong l).err=0∧l.length≤60
theorem tL_snoc (l:List Sample) (x:Sample):tL (l++[x])=tL l++[addD aB x.time x.value]:=by simp [tL]
theorem init_right {l:List Sample} {x:Sample} (h:Codec.Right (l++[x])):Codec.Right l∧(∀ y ∈ l,y.time < x.time)∧(0≤x.time∧x.time≤1000000)∧(-1000000000≤x.value∧x.value≤1000000000):=by
  obtain ⟨h1,h2,h3⟩:=h
  obtain ⟨p1,p2,p3⟩:=List.pairwise_append.1 h3
  have hx:=h2 x qS
  refine ⟨⟨by simp at h1; omega,fun y hy=>h2 y (List.mem_append_left _ hy),p1⟩,fun y hy=>p3 y hy x qS,by omega,by omega⟩
theorem run_tL (l:List Sample):Codec.Right l→l.length < 500→(run zero (tL l)).1=baseL l∧(run zero (tL l)).2=l.map (fun _=>no 0)∧Keep (shL l) l:=by
  induction l using List.reverseRecOn' with
  | nil=>intro _ _; exact ⟨rfl,rfl,keep_new _ wrong_a⟩
  | snoc l x ih =>
    intro h hn
    rw [List.length_append] at hn
    obtain ⟨h1,h2,h3,h4⟩:=init_right h
    obtain ⟨i1,i2,i3⟩:=ih h1 (by simp at hn; omega)
    have hc:=codec_one h3.1 h3.2 h4
    have key:one (baseL l) (addD aB x.time x.value)=(⟨[shL (l++[x])],0⟩,no 0)∧Keep (shL (l++[x])) (l++[x]):=by
      by_cases he:l=[]
      · subst he
        obtain ⟨k1,k2⟩:=s1_is wrong_a h3 h4
        rw [k2] at k1
        refine ⟨?_,k1⟩
        show one zero _=_
        rw [run_first wrong_a h3 h4,k2]; rfl
      · have ha:append (shL l) x=(shL (l++[x]),0):=by
          rw [append_ok (by simp [i3.ok.wrong]) (by show ¬ (Codec.wrong [⟨x.time,x.value⟩]).err≠0; simp [hc]) (by
            show ¬ (x.time < 0∨late l x=true)
            have:late l x=false:=by
              unfold late
              cases hl:l.getLast? with
              | none=>rfl
              | some y=>have:=h2 y (List.mem_of_getLast? hl); simp; omega
            rw [this]; simp; omega) (by show ¬ (l.length:Int)=500; simp at hn; omega)]
          rfl
        refine ⟨?_,by have:=i3.append (x:=x) (by rw [ha]); rwa [ha] at this⟩
        have hb:baseL l=⟨[shL l],0⟩:=by unfold baseL; rw [if_neg he]
        have ht:there [shL l] (hostL aB)=true:=by unfold there key shL; exact (by decide +kernel:Mn.has [(⟨hostL aB,0⟩:Cell)] (hostL aB)=true)
        have hp:place [shL l] (hostL aB)=0:=by unfold place key shL; exact (by decide +kernel:Mn.pos [(⟨hostL aB,0⟩:Cell)] (hostL aB)=0)
        rw [hb]
        show (if (1:Int)=1 then add _ _ else _)=_
        rw [if_pos rfl,add,if_neg (by show ¬ zI.wrong (hostL aB)≠0; simp [wrong_a]),if_neg (by show ¬ (Codec.wrong [⟨x.time,x.value⟩]).err≠0; simp [hc]),if_neg (by show ¬ x.time < 0; omega),
          if_pos (show there [shL l] (addD aB x.time x.value).sr=true from ht)]
        show (match [shL l][place [shL l] (hostL aB)]? with | none=>_ | some s=>_)=_
        rw [hp]
        show (if (append (shL l) x).2≠0 then _ else ((⟨[shL l].set (place [shL l] (hostL aB)) (append (shL l) x).1,0⟩:Base),no 0))=_
        rw [hp,ha]; rfl
    rw [tL_snoc,run_snoc,i1,i2,key.1]
    refine ⟨?_,by simp,key.2⟩
    unfold baseL; rw [if_neg qS]
theorem tL_len (l:List Sample):(tL l).length=l.length:=List.length_map ..
theorem last_tL {l:List Sample} (h:small l) (m:List Do) (d:Do) (hm:m.length≤50):last (tL l++(m++[d]))=(one (run (baseL l) m).1 d).2:=by
  have hl:(tL l++(m++[d])).length≤120:=by rw [List.length_append,tL_len,List.length_append]; have:=h.2; simp; omega
  have hp:play (tL l++(m++[d]))=((run zero (tL l++(m++[d]))).1,(run zero (tL l++(m++[d]))).2,0):=if_neg qO
  have hr:=(run_tL l (Codec.right_of h.1) (by have:=h.2; omega)).1
  have hg:∀ (x y:List Do) (b:Base),run b (x++y)=((run (run b x).1 y).1,(run b x).2++(run (run b x).1 y).2):=by
    intro x
    induction x with
    | nil=>intro y b; rfl
    | cons a x ih=>intro y b; rw [List.cons_append,run,ih,run]; rfl
  unfold last
  rw [hp,if_neg qS]
  show (match (run zero (tL l++(m++[d]))).2.getLast? with | none=>no 1 | some x=>x)=_
  rw [hg,run_snoc,hr,← List.append_assoc,List.getLast?_concat]
theorem tL_at {l:List Sample} {gs:List zm} {k:Nat} {x:Sample} {z:zm} (hx:l[k]?=some x) (h:gs.map zm.e=tL (l.take k)) (hz:z.e=addD ⟨#[97]⟩ x.time x.value):(gs++[z]).map zm.e=tL (l.take (k + 1)):=by
  rw [List.take_add_one,hx,Option.toList_some,tL_snoc,List.map_append,h,List.map_cons,List.map_nil,hz]; rfl
theorem tL_all {l:List Sample} {gs:List zm} {k:Nat} (h:gs.map zm.e=tL (l.take k)) (hk:l.length≤k):gs.map zm.e=tL l:=by rw [h,List.take_of_length_le hk]
def smallB (l:List Sample):Bool:=decide ((Codec.wrong l).err=0) && decide ((l.length:Int)≤60) && (match l[l.length - 1]? with | none=>true | some x=>decide (x.time≤5000))
theorem small_of {l:List Sample} (h:smallB l=true):small l∧∀ x ∈ l,x.time≤5000:=by
  unfold smallB at h
  simp only [Bool.and_eq_true,decide_eq_true_eq] at h
  obtain ⟨⟨h1,h2⟩,h3⟩:=h
  refine ⟨⟨h1,by omega⟩,fun x hx=>?_⟩
  have hr:=(Codec.right_of h1).inc
  obtain ⟨i,hi,rfl⟩:=List.mem_iff_getElem.1 hx
  rw [List.getElem?_eq_getElem (by omega:l.length - 1 < l.length)] at h3
  have h4:l[l.length - 1].time≤5000:=by simpa using h3
  rcases Nat.lt_or_ge i (l.length - 1) with g | g
  · have:=List.pairwise_iff_getElem.1 hr i (l.length - 1) hi qO g; omega
  · have e:i=l.length - 1:=qO
    subst e; exact h4
end Bs
end
section
namespace Pz
open Ex Mn
set_option linter.unusedVariables false
mutual
def eqE:Expr→Expr→Bool
  | .mk k n r w ms bs ks,.mk k' n' r' w' ms' bs' ks'=>decide (k=k'∧n=n'∧r=r'∧w=w'∧ms=ms'∧bs=bs') && eqEs ks ks'
def eqEs:List Expr→List Expr→Bool
  | [],[]=>true
  | x::xs,y::ys=>eqE x y && eqEs xs ys
  | [],_::_=>false
  | _::_,[]=>false
end
mutual
theorem eqE_iff:∀ (a b:Expr),eqE a b=true↔a=b
  | .mk k n r w ms bs ks, .mk k' n' r' w' ms' bs' ks' => by
    rw [eqE,Bool.and_eq_true,decide_eq_true_iff,eqEs_iff ks ks']
    constructor
    · rintro ⟨⟨h1,h2,h3,h4,h5,h6⟩,h7⟩; rw [h1,h2,h3,h4,h5,h6,h7]
    · intro h; injection h with h1 h2 h3 h4 h5 h6 h7; exact ⟨⟨h1,h2,h3,h4,h5,h6⟩,h7⟩
theorem eqEs_iff:∀ (a b:List Expr),eqEs a b=true↔a=b
  | [],[]=>by rw [eqEs]; simp
  | x :: xs, y :: ys => by
    rw [eqEs,Bool.and_eq_true,eqE_iff x y,eqEs_iff xs ys,List.cons.injEq]
  | [],_::_=>by rw [eqEs]; simp
  | _::_,[]=>by rw [eqEs]; simp
end
instance:DecidableEq Expr:=fun a b=>decidable_of_iff (eqE a b=true) (eqE_iff a b)
end Pz
end
end Go.Proofs.YtgojhpocpajmlaaGreatDoor
