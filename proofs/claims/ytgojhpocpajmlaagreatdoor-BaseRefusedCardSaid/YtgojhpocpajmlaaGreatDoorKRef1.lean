/- Laws and walks for the proof of BaseRefused, packed by program; each theorem bears its own conditions. -/
import Derived.WalkKit
import Derived.ProofKit
import Derived.OpenShut
import Derived.JoinedCond
import Derived.Deep.Quiet
import Derived.Laws.OwnMore
import Derived.Laws.StructEq
import Derived.Great.BuildSlice
import Derived.Laws.Cover1
import Derived.StillTail
import Derived.Maps.AppendAt
import Derived.OrdersHeld
import Derived.Test.YtgojhpocpajmlaaGreatDoorProg
import Derived.KernelRfl
import Derived.MapKept
import Derived.ChangeMaps4
import Derived.Lib.ConvBytes
import Derived.Laws.IdiomStrings
namespace Go.Proofs.YtgojhpocpajmlaaGreatDoor
section
namespace Ex
abbrev Env:=List (Nat × Value)
def look : Env → Nat → Option Value
  | [],_=>none
  | p :: r, t => match Nat.beq p.1 t with
    | true=>some p.2
    | false=>look r t
def ev (E : Env) : Operand → Option Value
  | .tmp t=>look E t
  | .const v=>some v
  | .global g=>some (.pointer (some ⟨g,0,none⟩))
  | .func f=>some (.func (.func f) #[] #[])
structure Has (N : Nat) (D : List Deferred) (a : Act) (E : Env) : Prop where
  d:a.defers=D
  n:a.tmps.size=N
  h:∀ t v,look E t=some v→a.tmps[t]?=some v
section
variable {N:Nat} {D:List Deferred} {E E':Env} {a:Act}
theorem Has.eval (h : Has N D a E) {x : Operand} {v : Value} (e : ev E x = some v) : a.eval x = v := by
  cases x with
  | tmp t=>have:=h.h t v e; simp [Act.eval,this]
  | const u=>simpa [ev,Act.eval] using e
  | global g=>simpa [ev,Act.eval] using e
  | func f=>simpa [ev,Act.eval] using e
theorem look_cons (p : Nat × Value) (r : Env) (t : Nat) : look (p :: r) t = if p.1 = t then some p.2 else look r t := by
  rw [look]
  cases h:Nat.beq p.1 t with
  | true=>rw [if_pos (Nat.eq_of_beq_eq_true h)]
  | false=>rw [if_neg (Nat.ne_of_beq_eq_false h)]
theorem Has.put (h : Has N D a E) {d : Nat} (v : Value) (hd : Nat.blt d N = true) : Has N D (a.put (some d) v) ((d, v) :: E) := by
  have hd':d < N:=by simpa [Nat.blt_eq] using hd
  refine ⟨h.d,by simp [Act.put,h.n],fun t u hu=>?_⟩
  rw [look_cons] at hu
  simp only [Act.put]
  by_cases e:d=t
  · subst e
    rw [if_pos rfl] at hu
    rw [Array.getElem?_setIfInBounds_self_of_lt (by rw [h.n]; exact hd')]
    exact hu
  · rw [if_neg e] at hu
    rw [Array.getElem?_setIfInBounds_ne e]
    exact h.h t u hu
theorem Has.less (h : Has N D a E) (hs : ∀ p ∈ E', look E p.1 = some p.2) : Has N D a E' := by
  refine ⟨h.d,h.n,fun t v hv=>h.h t v ?_⟩
  clear h
  induction E' with
  | nil=>simp [look] at hv
  | cons p r ih =>
    rw [look_cons] at hv
    by_cases e:p.1=t
    · rw [if_pos e] at hv
      have:=hs p (List.mem_cons_self ..)
      rw [← e,this,hv]
    · rw [if_neg e] at hv
      exact ih (fun q hq=>hs q (List.mem_cons_of_mem _ hq)) hv
end
def subB (E : Env) : Env → Prop
  | []=>True
  | p::r=>look E p.1=some p.2∧subB E r
theorem subB.all {E E' : Env} (h : subB E E') : ∀ p ∈ E', look E p.1 = some p.2 := by
  induction E' with
  | nil=>simp
  | cons p r ih =>
    intro q hq
    rcases List.mem_cons.1 hq with rfl | hq
    · exact h.1
    · exact ih h.2 q hq
structure Fr (M : Nat → Prop) (w w' : World) : Prop where
  os:w'.os=w.os
  tape:w'.tape=w.tape
  output:w'.output=w.output
  size:w.heap.size≤w'.heap.size
  block:∀ k,k < w.heap.size→¬ M k→w'.heap[k]?=w.heap[k]?
def no:Nat→Prop:=fun _=>False
section
variable {M M':Nat→Prop} {w w' w'':World}
theorem Fr.refl (M:Nat→Prop) (w:World):Fr M w w:=⟨rfl,rfl,rfl,Nat.le_refl _,fun _ _ _=>rfl⟩
theorem Fr.trans (h : Fr M w w') (k : Fr M' w' w'') (hM : ∀ b, b < w.heap.size → M' b → M b) : Fr M w w'' :=
  ⟨k.os.trans h.os,k.tape.trans h.tape,k.output.trans h.output,Nat.le_trans h.size k.size,fun b hb hn=>(k.block b (Nat.lt_of_lt_of_le hb h.size) (fun hm=>hn (hM b hb hm))).trans (h.block b hb hn)⟩
theorem Fr.mono (h:Fr M w w') (hM:∀ b,b < w.heap.size→M b→M' b):Fr M' w w':=⟨h.os,h.tape,h.output,h.size,fun b hb hn=>h.block b hb fun hm=>hn (hM b hb hm)⟩
theorem Fr.alloc (M:Nat→Prop) (w:World) (o:Obj):Fr M w (w.alloc o):=⟨rfl,rfl,rfl,by simp,fun k hk _=>Go.RowKit.Below.heap_alloc w o k hk⟩
theorem Fr.drew (M:Nat→Prop) (w:World):Fr M w w.drew:=⟨rfl,rfl,rfl,Nat.le_refl _,fun _ _ _=>rfl⟩
theorem Fr.below (h:Fr no w w'):Go.RowKit.Below w.heap.size w w':=⟨h.os,h.tape,h.output,h.size,fun k hk=>h.block k hk id⟩
theorem Fr.of_below (h:Go.RowKit.Below w.heap.size w w'):Fr no w w':=⟨h.os,h.tape,h.output,h.size,fun k hk _=>h.block k hk⟩
theorem Fr.of_grown {row:Option Nat} (h:w.grownBy w' row):Fr (fun b=>row=some b) w w':=⟨h.os,h.tape,h.output,h.size,fun k hk hn=>h.block k hk fun e=>hn e.symm⟩
theorem Fr.same (h:Fr M w w') {b:Nat} (hb:b < w.heap.size) (hn:¬ M b):w'.heap[b]?=w.heap[b]?:=h.block b hb hn
end
structure Fp where
  m:Nat→Prop
  p:Nat→Prop
instance:Coe (Nat→Prop) Fp:=⟨fun m=>⟨m,fun _=>False⟩⟩
inductive Own where
  | blk (b:Nat) (cs:List Value) (T:TypeId)
  | row (v:Value) (e:TypeId) (k n:Nat) (xs:List Value)
  | map (b:Nat) (es:List MapEntry) (n:Nat)
  | dat (S:Nat→Prop) (F:World→Prop)
  | pub (F:(Nat→Prop)→World→Prop)
def Own.mut : Own → Bool
  | .dat ..=>false
  | .pub ..=>false
  | _=>true
def Own.fp : Own → Nat → Prop
  | .blk b _ _=>(·=b)
  | .row v _ _ _ _=>fun b=>v.ownBlock=some b
  | .map b _ _=>(·=b)
  | .dat S _=>S
  | .pub _=>fun _=>False
def Loc (F:(Nat→Prop)→World→Prop):Prop:=∀ (S S':Nat→Prop) (u u':World),(∀ b,S b→S' b)→(∀ b,S b→u'.heap[b]?=u.heap[b]?)→F S u→F S' u'
def Own.holds : Own → World → Prop
  | .blk b cs T,w=>w.heap[b]?=some (.cells cs.toArray T (0,0))
  | .row v e k n xs,w=>w.ownsRow 0 e k v n xs
  | .map b es n,w=>w.heap[b]?=some (.map es.toArray n)
  | .dat S F,w=>F w∧∀ u u':World,(∀ b,S b→u'.heap[b]?=u.heap[b]?)→F u→F u'
  | .pub F,_=>Loc F
theorem Own.holds_keep {o : Own} {w w' : World} (h : o.holds w) (hs : ∀ b, o.fp b → w'.heap[b]? = w.heap[b]?) : o.holds w' := by
  cases o with
  | blk b cs T=>exact (hs b rfl).trans h
  | row v e k n xs =>
    refine ⟨h.1,?_⟩
    rcases h.2 with h2 | ⟨g,cap,cur,rfl,hb,hh,r⟩
    · exact .inl h2
    · exact .inr ⟨g,cap,cur,rfl,hb,(hs g rfl).trans hh,r⟩
  | map b es n=>exact (hs b rfl).trans h
  | dat S F=>exact ⟨h.2 w w' hs h.1,h.2⟩
  | pub F=>exact h
structure Pubs (w0 : World) (M : Fp) (L : List Own) (w : World) (Pb : Nat → Prop) : Prop where
  sub:∀ b,Pb b→M.p b∨w0.heap.size≤b
  lt:∀ b,Pb b→b < w.heap.size
  dj:∀ (i:Nat) (o:Own),L[i]?=some o→o.mut=true→∀ b,Pb b→¬ o.fp b
  at_:∀ (i:Nat) (F:(Nat→Prop)→World→Prop),L[i]?=some (.pub F)→F Pb w
structure Mem (w0 : World) (M : Fp) (L : List Own) (w : World) : Prop where
  fr:Fr M.m w0 w
  ok:∀ (i:Nat) (o:Own),L[i]?=some o→o.holds w∧(∀ b,o.fp b→b < w.heap.size)∧(o.mut=true→∀ b,o.fp b→w0.heap.size≤b∨M.m b)
  dj:∀ (i j:Nat) (o o':Own),L[i]?=some o→L[j]?=some o'→i≠j→(o.mut=true∨o'.mut=true)→∀ b,o.fp b→¬ o'.fp b
  pb:∃ Pb,Pubs w0 M L w Pb
def Own.isPub : Own → Bool
  | .pub _=>true
  | _=>false
theorem Own.not_pub {o:Own} (h:o.isPub=false) (F:(Nat→Prop)→World→Prop):o≠.pub F:=by rintro rfl; cases h
section
variable {w0 w w':World} {M M':Fp} {L L':List Own} {o o':Own}
theorem Mem.start (w:World) (M:Fp):Mem w M [] w:=⟨Fr.refl _ _,by simp,by simp,fun _=>False,by simp,by simp,by simp,by simp⟩
theorem Pubs.stay {Pb : Nat → Prop} (h : Pubs w0 M L w Pb) (hok : ∀ (i : Nat) (o : Own), L[i]? = some o → o.holds w) (hs : ∀ b, Pb b → w'.heap[b]? = w.heap[b]?) {i : Nat} {F : (Nat → Prop) → World → Prop} (hi : L[i]? = some (.pub F)) : F Pb w' :=
  (hok i _ hi:Loc F) Pb Pb w w' (fun _ h=>h) hs (h.at_ i F hi)
theorem Mem.keep (h : Mem w0 M L w) (hf : Fr no w w') : Mem w0 M L w' := by
  refine ⟨h.fr.trans hf (fun _ _ hm=>hm.elim),fun i o hi=>?_,h.dj,?_⟩
  · obtain ⟨h1,h2,h3⟩:=h.ok i o hi
    exact ⟨Own.holds_keep h1 (fun b hb=>hf.block b (h2 b hb) id),fun b hb=>Nat.lt_of_lt_of_le (h2 b hb) hf.size,h3⟩
  · obtain ⟨Pb,hp⟩:=h.pb
    exact ⟨Pb,hp.sub,fun b hb=>Nat.lt_of_lt_of_le (hp.lt b hb) hf.size,hp.dj,fun i F hi=>hp.stay (fun i o hi=>(h.ok i o hi).1) (fun b hb=>hf.block b (hp.lt b hb) id) hi⟩
theorem Mem.upd (h : Mem w0 M L w) {i : Nat} (hi : L[i]? = some o) (hm : o.mut = true) (hf : Fr o.fp w w') (hh : o'.holds w')
    (hp:∀ b,o'.fp b→(o.fp b∨w.heap.size≤b)∧b < w'.heap.size) (hq:o'.isPub=false:=by rfl):Mem w0 M (L.set i o') w':=by
  have hil:i < L.length:=(List.getElem?_eq_some_iff.1 hi).1
  have hsz0:=h.fr.size
  refine ⟨h.fr.trans hf (fun b hb hb'=>((h.ok i o hi).2.2 hm b hb').resolve_left (by omega)),fun j p hj=>?_,?_,?_⟩
  · rw [List.getElem?_set] at hj
    by_cases e:i=j
    · rw [if_pos e,if_pos hil] at hj
      obtain rfl:o'=p:=by simpa using hj
      refine ⟨hh,fun b hb=>(hp b hb).2,fun _ b hb=>?_⟩
      rcases (hp b hb).1 with hb' | hb'
      · exact (h.ok i o hi).2.2 hm b hb'
      · left; omega
    · rw [if_neg e] at hj
      obtain ⟨h1,h2,h3⟩:=h.ok j p hj
      exact ⟨Own.holds_keep h1 (fun b hb=>hf.block b (h2 b hb) (h.dj j i p o hj hi (Ne.symm e) (.inr hm) b hb)),fun b hb=>Nat.lt_of_lt_of_le (h2 b hb) hf.size,h3⟩
  · intro j k p q hj hk hjk hmm b hb hb'
    rw [List.getElem?_set] at hj hk
    by_cases ej:i=j
    · rw [if_pos ej,if_pos hil] at hj
      obtain rfl:o'=p:=by simpa using hj
      rw [if_neg (by omega)] at hk
      rcases (hp b hb).1 with h1 | h1
      · exact h.dj i k o q hi hk (by omega) (.inl hm) b h1 hb'
      · have:=(h.ok k q hk).2.1 b hb'; omega
    · rw [if_neg ej] at hj
      by_cases ek:i=k
      · rw [if_pos ek,if_pos hil] at hk
        obtain rfl:o'=q:=by simpa using hk
        rcases (hp b hb').1 with h1 | h1
        · exact h.dj i j o p hi hj (by omega) (.inl hm) b h1 hb
        · have:=(h.ok j p hj).2.1 b hb; omega
      · rw [if_neg ek] at hk
        exact h.dj j k p q hj hk hjk hmm b hb hb'
  · obtain ⟨Pb,pp⟩:=h.pb
    refine ⟨Pb,pp.sub,fun b hb=>Nat.lt_of_lt_of_le (pp.lt b hb) hf.size,fun j p hj hmp b hb hb'=>?_,fun j F hj=>?_⟩
    · rw [List.getElem?_set] at hj
      by_cases e:i=j
      · rw [if_pos e,if_pos hil] at hj
        obtain rfl:o'=p:=by simpa using hj
        rcases (hp b hb').1 with h1 | h1
        · exact pp.dj i o hi hm b hb h1
        · have:=pp.lt b hb; omega
      · rw [if_neg e] at hj
        exact pp.dj j p hj hmp b hb hb'
    · rw [List.getElem?_set] at hj
      by_cases e:i=j
      · rw [if_pos e,if_pos hil] at hj
        exact absurd (by simpa using hj) (Own.not_pub hq F)
      · rw [if_neg e] at hj
        exact pp.stay (fun i o hi=>(h.ok i o hi).1) (fun b hb=>hf.block b (pp.lt b hb) (pp.dj i o hi hm b hb)) hj
theorem Mem.add (h : Mem w0 M L w) (hf : Fr no w w') (hh : o.holds w') (hp : ∀ b, o.fp b → w.heap.size ≤ b ∧ b < w'.heap.size) (hq : o.isPub = false := by rfl) : Mem w0 M (o :: L) w' := by
  have h':=h.keep hf
  have hsz0:=h.fr.size
  refine ⟨h'.fr,fun i p hi=>?_,?_,?_⟩
  · cases i with
    | zero => obtain rfl : o = p := by simpa using hi
              exact ⟨hh,fun b hb=>(hp b hb).2,fun _ b hb=>.inl (by have:=(hp b hb).1; omega)⟩
    | succ i=>exact h'.ok i p (by simpa using hi)
  · intro i j p q hi hj hij hm b hb hb'
    cases i with
    | zero =>
      obtain rfl:o=p:=by simpa using hi
      cases j with
      | zero=>exact hij rfl
      | succ j=>have:=(h.ok j q (by simpa using hj)).2.1 b hb'; have:=(hp b hb).1; omega
    | succ i =>
      cases j with
      | zero => obtain rfl : o = q := by simpa using hj
                have:=(h.ok i p (by simpa using hi)).2.1 b hb; have:=(hp b hb').1; omega
      | succ j=>exact h.dj i j p q (by simpa using hi) (by simpa using hj) (by omega) hm b hb hb'
  · obtain ⟨Pb,pp⟩:=h.pb
    refine ⟨Pb,pp.sub,fun b hb=>Nat.lt_of_lt_of_le (pp.lt b hb) hf.size,fun i p hi hm b hb hb'=>?_,fun i F hi=>?_⟩
    · cases i with
      | zero =>
        obtain rfl:o=p:=by simpa using hi
        have:=pp.lt b hb; have:=(hp b hb').1; omega
      | succ i=>exact pp.dj i p (by simpa using hi) hm b hb hb'
    · cases i with
      | zero=>exact absurd (by simpa using hi) (Own.not_pub hq F)
      | succ i=>exact pp.stay (fun i o hi=>(h.ok i o hi).1) (fun b hb=>hf.block b (pp.lt b hb) id) (by simpa using hi)
theorem Mem.wk (h : Mem w0 M L w) {i : Nat} (hi : L[i]? = some o) (hh : o'.holds w) (hp : ∀ b, o'.fp b → o.fp b) (hm : o'.mut = true → o.mut = true) (hq : o'.isPub = false := by rfl) : Mem w0 M (L.set i o') w := by
  have hil:i < L.length:=(List.getElem?_eq_some_iff.1 hi).1
  refine ⟨h.fr,fun j p hj=>?_,?_,?_⟩
  · rw [List.getElem?_set] at hj
    by_cases e:i=j
    · rw [if_pos e,if_pos hil] at hj
      obtain rfl:o'=p:=by simpa using hj
      obtain ⟨_,h2,h3⟩:=h.ok i o hi
      exact ⟨hh,fun b hb=>h2 b (hp b hb),fun hm' b hb=>h3 (hm hm') b (hp b hb)⟩
    · rw [if_neg e] at hj
      exact h.ok j p hj
  · intro j k p q hj hk hjk hmm b hb hb'
    rw [List.getElem?_set] at hj hk
    by_cases ej:i=j
    · rw [if_pos ej,if_pos hil] at hj
      obtain rfl:o'=p:=by simpa using hj
      rw [if_neg (by omega)] at hk
      exact h.dj i k o q hi hk (by omega) (hmm.imp hm id) b (hp b hb) hb'
    · rw [if_neg ej] at hj
      by_cases ek:i=k
      · rw [if_pos ek,if_pos hil] at hk
        obtain rfl:o'=q:=by simpa using hk
        exact h.dj j i p o hj hi (Ne.symm ej) (hmm.imp id hm) b hb (hp b hb')
      · rw [if_neg ek] at hk
        exact h.dj j k p q hj hk hjk hmm b hb hb'
  · obtain ⟨Pb,pp⟩:=h.pb
    refine ⟨Pb,pp.sub,pp.lt,fun j p hj hmp b hb hb'=>?_,fun j F hj=>?_⟩
    · rw [List.getElem?_set] at hj
      by_cases e:i=j
      · rw [if_pos e,if_pos hil] at hj
        obtain rfl:o'=p:=by simpa using hj
        exact pp.dj i o hi (hm hmp) b hb (hp b hb')
      · rw [if_neg e] at hj
        exact pp.dj j p hj hmp b hb hb'
    · rw [List.getElem?_set] at hj
      by_cases e:i=j
      · rw [if_pos e,if_pos hil] at hj
        exact absurd (by simpa using hj) (Own.not_pub hq F)
      · rw [if_neg e] at hj
        exact pp.at_ j F hj
theorem Mem.sel (h : Mem w0 M L w) (is : List Nat) (hn : is.Nodup) (he : L'.map some = is.map (fun i => L[i]?)) : Mem w0 M L' w := by
  have key : ∀ (j : Nat) (o : Own), L'[j]? = some o → ∃ i : Nat, is[j]? = some i ∧ L[i]? = some o := by
    intro j o hj
    have h1:(L'.map some)[j]?=some (some o):=by simp [hj]
    rw [he,List.getElem?_map] at h1
    cases hi:is[j]? with
    | none=>simp [hi] at h1
    | some i=>exact ⟨i,rfl,by simpa [hi] using h1⟩
  refine ⟨h.fr,fun j o hj=>?_,fun j k o o' hj hk hjk hm=>?_,?_⟩
  · obtain ⟨i,_,hi⟩:=key j o hj
    exact h.ok i o hi
  · obtain ⟨i,h1,hi⟩:=key j o hj
    obtain ⟨i',h2,hi'⟩:=key k o' hk
    refine h.dj i i' o o' hi hi' (fun e=>hjk ?_) hm
    subst e
    obtain ⟨hj1,hj2⟩:=List.getElem?_eq_some_iff.1 h1
    obtain ⟨hk1,hk2⟩:=List.getElem?_eq_some_iff.1 h2
    rcases Nat.lt_trichotomy j k with hlt | rfl | hlt
    · exact absurd (hj2.trans hk2.symm) (List.pairwise_iff_getElem.1 hn j k hj1 hk1 hlt)
    · rfl
    · exact absurd (hk2.trans hj2.symm) (List.pairwise_iff_getElem.1 hn k j hk1 hj1 hlt)
  · obtain ⟨Pb,pp⟩:=h.pb
    exact ⟨Pb,pp.sub,pp.lt,fun j o hj=>by obtain ⟨i,_,hi⟩:=key j o hj; exact pp.dj i o hi,fun j F hj=>by obtain ⟨i,_,hi⟩:=key j _ hj; exact pp.at_ i F hi⟩
theorem Mem.vU (h : Mem w0 M L w) {F : (Nat → Prop) → World → Prop} (hl : Loc F) (hF : ∀ Pb, Pubs w0 M L w Pb → F Pb w) : Mem w0 M (.pub F :: L) w := by
  refine ⟨h.fr,fun i p hi=>?_,?_,?_⟩
  · cases i with
    | zero => obtain rfl : Own.pub F = p := by simpa using hi
              exact ⟨hl,fun b hb=>hb.elim,fun hm=>by cases hm⟩
    | succ i=>exact h.ok i p (by simpa using hi)
  · intro i j p q hi hj hij hm b hb hb'
    cases i with
    | zero =>
      obtain rfl:Own.pub F=p:=by simpa using hi
      exact hb
    | succ i =>
      cases j with
      | zero => obtain rfl : Own.pub F = q := by simpa using hj
                exact hb'
      | succ j=>exact h.dj i j p q (by simpa using hi) (by simpa using hj) (by omega) hm b hb hb'
  · obtain ⟨Pb,pp⟩:=h.pb
    refine ⟨Pb,pp.sub,pp.lt,fun i p hi hm b hb hb'=>?_,fun i G hi=>?_⟩
    · cases i with
      | zero => obtain rfl : Own.pub F = p := by simpa using hi
                cases hm
      | succ i=>exact pp.dj i p (by simpa using hi) hm b hb hb'
    · cases i with
      | zero => obtain rfl : F = G := by simpa using hi
                exact hF Pb pp
      | succ i=>exact pp.at_ i G (by simpa using hi)
theorem Mem.gG (h : Mem w0 M L w) {i : Nat} (hi : L[i]? = some o) (hm : o.mut = true) (ho : ∀ b, o.fp b → w0.heap.size ≤ b ∨ M.p b) {F : (Nat → Prop) → World → Prop} (hl : Loc F) (hF : ∀ Pb, Pubs w0 M L w Pb → F (fun b => Pb b ∨ o.fp b) w) : Mem w0 M (L.set i (.pub F)) w := by
  have hil:i < L.length:=(List.getElem?_eq_some_iff.1 hi).1
  refine ⟨h.fr,fun j p hj=>?_,?_,?_⟩
  · rw [List.getElem?_set] at hj
    by_cases e:i=j
    · rw [if_pos e,if_pos hil] at hj
      obtain rfl:Own.pub F=p:=by simpa using hj
      exact ⟨hl,fun b hb=>hb.elim,fun hm=>by cases hm⟩
    · rw [if_neg e] at hj
      exact h.ok j p hj
  · intro j k p q hj hk hjk hmm b hb hb'
    rw [List.getElem?_set] at hj hk
    by_cases ej:i=j
    · rw [if_pos ej,if_pos hil] at hj
      obtain rfl:Own.pub F=p:=by simpa using hj
      exact hb
    · rw [if_neg ej] at hj
      by_cases ek:i=k
      · rw [if_pos ek,if_pos hil] at hk
        obtain rfl:Own.pub F=q:=by simpa using hk
        exact hb'
      · rw [if_neg ek] at hk
        exact h.dj j k p q hj hk hjk hmm b hb hb'
  · obtain ⟨Pb,pp⟩:=h.pb
    refine ⟨fun b=>Pb b∨o.fp b,?_,?_,?_,?_⟩
    · rintro b (hb | hb)
      · exact pp.sub b hb
      · exact (ho b hb).symm
    · rintro b (hb | hb)
      · exact pp.lt b hb
      · exact (h.ok i o hi).2.1 b hb
    · intro j p hj hmp b hb hb'
      rw [List.getElem?_set] at hj
      by_cases e:i=j
      · rw [if_pos e,if_pos hil] at hj
        obtain rfl:Own.pub F=p:=by simpa using hj
        exact hb'
      · rw [if_neg e] at hj
        rcases hb with hb | hb
        · exact pp.dj j p hj hmp b hb hb'
        · exact h.dj i j o p hi hj e (.inl hm) b hb hb'
    · intro j G hj
      rw [List.getElem?_set] at hj
      by_cases e:i=j
      · rw [if_pos e,if_pos hil] at hj
        obtain rfl:F=G:=by simpa using hj
        exact hF Pb pp
      · rw [if_neg e] at hj
        exact ((h.ok j _ hj).1:Loc G) Pb _ w w (fun b hb=>.inl hb) (fun _ _=>rfl) (pp.at_ j G hj)
theorem Mem.get (h:Mem w0 M L w) {i:Nat} (hi:L[i]?=some o):o.holds w:=(h.ok i o hi).1
theorem Mem.blk (h:Mem w0 M L w) {i b:Nat} {cs:List Value} {T:TypeId} (hi:L[i]?=some (.blk b cs T)):w.heap[b]?=some (.cells cs.toArray T (0,0)):=h.get hi
theorem Mem.row (h:Mem w0 M L w) {i k n:Nat} {v:Value} {e:TypeId} {xs:List Value} (hi:L[i]?=some (.row v e k n xs)):w.ownsRow 0 e k v n xs:=h.get hi
theorem Mem.map (h:Mem w0 M L w) {i b n:Nat} {es:List MapEntry} (hi:L[i]?=some (.map b es n)):w.heap[b]?=some (.map es.toArray n):=h.get hi
theorem Mem.dat (h:Mem w0 M L w) {i:Nat} {S:Nat→Prop} {F:World→Prop} (hi:L[i]?=some (.dat S F)):F w:=(h.get hi).1
theorem Mem.vQ (h : Mem w0 M L w) {i : Nat} {F : (Nat → Prop) → World → Prop} (hi : L[i]? = some (.pub F)) : F (fun b => b < w.heap.size) w := by
  obtain ⟨Pb,pp⟩:=h.pb
  exact ((h.ok i _ hi).1:Loc F) Pb _ w w pp.lt (fun _ _=>rfl) (pp.at_ i F hi)
theorem Mem.new (h : Mem w0 M L w) (cs : List Value) (T : TypeId) : Mem w0 M (.blk w.heap.size cs T :: L) (w.alloc (.cells cs.toArray T)) :=
  h.add (Fr.alloc _ _ _) (heap_alloc_new w _) (fun b (hb:b=_)=>by subst hb; simp)
theorem Mem.drew (h:Mem w0 M L w):Mem w0 M L w.drew:=h.keep (Fr.drew _ _)
end
def WC (P:Program) (N:Nat) (D:List Deferred) (c:Code) (Q:Exit→Act→World→Prop) (E:Env) (S:World→Prop):Prop:=∀ w,S w→∀ a,Has N D a E→c.wp P Q a w
def WL (P:Program) (N:Nat) (D:List Deferred) (ops:Array Oper) (Q:Exit→Act→World→Prop) (l:List Oper) (E:Env) (S:World→Prop):Prop:=∀ w,S w→∀ a,Has N D a E→wpList P ops Q l a w
def WQ (P : Program) (N : Nat) (D : List Deferred) (ops : Array Oper) (K : Act → World → Prop) (l : List Oper) (E : Env) (S : World → Prop) : Prop :=
  ∀ a,Has N D a E→wpQuiet P ops S (fun a'=>∀ w',S w'→K a' w') l a
def WE (N:Nat) (D:List Deferred) (Q:Exit→Act→World→Prop) (e:Exit) (E:Env) (S:World→Prop):Prop:=∀ w,S w→∀ a,Has N D a E→Q e a w
section
variable {P:Program} {N:Nat} {D:List Deferred} {E E':Env} {S S':World→Prop} {Q:Exit→Act→World→Prop} {K:Act→World→Prop}
theorem zS {x y : Code} (h : ∀ K : Act → World → Prop, (∀ E S, WC P N D y Q E S → ∀ w, S w → ∀ a, Has N D a E → K a w) → WC P N D x (Exit.then K Q) E S) : WC P N D (.seq x y) Q E S :=
  fun w hw a ha=>wp_seq (h (fun a w=>y.wp P Q a w) (fun _ _ h' w' hw' a' ha'=>h' w' hw' a' ha') w hw a ha)
theorem vm {x y : Code} (E' : Env) (S' : World → Prop) (h : ∀ K : Act → World → Prop, (∀ w, S' w → ∀ a, Has N D a E' → K a w) → WC P N D x (Exit.then K Q) E S) (h' : WC P N D y Q E' S') : WC P N D (.seq x y) Q E S :=
  fun w hw a ha=>wp_seq (h (fun a w=>y.wp P Q a w) (fun w' hw' a' ha'=>h' w' hw' a' ha') w hw a ha)
theorem zL {id:Nat} {l:List Oper} (h:WL P N D l.toArray Q l E S):WC P N D (.region id l.toArray false) Q E S:=fun w hw a ha=>wp_region_lit (h w hw a ha)
theorem vN {id : Nat} {l : List Oper} (hm : P.follows .mixedOrders = true) (hB : Region.lexB .any l.toArray = true) (hd : ∀ w, S w → S w.drew) (h : WQ P N D l.toArray (Q .normal) l E S) : WC P N D (.region id l.toArray true) Q E S :=
  fun w hw a ha=>wp_region_quiet (C:=S) hm hB (hd w hw) (by simpa using h a ha)
theorem zk {id:Nat} {c:Code} (h:WC P N D c (Exit.inBlock id Q) E S):WC P N D (.block id c) Q E S:=fun w hw a ha=>wp_block (h w hw a ha)
theorem zX (h:WE N D Q .ret E S):WC P N D .ret Q E S:=fun w hw a ha=>wp_ret (h w hw a ha)
theorem yU (h:WE N D Q .normal E S):WC P N D .skip Q E S:=fun w hw a ha=>wp_skip (h w hw a ha)
theorem yZ {id:Nat} (h:WE N D Q (.exit id) E S):WC P N D (.exit id) Q E S:=fun w hw a ha=>wp_exit (h w hw a ha)
theorem zZ {c : Operand} {x y : Code} {p : Prop} [Decidable p] (hc : ev E c = some (.bool (decide p))) (ht : p → WC P N D x Q E S) (hf : ¬ p → WC P N D y Q E S) : WC P N D (.cond c x y) Q E S :=
  fun w hw a ha=>wp_cond_split (ha.eval hc) (fun h=>ht (of_decide_eq_true h) w hw a ha) (fun h=>hf (of_decide_eq_false h) w hw a ha)
theorem yp {c : Operand} {x y : Code} {b : Bool} (hc : ev E c = some (.bool b)) (ht : b = true → WC P N D x Q E S) (hf : b = false → WC P N D y Q E S) : WC P N D (.cond c x y) Q E S :=
  fun w hw a ha=>wp_cond_split (ha.eval hc) (fun h=>ht h w hw a ha) (fun h=>hf h w hw a ha)
theorem vM {c : Operand} {x y : Code} {b : Bool} (hc : ev E c = some (.bool b)) (hb : b = true) (h : WC P N D x Q E S) : WC P N D (.cond c x y) Q E S := by
  subst hb; exact fun w hw a ha=>wp_cond_true (ha.eval hc) (h w hw a ha)
theorem yr {c : Operand} {x y : Code} {b : Bool} (hc : ev E c = some (.bool b)) (hb : b = false) (h : WC P N D y Q E S) : WC P N D (.cond c x y) Q E S := by
  subst hb; exact fun w hw a ha=>wp_cond_false (ha.eval hc) (h w hw a ha)
theorem c_loop {σ : Type} {c : Code} (env : σ → Env) (I : σ → World → Prop) (μ : σ → Nat) (s0 : σ) (he : subB E (env s0)) (h0 : ∀ w, S w → I s0 w)
    (round:∀ s,WC P N D c (Exit.then (fun a' w'=>∃ s',Has N D a' (env s')∧I s' w'∧μ s' < μ s) Q) (env s) (I s)):WC P N D (.loop c) Q E S:=by
  intro w hw a ha b k cs
  have key : ∀ n s a w, μ s = n → Has N D a (env s) → I s w →
      ∃ e a' w',Q e a' w'∧Arrives P (lone (b.at a (.code c::.inLoop c::k)) cs w) b k cs e a' w':=by
    intro n
    induction n using Nat.strongRecOn with
    | _ n ih =>
      intro s a w hn ha hI
      obtain ⟨e,a₁,w₁,hq,harr⟩:=round s w hI a ha b (.inLoop c::k) cs
      cases e with
      | normal =>
        obtain ⟨s',ha',hI',hlt⟩:=hq
        obtain ⟨e₂,a₂,w₂,hq₂,harr₂⟩:=ih (μ s') (hn ▸ hlt) s' a₁ w₁ rfl ha' hI'
        exact ⟨e₂,a₂,w₂,hq₂,.of_steps (Steps.trans harr (.one step_inLoop)) harr₂⟩
      | exit id=>exact ⟨_,a₁,w₁,hq,.pass (x:=.inLoop c) rfl (fun _ _=>.inl (by simp)) harr⟩
      | goto l=>exact ⟨_,a₁,w₁,hq,.pass (x:=.inLoop c) rfl (fun _ _=>.inl (by simp)) harr⟩
      | ret=>exact ⟨_,a₁,w₁,hq,.pass (x:=.inLoop c) rfl (fun _ _=>.inl (by simp)) harr⟩
      | panic ch=>exact ⟨_,a₁,w₁,hq,.pass (x:=.inLoop c) rfl (fun _ _=>.inl (by simp)) harr⟩
      | outgrown=>exact ⟨_,a₁,w₁,hq,.pass (x:=.inLoop c) rfl (fun _ _=>.inl (by simp)) harr⟩
  obtain ⟨e,a',w',hq,harr⟩:=key _ s0 a w rfl (ha.less he.all) (h0 w hw)
  exact ⟨e,a',w',hq,.of_steps (.one step_loop) harr⟩
theorem zy {y:Code} (hK:∀ E S,WC P N D y Q E S→∀ w,S w→∀ a,Has N D a E→K a w) (h:WC P N D y Q E S):WE N D (Exit.then K Q) .normal E S:=fun w hw a ha=>hK E S h w hw a ha
theorem ym (hK:∀ w,S' w→∀ a,Has N D a E'→K a w) (he:subB E E') (hS:∀ w,S w→S' w):WE N D (Exit.then K Q) .normal E S:=fun w hw a ha=>hK w (hS w hw) a (ha.less he.all)
theorem yH {id:Nat} (h:WE N D Q (.exit id) E S):WE N D (Exit.then K Q) (.exit id) E S:=h
theorem zK (h:WE N D Q .ret E S):WE N D (Exit.then K Q) .ret E S:=h
theorem zm {id:Nat} (h:WE N D Q .normal E S):WE N D (Exit.inBlock id Q) .normal E S:=h
theorem yA {id:Nat} (h:WE N D Q .ret E S):WE N D (Exit.inBlock id Q) .ret E S:=h
theorem yI {id : Nat} (h : WE N D Q .normal E S) : WE N D (Exit.inBlock id Q) (.exit id) E S := fun w hw a ha => by
  show (if id=id then Q .normal a w else Q (.exit id) a w)
  rw [if_pos rfl]; exact h w hw a ha
theorem uo {id id' : Nat} (hne : Nat.beq id' id = false) (h : WE N D Q (.exit id') E S) : WE N D (Exit.inBlock id Q) (.exit id') E S := fun w hw a ha => by
  show (if id'=id then Q .normal a w else Q (.exit id') a w)
  rw [if_neg (Nat.ne_of_beq_eq_false hne)]; exact h w hw a ha
def Runs (P : Program) (N : Nat) (D : List Deferred) (E : Env) (S : World → Prop) (op : Op) (ty : TypeId) (v : Value) : Prop :=
  ∀ o:Oper,o.op=op→o.type=ty→∀ a w,Has N D a E→S w→(execOp a.eval o).run P w=.ok (.value v) w
def Want (N:Nat) (D:List Deferred) (ops:Array Oper) (E:Env) (g:Option (Nat × Bool)) (b:Bool):Prop:=∀ o:Oper,o.guard=g→∀ a,Has N D a E→Region.wanted o (yielded ops a.tmps)=b
theorem wn {ops:Array Oper}:Want N D ops E none true:=fun o ho a _=>by simp [Region.wanted,ho]
theorem wg {ops : Array Oper} {j d : Nat} {want b r : Bool} (hj : (ops[j]?).bind (·.dst) = some d) (hl : look E d = some (.bool b)) (hr : (b == want) = r) : Want N D ops E (some (j, want)) r := fun o ho a ha => by
  have h1:=ha.h d _ hl
  simp only [Region.wanted,ho,yielded,hj,Option.bind_some,h1]
  rw [← hr]; cases b <;> cases want <;> rfl
variable {ops:Array Oper} {rest:List Oper} {d:Nat} {op:Op} {ty:TypeId} {pos:String} {aft:Array Edge} {g:Option (Nat × Bool)} {v:Value}
theorem zl (h:WE N D Q .normal E S):WL P N D ops Q [] E S:=h
theorem y7 (hw : Want N D ops E g false) (hd : Nat.blt d N = true) (h : WL P N D ops Q rest ((d, undef) :: E) S) : WL P N D ops Q (⟨some d, op, ty, pos, aft, g⟩ :: rest) E S := fun w hS a ha => by
  unfold wpList
  rw [if_neg (by rw [hw _ rfl a ha]; exact Bool.false_ne_true)]
  exact h w hS _ (ha.put _ hd)
theorem gB (hw : Want N D ops E g true) (hr : Runs P N D E S op ty v) (hd : Nat.blt d N = true) (h : WL P N D ops Q rest ((d, v) :: E) S) : WL P N D ops Q (⟨some d, op, ty, pos, aft, g⟩ :: rest) E S := fun w hS a ha => by
  unfold wpList
  rw [if_pos (hw _ rfl a ha)]
  left
  unfold Oper.wp
  rw [hr _ rfl rfl a w ha hS]
  exact h w hS _ (ha.put _ hd)
theorem yQ {t : Nat} {p : Prop} [Decidable p] {l : List Oper} (hl : look E t = some (.bool (decide p))) (h1 : p → WL P N D ops Q l ((t, .bool true) :: E) S) (h2 : ¬ p → WL P N D ops Q l ((t, .bool false) :: E) S) : WL P N D ops Q l E S := fun w hS a ha => by
  have h0:=ha.h t _ hl
  by_cases hp:p
  · refine h1 hp w hS a ⟨ha.d,ha.n,fun s u hu=>?_⟩
    rw [look_cons] at hu
    by_cases e:t=s
    · rw [if_pos e] at hu; rw [← e,h0,decide_eq_true hp]; simpa using hu
    · rw [if_neg e] at hu; exact ha.h s u hu
  · refine h2 hp w hS a ⟨ha.d,ha.n,fun s u hu=>?_⟩
    rw [look_cons] at hu
    by_cases e:t=s
    · rw [if_pos e] at hu; rw [← e,h0,decide_eq_false hp]; simpa using hu
    · rw [if_neg e] at hu; exact ha.h s u hu
theorem q_nil (h:WE N D (fun _=>K) .normal E S):WQ P N D ops K [] E S:=fun a ha=>wpQuiet_nil (fun w' hw'=>h w' hw' a ha)
theorem yx (hw : Want N D ops E g false) (hd : Nat.blt d N = true) (h : WQ P N D ops K rest ((d, undef) :: E) S) : WQ P N D ops K (⟨some d, op, ty, pos, aft, g⟩ :: rest) E S := fun a ha => by
  refine wpQuiet_step fun K' hK=>?_
  rw [if_neg (by rw [hw _ rfl a ha]; exact Bool.false_ne_true)]
  exact hK _ (h _ (ha.put _ hd))
theorem gK (hw : Want N D ops E g true) (hr : Runs P N D E S op ty v) (hd : Nat.blt d N = true) (h : WQ P N D ops K rest ((d, v) :: E) S) : WQ P N D ops K (⟨some d, op, ty, pos, aft, g⟩ :: rest) E S := fun a ha => by
  refine wpQuiet_step fun K' hK=>?_
  rw [if_pos (hw _ rfl a ha)]
  refine ⟨v,fun w hw=>?_,hK _ (h _ (ha.put _ hd))⟩
  unfold Oper.quietAt
  rw [hr _ rfl rfl a w ha hw]
  exact ⟨rfl,rfl⟩
theorem vh {t : Nat} {p : Prop} [Decidable p] {l : List Oper} (hl : look E t = some (.bool (decide p))) (h1 : p → WQ P N D ops K l ((t, .bool true) :: E) S) (h2 : ¬ p → WQ P N D ops K l ((t, .bool false) :: E) S) : WQ P N D ops K l E S := fun a ha => by
  have h0:=ha.h t _ hl
  by_cases hp:p
  · refine h1 hp a ⟨ha.d,ha.n,fun s u hu=>?_⟩
    rw [look_cons] at hu
    by_cases e:t=s
    · rw [if_pos e] at hu; rw [← e,h0,decide_eq_true hp]; simpa using hu
    · rw [if_neg e] at hu; exact ha.h s u hu
  · refine h2 hp a ⟨ha.d,ha.n,fun s u hu=>?_⟩
    rw [look_cons] at hu
    by_cases e:t=s
    · rw [if_pos e] at hu; rw [← e,h0,decide_eq_false hp]; simpa using hu
    · rw [if_neg e] at hu; exact ha.h s u hu
end
end Ex
end
section
namespace Ex
open Go.RowKit (wrap64)
def Inf (P:Program) (t:TypeId) (k bytes:Nat) (z:Value):Prop:=(P.info? t).map (fun i=>(i.zero,i.size,i.bytes))=some (some z,k,bytes)
theorem Inf.get {P : Program} {t : TypeId} {k bytes : Nat} {z : Value} (h : Inf P t k bytes z) : ∃ i, P.info? t = some i ∧ i.zero = some z ∧ i.size = k ∧ i.bytes = bytes := by
  unfold Inf at h
  cases hi:P.info? t with
  | none=>simp [hi] at h
  | some i =>
    simp only [hi,Option.map_some,Option.some.injEq,Prod.mk.injEq] at h
    exact ⟨i,rfl,h.1,h.2.1,h.2.2⟩
def flatT (P : Program) (t : TypeId) : Bool := match P.underlying t with
  | some (.struct _) | some (.array _ _) | none=>false
  | _=>true
def aggT (P : Program) (t : TypeId) : Bool := match P.underlying t with
  | some (.struct _) | some (.array _ _)=>true
  | _=>false
def fldAt (P : Program) (s k : Nat) : Option Nat := match P.underlying s with
  | some (.struct fs) => match fs[k]? with
    | some f => match (P.info? f.type).map (·.size) with
      | some (_ + 1)=>some f.offset
      | _=>none
    | none=>none
  | _=>none
def placesOf (P : Program) (t : TypeId) : Option (List (Nat × Nat)) := match P.underlying t with
  | some (.struct fs)=>fs.toList.mapM fun f=>(P.info? f.type).map fun i=>(f.offset,i.size)
  | _=>none
theorem run_isAgg_flat {P : Program} {t : TypeId} (h : flatT P t = true) (w : World) : (isAgg t).run P w = .ok false w := by
  unfold flatT at h
  cases hd:P.underlying t with
  | none=>simp [hd] at h
  | some d=>cases d <;> first | (simp [hd] at h; done) | simp [isAgg,run_underlying hd]
theorem run_isAgg_agg {P : Program} {t : TypeId} (h : aggT P t = true) (w : World) : (isAgg t).run P w = .ok true w := by
  unfold aggT at h
  cases hd:P.underlying t with
  | none=>simp [hd] at h
  | some d=>cases d <;> first | (simp [hd] at h; done) | simp [isAgg,run_underlying hd]
theorem run_sizeOf' {P : Program} {t : TypeId} {k bytes : Nat} {z : Value} (h : Inf P t k bytes z) (w : World) : (sizeOf t).run P w = .ok k w := by
  obtain ⟨i,h1,_,h3,_⟩:=h.get
  simp [sizeOf,typeInfo,h1,h3]
theorem run_zeroValue' {P : Program} {t : TypeId} {k bytes : Nat} {z : Value} (h : Inf P t k bytes z) (w : World) : (zeroValue t).run P w = .ok z w := by
  obtain ⟨i,h1,h2,_,_⟩:=h.get
  simp [zeroValue,typeInfo,h1,h2]
def evs (E : Env) : List Operand → Option (List Value)
  | []=>some []
  | x :: r => match ev E x, evs E r with
    | some v,some vs=>some (v::vs)
    | _,_=>none
def evp (E : Env) : List (Nat × Operand) → Option (List (Nat × Value))
  | []=>some []
  | x :: r => match ev E x.2, evp E r with
    | some v,some vs=>some ((x.1,v)::vs)
    | _,_=>none
section
variable {P:Program} {N:Nat} {D:List Deferred} {E:Env} {S:World→Prop} {a:Act}
theorem evs_map (ha : Has N D a E) : ∀ {l : List Operand} {vs : List Value}, evs E l = some vs → l.map a.eval = vs
  | [],vs,h=>by simpa [evs] using h
  | x :: r, vs, h => by
    unfold evs at h
    cases h1:ev E x with
    | none=>simp [h1] at h
    | some v =>
      cases h2:evs E r with
      | none=>simp [h1,h2] at h
      | some us =>
        simp only [h1,h2,Option.some.injEq] at h
        rw [← h,List.map_cons,ha.eval h1,evs_map ha h2]
theorem evp_map (ha : Has N D a E) : ∀ {l : List (Nat × Operand)} {vs : List (Nat × Value)}, evp E l = some vs → l.map (fun x => (x.1, a.eval x.2)) = vs
  | [],vs,h=>by simpa [evp] using h
  | x :: r, vs, h => by
    unfold evp at h
    cases h1:ev E x.2 with
    | none=>simp [h1] at h
    | some v =>
      cases h2:evp E r with
      | none=>simp [h1,h2] at h
      | some us =>
        simp only [h1,h2,Option.some.injEq] at h
        rw [← h,List.map_cons,ha.eval h1,evp_map ha h2]
variable {x y z c:Operand} {u v:Value} {k k':IntKind} {m n:Int} {T T' ty:TypeId}
theorem zi (hx:ev E x=some v):Runs P N D E S (.move x) ty v:=fun o ho _ a w ha _=>by unfold execOp; rw [ho]; simp [ha.eval hx]
theorem yk (hx:ev E x=some v):Runs P N D E S (.assign x) ty v:=fun o ho _ a w ha _=>by unfold execOp; rw [ho]; simp [ha.eval hx]
theorem zM {b : Bool} (hc : ev E c = some (.bool b)) (hv : (bif b then ev E x else ev E y) = some v) : Runs P N D E S (.pick c x y) ty v := fun o ho _ a w ha _ => by
  unfold execOp; rw [ho]
  cases b
  · simp [ha.eval hc,asBool,ha.eval (show ev E y=some v from hv)]
  · simp [ha.eval hc,asBool,ha.eval (show ev E x=some v from hv)]
theorem yG {i : Nat} {vs : List Value} (hx : ev E x = some (.tuple vs.toArray)) (hv : vs[i]? = some v) : Runs P N D E S (.extract x i) ty v := fun o ho _ a w ha _ => by
  unfold execOp; rw [ho]
  simp [ha.eval hx,Instr.extract,hv]
theorem zT {ad : Addr} (hx : ev E x = some (.pointer (some ad))) : Runs P N D E S (.nilCheck x) ty (.pointer (some ad)) := fun o ho _ a w ha _ => by
  unfold execOp; rw [ho]
  simp [ha.eval hx]
theorem ibeq (m n:Int):(m == n)=decide (m=n):=by by_cases h:m=n <;> simp [h]
section
variable (hx:ev E x=some (.int k m)) (hy:ev E y=some (.int k n))
include hx hy
theorem jc:Runs P N D E S (.binOp .add T x y T') ty (.int k (k.wrap (m + n))):=fun o ho _ a w ha _=>by unfold execOp; rw [ho]; simp [ha.eval hx,ha.eval hy,eqGuard_at_int,binOp_add,Op.intArith]
theorem gL:Runs P N D E S (.binOp .sub T x y T') ty (.int k (k.wrap (m - n))):=fun o ho _ a w ha _=>by unfold execOp; rw [ho]; simp [ha.eval hx,ha.eval hy,eqGuard_at_int,binOp_sub,Op.intArith]
theorem r_mul:Runs P N D E S (.binOp .mul T x y T') ty (.int k (k.wrap (m * n))):=fun o ho _ a w ha _=>by unfold execOp; rw [ho]; simp [ha.eval hx,ha.eval hy,eqGuard_at_int,binOp_mul,Op.intArith]
theorem r_quo (h0:n≠0):Runs P N D E S (.binOp .quo T x y T') ty (.int k (k.wrap (m.tdiv n))):=fun o ho _ a w ha _=>by unfold execOp; rw [ho]; simp [ha.eval hx,ha.eval hy,eqGuard_at_int,binOp_quo,Op.intDiv,h0]
theorem jq (h0:n≠0):Runs P N D E S (.binOp .rem T x y T') ty (.int k (m.tmod n)):=fun o ho _ a w ha _=>by unfold execOp; rw [ho]; simp [ha.eval hx,ha.eval hy,eqGuard_at_int,binOp_rem,Op.intDiv,h0]
theorem yR:Runs P N D E S (.binOp .lss T x y T') ty (.bool (decide (m < n))):=fun o ho _ a w ha _=>by unfold execOp; rw [ho]; simp [ha.eval hx,ha.eval hy,eqGuard_at_int,binOp_lss]
theorem u4:Runs P N D E S (.binOp .leq T x y T') ty (.bool (decide (m≤n))):=fun o ho _ a w ha _=>by unfold execOp; rw [ho]; simp [ha.eval hx,ha.eval hy,eqGuard_at_int,binOp_leq]
theorem vH:Runs P N D E S (.binOp .gtr T x y T') ty (.bool (decide (n < m))):=fun o ho _ a w ha _=>by unfold execOp; rw [ho]; simp [ha.eval hx,ha.eval hy,eqGuard_at_int,binOp_gtr]
theorem vn:Runs P N D E S (.binOp .geq T x y T') ty (.bool (decide (n≤m))):=fun o ho _ a w ha _=>by unfold execOp; rw [ho]; simp [ha.eval hx,ha.eval hy,eqGuard_at_int,binOp_geq]
theorem yf : Runs P N D E S (.binOp .eql T x y T') ty (.bool (decide (m = n))) := fun o ho _ a w ha _ => by
  unfold execOp; rw [ho]; simp [ha.eval hx,ha.eval hy,eqGuard_at_int,binOp_eql,ibeq]
theorem vD : Runs P N D E S (.binOp .neq T x y T') ty (.bool (decide (m ≠ n))) := fun o ho _ a w ha _ => by
  unfold execOp; rw [ho]; simp [ha.eval hx,ha.eval hy,eqGuard_at_int,binOp_neq,bne,ibeq]
theorem jd : Runs P N D E S (.call { callee := .builtin .min, args := #[x, y], argTypes := #[T, T'] }) ty (.int k (if n < m then n else m)) := fun o ho hty a w ha _ => by
  unfold execOp; rw [ho]; simp [resolve,invoke,builtin,Builtin.min_,ha.eval hx,ha.eval hy,Builtin.min2]
theorem uj : Runs P N D E S (.call { callee := .builtin .max, args := #[x, y], argTypes := #[T, T'] }) ty (.int k (if m < n then n else m)) := fun o ho hty a w ha _ => by
  unfold execOp; rw [ho]; simp [resolve,invoke,builtin,Builtin.max_,ha.eval hx,ha.eval hy,Builtin.max2]
end
theorem wrap_in {n:Int} (h:-9223372036854775808≤n∧n≤9223372036854775807):IntKind.i64.wrap n=n:=IntWalk.i64_in n h
section
variable (hx:ev E x=some (.int .i64 m)) (hy:ev E y=some (.int .i64 n))
include hx hy
theorem zw (h:-9223372036854775808≤m + n∧m + n≤9223372036854775807):Runs P N D E S (.binOp .add T x y T') ty (.int .i64 (m + n)):=by have:=jc (P:=P) (N:=N) (D:=D) (S:=S) (T:=T) (T':=T') (ty:=ty) hx hy; rwa [wrap_in h] at this
theorem vw (h:-9223372036854775808≤m - n∧m - n≤9223372036854775807):Runs P N D E S (.binOp .sub T x y T') ty (.int .i64 (m - n)):=by have:=gL (P:=P) (N:=N) (D:=D) (S:=S) (T:=T) (T':=T') (ty:=ty) hx hy; rwa [wrap_in h] at this
theorem r_muln (h:-9223372036854775808≤m * n∧m * n≤9223372036854775807):Runs P N D E S (.binOp .mul T x y T') ty (.int .i64 (m * n)):=by have:=r_mul (P:=P) (N:=N) (D:=D) (S:=S) (T:=T) (T':=T') (ty:=ty) hx hy; rwa [wrap_in h] at this
theorem r_quon (hm : 0 ≤ m ∧ m ≤ 9223372036854775807) (hn : 0 < n) : Runs P N D E S (.binOp .quo T x y T') ty (.int .i64 (m / n)) := by
  have h1:=r_quo (P:=P) (N:=N) (D:=D) (S:=S) (T:=T) (T':=T') (ty:=ty) hx hy (by omega)
  have h2:m.tdiv n=m / n:=Int.tdiv_eq_ediv_of_nonneg hm.1
  have h3:0≤m / n:=Int.ediv_nonneg hm.1 (by omega)
  have h4:m / n≤m:=Int.ediv_le_self _ hm.1
  rwa [h2,wrap_in (by omega)] at h1
theorem jV (hm : 0 ≤ m) (hn : 0 < n) : Runs P N D E S (.binOp .rem T x y T') ty (.int .i64 (m % n)) := by
  have h1:=jq (P:=P) (N:=N) (D:=D) (S:=S) (T:=T) (T':=T') (ty:=ty) hx hy (by omega)
  rwa [Int.tmod_eq_emod_of_nonneg hm] at h1
end
theorem jB {p:Prop} [Decidable p] (hx:ev E x=some (.bool (decide p))):Runs P N D E S (.unOp .not T x) ty (.bool (decide (¬ p))):=fun o ho _ a w ha _=>by unfold execOp; rw [ho]; simp [ha.eval hx,Op.unary]
theorem vC {b:Bool} (hx:ev E x=some (.bool b)):Runs P N D E S (.unOp .not T x) ty (.bool (!b)):=fun o ho _ a w ha _=>by unfold execOp; rw [ho]; simp [ha.eval hx,Op.unary]
theorem r_neg (hx : ev E x = some (.int .i64 m)) (h : -9223372036854775807 ≤ m ∧ m ≤ 9223372036854775807) : Runs P N D E S (.unOp .neg T x) ty (.int .i64 (-m)) := fun o ho _ a w ha _ => by
  unfold execOp; rw [ho]; simp [ha.eval hx,Op.unary,Op.intArith,wrap_in (n:=-m) (by omega)]
theorem r_conv (hx : ev E x = some (.int k m)) (hs : (P.underlying T).isSome = true) (hd : P.underlying T' = some (.int k')) : Runs P N D E S (.convert T T' x) ty (.int k' (k'.wrap m)) := fun o ho _ a w ha _ => by
  obtain ⟨d,hd'⟩:=Option.isSome_iff_exists.mp hs
  unfold execOp; rw [ho]; simp [ha.eval hx,convert,run_underlying hd',run_underlying hd,Conv.intToInt]
section
variable {s t:ByteArray}
theorem beq_dec (s t : ByteArray) : (s.toList == t.toList) = decide (s = t) := by
  by_cases h:s=t
  · subst h; simp
  · have : ¬ s.toList = t.toList := fun e => h (by
      rw [ByteArray.toList_eq,ByteArray.toList_eq] at e
      obtain ⟨⟨x⟩⟩:=s
      obtain ⟨⟨y⟩⟩:=t
      simp at e
      rw [e])
    simp [h,this]
section
variable (hx:ev E x=some (.string s)) (hy:ev E y=some (.string t))
include hx hy
theorem vf : Runs P N D E S (.binOp .eql T x y T') ty (.bool (decide (s = t))) := fun o ho _ a w ha _ => by
  unfold execOp; rw [ho]; simp only [ha.eval hx,ha.eval hy,eqGuard_at_string]; simp [binOp,Op.stringOp,beq_dec]
theorem u7 : Runs P N D E S (.binOp .neq T x y T') ty (.bool (decide (s ≠ t))) := fun o ho _ a w ha _ => by
  unfold execOp; rw [ho]; simp only [ha.eval hx,ha.eval hy,eqGuard_at_string]; simp [binOp,Op.stringOp,beq_dec]
theorem r_slss : Runs P N D E S (.binOp .lss T x y T') ty (.bool (Op.bytesLess s.toList t.toList)) := fun o ho _ a w ha _ => by
  unfold execOp; rw [ho]; simp only [ha.eval hx,ha.eval hy,eqGuard_at_string]; simp [binOp,Op.stringOp]
theorem r_sgtr : Runs P N D E S (.binOp .gtr T x y T') ty (.bool (!(Op.bytesLess s.toList t.toList || decide (s = t)))) := fun o ho _ a w ha _ => by
  unfold execOp; rw [ho]; simp only [ha.eval hx,ha.eval hy,eqGuard_at_string]; simp [binOp,Op.stringOp,beq_dec]
theorem r_sgeq : Runs P N D E S (.binOp .geq T x y T') ty (.bool (!(Op.bytesLess s.toList t.toList))) := fun o ho _ a w ha _ => by
  unfold execOp; rw [ho]; simp only [ha.eval hx,ha.eval hy,eqGuard_at_string]; simp [binOp,Op.stringOp]
end
theorem uV (hx : ev E x = some (.string s)) (hu : P.underlying T = some .string) : Runs P N D E S (.call { callee := .builtin .len, args := #[x], argTypes := #[T] }) ty (.int .i64 s.size) := fun o ho hty a w ha _ => by
  unfold execOp; rw [ho]; simp [resolve,invoke,builtin,ha.eval hx,Builtin.len_,run_underlying hu,goInt]
theorem jI {i : Nat} {b : UInt8} (hx : ev E x = some (.string s)) (hy : ev E y = some (.int k m)) (hm : m = (i : Int)) (hi : s[i]? = some b) (hu : P.underlying T = some .string) : Runs P N D E S (.index T x y) ty (.int .u8 b.toNat) := fun o ho hty a w ha _ => by
  unfold execOp; rw [ho]; subst hm; simp [ha.eval hx,ha.eval hy,Instr.index,asIntOf,run_underlying hu,hi]
theorem r_sslice_l {l : Nat} (hx : ev E x = some (.string s)) (hy : ev E y = some (.int k m)) (hm : m = (l : Int)) (hl : l ≤ s.size) (hu : P.underlying T = some .string) : Runs P N D E S (.slice T x (some y) none none) ty (.string (s.extract l s.size)) := fun o ho hty a w ha _ => by
  unfold execOp; rw [ho]; subst hm
  simp only [ha.eval hx,ha.eval hy,Option.map_some,Option.map_none,Sem.run_bind,run_sliceAt_string w T _ _ _ _ hu,run_slice_string_l w T s hu k l (by omega) (by omega),Result.andThen_ok,Sem.run_pure,Int.toNat_natCast]
theorem r_sslice_lh {l h : Nat} (hx : ev E x = some (.string s)) (hy : ev E y = some (.int k m)) (hm : m = (l : Int)) (hz : ev E z = some (.int k' n)) (hn : n = (h : Int)) (hl : l ≤ h) (hh : h ≤ s.size) (hu : P.underlying T = some .string) :
    Runs P N D E S (.slice T x (some y) (some z) none) ty (.string (s.extract l h)):=fun o ho hty a w ha _=>by
  unfold execOp; rw [ho]; subst hm hn
  simp only [ha.eval hx,ha.eval hy,ha.eval hz,Option.map_some,Option.map_none,Sem.run_bind,run_sliceAt_string w T _ _ _ _ hu]
  simp [Instr.slice,run_underlying hu,Instr.sliceBounds,Instr.sliceBound,asIntOf,hl,hh]
end
section
variable {A:Option Addr} {len cap:Nat} {ad:Addr}
theorem yW (hx : ev E x = some (.slice A len cap)) (hu : P.underlying T = some (.slice T')) : Runs P N D E S (.call { callee := .builtin .len, args := #[x], argTypes := #[T] }) ty (.int .i64 len) := fun o ho hty a w ha _ => by
  unfold execOp; rw [ho]; simp [resolve,invoke,builtin,ha.eval hx,Builtin.len_,run_underlying hu,goInt]
theorem run_fieldAt {s fs off : Nat} (hf : fldAt P s fs = some off) (w : World) : (Instr.fieldAt s (.pointer (some ad)) fs).run P w = .ok (.pointer (some (ad.add off))) w := by
  unfold fldAt at hf
  cases hu:P.underlying s with
  | none=>simp [hu] at hf
  | some d =>
    cases d <;> try (simp [hu] at hf; done)
    rename_i l
    simp only [hu] at hf
    cases hl:l[fs]? with
    | none=>simp [hl] at hf
    | some f =>
      simp only [hl] at hf
      cases hi:P.info? f.type with
      | none=>simp [hi] at hf
      | some i =>
        cases hs:i.size with
        | zero=>simp [hi,hs] at hf
        | succ q =>
          simp only [hi,Option.map_some,hs,Option.some.injEq] at hf
          subst hf
          simp [Instr.fieldAt,run_underlying hu,hl,Instr.sureAddr,fieldPlace,sizeOf,typeInfo,hi,hs]
theorem add_lit (b o n:Nat):Addr.add ⟨b,o,none⟩ n=⟨b,o + n,none⟩:=Addr.add_lit b o n
theorem add_add (ad : Addr) (i j : Nat) : (ad.add i).add j = ad.add (i + j) := by
  unfold Addr.add
  by_cases hi:i=0 <;> by_cases hj:j=0 <;> simp [hi,hj,Nat.add_assoc]
theorem add_block (ad:Addr) (n:Nat):(ad.add n).block=ad.block:=by unfold Addr.add; split <;> rfl
theorem za {b o fs off : Nat} (hx : ev E x = some (.pointer (some ⟨b, o, none⟩))) (hf : fldAt P T fs = some off) : Runs P N D E S (.fieldAddr T x fs) ty (.pointer (some ⟨b, o + off, none⟩)) := fun p hp _ a w ha _ => by
  unfold execOp; rw [hp]; simp [ha.eval hx,run_fieldAt hf,add_lit]
theorem yy {i o fs off : Nat} (hx : ev E x = some (.pointer (some ((ad.add i).add o)))) (hf : fldAt P T fs = some off) : Runs P N D E S (.fieldAddr T x fs) ty (.pointer (some ((ad.add i).add (o + off)))) := fun p hp _ a w ha _ => by
  unfold execOp; rw [hp]; simp [ha.eval hx,run_fieldAt hf,add_add,Nat.add_assoc]
theorem y6 {i k1 by1 : Nat} {z1 : Value} (hx : ev E x = some (.slice A len cap)) (hA : A = some ad) (hy : ev E y = some (.int k m)) (hm : m = (i : Int)) (hi : i < len) (hu : P.underlying T = some (.slice T')) (hs : Inf P T' k1 by1 z1) :
    Runs P N D E S (.indexAddr T x y) ty (.pointer (some ((ad.add (i * k1)).add 0))):=fun p hp _ a w ha _=>by
  unfold execOp; rw [hp]; subst hA hm
  simp [ha.eval hx,ha.eval hy,Instr.indexAt,asIntOf,run_underlying hu,hi,run_sizeOf' hs,Addr.add_zero']
theorem uq (hx : ev E x = some (.pointer (some ad))) (hf : flatT P T = true) (hc : ∀ w, S w → w.cell? ad = some v) : Runs P N D E S (.load T x) ty v := fun p hp _ a w ha hS => by
  unfold execOp; rw [hp]; simp [ha.eval hx,Instr.loadAt,Instr.sureAddr,loadVar,run_isAgg_flat hf,hc w hS]
theorem jC {k1 by1 : Nat} {z1 : Value} (cs : List Value) (hx : ev E x = some (.pointer (some ad))) (hg : aggT P T = true) (hs : Inf P T k1 by1 z1) (hl : cs.length = k1) (hc : ∀ w, S w → ∀ (j : Nat) u, cs[j]? = some u → w.cell? (ad.add j) = some u) :
    Runs P N D E S (.load T x) ty (.agg cs.toArray):=fun p hp _ a w ha hS=>by
  subst hl
  unfold execOp; rw [hp]; simp [ha.eval hx,Instr.loadAt,Instr.sureAddr,loadVar,run_isAgg_agg hg,run_sizeOf' hs,run_loadCells_list w ad cs (hc w hS)]
end
section
variable {w0:World} {M:Fp} {L:List Own}
theorem Mem.cell {w : World} (h : Mem w0 M L w) {i b j : Nat} {cs : List Value} {t : TypeId} (hi : L[i]? = some (.blk b cs t)) : w.cell? ⟨b, j, none⟩ = cs[j]? := by
  rw [cell_of_row w b j _ t (0,0) (h.blk hi)]; simp
theorem zg (i : Nat) {b j : Nat} {cs : List Value} {t : TypeId} (hx : ev E x = some (.pointer (some ⟨b, j, none⟩))) (hL : L[i]? = some (.blk b cs t)) (hv : cs[j]? = some v) (hf : flatT P T = true) : Runs P N D E (Mem w0 M L) (.load T x) ty v :=
  uq hx hf fun _ h=>(h.cell hL).trans hv
theorem yM (i : Nat) {b j k1 by1 : Nat} {z1 : Value} {cs : List Value} {t : TypeId} (vs : List Value) (hx : ev E x = some (.pointer (some ⟨b, j, none⟩))) (hL : L[i]? = some (.blk b cs t)) (hv : (cs.drop j).take k1 = vs) (hl : vs.length = k1) (hg : aggT P T = true) (hs : Inf P T k1 by1 z1) :
    Runs P N D E (Mem w0 M L) (.load T x) ty (.agg vs.toArray) :=
  jC vs hx hg hs hl fun _ h q u hu => by
    rw [add_lit,h.cell hL]
    rw [← hv,List.getElem?_take] at hu
    split at hu
    · simpa using hu
    · cases hu
end
def splice (cs:List Value) (o:Nat) (vs:List Value):List Value:=cs.take o++(vs++cs.drop (o + vs.length))
def bfill (pl : List (Nat × Nat)) : List Value → List (Nat × Value) → Option (List Value)
  | cs,[]=>some cs
  | cs, p :: r => match pl[p.1]? with
    | none=>none
    | some q => match Nat.beq p.2.cells.toList.length q.2, Nat.ble (q.1 + p.2.cells.toList.length) cs.length with
      | true,true=>bfill pl (splice cs q.1 p.2.cells.toList) r
      | _,_=>none
theorem foldl_splice (off : Nat) : ∀ (vs : List Value) (j : Nat) (cs : List Value), off + j + vs.length ≤ cs.length →
    (vs.zipIdx j).foldl (fun (cs:Array Value) (x:Value × Nat)=>cs.setIfInBounds (off + x.2) x.1) cs.toArray=(splice cs (off + j) vs).toArray
  | [],j,cs,_=>by simp [splice]
  | v :: r, j, cs, h => by
    simp only [List.length_cons] at h
    simp only [List.zipIdx_cons,List.foldl_cons]
    have e:(cs.toArray.setIfInBounds (off + j) v)=(cs.set (off + j) v).toArray:=by simp
    rw [e,foldl_splice off r (j + 1) _ (by simp; omega)]
    congr 1
    have:=list_seg_step cs (off + j) v r (by omega)
    simp only [splice,← List.append_assoc]
    simpa [Nat.add_assoc] using this
theorem bfill_fill (pl : List (Nat × Nat)) : ∀ (parts : List (Nat × Value)) (cs cs' : List Value), bfill pl cs parts = some cs' → Instr.fill (fun i => pl.toArray[i]?) cs.toArray parts = some cs'.toArray
  | [],cs,cs',h=>by simp [bfill] at h; simp [Instr.fill,h]
  | p :: r, cs, cs', h => by
    obtain ⟨i,v⟩:=p
    unfold bfill at h
    unfold Instr.fill
    dsimp only at h ⊢
    have e0:pl.toArray[i]?=pl[i]?:=by simp
    rw [e0]
    cases hq:pl[i]? with
    | none=>rw [hq] at h; cases h
    | some q =>
      obtain ⟨off,size⟩:=q
      rw [hq] at h
      dsimp only at h ⊢
      cases h1:Nat.beq v.cells.toList.length size with
      | false=>rw [h1] at h; cases h
      | true =>
        cases h2:Nat.ble (off + v.cells.toList.length) cs.length with
        | false=>rw [h1,h2] at h; cases h
        | true =>
          rw [h1,h2] at h
          have e1:v.cells.size=size:=by simpa using Nat.eq_of_beq_eq_true h1
          have e2:off + v.cells.size≤cs.length:=by simpa using Nat.le_of_ble_eq_true h2
          have hc:¬ ((decide (v.cells.size≠size) || decide (off + v.cells.size > cs.toArray.size))=true):=by simp; omega
          rw [if_neg hc,← bfill_fill pl r _ cs' h]
          have:=foldl_splice off v.cells.toList 0 cs (by simpa using e2)
          simp only [Nat.add_zero] at this
          rw [← this,← Array.foldl_toList]
          simp
theorem zz {pl : List (Nat × Nat)} {parts : Array (Nat × Operand)} {ps : List (Nat × Value)} {k1 by1 : Nat} {zs : List Value} (cs : List Value) (hp : placesOf P T = some pl) (hs : Inf P T k1 by1 (.agg zs.toArray)) (he : evp E parts.toList = some ps) (hf : bfill pl zs ps = some cs) :
    Runs P N D E S (.build T parts) ty (.agg cs.toArray):=fun o ho _ a w ha _=>by
  unfold execOp; rw [ho]
  have h1 : (parts.map fun (i, x) => (i, a.eval x)).toList = ps := by
    rw [Array.toList_map]; exact evp_map ha he
  have h2 : P.built T ps = some cs.toArray := by
    obtain ⟨i,e1,e2,e3,_⟩:=hs.get
    unfold placesOf at hp
    cases hu:P.underlying T with
    | none=>simp [hu] at hp
    | some d =>
      cases d <;> try (simp [hu] at hp; done)
      rename_i fs
      simp only [hu] at hp
      unfold Program.built
      simp only [e1,hu,e2,hp]
      exact bfill_fill pl ps zs cs hf
  simp only [Sem.run_bind,run_build w T _ _ (by rw [h1]; exact h2),Result.andThen_ok,Sem.run_pure]
end
end Ex
end
section
namespace Ex
variable {P : Program} {N : Nat} {D : List Deferred} {E : Env} {S : World → Prop} {Q : Exit → Act → World → Prop} {K : Act → World → Prop}
  {w0:World} {M:Fp} {L:List Own}
  {ops:Array Oper} {rest:List Oper} {d:Nat} {dst:Option Tmp} {op:Op} {ty T T':TypeId} {pos:String} {aft:Array Edge} {g:Option (Nat × Bool)} {v u:Value} {x y z:Operand}
theorem l_gen {S' : World → Prop} (hw : Want N D ops E g true) (hd : Nat.blt d N = true)
    (h:∀ o:Oper,o.op=op→o.type=ty→∀ a w,Has N D a E→S w→∃ v w',(execOp a.eval o).run P w=.ok (.value v) w'∧S' w'∧WL P N D ops Q rest ((d,v)::E) S') :
    WL P N D ops Q (⟨some d,op,ty,pos,aft,g⟩::rest) E S:=fun w hS a ha=>by
  unfold wpList
  rw [if_pos (hw _ rfl a ha)]
  left
  obtain ⟨v,w',hr,hS',hrest⟩:=h ⟨some d,op,ty,pos,aft,g⟩ rfl rfl a w ha hS
  unfold Oper.wp
  rw [hr]
  exact hrest w' hS' _ (ha.put _ hd)
theorem jW (hw : Want N D ops E g true) (hd : Nat.blt d N = true)
    (h:∀ o:Oper,o.op=op→o.type=ty→∀ a w,Has N D a E→S w→∃ v w',(execOp a.eval o).run P w=.ok (.value v) w'∧∃ S':World→Prop,S' w'∧WL P N D ops Q rest ((d,v)::E) S') :
    WL P N D ops Q (⟨some d,op,ty,pos,aft,g⟩::rest) E S:=fun w hS a ha=>by
  unfold wpList
  rw [if_pos (hw _ rfl a ha)]
  left
  obtain ⟨v,w',hr,S',hS',hrest⟩:=h ⟨some d,op,ty,pos,aft,g⟩ rfl rfl a w ha hS
  unfold Oper.wp
  rw [hr]
  exact hrest w' hS' _ (ha.put _ hd)
theorem gM {S' : World → Prop} (hw : Want N D ops E g true)
    (h:∀ o:Oper,o.op=op→o.type=ty→∀ a w,Has N D a E→S w→∃ w',(execOp a.eval o).run P w=.ok .skip w'∧S' w')
    (hk:WL P N D ops Q rest E S'):WL P N D ops Q (⟨none,op,ty,pos,aft,g⟩::rest) E S:=fun w hS a ha=>by
  unfold wpList
  rw [if_pos (hw _ rfl a ha)]
  left
  obtain ⟨w',hr,hS'⟩:=h ⟨none,op,ty,pos,aft,g⟩ rfl rfl a w ha hS
  unfold Oper.wp
  rw [hr]
  exact hk w' hS' _ ha
theorem gC {cs : List Value} {t : TypeId} (hw : Want N D ops E g true) (hd : Nat.blt d N = true)
    (hr:∀ o:Oper,o.op=op→o.type=ty→∀ a w,Has N D a E→(execOp a.eval o).run P w=.ok (.value (.pointer (some ⟨w.heap.size,0,none⟩))) (w.alloc (.cells cs.toArray t)))
    (h:∀ b,WL P N D ops Q rest ((d,.pointer (some ⟨b,0,none⟩))::E) (Mem w0 M (.blk b cs t::L))):WL P N D ops Q (⟨some d,op,ty,pos,aft,g⟩::rest) E (Mem w0 M L) :=
  jW hw hd fun o ho hty a w ha hS=>⟨_,_,hr o ho hty a w ha,_,hS.new cs t,h _⟩
theorem yC {zs : List Value} {k by1 : Nat} (hw : Want N D ops E g true) (hs : Inf P T k by1 (.agg zs.toArray)) (hd : Nat.blt d N = true)
    (h:∀ b,WL P N D ops Q rest ((d,.pointer (some ⟨b,0,none⟩))::E) (Mem w0 M (.blk b zs T::L))):WL P N D ops Q (⟨some d,.alloc T,ty,pos,aft,g⟩::rest) E (Mem w0 M L) :=
  gC hw hd (fun o ho _ a w _=>by unfold execOp; rw [ho]; simp [Instr.alloc,run_zeroValue' hs,newVar,newRow,Value.cells]) h
theorem l_alloc1 {zv : Value} {k by1 : Nat} (hw : Want N D ops E g true) (hs : Inf P T k by1 zv) (hz : zv.cells = #[zv]) (hd : Nat.blt d N = true)
    (h:∀ b,WL P N D ops Q rest ((d,.pointer (some ⟨b,0,none⟩))::E) (Mem w0 M (.blk b [zv] T::L))):WL P N D ops Q (⟨some d,.alloc T,ty,pos,aft,g⟩::rest) E (Mem w0 M L) :=
  gC hw hd (fun o ho _ a w _=>by unfold execOp; rw [ho]; simp [Instr.alloc,run_zeroValue' hs,newVar,newRow,hz]) h
theorem vS {vs : List Value} (hw : Want N D ops E g true) (hx : ev E x = some (.agg vs.toArray)) (hd : Nat.blt d N = true)
    (h:∀ b,WL P N D ops Q rest ((d,.pointer (some ⟨b,0,none⟩))::E) (Mem w0 M (.blk b vs T::L))):WL P N D ops Q (⟨some d,.box T x,ty,pos,aft,g⟩::rest) E (Mem w0 M L) :=
  gC hw hd (fun o ho _ a w ha=>by unfold execOp; rw [ho]; simp [Instr.box,ha.eval hx,newVar,newRow,Value.cells]) h
theorem jJ (hw : Want N D ops E g true) (hx : ev E x = some v) (hz : v.cells = #[v]) (hd : Nat.blt d N = true)
    (h:∀ b,WL P N D ops Q rest ((d,.pointer (some ⟨b,0,none⟩))::E) (Mem w0 M (.blk b [v] T::L))):WL P N D ops Q (⟨some d,.box T x,ty,pos,aft,g⟩::rest) E (Mem w0 M L) :=
  gC hw hd (fun o ho _ a w ha=>by unfold execOp; rw [ho]; simp [Instr.box,ha.eval hx,newVar,newRow,hz]) h
theorem run_storeVarN {k by1 : Nat} {zv : Value} (hs : Inf P T k by1 zv) {vs : List Value} (hv : v.cells = vs.toArray) (hl : vs.length = k) (h1 : vs.all (·.oneCell') = true) {b j : Nat} {cur : List Value} {t : TypeId} {w : World}
    (hb:w.heap[b]?=some (.cells cur.toArray t (0,0))) (hj:j + k≤cur.length) :
    (storeVar T ⟨b,j,none⟩ v).run P w=.ok () (w.setRow b (splice cur j vs).toArray):=by
  subst hl
  have h:=run_storeCells_at P b j t vs 0 cur.toArray w hb (by simpa using hj) (fun v hv=>List.all_eq_true.1 h1 v hv)
  simp only [Nat.add_zero,List.append_assoc] at h
  simp [storeVar,run_sizeOf' hs,hv,splice,h]
theorem Mem.setRow {w : World} (h : Mem w0 M L w) {i b : Nat} {cs cs' : List Value} {t : TypeId} (hi : L[i]? = some (.blk b cs t)) : Mem w0 M (L.set i (.blk b cs' t)) (w.setRow b cs'.toArray) := by
  refine h.upd hi rfl ⟨rfl,rfl,rfl,by simp,fun k _ hk=>setRow_other w b k _ hk⟩ ?_ (fun b' hb'=>⟨.inl hb',?_⟩)
  · exact setRow_heap w b _ _ t _ (h.blk hi)
  · have:=(h.ok i _ hi).2.1 b' hb'
    simpa using this
theorem yt (i : Nat) {b j by1 : Nat} {zv : Value} {cs : List Value} {t : TypeId} (hw : Want N D ops E g true) (hx : ev E x = some (.pointer (some ⟨b, j, none⟩))) (hy : ev E y = some v) (hL : L[i]? = some (.blk b cs t)) (hj : Nat.blt j cs.length = true) (hs : Inf P T 1 by1 zv) (hv : v.cells = #[v]) (h1 : v.oneCell' = true)
    (h:WL P N D ops Q rest E (Mem w0 M (L.set i (.blk b (splice cs j [v]) t)))):WL P N D ops Q (⟨none,.store T x y,ty,pos,aft,g⟩::rest) E (Mem w0 M L) :=
  gM hw (fun o ho _ a w ha hS => ⟨w.setRow b (splice cs j [v]).toArray, by
    unfold execOp; rw [ho]
    have hj':j < cs.length:=by simpa [Nat.blt_eq] using hj
    have hst:=run_storeVarN hs (v:=v) (vs:=[v]) (b:=b) (j:=j) (by simpa using hv) rfl (by simpa using h1) (hS.blk hL) hj'
    simp [ha.eval hx,ha.eval hy,Instr.storeAt,Instr.sureAddr,hst],hS.setRow hL⟩) h
theorem zr (i : Nat) {b j k by1 : Nat} {zv : Value} {vs cs : List Value} {t : TypeId} (hw : Want N D ops E g true) (hx : ev E x = some (.pointer (some ⟨b, j, none⟩))) (hy : ev E y = some (.agg vs.toArray)) (hL : L[i]? = some (.blk b cs t)) (hs : Inf P T k by1 zv) (hl : vs.length = k) (hj : Nat.ble (j + k) cs.length = true) (h1 : vs.all (·.oneCell') = true)
    (h:WL P N D ops Q rest E (Mem w0 M (L.set i (.blk b (splice cs j vs) t)))):WL P N D ops Q (⟨none,.store T x y,ty,pos,aft,g⟩::rest) E (Mem w0 M L) :=
  gM hw (fun o ho _ a w ha hS => ⟨w.setRow b (splice cs j vs).toArray, by
    unfold execOp; rw [ho]
    have hj':j + k≤cs.length:=Nat.le_of_ble_eq_true hj
    simp [ha.eval hx,ha.eval hy,Instr.storeAt,Instr.sureAddr,run_storeVarN hs (v:=.agg vs.toArray) (vs:=vs) (by simp [Value.cells]) hl h1 (hS.blk hL) hj'],hS.setRow hL⟩) h
def Ret (w:World) (v:Value):Ending→World→Prop:=fun e w'=>e=.returned v∧Fr no w w'
theorem run_call {f : Nat} {args : Array Operand} {ts : Array TypeId} {vs : List Value} {cap : Array Value} {a : Act} {o : Oper} {w : World} (ha : Has N D a E) (hx : ev E x = some (.func (.func f) #[] cap)) (hargs : evs E args.toList = some vs)
    (hcall:∀ vs w,(callFunc f vs).run P w=.ok (.enter f vs) w) (ho:o.op=.call { callee:=.value x,args:=args,argTypes:=ts }):(execOp a.eval o).run P w=.ok (.enter f (vs.toArray++cap)) w:=by
  have h1 : args.map a.eval = vs.toArray := by
    apply Array.toList_inj.1
    rw [Array.toList_map]
    exact evs_map ha hargs
  unfold execOp; rw [ho]
  simp [resolve,Deferred.ofValue,ha.eval hx,h1,invoke,hcall]
theorem uc {f : Nat} {args : Array Operand} {ts : Array TypeId} {vs : List Value} {cap : Array Value} {Φ : Value → World → Prop} (hw : Want N D ops E g true) (hx : ev E x = some (.func (.func f) #[] cap)) (hargs : evs E args.toList = some vs)
    (hcall:∀ vs w,(callFunc f vs).run P w=.ok (.enter f vs) w) (hd:Nat.blt d N=true)
    (hc:∀ w,S w→Calls P f (vs.toArray++cap) w (fun e w'=>∃ v,e=.returned v∧Φ v w')) (h:∀ v,WL P N D ops Q rest ((d,v)::E) (Φ v)) :
    WL P N D ops Q (⟨some d,.call { callee:=.value x,args:=args,argTypes:=ts },ty,pos,aft,g⟩::rest) E S:=fun w hS a ha=>by
  unfold wpList
  rw [if_pos (hw _ rfl a ha)]
  left
  unfold Oper.wp
  rw [run_call ha hx hargs hcall rfl,Oper.upon_enter]
  refine (hc w hS).mono ?_
  rintro e w' ⟨v,rfl,hv⟩
  exact h v w' hv _ (ha.put _ hd)
theorem uJ {f : Nat} {args : Array Operand} {ts : Array TypeId} {vs : List Value} {cap : Array Value} (hw : Want N D ops E g true) (hx : ev E x = some (.func (.func f) #[] cap)) (hargs : evs E args.toList = some vs)
    (hcall:∀ vs w,(callFunc f vs).run P w=.ok (.enter f vs) w) (hd:Nat.blt d N=true)
    (hc:∀ w,Mem w0 M L w→Calls P f (vs.toArray++cap) w (Ret w v)) (h:WL P N D ops Q rest ((d,v)::E) (Mem w0 M L)) :
    WL P N D ops Q (⟨some d,.call { callee:=.value x,args:=args,argTypes:=ts },ty,pos,aft,g⟩::rest) E (Mem w0 M L) :=
  uc (Φ:=fun u w'=>u=v∧Mem w0 M L w') hw hx hargs hcall hd (fun w hS=>(hc w hS).mono fun e w' ⟨he,hf⟩=>⟨v,he,rfl,hS.keep hf⟩) (fun u w hu a ha=>by obtain ⟨rfl,hS⟩:=hu; exact h w hS a ha)
theorem q_callR {f : Nat} {args : Array Operand} {ts : Array TypeId} {vs : List Value} {cap : Array Value} (hw : Want N D ops E g true) (hx : ev E x = some (.func (.func f) #[] cap)) (hargs : evs E args.toList = some vs)
    (hcall:∀ vs w,(callFunc f vs).run P w=.ok (.enter f vs) w) (hd:Nat.blt d N=true)
    (hc:∀ w,Mem w0 M L w→Calls P f (vs.toArray++cap) w (Ret w v)) (h:WQ P N D ops K rest ((d,v)::E) (Mem w0 M L)) :
    WQ P N D ops K (⟨some d,.call { callee:=.value x,args:=args,argTypes:=ts },ty,pos,aft,g⟩::rest) E (Mem w0 M L):=fun a ha=>by
  refine wpQuiet_step fun K' hK=>?_
  rw [if_pos (hw _ rfl a ha)]
  refine ⟨v,fun w hS=>?_,hK _ (h _ (ha.put _ hd))⟩
  unfold Oper.quietAt
  rw [run_call ha hx hargs hcall rfl]
  exact ⟨rfl,(hc w hS).mono fun e w' ⟨he,hf⟩=>⟨he,hS.keep hf⟩⟩
theorem yF {f : Nat} {args : Array Operand} {ts : Array TypeId} {vs : List Value} (hw : Want N D ops E g true) (hargs : evs E args.toList = some vs)
    (hcall:∀ vs w,(callFunc f vs).run P w=.ok (.enter f vs) w) (hd:Nat.blt d N=true)
    (hc:∀ w,Mem w0 M L w→Calls P f vs.toArray w (Ret w v)) (h:WL P N D ops Q rest ((d,v)::E) (Mem w0 M L)) :
    WL P N D ops Q (⟨some d,.call { callee:=.value (.func f),args:=args,argTypes:=ts },ty,pos,aft,g⟩::rest) E (Mem w0 M L) :=
  uJ hw (by rfl) hargs hcall hd (fun w hS=>by simpa using hc w hS) h
theorem vP {f : Nat} {args : Array Operand} {ts : Array TypeId} {vs : List Value} (hw : Want N D ops E g true) (hargs : evs E args.toList = some vs)
    (hcall:∀ vs w,(callFunc f vs).run P w=.ok (.enter f vs) w) (hd:Nat.blt d N=true)
    (hc:∀ w,Mem w0 M L w→Calls P f vs.toArray w (Ret w v)) (h:WQ P N D ops K rest ((d,v)::E) (Mem w0 M L)) :
    WQ P N D ops K (⟨some d,.call { callee:=.value (.func f),args:=args,argTypes:=ts },ty,pos,aft,g⟩::rest) E (Mem w0 M L) :=
  q_callR hw (by rfl) hargs hcall hd (fun w hS=>by simpa using hc w hS) h
theorem jD {f : Nat} {args : Array Operand} {ts : Array TypeId} {vs : List Value} (hw : Want N D ops E g true) (hx : ev E x = some (.func (.func f) #[] #[])) (hargs : evs E args.toList = some vs)
    (hcall:∀ vs w,(callFunc f vs).run P w=.ok (.enter f vs) w) (hd:Nat.blt d N=true)
    (hc:∀ w,Mem w0 M L w→Calls P f vs.toArray w (Ret w v)) (h:WL P N D ops Q rest ((d,v)::E) (Mem w0 M L)) :
    WL P N D ops Q (⟨some d,.call { callee:=.value x,args:=args,argTypes:=ts },ty,pos,aft,g⟩::rest) E (Mem w0 M L) :=
  uJ hw hx hargs hcall hd (fun w hS=>by simpa using hc w hS) h
theorem jh {f : Nat} {args : Array Operand} {ts : Array TypeId} {vs : List Value} {Φ : Value → World → Prop} (hw : Want N D ops E g true) (hargs : evs E args.toList = some vs)
    (hcall:∀ vs w,(callFunc f vs).run P w=.ok (.enter f vs) w) (hd:Nat.blt d N=true)
    (hc:∀ w,Mem w0 M L w→Calls P f vs.toArray w (fun e w'=>∃ v,e=.returned v∧Φ v w')) (h:∀ v,WL P N D ops Q rest ((d,v)::E) (Φ v)) :
    WL P N D ops Q (⟨some d,.call { callee:=.value (.func f),args:=args,argTypes:=ts },ty,pos,aft,g⟩::rest) E (Mem w0 M L) :=
  uc hw (by rfl) hargs hcall hd (fun w hS=>by simpa using hc w hS) h
def envOf : Nat → List Value → Env
  | _,[]=>[]
  | i,v::r=>(i,v)::envOf (i + 1) r
theorem look_envOf (t : Nat) : ∀ (i : Nat) (l : List Value), look (envOf i l) t = if t < i then none else l[t - i]?
  | i,[]=>by simp [envOf,look]
  | i, v :: r => by
    rw [envOf,look_cons,look_envOf t (i + 1) r]
    by_cases h:i=t
    · subst h; simp
    · rw [if_neg h]
      by_cases h2:t < i
      · rw [if_pos h2,if_pos (by omega)]
      · rw [if_neg h2,if_neg (by omega)]
        rw [show t - i=(t - (i + 1)) + 1 by omega]
        simp
theorem fstart {f : Nat} {fn : Func} {c : Code} {vals : List Value} {w : World} {R : Ending → World → Prop} (hf : P.funcs[f]? = some fn) (hb : fn.body = some c) (hn : fn.ntmps = N) (hl : Nat.ble vals.length N = true)
    (hS:S w) (h:WC P N [] c (bodyPost P fn R) (envOf 0 vals) S):Calls P f vals.toArray w R:=by
  refine calls_of_wp hf hb (h w hS _ ⟨rfl,?_,fun t v hv=>?_⟩)
  · have:=Nat.le_of_ble_eq_true hl
    simp [hn]; omega
  · rw [look_envOf,if_neg (by omega)] at hv
    simp only [Nat.sub_zero] at hv
    have hlt:t < vals.length:=(List.getElem?_eq_some_iff.1 hv).1
    rw [Array.getElem?_append_left (by simpa using hlt)]
    simpa using hv
section
variable {fn:Func} {R:Ending→World→Prop}
def resF (tmps : Array Value) : ResultVar → Sem Value
  | .tmp t=>pure (tmps.getD t undef)
  | .cell p t=>do loadVar t (← asAddr (tmps.getD p undef))
def ResV (P:Program) (N:Nat) (D:List Deferred) (E:Env) (S:World→Prop) (r:ResultVar) (v:Value):Prop:=∀ w,S w→∀ a,Has N D a E→(resF a.tmps r).run P w=.ok v w
theorem zR {t:Nat} (hl:look E t=some v):ResV P N D E S (.tmp t) v:=fun w _ a ha=>by simp [resF,ha.h t v hl]
theorem zt (i : Nat) {p b k by1 : Nat} {zv : Value} {cs : List Value} {t : TypeId} (hl : look E p = some (.pointer (some ⟨b, 0, none⟩))) (hL : L[i]? = some (.blk b cs t)) (hg : aggT P T = true) (hs : Inf P T k by1 zv) (hk : cs.length = k) : ResV P N D E (Mem w0 M L) (.cell p T) (.agg cs.toArray) := fun w hS a ha => by
  subst hk
  have h1:=ha.h p _ hl
  have:=run_loadCells_list (P:=P) w ⟨b,0,none⟩ cs (fun j u hu=>by rw [add_lit,hS.cell hL]; simpa using hu)
  simp [resF,h1,asAddr,loadVar,run_isAgg_agg hg,run_sizeOf' hs,this]
theorem results_eq (fn : Func) (tmps : Array Value) : results fn tmps = (do
    let vs ← fn.results.mapM (resF tmps)
    pure (if h:vs.size=1 then vs[0] else .tuple vs)):=by
  unfold results
  congr 1
theorem zY {r : ResultVar} {e : Exit} (he : e = .ret ∨ e = .normal) (hr : fn.results = #[r]) (hv : ResV P N [] E S r v) (hR : ∀ w, S w → R (.returned v) w) : WE N [] (bodyPost P fn R) e E S := fun w hS a ha => by
  have hres : (results fn a.tmps).run P w = .ok v w := by
    rw [results_eq,hr]; simp [hv w hS a ha]
  rcases he with rfl | rfl <;> exact ⟨ha.d,v,hres,hR w hS⟩
theorem yT {r1 r2 : ResultVar} {v1 v2 : Value} {e : Exit} (he : e = .ret ∨ e = .normal) (hr : fn.results = #[r1, r2]) (hv1 : ResV P N [] E S r1 v1) (hv2 : ResV P N [] E S r2 v2) (hR : ∀ w, S w → R (.returned (.tuple #[v1, v2])) w) : WE N [] (bodyPost P fn R) e E S := fun w hS a ha => by
  have hres : (results fn a.tmps).run P w = .ok (.tuple #[v1, v2]) w := by
    rw [results_eq,hr]; simp [hv1 w hS a ha,hv2 w hS a ha]
  rcases he with rfl | rfl <;> exact ⟨ha.d,_,hres,hR w hS⟩
theorem ud {r1 r2 r3 : ResultVar} {v1 v2 v3 : Value} {e : Exit} (he : e = .ret ∨ e = .normal) (hr : fn.results = #[r1, r2, r3]) (hv1 : ResV P N [] E S r1 v1) (hv2 : ResV P N [] E S r2 v2) (hv3 : ResV P N [] E S r3 v3) (hR : ∀ w, S w → R (.returned (.tuple #[v1, v2, v3])) w) : WE N [] (bodyPost P fn R) e E S := fun w hS a ha => by
  have hres : (results fn a.tmps).run P w = .ok (.tuple #[v1, v2, v3]) w := by
    rw [results_eq,hr]; simp [hv1 w hS a ha,hv2 w hS a ha,hv3 w hS a ha]
  rcases he with rfl | rfl <;> exact ⟨ha.d,_,hres,hR w hS⟩
theorem jX {e : Exit} (he : e = .ret ∨ e = .normal) (hr : fn.results = #[]) (hR : ∀ w, S w → R (.returned (.tuple #[])) w) : WE N [] (bodyPost P fn R) e E S := fun w hS a ha => by
  have hres:(results fn a.tmps).run P w=.ok (.tuple #[]) w:=by simp [results,hr]
  rcases he with rfl | rfl <;> exact ⟨ha.d,_,hres,hR w hS⟩
end
end Ex
end
section
namespace Ex
section
variable {P:Program} {ops:Array Oper} {md:Region.Mode} {C:World→Prop}
def wpAnyH (P : Program) (md : Region.Mode) (ops : Array Oper) (C : World → Prop) (n : Nat) (L : Array Bool → Act → Prop) : Nat → Array Bool → Act → Prop
  | 0,listed,a=>L listed a
  | f + 1, listed, a =>
    Region.ready md ops listed≠[]∧∀ i ∈ Region.ready md ops listed,i < n∧qOp P ops C i (wpAnyH P md ops C n L f (listed.setIfInBounds i true)) a
theorem wpAny_of_headH {n g : Nat} {L : Array Bool → Act → Prop} {Q' : Exit → Act → World → Prop} (hL : ∀ listed a w, C w → L listed a → wpAny P md ops Q' g listed a w) :
    ∀ (f:Nat) (listed:Array Bool) (a:Act) (w:World),C w→wpAnyH P md ops C n L f listed a→wpAny P md ops Q' (f + g) listed a w
  | 0,listed,a,w,hw,h=>by rw [Nat.zero_add]; exact hL _ _ _ hw h
  | f + 1, listed, a, w, hw, h => by
    rw [show f + 1 + g=(f + g) + 1 by omega]
    exact ⟨fun h0=>absurd h0 h.1,fun i hi=>wpOp_of_qOp hw (fun a' w' hw' h'=>wpAny_of_headH hL f _ a' w' hw' h') (h.2 i hi).2⟩
theorem wpAnyH_first {n i : Nat} {oi : Oper} {v : Value} {L : Array Bool → Act → Prop} (hi : ops[i]? = some oi) (hsel : ∀ (j : Nat) (o : Oper) cs b, ops[j]? = some o → o.op ≠ .select cs b)
    (hs:Region.sinkB md ops n=true) (hc:Region.chainB md ops n=true) (hn:n < ops.size) (hin:i < n)
    (hdone:∀ listed a,L listed a→∀ j ∈ Region.ready md ops listed,n≤j) :
    ∀ (f : Nat) (listed : Array Bool) (a : Act), HeadInv md ops n listed →
      (∀ j oj,ops[j]?=some oj→j≠i→listed.getD j true=false→(∀ e ∈ oj.after,Region.binds md e=true→e.on≠i)→oi.apart ops oj=true) →
      i ∈ Region.ready md ops listed→YieldsIn P ops C oi v a →
      wpAnyH P md ops C n L f (listed.setIfInBounds i true) (a.put oi.dst v)→wpAnyH P md ops C n L (f + 1) listed a:=by
  intro f
  induction f with
  | zero =>
    intro listed a inv _ hr hy H
    have hun:=(mem_ready.1 hr).1
    refine ⟨fun h=>(by rw [h] at hr; cases hr),fun j hj=>?_⟩
    have hjn : j < n := by
      rcases Nat.lt_or_ge j n with h | h
      · exact h
      · exact absurd hj (tail_waits hs hc hn inv _ i rfl hin hun j h)
    refine ⟨hjn,?_⟩
    by_cases hji:j=i
    · subst hji; exact hy.qOp hi H
    · have:=hdone _ _ H j (ready_mono hj hji)
      omega
  | succ f ih =>
    intro listed a inv hfree hr hy H
    have hun:=(mem_ready.1 hr).1
    refine ⟨fun h=>(by rw [h] at hr; cases hr),fun j hj=>?_⟩
    have hjn : j < n := by
      rcases Nat.lt_or_ge j n with h | h
      · exact h
      · exact absurd hj (tail_waits hs hc hn inv _ i rfl hin hun j h)
    refine ⟨hjn,?_⟩
    by_cases hji:j=i
    · subst hji; exact hy.qOp hi H
    · have h1:=(H.2 j (ready_mono hj hji)).2
      obtain ⟨hjun,oj,hoj,hall⟩:=mem_ready.1 hj
      have hnot : ∀ e ∈ oj.after, Region.binds md e = true → e.on ≠ i := fun e he hb heq => by
        have h1:=hall e he hb
        rw [heq,getD_both hun] at h1
        cases h1
      have h2:=qOp_put hoj (hfree j oj hoj hji hjun hnot) (fun cs b=>hsel i oi cs b hi) (fun cs b=>hsel j oj cs b hoj) hy h1
      have hfree' : ∀ k ok, ops[k]? = some ok → k ≠ i → (listed.setIfInBounds j true).getD k true = false →
          (∀ e ∈ ok.after,Region.binds md e=true→e.on≠i)→oi.apart ops ok=true:=fun k ok hk hki hun hno=>by
        refine hfree k ok hk hki ?_ hno
        by_cases hjk:j=k
        · subst hjk; exact hjun
        · rw [getD_set_ne true hjk] at hun; exact hun
      refine qOp_mono (fun a' h3=>ih (listed.setIfInBounds j true) a' (inv.set hj hjn) hfree' (ready_mono hr (Ne.symm hji)) h3.1 ?_) h2
      rw [Array.setIfInBounds_comm _ _ hji]
      exact h3.2
theorem wpAnyH_lex {n g : Nat} {Lq : Act → Prop} (hsel : Region.noSelect ops = true) (hs : Region.sinkB md ops n = true) (hc : Region.chainB md ops n = true) (hn : n < ops.size) :
    ∀ (l:List Oper) (k:Nat) (listed:Array Bool) (a:Act),(∀ j,j < l.length→l[j]?=ops[k + j]?)→k + l.length=n→HeadInv md ops n listed →
    Region.lexHead md ops g l.length k listed=true→wpQuiet P ops C Lq l a →
    wpAnyH P md ops C n (fun listed' a'=>Region.seqB md ops g n listed'=true∧Lq a') l.length listed a
  | [], k, listed, a, _, hk, _, hB, h => by
    have:k=n:=by simpa using hk
    subst this
    exact ⟨by simpa [Region.lexHead] using hB,h⟩
  | o :: l, k, listed, a, hl, hk, inv, hB, h => by
    have h0:ops[k]?=some o:=by simpa using (hl 0 (by simp)).symm
    simp only [List.length_cons,Region.lexHead,Bool.and_eq_true] at hB
    obtain ⟨⟨hr,hf⟩,hB'⟩:=hB
    have hkn:k < n:=by simp only [List.length_cons] at hk; omega
    have hr':k ∈ Region.ready md ops listed:=by simpa using hr
    have hst:qOp P ops C k (wpQuiet P ops C Lq l) a:=by unfold qOp; simp only [h0]; exact h
    obtain ⟨v,hy,hK⟩:=yieldsIn_of_qOp h0 hst
    exact wpAnyH_first h0 (Region.noSelect_spec hsel) hs hc hn hkn (fun listed' a' hL => seqB_ready hL.1) l.length listed a inv (Region.free_spec h0 hf) hr' hy
      (wpAnyH_lex hsel hs hc hn l (k + 1) _ _ (fun j hj=>by have:=hl (j + 1) (by simp; omega); simpa [Nat.add_assoc,Nat.add_comm 1 j] using this) (by simp only [List.length_cons] at hk; omega) (inv.set hr' hkn) hB' hK)
theorem wp_region_quiet_tail {id : Nat} {Q : Exit → Act → World → Prop} {a : Act} {w : World} {l : List Oper} (n : Nat) (hm : P.follows .mixedOrders = true) (hB : Region.lexTailB .any l.toArray n = true) (hC : C { w with drawn := w.drawn + 1 })
    (h:wpQuiet P l.toArray C (fun a'=>∀ w',C w'→wpList P l.toArray Q (l.drop n) a' w') (l.take n) a):(Code.region id l.toArray true).wp P Q a w:=by
  simp only [Region.lexTailB,Bool.and_eq_true,decide_eq_true_eq] at hB
  obtain ⟨⟨⟨⟨hsel,hn⟩,hs⟩,hc⟩,hlex⟩:=hB
  have hn':n < l.length:=by simpa using hn
  have htl:(l.take n).length=n:=by simp; omega
  have hdl:(l.drop n).length=l.toArray.size - n:=by simp
  have inv0 : HeadInv .any l.toArray n (Array.replicate l.toArray.size false) :=
    ⟨by simp,fun j oj _ hl=>(by rw [getD_replicate_false] at hl; cases hl),fun t _ ht=>getD_in (by simpa using ht) (getD_replicate_false _ _)⟩
  have H := wpAnyH_lex (md := .any) (g := l.toArray.size - n) hsel hs hc hn (l.take n) 0 _ a (fun j hj => by
    have hj':j < n:=by rw [htl] at hj; exact hj
    simp [hj']) (by simpa using htl) inv0 (by rw [htl]; exact hlex) h
  refine wp_region_any hm ?_
  have := wpAny_of_headH (Q' := Q) (g := l.toArray.size - n) (fun listed a' w' hw' hL => by
    have:=wpAny_of_seq (md:=.any) (Q':=Q) (l.drop n) n listed a' w' (fun j=>by simp [List.getElem?_drop]) (by rw [hdl]; exact hL.1) (hL.2 w' hw')
    rwa [hdl] at this) _ _ _ _ hC H
  rw [htl,show n + (l.toArray.size - n)=l.toArray.size by omega] at this
  exact this
end
theorem va {P : Program} {N : Nat} {D : List Deferred} {E : Env} {S : World → Prop} {Q : Exit → Act → World → Prop} {id : Nat} {l : List Oper} (n : Nat) (hm : P.follows .mixedOrders = true) (hB : Region.lexTailB .any l.toArray n = true) (hd : ∀ w, S w → S w.drew)
    (h:∀ K:Act→World→Prop,(∀ E S',WL P N D l.toArray Q (l.drop n) E S'→∀ w,S' w→∀ a,Has N D a E→K a w)→WQ P N D l.toArray K (l.take n) E S):WC P N D (.region id l.toArray true) Q E S :=
  fun w hw a ha=>wp_region_quiet_tail (C:=S) n hm hB (hd w hw) (h (fun a w=>wpList P l.toArray Q (l.drop n) a w) (fun _ _ h' w' hw' a' ha'=>h' w' hw' a' ha') a ha)
theorem v8 {P : Program} {N : Nat} {D : List Deferred} {E : Env} {S : World → Prop} {Q : Exit → Act → World → Prop} {ops : Array Oper} {K : Act → World → Prop} {l : List Oper} (hK : ∀ E S', WL P N D ops Q l E S' → ∀ w, S' w → ∀ a, Has N D a E → K a w) (h : WL P N D ops Q l E S) : WQ P N D ops K [] E S :=
  q_nil fun w hw a ha=>hK E S h w hw a ha
section
variable {P:Program} {N:Nat} {D:List Deferred} {E:Env} {S:World→Prop} {Q:Exit→Act→World→Prop} {w0:World} {M:Fp} {c:Code} {α β γ δ:Type}
def LQ1 (N : Nat) (D : List Deferred) (w0 : World) (M : Fp) (env : α → Env) (Lf : α → List Own) (inv : α → Prop) (μ : α → Nat) (m : Nat) (Q : Exit → Act → World → Prop) : Exit → Act → World → Prop :=
  Exit.then (fun a' w'=>∃ s',Has N D a' (env s')∧(inv s'∧Mem w0 M (Lf s') w')∧μ s' < m) Q
theorem y8 (env : α → Env) (Lf : α → List Own) (inv : α → Prop) (μ : α → Nat) (a0 : α) (he : subB E (env a0)) (hm : ∀ w, S w → Mem w0 M (Lf a0) w) (hi : inv a0)
    (round:∀ a,inv a→WC P N D c (LQ1 N D w0 M env Lf inv μ (μ a) Q) (env a) (Mem w0 M (Lf a))):WC P N D (.loop c) Q E S :=
  c_loop env (fun s w=>inv s∧Mem w0 M (Lf s) w) μ a0 he (fun w hw=>⟨hi,hm w hw⟩) fun s w hw=>round s hw.1 w hw.2
theorem yX {env : α → Env} {Lf : α → List Own} {inv : α → Prop} {μ : α → Nat} {m : Nat} (s' : α) (he : subB E (env s')) (hm : ∀ w, S w → Mem w0 M (Lf s') w) (hi : inv s') (hμ : μ s' < m) :
    WE N D (LQ1 N D w0 M env Lf inv μ m Q) .normal E S:=fun w hw _ ha=>⟨s',ha.less he.all,⟨hi,hm w hw⟩,hμ⟩
theorem yj {env:α→Env} {Lf:α→List Own} {inv:α→Prop} {μ:α→Nat} {m id:Nat} (h:WE N D Q (.exit id) E S):WE N D (LQ1 N D w0 M env Lf inv μ m Q) (.exit id) E S:=h
theorem ye {env:α→Env} {Lf:α→List Own} {inv:α→Prop} {μ:α→Nat} {m:Nat} (h:WE N D Q .ret E S):WE N D (LQ1 N D w0 M env Lf inv μ m Q) .ret E S:=h
def LQ2 (N : Nat) (D : List Deferred) (w0 : World) (M : Fp) (env : α → β → Env) (Lf : α → β → List Own) (inv : α → β → Prop) (μ : α → β → Nat) (m : Nat) (Q : Exit → Act → World → Prop) : Exit → Act → World → Prop :=
  LQ1 N D w0 M (fun s:α × β=>env s.1 s.2) (fun s=>Lf s.1 s.2) (fun s=>inv s.1 s.2) (fun s=>μ s.1 s.2) m Q
theorem uS (env : α → β → Env) (Lf : α → β → List Own) (inv : α → β → Prop) (μ : α → β → Nat) (a0 : α) (b0 : β) (he : subB E (env a0 b0)) (hm : ∀ w, S w → Mem w0 M (Lf a0 b0) w) (hi : inv a0 b0)
    (round:∀ a b,inv a b→WC P N D c (LQ2 N D w0 M env Lf inv μ (μ a b) Q) (env a b) (Mem w0 M (Lf a b))):WC P N D (.loop c) Q E S :=
  y8 (fun s:α × β=>env s.1 s.2) (fun s=>Lf s.1 s.2) (fun s=>inv s.1 s.2) (fun s=>μ s.1 s.2) (a0,b0) he hm hi fun s hs=>round s.1 s.2 hs
theorem vb {env : α → β → Env} {Lf : α → β → List Own} {inv : α → β → Prop} {μ : α → β → Nat} {m : Nat} (a' : α) (b' : β) (he : subB E (env a' b')) (hm : ∀ w, S w → Mem w0 M (Lf a' b') w) (hi : inv a' b') (hμ : μ a' b' < m) :
    WE N D (LQ2 N D w0 M env Lf inv μ m Q) .normal E S:=fun w hw _ ha=>⟨(a',b'),ha.less he.all,⟨hi,hm w hw⟩,hμ⟩
theorem uB {env:α→β→Env} {Lf:α→β→List Own} {inv:α→β→Prop} {μ:α→β→Nat} {m id:Nat} (h:WE N D Q (.exit id) E S):WE N D (LQ2 N D w0 M env Lf inv μ m Q) (.exit id) E S:=h
theorem e_loop2_r {env:α→β→Env} {Lf:α→β→List Own} {inv:α→β→Prop} {μ:α→β→Nat} {m:Nat} (h:WE N D Q .ret E S):WE N D (LQ2 N D w0 M env Lf inv μ m Q) .ret E S:=h
def LQ3 (N : Nat) (D : List Deferred) (w0 : World) (M : Fp) (env : α → β → γ → Env) (Lf : α → β → γ → List Own) (inv : α → β → γ → Prop) (μ : α → β → γ → Nat) (m : Nat) (Q : Exit → Act → World → Prop) : Exit → Act → World → Prop :=
  LQ1 N D w0 M (fun s:α × β × γ=>env s.1 s.2.1 s.2.2) (fun s=>Lf s.1 s.2.1 s.2.2) (fun s=>inv s.1 s.2.1 s.2.2) (fun s=>μ s.1 s.2.1 s.2.2) m Q
theorem ur (env : α → β → γ → Env) (Lf : α → β → γ → List Own) (inv : α → β → γ → Prop) (μ : α → β → γ → Nat) (a0 : α) (b0 : β) (c0 : γ) (he : subB E (env a0 b0 c0)) (hm : ∀ w, S w → Mem w0 M (Lf a0 b0 c0) w) (hi : inv a0 b0 c0)
    (round:∀ a b g,inv a b g→WC P N D c (LQ3 N D w0 M env Lf inv μ (μ a b g) Q) (env a b g) (Mem w0 M (Lf a b g))):WC P N D (.loop c) Q E S :=
  y8 (fun s:α × β × γ=>env s.1 s.2.1 s.2.2) (fun s=>Lf s.1 s.2.1 s.2.2) (fun s=>inv s.1 s.2.1 s.2.2) (fun s=>μ s.1 s.2.1 s.2.2) (a0,b0,c0) he hm hi fun s hs=>round s.1 s.2.1 s.2.2 hs
theorem vI {env : α → β → γ → Env} {Lf : α → β → γ → List Own} {inv : α → β → γ → Prop} {μ : α → β → γ → Nat} {m : Nat} (a' : α) (b' : β) (c' : γ) (he : subB E (env a' b' c')) (hm : ∀ w, S w → Mem w0 M (Lf a' b' c') w) (hi : inv a' b' c') (hμ : μ a' b' c' < m) :
    WE N D (LQ3 N D w0 M env Lf inv μ m Q) .normal E S:=fun w hw _ ha=>⟨(a',b',c'),ha.less he.all,⟨hi,hm w hw⟩,hμ⟩
theorem uN {env:α→β→γ→Env} {Lf:α→β→γ→List Own} {inv:α→β→γ→Prop} {μ:α→β→γ→Nat} {m id:Nat} (h:WE N D Q (.exit id) E S):WE N D (LQ3 N D w0 M env Lf inv μ m Q) (.exit id) E S:=h
theorem uF {env:α→β→γ→Env} {Lf:α→β→γ→List Own} {inv:α→β→γ→Prop} {μ:α→β→γ→Nat} {m:Nat} (h:WE N D Q .ret E S):WE N D (LQ3 N D w0 M env Lf inv μ m Q) .ret E S:=h
def LQ4 (N : Nat) (D : List Deferred) (w0 : World) (M : Fp) (env : α → β → γ → δ → Env) (Lf : α → β → γ → δ → List Own) (inv : α → β → γ → δ → Prop) (μ : α → β → γ → δ → Nat) (m : Nat) (Q : Exit → Act → World → Prop) : Exit → Act → World → Prop :=
  LQ1 N D w0 M (fun s:α × β × γ × δ=>env s.1 s.2.1 s.2.2.1 s.2.2.2) (fun s=>Lf s.1 s.2.1 s.2.2.1 s.2.2.2) (fun s=>inv s.1 s.2.1 s.2.2.1 s.2.2.2) (fun s=>μ s.1 s.2.1 s.2.2.1 s.2.2.2) m Q
theorem uK (env : α → β → γ → δ → Env) (Lf : α → β → γ → δ → List Own) (inv : α → β → γ → δ → Prop) (μ : α → β → γ → δ → Nat) (a0 : α) (b0 : β) (c0 : γ) (d0 : δ) (he : subB E (env a0 b0 c0 d0)) (hm : ∀ w, S w → Mem w0 M (Lf a0 b0 c0 d0) w) (hi : inv a0 b0 c0 d0)
    (round:∀ a b g d,inv a b g d→WC P N D c (LQ4 N D w0 M env Lf inv μ (μ a b g d) Q) (env a b g d) (Mem w0 M (Lf a b g d))):WC P N D (.loop c) Q E S :=
  y8 (fun s:α × β × γ × δ=>env s.1 s.2.1 s.2.2.1 s.2.2.2) (fun s=>Lf s.1 s.2.1 s.2.2.1 s.2.2.2) (fun s=>inv s.1 s.2.1 s.2.2.1 s.2.2.2) (fun s=>μ s.1 s.2.1 s.2.2.1 s.2.2.2) (a0,b0,c0,d0) he hm hi fun s hs=>round s.1 s.2.1 s.2.2.1 s.2.2.2 hs
theorem vY {env : α → β → γ → δ → Env} {Lf : α → β → γ → δ → List Own} {inv : α → β → γ → δ → Prop} {μ : α → β → γ → δ → Nat} {m : Nat} (a' : α) (b' : β) (c' : γ) (d' : δ) (he : subB E (env a' b' c' d')) (hm : ∀ w, S w → Mem w0 M (Lf a' b' c' d') w) (hi : inv a' b' c' d') (hμ : μ a' b' c' d' < m) :
    WE N D (LQ4 N D w0 M env Lf inv μ m Q) .normal E S:=fun w hw _ ha=>⟨(a',b',c',d'),ha.less he.all,⟨hi,hm w hw⟩,hμ⟩
theorem uC {env:α→β→γ→δ→Env} {Lf:α→β→γ→δ→List Own} {inv:α→β→γ→δ→Prop} {μ:α→β→γ→δ→Nat} {m id:Nat} (h:WE N D Q (.exit id) E S):WE N D (LQ4 N D w0 M env Lf inv μ m Q) (.exit id) E S:=h
theorem e_loop4_r {env:α→β→γ→δ→Env} {Lf:α→β→γ→δ→List Own} {inv:α→β→γ→δ→Prop} {μ:α→β→γ→δ→Nat} {m:Nat} (h:WE N D Q .ret E S):WE N D (LQ4 N D w0 M env Lf inv μ m Q) .ret E S:=h
def LQ5 {α β γ δ ε : Type} (N : Nat) (D : List Deferred) (w0 : World) (M : Fp) (env : α → β → γ → δ → ε → Env) (Lf : α → β → γ → δ → ε → List Own) (inv : α → β → γ → δ → ε → Prop) (μ : α → β → γ → δ → ε → Nat) (m : Nat) (Q : Exit → Act → World → Prop) : Exit → Act → World → Prop :=
  LQ1 N D w0 M (fun s:α × β × γ × δ × ε=>env s.1 s.2.1 s.2.2.1 s.2.2.2.1 s.2.2.2.2) (fun s=>Lf s.1 s.2.1 s.2.2.1 s.2.2.2.1 s.2.2.2.2) (fun s=>inv s.1 s.2.1 s.2.2.1 s.2.2.2.1 s.2.2.2.2) (fun s=>μ s.1 s.2.1 s.2.2.1 s.2.2.2.1 s.2.2.2.2) m Q
theorem jR {α β γ δ ε : Type} (env : α → β → γ → δ → ε → Env) (Lf : α → β → γ → δ → ε → List Own) (inv : α → β → γ → δ → ε → Prop) (μ : α → β → γ → δ → ε → Nat) (a0 : α) (b0 : β) (g0 : γ) (d0 : δ) (e0 : ε) (he : subB E (env a0 b0 g0 d0 e0)) (hm : ∀ w, S w → Mem w0 M (Lf a0 b0 g0 d0 e0) w) (hi : inv a0 b0 g0 d0 e0)
    (round:∀ a b g d e,inv a b g d e→WC P N D c (LQ5 N D w0 M env Lf inv μ (μ a b g d e) Q) (env a b g d e) (Mem w0 M (Lf a b g d e))):WC P N D (.loop c) Q E S :=
  y8 (fun s:α × β × γ × δ × ε=>env s.1 s.2.1 s.2.2.1 s.2.2.2.1 s.2.2.2.2) (fun s=>Lf s.1 s.2.1 s.2.2.1 s.2.2.2.1 s.2.2.2.2) (fun s=>inv s.1 s.2.1 s.2.2.1 s.2.2.2.1 s.2.2.2.2) (fun s=>μ s.1 s.2.1 s.2.2.1 s.2.2.2.1 s.2.2.2.2) (a0,b0,g0,d0,e0) he hm hi fun s hs=>round s.1 s.2.1 s.2.2.1 s.2.2.2.1 s.2.2.2.2 hs
theorem vd {α β γ δ ε : Type} {env : α → β → γ → δ → ε → Env} {Lf : α → β → γ → δ → ε → List Own} {inv : α → β → γ → δ → ε → Prop} {μ : α → β → γ → δ → ε → Nat} {m : Nat} (a' : α) (b' : β) (g' : γ) (d' : δ) (e' : ε) (he : subB E (env a' b' g' d' e')) (hm : ∀ w, S w → Mem w0 M (Lf a' b' g' d' e') w) (hi : inv a' b' g' d' e') (hμ : μ a' b' g' d' e' < m) :
    WE N D (LQ5 N D w0 M env Lf inv μ m Q) .normal E S:=fun w hw _ ha=>⟨(a',b',g',d',e'),ha.less he.all,⟨hi,hm w hw⟩,hμ⟩
theorem ut {α β γ δ ε:Type} {env:α→β→γ→δ→ε→Env} {Lf:α→β→γ→δ→ε→List Own} {inv:α→β→γ→δ→ε→Prop} {μ:α→β→γ→δ→ε→Nat} {m id:Nat} (h:WE N D Q (.exit id) E S):WE N D (LQ5 N D w0 M env Lf inv μ m Q) (.exit id) E S:=h
def LQ7 {α β γ δ ε ζ η : Type} (N : Nat) (D : List Deferred) (w0 : World) (M : Fp) (env : α → β → γ → δ → ε → ζ → η → Env) (Lf : α → β → γ → δ → ε → ζ → η → List Own) (inv : α → β → γ → δ → ε → ζ → η → Prop) (μ : α → β → γ → δ → ε → ζ → η → Nat) (m : Nat) (Q : Exit → Act → World → Prop) : Exit → Act → World → Prop :=
  LQ1 N D w0 M (fun s:α × β × γ × δ × ε × ζ × η=>env s.1 s.2.1 s.2.2.1 s.2.2.2.1 s.2.2.2.2.1 s.2.2.2.2.2.1 s.2.2.2.2.2.2) (fun s=>Lf s.1 s.2.1 s.2.2.1 s.2.2.2.1 s.2.2.2.2.1 s.2.2.2.2.2.1 s.2.2.2.2.2.2) (fun s=>inv s.1 s.2.1 s.2.2.1 s.2.2.2.1 s.2.2.2.2.1 s.2.2.2.2.2.1 s.2.2.2.2.2.2) (fun s=>μ s.1 s.2.1 s.2.2.1 s.2.2.2.1 s.2.2.2.2.1 s.2.2.2.2.2.1 s.2.2.2.2.2.2) m Q
theorem c_loop7 {α β γ δ ε ζ η : Type} (env : α → β → γ → δ → ε → ζ → η → Env) (Lf : α → β → γ → δ → ε → ζ → η → List Own) (inv : α → β → γ → δ → ε → ζ → η → Prop) (μ : α → β → γ → δ → ε → ζ → η → Nat) (a0 : α) (b0 : β) (g0 : γ) (d0 : δ) (e0 : ε) (f0 : ζ) (h0 : η) (he : subB E (env a0 b0 g0 d0 e0 f0 h0)) (hm : ∀ w, S w → Mem w0 M (Lf a0 b0 g0 d0 e0 f0 h0) w) (hi : inv a0 b0 g0 d0 e0 f0 h0)
    (round:∀ a b g d e f h,inv a b g d e f h→WC P N D c (LQ7 N D w0 M env Lf inv μ (μ a b g d e f h) Q) (env a b g d e f h) (Mem w0 M (Lf a b g d e f h))):WC P N D (.loop c) Q E S :=
  y8 (fun s:α × β × γ × δ × ε × ζ × η=>env s.1 s.2.1 s.2.2.1 s.2.2.2.1 s.2.2.2.2.1 s.2.2.2.2.2.1 s.2.2.2.2.2.2) (fun s=>Lf s.1 s.2.1 s.2.2.1 s.2.2.2.1 s.2.2.2.2.1 s.2.2.2.2.2.1 s.2.2.2.2.2.2) (fun s=>inv s.1 s.2.1 s.2.2.1 s.2.2.2.1 s.2.2.2.2.1 s.2.2.2.2.2.1 s.2.2.2.2.2.2) (fun s=>μ s.1 s.2.1 s.2.2.1 s.2.2.2.1 s.2.2.2.2.1 s.2.2.2.2.2.1 s.2.2.2.2.2.2) (a0,b0,g0,d0,e0,f0,h0) he hm hi fun s hs=>round s.1 s.2.1 s.2.2.1 s.2.2.2.1 s.2.2.2.2.1 s.2.2.2.2.2.1 s.2.2.2.2.2.2 hs
theorem uk {α β γ δ ε ζ η : Type} {env : α → β → γ → δ → ε → ζ → η → Env} {Lf : α → β → γ → δ → ε → ζ → η → List Own} {inv : α → β → γ → δ → ε → ζ → η → Prop} {μ : α → β → γ → δ → ε → ζ → η → Nat} {m : Nat} (a' : α) (b' : β) (g' : γ) (d' : δ) (e' : ε) (f' : ζ) (h' : η) (he : subB E (env a' b' g' d' e' f' h')) (hm : ∀ w, S w → Mem w0 M (Lf a' b' g' d' e' f' h') w) (hi : inv a' b' g' d' e' f' h') (hμ : μ a' b' g' d' e' f' h' < m) :
    WE N D (LQ7 N D w0 M env Lf inv μ m Q) .normal E S:=fun w hw _ ha=>⟨(a',b',g',d',e',f',h'),ha.less he.all,⟨hi,hm w hw⟩,hμ⟩
theorem e_loop7_x {α β γ δ ε ζ η:Type} {env:α→β→γ→δ→ε→ζ→η→Env} {Lf:α→β→γ→δ→ε→ζ→η→List Own} {inv:α→β→γ→δ→ε→ζ→η→Prop} {μ:α→β→γ→δ→ε→ζ→η→Nat} {m id:Nat} (h:WE N D Q (.exit id) E S):WE N D (LQ7 N D w0 M env Lf inv μ m Q) (.exit id) E S:=h
theorem e_loop7_r {α β γ δ ε ζ η:Type} {env:α→β→γ→δ→ε→ζ→η→Env} {Lf:α→β→γ→δ→ε→ζ→η→List Own} {inv:α→β→γ→δ→ε→ζ→η→Prop} {μ:α→β→γ→δ→ε→ζ→η→Nat} {m:Nat} (h:WE N D Q .ret E S):WE N D (LQ7 N D w0 M env Lf inv μ m Q) .ret E S:=h
end
theorem jt {p:Prop} [Decidable p] (h:p):some (Value.bool true)=some (Value.bool (decide p)):=by simp [h]
theorem jf {p:Prop} [Decidable p] (h:¬ p):some (Value.bool false)=some (Value.bool (decide p)):=by simp [h]
theorem jp {p q:Prop} [Decidable p] [Decidable q] (h:p↔q):some (Value.bool (decide p))=some (Value.bool (decide q)):=by simp [h]
theorem ji {k:IntKind} {m n:Int} (h:m=n):some (Value.int k m)=some (Value.int k n):=by rw [h]
end Ex
end
section
structure Fault where (err at_:Int) deriving DecidableEq
structure Sample where (time value:Int) deriving DecidableEq
structure Sum where (count total min max first last rise:Int) deriving DecidableEq
structure Bucket where (at_:Int) (sum:Sum) deriving DecidableEq
structure Label where (key val:ByteArray) deriving DecidableEq
structure Match where (kind:Int) (key val:ByteArray) deriving DecidableEq
structure Part where (tier frm to:Int) deriving DecidableEq
structure Pair2 where (fst snd:ByteArray) deriving DecidableEq
namespace Ex
@[reducible] def faultE (f:Fault):List Value:=[.int .i64 f.err,.int .i64 f.at_]
@[reducible] def zo (s:Sample):List Value:=[.int .i64 s.time,.int .i64 s.value]
@[reducible] def sumE (s:Sum):List Value:=[.int .i64 s.count,.int .i64 s.total,.int .i64 s.min,.int .i64 s.max,.int .i64 s.first,.int .i64 s.last,.int .i64 s.rise]
@[reducible] def zU (b:Bucket):List Value:=[.int .i64 b.at_,.int .i64 b.sum.count,.int .i64 b.sum.total,.int .i64 b.sum.min,.int .i64 b.sum.max,.int .i64 b.sum.first,.int .i64 b.sum.last,.int .i64 b.sum.rise]
@[reducible] def zj (l:Label):List Value:=[.string l.key,.string l.val]
@[reducible] def yg (m:Match):List Value:=[.int .i64 m.kind,.string m.key,.string m.val]
@[reducible] def vZ (p:Part):List Value:=[.int .i64 p.tier,.int .i64 p.frm,.int .i64 p.to]
@[reducible] def strE (s:ByteArray):List Value:=[.string s]
@[reducible] def intE (n:Int):List Value:=[.int .i64 n]
def zJ {α : Type} (Sb : Nat → Prop) (k : Nat) (enc : α → List Value) (v : Value) (l : List α) (w : World) : Prop :=
  ∃ A c, v = .slice A l.length c ∧ l.length ≤ c ∧ c ≤ maxLen ∧ (l ≠ [] → ∃ ad, A = some ad ∧ Sb ad.block ∧
    ∀ (i:Nat) (x:α),l[i]?=some x→∀ (j:Nat) (u:Value),(enc x)[j]?=some u→w.cell? ((ad.add (i * k)).add j)=some u)
section
variable {α:Type} {Sb Sb':Nat→Prop} {k:Nat} {enc:α→List Value} {v:Value} {l:List α} {w w' w0:World} {A:Option Addr} {c len:Nat} {ad:Addr} {M:Fp} {L:List Own}
theorem zJ.keep (h : zJ Sb k enc v l w) (hs : ∀ b, Sb b → w'.heap[b]? = w.heap[b]?) : zJ Sb k enc v l w' := by
  obtain ⟨A,c,h1,h2,h3,h4⟩:=h
  refine ⟨A,c,h1,h2,h3,fun hne=>?_⟩
  obtain ⟨ad,e,hb,hc⟩:=h4 hne
  exact ⟨ad,e,hb,fun i x hi j u hu=>(World.cell?_of_block (by rw [add_block,add_block]; exact hs _ hb)).trans (hc i x hi j u hu)⟩
theorem zJ.mono (h : zJ Sb k enc v l w) (hs : ∀ b, Sb b → Sb' b) : zJ Sb' k enc v l w := by
  obtain ⟨A,c,h1,h2,h3,h4⟩:=h
  exact ⟨A,c,h1,h2,h3,fun hne=>by obtain ⟨ad,e,hb,hc⟩:=h4 hne; exact ⟨ad,e,hs _ hb,hc⟩⟩
theorem zJ.yq (Sb:Nat→Prop) (k:Nat) (enc:α→List Value) (w:World):zJ Sb k enc (.slice none 0 0) [] w:=⟨none,0,rfl,Nat.le_refl _,Nat.zero_le _,fun h=>absurd rfl h⟩
theorem zJ.form (h : zJ Sb k enc v l w) : ∃ A c, v = .slice A l.length c ∧ l.length ≤ c ∧ c ≤ 9223372036854775807 ∧ (l ≠ [] → ∃ ad, A = some ad) := by
  obtain ⟨A,c,h1,h2,h3,h4⟩:=h
  exact ⟨A,c,h1,h2,by simpa [maxLen] using h3,fun hne=>by obtain ⟨ad,e,_⟩:=h4 hne; exact ⟨ad,e⟩⟩
theorem zJ.cell (h : zJ Sb k enc (.slice A len c) l w) (hA : A = some ad) {i j : Nat} {x : α} {u : Value} (hi : l[i]? = some x) (hj : (enc x)[j]? = some u) : w.cell? ((ad.add (i * k)).add j) = some u := by
  obtain ⟨A',c',h1,_,_,h4⟩:=h
  injection h1 with e1 _ _
  subst e1
  obtain ⟨ad',e,_,hc⟩:=h4 (by rintro rfl; simp at hi)
  obtain rfl:ad=ad':=Option.some.inj (hA.symm.trans e)
  exact hc i x hi j u hj
theorem zJ.loc (k:Nat) (enc:α→List Value) (v:Value) (l:List α):Loc (fun S=>zJ S k enc v l):=fun _ _ _ _ hs hk h=>(h.keep hk).mono hs
theorem ne_nil {i:Nat} (h:i < l.length):l≠[]:=by rintro rfl; simp at h
def slO (Sb:Nat→Prop) (k:Nat) (enc:α→List Value) (v:Value) (l:List α):Own:=.dat Sb (zJ Sb k enc v l)
def slP (k:Nat) (enc:α→List Value) (v:Value) (l:List α):Own:=.pub (fun S=>zJ S k enc v l)
theorem slO.holds_ (h:zJ Sb k enc v l w):(slO Sb k enc v l).holds w:=⟨h,fun _ _ hs hf=>hf.keep hs⟩
theorem Mem.args {w : World} {P0 : Nat → Prop} (hP : ∀ b, P0 b → b < w.heap.size) (h : ∀ (i : Nat) (o : Own), L[i]? = some o → o.mut = false ∧ o.holds w ∧ (∀ b, o.fp b → b < w.heap.size) ∧ ∀ F, o = .pub F → F P0 w) : Mem w ⟨no, P0⟩ L w :=
  ⟨Fr.refl _ _, fun i o hi => ⟨(h i o hi).2.1, (h i o hi).2.2.1, fun hm => (by rw [(h i o hi).1] at hm; cases hm)⟩, fun i j o o' hi hj _ hm => (by rw [(h i o hi).1, (h j o' hj).1] at hm; rcases hm with hm | hm <;> cases hm),
    P0,fun _ hb=>.inl hb,hP,fun i o hi hm=>(by rw [(h i o hi).1] at hm; cases hm),fun i F hi=>(h i _ hi).2.2.2 F rfl⟩
abbrev In (w:World):Nat→Prop:=fun b=>b < w.heap.size
theorem Mem.sl {w:World} {Sb:Nat→Prop} (h:Mem w0 M L w) (i:Nat) (hL:L[i]?=some (slO Sb k enc v l)):zJ (In w) k enc v l w:=(h.dat hL).mono (h.ok i _ hL).2.1
theorem Mem.slp {w:World} (h:Mem w0 M L w) (i:Nat) (hL:L[i]?=some (slP k enc v l)):zJ (In w) k enc v l w:=h.vQ hL
theorem Pubs.sl {w:World} {Pb:Nat→Prop} (h:Pubs w0 M L w Pb) (i:Nat) (hL:L[i]?=some (slP k enc v l)):zJ Pb k enc v l w:=h.at_ i _ hL
variable {P:Program} {N:Nat} {D:List Deferred} {E:Env} {x:Operand} {T ty:TypeId} {u:Value}
theorem gH (q : Nat) {i j : Nat} {e : α} (hx : ev E x = some (.pointer (some ((ad.add (i * k)).add j)))) (hL : L[q]? = some (slO Sb k enc (.slice A len c) l)) (hA : A = some ad) (hi : l[i]? = some e) (hj : (enc e)[j]? = some u) (hf : flatT P T = true) : Runs P N D E (Mem w0 M L) (.load T x) ty u :=
  uq hx hf fun _ h=>(h.dat hL).cell hA hi hj
theorem vx (q : Nat) {i j k1 by1 : Nat} {z1 : Value} {e : α} (vs : List Value) (hx : ev E x = some (.pointer (some ((ad.add (i * k)).add j)))) (hL : L[q]? = some (slO Sb k enc (.slice A len c) l)) (hA : A = some ad) (hi : l[i]? = some e) (hv : ((enc e).drop j).take k1 = vs) (hl : vs.length = k1) (hg : aggT P T = true) (hs : Inf P T k1 by1 z1) :
    Runs P N D E (Mem w0 M L) (.load T x) ty (.agg vs.toArray) :=
  jC vs hx hg hs hl fun _ h p u hu => by
    rw [add_add,add_add,← add_add]
    rw [← hv,List.getElem?_take] at hu
    split at hu
    · exact (h.dat hL).cell hA hi (by simpa using hu)
    · cases hu
theorem jY (q : Nat) {i j : Nat} {e : α} (hx : ev E x = some (.pointer (some ((ad.add (i * k)).add j)))) (hL : L[q]? = some (slP k enc (.slice A len c) l)) (hA : A = some ad) (hi : l[i]? = some e) (hj : (enc e)[j]? = some u) (hf : flatT P T = true) : Runs P N D E (Mem w0 M L) (.load T x) ty u :=
  uq hx hf fun _ h=>(h.slp q hL).cell hA hi hj
theorem vy (q : Nat) {i j k1 by1 : Nat} {z1 : Value} {e : α} (vs : List Value) (hx : ev E x = some (.pointer (some ((ad.add (i * k)).add j)))) (hL : L[q]? = some (slP k enc (.slice A len c) l)) (hA : A = some ad) (hi : l[i]? = some e) (hv : ((enc e).drop j).take k1 = vs) (hl : vs.length = k1) (hg : aggT P T = true) (hs : Inf P T k1 by1 z1) :
    Runs P N D E (Mem w0 M L) (.load T x) ty (.agg vs.toArray) :=
  jC vs hx hg hs hl fun _ h p u hu => by
    rw [add_add,add_add,← add_add]
    rw [← hv,List.getElem?_take] at hu
    split at hu
    · exact (h.slp q hL).cell hA hi (by simpa using hu)
    · cases hu
end
end Ex
end
section
namespace Ex
variable {P : Program} {N : Nat} {D : List Deferred} {E E' : Env} {S : World → Prop} {Q : Exit → Act → World → Prop} {K : Act → World → Prop}
  {w0:World} {M:Fp} {L:List Own}
  {ops:Array Oper} {rest l:List Oper} {d t:Nat} {dst:Option Tmp} {op:Op} {ty T T':TypeId} {pos:String} {aft:Array Edge} {g:Option (Nat × Bool)} {v u:Value} {x y z:Operand} {p q:Prop} {b:Bool}
theorem jpb {b : Bool} {q : Prop} [Decidable q] (h : b = true ↔ q) : some (Value.bool b) = some (Value.bool (decide q)) := by
  cases b <;> simp_all
theorem sn:subB E []:=trivial
theorem sc (h:look E t=some v) (r:subB E E'):subB E ((t,v)::E'):=⟨h,r⟩
theorem vJ (h:WE N D Q .normal E S):WQ P N D ops (Q .normal) [] E S:=fun a ha=>wpQuiet_nil (fun w' hw'=>h w' hw' a ha)
theorem over (h0 : look E t = some v) (hv : v = u) {a : Act} (ha : Has N D a E) : Has N D a ((t, u) :: E) := ⟨ha.d, ha.n, fun s r hr => by
  rw [look_cons] at hr
  by_cases e:t=s
  · rw [if_pos e] at hr; rw [← e,ha.h t _ h0,hv]; simpa using hr
  · rw [if_neg e] at hr; exact ha.h s r hr⟩
section
variable [Decidable p]
theorem jK (hl:look E t=some (.bool (decide p))) (hp:p) (h:WL P N D ops Q l ((t,.bool true)::E) S):WL P N D ops Q l E S:=fun w hS a ha=>h w hS a (over hl (by simp [hp]) ha)
end
theorem l_littb (hl:look E t=some (.bool b)) (hb:b=true) (h:WL P N D ops Q l ((t,.bool true)::E) S):WL P N D ops Q l E S:=fun w hS a ha=>h w hS a (over hl (by simp [hb]) ha)
theorem l_litfb (hl:look E t=some (.bool b)) (hb:¬ b=true) (h:WL P N D ops Q l ((t,.bool false)::E) S):WL P N D ops Q l E S:=fun w hS a ha=>h w hS a (over hl (by simp [hb]) ha)
theorem q_littb (hl:look E t=some (.bool b)) (hb:b=true) (h:WQ P N D ops K l ((t,.bool true)::E) S):WQ P N D ops K l E S:=fun a ha=>h a (over hl (by simp [hb]) ha)
theorem q_litfb (hl:look E t=some (.bool b)) (hb:¬ b=true) (h:WQ P N D ops K l ((t,.bool false)::E) S):WQ P N D ops K l E S:=fun a ha=>h a (over hl (by simp [hb]) ha)
theorem uT (hl : look E t = some (.bool b)) (h1 : b = true → WL P N D ops Q l ((t, .bool true) :: E) S) (h2 : ¬ b = true → WL P N D ops Q l ((t, .bool false) :: E) S) : WL P N D ops Q l E S := by
  by_cases hb:b=true
  · exact l_littb hl hb (h1 hb)
  · exact l_litfb hl hb (h2 hb)
theorem jj (hl : look E t = some (.bool b)) (h1 : b = true → WQ P N D ops K l ((t, .bool true) :: E) S) (h2 : ¬ b = true → WQ P N D ops K l ((t, .bool false) :: E) S) : WQ P N D ops K l E S := by
  by_cases hb:b=true
  · exact q_littb hl hb (h1 hb)
  · exact q_litfb hl hb (h2 hb)
theorem iff_or_right {q:Prop} {a b:Prop} (h:¬ a) (e:q↔b):q↔a∨b:=⟨fun k=>.inr (e.1 k),fun k=>e.2 (k.resolve_left h)⟩
theorem iff_and_right {q:Prop} {a b:Prop} (h:a) (e:q↔b):q↔a∧b:=⟨fun k=>⟨h,e.1 k⟩,fun k=>e.2 k.2⟩
theorem iff_ite_l {q:Prop} {a b c:Prop} (h:a) (e:q↔b):q↔(a∧b)∨(¬ a∧c):=⟨fun k=>.inl ⟨h,e.1 k⟩,fun k=>k.elim (fun x=>e.2 x.2) (fun x=>absurd h x.1)⟩
theorem iff_ite_r {q:Prop} {a b c:Prop} (h:¬ a) (e:q↔c):q↔(a∧b)∨(¬ a∧c):=⟨fun k=>.inr ⟨h,e.1 k⟩,fun k=>k.elim (fun x=>absurd x.1 h) (fun x=>e.2 x.2)⟩
def dOk (P0:Nat→Prop) (o:Own) (w:World):Prop:=o.mut=false∧o.holds w∧(∀ b,o.fp b→b < w.heap.size)∧∀ F,o=.pub F→F P0 w
def datsL (P0 : Nat → Prop) : List Own → World → Prop
  | [],_=>True
  | o::r,w=>dOk P0 o w∧datsL P0 r w
theorem dn {P0:Nat→Prop} {w:World}:datsL P0 [] w:=trivial
theorem dc {P0:Nat→Prop} {w:World} {o:Own} (h:dOk P0 o w) (r:datsL P0 L w):datsL P0 (o::L) w:=⟨h,r⟩
theorem dl {P0:Nat→Prop} {w:World} {α:Type} {k:Nat} {enc:α→List Value} {l:List α} (h:zJ (In w) k enc v l w):dOk P0 (slO (In w) k enc v l) w:=⟨rfl,slO.holds_ h,fun _ hb=>hb,fun F hF=>by cases hF⟩
theorem dp {P0:Nat→Prop} {w:World} {F:(Nat→Prop)→World→Prop} (hl:Loc F) (h:F P0 w):dOk P0 (.pub F) w:=⟨rfl,hl,fun _ hb=>hb.elim,fun G hG=>by cases hG; exact h⟩
theorem dlp {P0:Nat→Prop} {w:World} {α:Type} {k:Nat} {enc:α→List Value} {l:List α} (h:zJ P0 k enc v l w):dOk P0 (slP k enc v l) w:=dp (zJ.loc _ _ _ _) h
theorem datsL.at {P0 : Nat → Prop} {w : World} : ∀ {L : List Own}, datsL P0 L w → ∀ (i : Nat) (o : Own), L[i]? = some o → dOk P0 o w
  | [],_,i,o,hi=>by simp at hi
  | p :: r, h, i, o, hi => by
    cases i with
    | zero => obtain rfl : p = o := by simpa using hi
              exact h.1
    | succ i=>exact datsL.at h.2 i o (by simpa using hi)
theorem Mem.ofDatsP {P0:Nat→Prop} {w:World} (hP:∀ b,P0 b→b < w.heap.size) (h:datsL P0 L w):Mem w ⟨no,P0⟩ L w:=Mem.args hP fun i o hi=>h.at i o hi
theorem Mem.ofDats {w:World} (h:datsL (fun _=>False) L w):Mem w no L w:=Mem.ofDatsP (fun _ h=>h.elim) h
theorem zn {p:Nat→Prop} {w w1:World} (h:u=v) (hM:Mem w ⟨no,p⟩ L w1):Ret w v (.returned u) w1:=⟨by rw [h],hM.fr⟩
theorem vq {p:Nat→Prop} {w w1:World} {l1 l2:List Value} (h:l1=l2) (hM:Mem w ⟨no,p⟩ L w1):Ret w (.agg l2.toArray) (.returned (.agg l1.toArray)) w1:=⟨by rw [h],hM.fr⟩
def fldTy (P : Program) (s k : Nat) : Option TypeId := match P.underlying s with
  | some (.struct fs)=>(fs[k]?).map (·.type)
  | _=>none
def EqV (P : Program) (T : TypeId) (α : Type) (enc : α → List Value) [DecidableEq α] : Prop :=
  (∀ (a b:α) (w:World),(Op.equalIn 10000 T (.agg (enc a).toArray) (.agg (enc b).toArray)).run P w=.ok (decide (a=b)) w)∧P.eqGuardType P.depth T=false
theorem jk {α : Type} [DecidableEq α] {enc : α → List Value} {a b : α} (hx : ev E x = some (.agg (enc a).toArray)) (hy : ev E y = some (.agg (enc b).toArray)) (h : EqV P T α enc) : Runs P N D E S (.binOp .neq T x y T') ty (.bool (decide (a ≠ b))) := fun o ho _ ac w ha _ => by
  unfold execOp; rw [ho]
  simp only [ha.eval hx,ha.eval hy,Sem.run_bind,run_eqGuard_agg w .neq T x y _ _ h.2,run_neq_struct,h.1,Result.andThen_ok,Sem.run_pure]
  simp
def sless (s t:ByteArray):Bool:=Op.bytesLess s.toList t.toList
theorem byte_at {s:ByteArray} {i:Nat} (h:i < s.size):s[i]?=some s[i]:=by simp [h]
theorem bl_total : ∀ (a b : List UInt8), (!(Op.bytesLess a b || decide (a = b))) = Op.bytesLess b a
  | [],[]=>by simp [Op.bytesLess]
  | [],_::_=>by simp [Op.bytesLess]
  | _::_,[]=>by simp [Op.bytesLess]
  | x :: a, y :: b => by
    have ih:=bl_total a b
    simp only [Op.bytesLess]
    rcases Nat.lt_trichotomy x.toNat y.toNat with h | h | h
    · have h1:x < y:=UInt8.lt_iff_toNat_lt.2 h
      have h2:¬ y < x:=fun k=>by have:=UInt8.lt_iff_toNat_lt.1 k; omega
      have h3:¬ y=x:=fun k=>by subst k; omega
      simp [h1,h2,h3]
    · obtain rfl:x=y:=UInt8.toNat_inj.1 h
      have h1:¬ x < x:=fun k=>by have:=UInt8.lt_iff_toNat_lt.1 k; omega
      simp only [h1,decide_false,Bool.false_or,beq_self_eq_true,Bool.true_and]
      rw [← ih]
      simp
    · have h1:y < x:=UInt8.lt_iff_toNat_lt.2 h
      have h2:¬ x < y:=fun k=>by have:=UInt8.lt_iff_toNat_lt.1 k; omega
      have h3:¬ x=y:=fun k=>by subst k; omega
      simp [h1,h2,h3]
theorem toList_inj {s t : ByteArray} : s.toList = t.toList ↔ s = t := ⟨fun e => by
  rw [ByteArray.toList_eq,ByteArray.toList_eq] at e
  obtain ⟨⟨x⟩⟩:=s
  obtain ⟨⟨y⟩⟩:=t
  simp at e
  rw [e],fun e=>by rw [e]⟩
theorem sl_total (s t : ByteArray) : (!(Op.bytesLess s.toList t.toList || decide (s = t))) = sless t s := by
  rw [sless,← bl_total s.toList t.toList]
  simp only [toList_inj]
theorem r_sgtr' {s t : ByteArray} (hx : ev E x = some (.string s)) (hy : ev E y = some (.string t)) : Runs P N D E S (.binOp .gtr T x y T') ty (.bool (sless t s)) := by
  have:=r_sgtr (P:=P) (N:=N) (D:=D) (S:=S) (T:=T) (T':=T') (ty:=ty) hx hy
  rwa [sl_total] at this
theorem r_slss' {s t:ByteArray} (hx:ev E x=some (.string s)) (hy:ev E y=some (.string t)):Runs P N D E S (.binOp .lss T x y T') ty (.bool (sless s t)):=r_slss hx hy
theorem r_sgeq' {s t:ByteArray} (hx:ev E x=some (.string s)) (hy:ev E y=some (.string t)):Runs P N D E S (.binOp .geq T x y T') ty (.bool (!(sless s t))):=r_sgeq hx hy
theorem vg {f : Fn} {first cap : Array Operand} {c : List Value} (hf : first = #[]) (hc : evs E cap.toList = some c) : Runs P N D E S (.makeFunc f first cap) ty (.func f #[] c.toArray) := fun o ho _ a w ha _ => by
  subst hf
  have h1 : cap.map a.eval = c.toArray := by
    apply Array.toList_inj.1
    rw [Array.toList_map]
    exact evs_map ha hc
  unfold execOp; rw [ho]; simp [Instr.makeFunc,h1]
def dense (k : Nat) : Nat → List (Nat × Value) → Option (List Value)
  | _,[]=>some []
  | i, p :: r => match Nat.beq p.1 i, Nat.beq p.2.cells.toList.length k, dense k (i + 1) r with
    | true,true,some cs=>some (p.2.cells.toList++cs)
    | _,_,_=>none
theorem dense_len {k : Nat} : ∀ (ps : List (Nat × Value)) (i : Nat) (cs : List Value), dense k i ps = some cs → cs.length = ps.length * k
  | [],_,cs,h=>by simp [dense] at h; simp [h]
  | p :: r, i, cs, h => by
    unfold dense at h
    cases h1:Nat.beq p.1 i with
    | false=>rw [h1] at h; cases h
    | true =>
      cases h2:Nat.beq p.2.cells.toList.length k with
      | false=>rw [h1,h2] at h; cases h
      | true =>
        cases h3:dense k (i + 1) r with
        | none=>rw [h1,h2,h3] at h; cases h
        | some c =>
          rw [h1,h2,h3] at h
          have e2:=Nat.eq_of_beq_eq_true h2
          have ih:=dense_len r (i + 1) c h3
          simp only [Option.some.injEq] at h
          rw [← h,List.length_append,e2,ih,List.length_cons,Nat.succ_mul]; omega
theorem dense_fill {k : Nat} : ∀ (ps : List (Nat × Value)) (i : Nat) (cs pre post : List Value), dense k i ps = some cs → pre.length = i * k → post.length = ps.length * k →
    Instr.fill (fun j=>some (j * k,k)) (pre++post).toArray ps=some (pre++cs).toArray
  | [], i, cs, pre, post, h, _, hp => by
    simp [dense] at h
    have:post=[]:=List.eq_nil_of_length_eq_zero (by simpa using hp)
    simp [Instr.fill,h,this]
  | p :: r, i, cs, pre, post, h, hpre, hp => by
    obtain ⟨j,v⟩:=p
    unfold dense at h
    dsimp only at h
    cases h1:Nat.beq j i with
    | false=>rw [h1] at h; cases h
    | true =>
      cases h2:Nat.beq v.cells.toList.length k with
      | false=>rw [h1,h2] at h; cases h
      | true =>
        cases h3:dense k (i + 1) r with
        | none=>rw [h1,h2,h3] at h; cases h
        | some c =>
          rw [h1,h2,h3] at h
          have e1:=Nat.eq_of_beq_eq_true h1
          have e2:v.cells.size=k:=by simpa using Nat.eq_of_beq_eq_true h2
          subst e1
          simp only [Option.some.injEq] at h
          simp only [List.length_cons,Nat.succ_mul] at hp
          unfold Instr.fill
          dsimp only
          have hc : ¬ ((decide (v.cells.size ≠ k) || decide (j * k + v.cells.size > (pre ++ post).toArray.size)) = true) := by
            simp only [List.size_toArray,List.length_append,Bool.or_eq_true,decide_eq_true_eq,not_or]
            refine ⟨by omega,by omega⟩
          rw [if_neg hc]
          have hf:=foldl_splice (j * k) v.cells.toList 0 (pre++post) (by simp; omega)
          have e3 : Array.foldl (fun (cs : Array Value) (x : Value × Nat) => cs.setIfInBounds (j * k + x.2) x.1) (pre ++ post).toArray v.cells.zipIdx = (splice (pre ++ post) (j * k) v.cells.toList).toArray := by
            rw [← Array.foldl_toList]; simpa using hf
          have e4 : splice (pre ++ post) (j * k) v.cells.toList = (pre ++ v.cells.toList) ++ post.drop k := by
            unfold splice
            rw [← hpre]
            simp [e2]
          have ih:=dense_fill r (j + 1) c (pre++v.cells.toList) (post.drop k) h3 (by simp [hpre,e2,Nat.succ_mul]) (by simp; omega)
          rw [← h,← List.append_assoc,← ih,← e4,← e3]
theorem l_bs {e k by1 n : Nat} {zv : Value} {parts : Array (Nat × Operand)} {ps : List (Nat × Value)} (cs : List Value) (hw : Want N D ops E g true) (hu : P.underlying T = some (.slice e)) (hs : Inf P e k by1 zv) (he : evp E parts.toList = some ps) (hf : dense k 0 ps = some cs) (hn : ps.length = n)
    (hk:0 < n * k) (hsm:n * k≤16777216) (hd:Nat.blt d N=true)
    (h:∀ b,WL P N D ops Q rest ((d,.slice (some ⟨b,0,none⟩) n n)::E) (Mem w0 M (.row (.slice (some ⟨b,0,none⟩) n n) e k n cs::L))):WL P N D ops Q (⟨some d,.buildSlice T n parts,ty,pos,aft,g⟩::rest) E (Mem w0 M L):=by
  refine jW hw hd fun o ho hty a w ha hS=>?_
  obtain ⟨i,hi,hz,hsz,_⟩:=hs.get
  have h1:(parts.map fun (i,x)=>(i,a.eval x)).toList=ps:=by rw [Array.toList_map]; exact evp_map ha he
  have hlen:=dense_len ps 0 cs hf
  rw [hn] at hlen
  have hfill : Instr.fill (fun j => some (j * i.size, i.size)) ((Array.range (n * i.size)).map (zv.cells[· % zv.cells.size]!)) (parts.map fun (i, x) => (i, a.eval x)).toList = some cs.toArray := by
    rw [h1,hsz]
    have:=dense_fill ps 0 cs [] ((Array.range (n * k)).map (zv.cells[· % zv.cells.size]!)).toList hf (by simp) (by simp [hn])
    simpa only [List.nil_append,Array.toArray_toList] using this
  have hr:=run_buildSlice (P:=P) w T e n _ cs.toArray i zv hu hi hz (by rw [hsz]; omega) (by rw [hsz]; omega) hfill
  refine ⟨.slice (some ⟨w.heap.size,0,none⟩) n n,w.alloc (.cells cs.toArray e),?_,_,?_,h w.heap.size⟩
  · unfold execOp; rw [ho]; simp [hr]
  · refine hS.add (Fr.alloc _ _ _) ?_ (fun b hb=>?_)
    · have:=World.ownsRow_lit (size:=k) (e:=e) (base:=0) w cs.toArray n (Nat.zero_le _) (by simp only [maxLen]; have:n≤n * k:=Nat.le_mul_of_pos_right n (Nat.pos_of_ne_zero (by rintro rfl; simp at hk)); omega) (by simpa using hlen)
      show World.ownsRow _ _ _ _ _ _ _
      simpa using this
    · have hb':w.heap.size=b:=by simpa [Own.fp,Value.ownBlock] using hb
      subst hb'; simp
theorem l_bs0 {e k by1 : Nat} {zv : Value} (hw : Want N D ops E g true) (hu : P.underlying T = some (.slice e)) (hs : Inf P e k by1 zv) (hd : Nat.blt d N = true)
    (h:∀ b,WL P N D ops Q rest ((d,.slice (some ⟨b,0,none⟩) 0 0)::E) (Mem w0 M (.row (.slice (some ⟨b,0,none⟩) 0 0) e k 0 []::L))):WL P N D ops Q (⟨some d,.buildSlice T 0 #[],ty,pos,aft,g⟩::rest) E (Mem w0 M L):=by
  refine jW hw hd fun o ho hty a w ha hS=>⟨.slice (some ⟨w.heap.size,0,none⟩) 0 0,w.alloc (.cells #[] e),?_,_,?_,h w.heap.size⟩
  · unfold execOp; rw [ho]
    simp [Instr.buildSlice,run_underlying hu,run_sizeOf' hs,Instr.fill,newRow,Array.range_zero']
  · refine hS.add (Fr.alloc _ _ _) ?_ (fun b hb=>?_)
    · have:=World.ownsRow_lit (size:=k) (e:=e) (base:=0) w #[] 0 (Nat.zero_le _) (Nat.zero_le _) (by simp)
      show World.ownsRow _ _ _ _ _ _ _
      simpa using this
    · have hb':w.heap.size=b:=by simpa [Own.fp,Value.ownBlock] using hb
      subst hb'; simp
theorem row_form {w : World} {base e k n : Nat} {xs : List Value} (h : w.ownsRow base e k v n xs) : ∃ A c, v = .slice A n c ∧ n ≤ c ∧ c ≤ maxLen ∧ (0 < n → ∃ ad, A = some ad ∧ v.ownBlock = some ad.block ∧ ∀ (j : Nat) (u : Value), xs[j]? = some u → w.cell? (ad.add j) = some u) := by
  have h0:=h
  rcases h.2 with ⟨rfl,rfl⟩ | ⟨g,cap,cur,rfl,_,_,hnc,hcm,_⟩
  · exact ⟨none,0,rfl,Nat.le_refl _,Nat.zero_le _,fun hn=>absurd hn (by omega)⟩
  · exact ⟨some ⟨g,0,none⟩,cap,rfl,hnc,hcm,fun _=>⟨_,rfl,rfl,h0.cells (g:=g) rfl⟩⟩
theorem flat_get {α : Type} {k : Nat} {enc : α → List Value} (he : ∀ a, (enc a).length = k) : ∀ (l : List α) (i : Nat) (x : α) (j : Nat) (u : Value), l[i]? = some x → (enc x)[j]? = some u → (l.flatMap enc)[i * k + j]? = some u
  | [],i,x,j,u,hi,_=>by simp at hi
  | a :: l, i, x, j, u, hi, hj => by
    rw [List.flatMap_cons]
    cases i with
    | zero =>
      obtain rfl:a=x:=by simpa using hi
      have:j < (enc a).length:=(List.getElem?_eq_some_iff.1 hj).1
      rw [Nat.zero_mul,Nat.zero_add,List.getElem?_append_left this]; exact hj
    | succ i =>
      have ih:=flat_get he l i x j u (by simpa using hi) hj
      rw [List.getElem?_append_right (by rw [he,Nat.succ_mul]; omega),he,show (i + 1) * k + j - k=i * k + j by rw [Nat.succ_mul]; omega]
      exact ih
theorem rowSl {w : World} {α : Type} {k e n : Nat} {enc : α → List Value} {xs : List Value} (l : List α) (h : Mem w0 M L w) (i : Nat) (hL : L[i]? = some (.row v e k n xs)) (hx : xs = l.flatMap enc) (hn : n = l.length) (he : ∀ a, (enc a).length = k) : zJ (In w) k enc v l w := by
  subst hx hn
  obtain ⟨A,c,rfl,h1,h2,h3⟩:=row_form (h.row hL)
  refine ⟨A,c,rfl,h1,h2,fun hne=>?_⟩
  obtain ⟨ad,rfl,hb,hc⟩:=h3 (List.length_pos_iff.2 hne)
  refine ⟨ad,rfl,(h.ok i _ hL).2.1 _ hb,fun i x hi j u hj=>?_⟩
  rw [add_add]
  exact hc _ u (flat_get he l i x j u hi hj)
def RetRow (w:World) (e k n:Nat) (xs:List Value):Ending→World→Prop:=fun en w'=>∃ v,en=.returned v∧Fr no w w'∧w'.ownsRow w.heap.size e k v n xs
theorem Mem.addRow {w w' : World} {e k n : Nat} {xs : List Value} (h : Mem w0 M L w) (hf : Fr no w w') (ho : w'.ownsRow w.heap.size e k v n xs) : Mem w0 M (.row v e k n xs :: L) w' := by
  refine h.add hf ⟨ho.1,?_⟩ (fun b hb=>ho.lt b hb)
  rcases ho.2 with h2 | ⟨g,cap,cur,hv,_,r⟩
  · exact .inl h2
  · exact .inr ⟨g,cap,cur,hv,Nat.zero_le _,r⟩
theorem l_callRow {f e k n : Nat} {args : Array Operand} {ts : Array TypeId} {vs xs : List Value} (hw : Want N D ops E g true) (hargs : evs E args.toList = some vs)
    (hcall:∀ vs w,(callFunc f vs).run P w=.ok (.enter f vs) w) (hd:Nat.blt d N=true)
    (hc:∀ w,Mem w0 M L w→Calls P f vs.toArray w (RetRow w e k n xs)) (h:∀ v,WL P N D ops Q rest ((d,v)::E) (Mem w0 M (.row v e k n xs::L))) :
    WL P N D ops Q (⟨some d,.call { callee:=.value (.func f),args:=args,argTypes:=ts },ty,pos,aft,g⟩::rest) E (Mem w0 M L) :=
  jh (Φ:=fun v w'=>Mem w0 M (.row v e k n xs::L) w') hw hargs hcall hd (fun w hS=>(hc w hS).mono fun _ _ ⟨v,he,hf,ho⟩=>⟨v,he,hS.addRow hf ho⟩) h
theorem Mem.retRow {p : Nat → Prop} {w w1 : World} {e k n : Nat} {xs : List Value} (h : Mem w ⟨no, p⟩ L w1) (i : Nat) (hL : L[i]? = some (.row v e k n xs)) : RetRow w e k n xs (.returned v) w1 := by
  refine ⟨v,rfl,h.fr,?_⟩
  have ho:=h.row hL
  have hb:=(h.ok i _ hL).2.2 rfl
  refine ⟨ho.1,?_⟩
  rcases ho.2 with h2 | ⟨g,cap,cur,rfl,_,r⟩
  · exact .inl h2
  · exact .inr ⟨g,cap,cur,rfl,(hb g rfl).resolve_right id,r⟩
end Ex
end
section
namespace Ex
theorem wu {N : Nat} {D : List Deferred} {E : Env} {ops : Array Oper} {j d : Nat} {want : Bool} (hj : (ops[j]?).bind (·.dst) = some d) (hl : look E d = some undef) : Want N D ops E (some (j, want)) false := fun o ho a ha => by
  have h1:=ha.h d _ hl
  simp [Region.wanted,ho,yielded,hj,h1,undef]
structure Enc {α : Type} (enc : α → List Value) (k : Nat) : Prop where
  len:∀ a,(enc a).length=k
  one:∀ a,∀ u ∈ enc a,u.oneCell'=true
  pos:0 < k
theorem Enc.of {α : Type} {enc : α → List Value} {k : Nat} (h1 : ∀ a, (enc a).length = k) (h2 : ∀ a, (enc a).all (·.oneCell') = true) (h3 : Nat.blt 0 k = true) : Enc enc k :=
  ⟨h1,fun a u hu=>List.all_eq_true.1 (h2 a) u hu,by simpa using h3⟩
theorem encSample:Enc zo 2:=.of (fun _=>rfl) (fun _=>rfl) rfl
theorem encSum:Enc sumE 7:=.of (fun _=>rfl) (fun _=>rfl) rfl
theorem encBucket:Enc zU 8:=.of (fun _=>rfl) (fun _=>rfl) rfl
theorem encLabel:Enc zj 2:=.of (fun _=>rfl) (fun _=>rfl) rfl
theorem encMatch:Enc yg 3:=.of (fun _=>rfl) (fun _=>rfl) rfl
theorem encPart:Enc vZ 3:=.of (fun _=>rfl) (fun _=>rfl) rfl
theorem encString:Enc strE 1:=.of (fun _=>rfl) (fun _=>rfl) rfl
theorem encInt:Enc intE 1:=.of (fun _=>rfl) (fun _=>rfl) rfl
@[reducible] def Row {α:Type} (v:Value) (e k:Nat) (enc:α→List Value) (l:List α):Own:=.row v e k l.length (l.flatMap enc)
section
variable {P : Program} {N : Nat} {D : List Deferred} {E : Env} {S : World → Prop} {Q : Exit → Act → World → Prop} {K : Act → World → Prop}
  {w0 w:World} {M:Fp} {L:List Own} {α:Type} {enc:α→List Value} {k e:Nat} {l l2:List α} {A:Option Addr} {c n:Nat} {ad:Addr}
  {ops:Array Oper} {rest:List Oper} {d:Nat} {dst:Option Tmp} {op:Op} {ty T T':TypeId} {pos:String} {aft:Array Edge} {g:Option (Nat × Bool)} {v u:Value} {x y z:Operand} {cd:Code}
theorem RowSl (he:Enc enc k) (h:Mem w0 M L w) (i:Nat) (hL:L[i]?=some (Row v e k enc l)):zJ (In w) k enc v l w:=rowSl l h i hL rfl rfl he.len
theorem row_form' {v : Value} (h : w.ownsRow 0 e k v l.length (l.flatMap enc)) : ∃ A c, v = .slice A l.length c ∧ l.length ≤ c ∧ c ≤ 9223372036854775807 ∧ (l ≠ [] → ∃ ad, A = some ad) := by
  obtain ⟨A,c,h1,h2,h3,h4⟩:=row_form h
  exact ⟨A,c,h1,h2,by simpa [maxLen] using h3,fun hne=>by obtain ⟨ad,e,_⟩:=h4 (List.length_pos_iff.2 hne); exact ⟨ad,e⟩⟩
theorem vW (i : Nat) (hL : L[i]? = some (Row v e k enc l)) (h : ∀ A c, v = .slice A l.length c → l.length ≤ c → c ≤ 9223372036854775807 → (l ≠ [] → ∃ ad, A = some ad) → WC P N D cd Q E (Mem w0 M L)) : WC P N D cd Q E (Mem w0 M L) :=
  fun w hS=>by obtain ⟨A,c,h1,h2,h3,h4⟩:=row_form' (hS.row hL); exact h A c h1 h2 h3 h4 w hS
theorem jL (i : Nat) (hL : L[i]? = some (Row v e k enc l)) (h : ∀ A c, v = .slice A l.length c → l.length ≤ c → c ≤ 9223372036854775807 → (l ≠ [] → ∃ ad, A = some ad) → WL P N D ops Q rest E (Mem w0 M L)) : WL P N D ops Q rest E (Mem w0 M L) :=
  fun w hS=>by obtain ⟨A,c,h1,h2,h3,h4⟩:=row_form' (hS.row hL); exact h A c h1 h2 h3 h4 w hS
theorem Mem.uP (h : Mem w0 M L w) (α : Type) (e k : Nat) (enc : α → List Value) : Mem w0 M (Row (.slice none 0 0) e k enc [] :: L) w :=
  h.add (Fr.refl _ _) (World.ownsRow_nil _ _ _ _) fun b hb=>by simp [Own.fp,Value.ownBlock] at hb
theorem jZ {S':World→Prop} (hm:∀ w,S w→S' w) (h:WC P N D cd Q E S'):WC P N D cd Q E S:=fun w hS=>h w (hm w hS)
theorem ul {S':World→Prop} (hm:∀ w,S w→S' w) (h:WL P N D ops Q rest E S'):WL P N D ops Q rest E S:=fun w hS=>h w (hm w hS)
theorem vE (enc:α→List Value) (e k:Nat) (h:WL P N D ops Q rest E (Mem w0 M (Row (.slice none 0 0) e k enc []::L))):WL P N D ops Q rest E (Mem w0 M L):=ul (fun _ hS=>hS.uP α e k enc) h
theorem Mem.grow {w w' : World} {n n' : Nat} {xs xs' : List Value} {v' : Value} (h : Mem w0 M L w) {i : Nat} (hL : L[i]? = some (.row v e k n xs)) (hf : Fr (fun b => v.ownBlock = some b) w w') (ho : w'.ownsRow 0 e k v' n' xs') (hb : ∀ b, v'.ownBlock = some b → v.ownBlock = some b ∨ w.heap.size ≤ b) :
    Mem w0 M (L.set i (.row v' e k n' xs')) w' :=
  h.upd hL rfl hf ho fun b hb'=>⟨hb b hb',(ho.lt b hb').2⟩
theorem run_append_none_any {i : TypeInfo} (hu : P.underlying T = some (.slice e)) (hi : P.info? e = some i) (w : World) (ty : TypeId) {v : Value} {n : Nat} {xs : List Value} (c2 : Nat) (hown : w.ownsRow 0 e i.size v n xs) :
    (Builtin.append_ #[T,T] ty #[v,.slice none 0 c2]).run P w=.ok v w:=by
  rcases hown.2 with ⟨rfl,rfl⟩ | ⟨g,cap,cur,rfl,_,_,hnc,_⟩
  · simp [Builtin.append_,run_underlying hu,sizeOf,typeInfo,hi,Builtin.lenOf,Builtin.firstCells]
  · simp [Builtin.append_,run_underlying hu,sizeOf,typeInfo,hi,Builtin.lenOf,Builtin.firstCells,hnc,storeCells]
theorem small_len {v : Value} {n : Nat} {xs : List Value} (h : w.ownsRow 0 e k v n xs) : n ≤ maxLen := by
  obtain ⟨A,c,_,h2,h3,_⟩:=row_form h
  exact Nat.le_trans h2 h3
theorem flat_len (h : ∀ a, (enc a).length = k) : ∀ (l : List α), (l.flatMap enc).length = l.length * k
  | []=>by simp
  | a::l=>by rw [List.flatMap_cons,List.length_append,h,flat_len h l,List.length_cons,Nat.succ_mul,Nat.add_comm]
theorem flat_at (he : ∀ a, (enc a).length = k) : ∀ (l : List α) (j : Nat) (u : Value), (l.flatMap enc)[j]? = some u → ∃ (i : Nat) (x : α) (p : Nat), l[i]? = some x ∧ (enc x)[p]? = some u ∧ j = i * k + p
  | [],j,u,h=>by simp at h
  | a :: l, j, u, h => by
    rw [List.flatMap_cons] at h
    by_cases hj:j < k
    · rw [List.getElem?_append_left (by rw [he]; exact hj)] at h
      exact ⟨0,a,j,rfl,h,by simp⟩
    · rw [List.getElem?_append_right (by rw [he]; omega),he] at h
      obtain ⟨i,x,p,h1,h2,h3⟩:=flat_at he l _ u h
      exact ⟨i + 1,x,p,by simpa using h1,h2,by rw [Nat.succ_mul]; omega⟩
theorem flat_cells (he : ∀ a, (enc a).length = k) {ad : Addr} (hc : ∀ (i : Nat) (x : α), l[i]? = some x → ∀ (j : Nat) (u : Value), (enc x)[j]? = some u → w.cell? ((ad.add (i * k)).add j) = some u) :
    ∀ (j:Nat) (u:Value),(l.flatMap enc)[j]?=some u→w.cell? (ad.add j)=some u:=fun j u h=>by
  obtain ⟨i,x,p,h1,h2,rfl⟩:=flat_at he l j u h
  rw [← add_add]; exact hc i x h1 p u h2
theorem at_or {v v' : Value} {s b : Nat} (hat : v'.ownBlock = v.ownBlock ∨ v'.ownBlock = some s) (hb : v'.ownBlock = some b) : v.ownBlock = some b ∨ s ≤ b := by
  rcases hat with h | h
  · exact .inl (h ▸ hb)
  · right; rw [h] at hb; cases hb; exact Nat.le_refl _
theorem vG (i : Nat) {by1 : Nat} {zv : Value} (l l2 : List α) (he : Enc enc k) (hw : Want N D ops E g true) (hs : ev E x = some v) (hx : ev E y = some u) (hL : L[i]? = some (Row v e k enc l)) (hsrc : ∀ w, Mem w0 M L w → zJ (In w) k enc u l2 w)
    (hu:P.underlying T=some (.slice e)) (hi:Inf P e k by1 zv) (hz:zv.cells.size=k) (hp:Nat.blt 0 by1=true) (hb:(l.length + l2.length) * by1≤140737488355328) (hd:Nat.blt d N=true)
    (h:∀ A c,(l++l2).length≤c→c≤9223372036854775807→(l++l2≠[]→∃ ad,A=some ad)→WL P N D ops Q rest ((d,.slice A (l++l2).length c)::E) (Mem w0 M (L.set i (Row (.slice A (l++l2).length c) e k enc (l++l2))))) :
    WL P N D ops Q (⟨some d,.call { callee:=.builtin .append,args:=#[x,y],argTypes:=#[T,T] },T,pos,aft,g⟩::rest) E (Mem w0 M L):=by
  refine jW hw hd fun o ho hty a w ha hS=>?_
  obtain ⟨ti,h1,h2,h3,h4⟩:=hi.get
  have hown:=hS.row hL
  have hlen:(l++l2).length=l.length + l2.length:=List.length_append
  have hfin : ∀ (w' : World) (v' : Value), (Builtin.append_ #[T, T] o.type #[v, u]).run P w = .ok v' w' → w'.ownsRow 0 e k v' (l.length + l2.length) (l.flatMap enc ++ l2.flatMap enc) → Fr (fun b => v.ownBlock = some b) w w' → (∀ b, v'.ownBlock = some b → v.ownBlock = some b ∨ w.heap.size ≤ b) →
      ∃ v w',(execOp a.eval o).run P w=.ok (.value v) w'∧∃ S':World→Prop,S' w'∧WL P N D ops Q rest ((d,v)::E) S':=by
    intro w' v' hr hown' hfr hbl
    have hown2:w'.ownsRow 0 e k v' (l++l2).length ((l++l2).flatMap enc):=by rw [hlen,List.flatMap_append]; exact hown'
    have hm:=hS.grow hL hfr hown2 hbl
    obtain ⟨A,c,rfl,e2,e3,e4⟩:=row_form' hown2
    refine ⟨_,w',?_,_,hm,h A c e2 e3 e4⟩
    unfold execOp; rw [ho]; simp [resolve,invoke,builtin,ha.eval hs,ha.eval hx,hr]
  obtain ⟨A2,c2,rfl,g2,g3,g4⟩:=hsrc w hS
  by_cases hne:l2=[]
  · subst hne
    cases A2 with
    | none =>
      refine hfin w v ?_ (by simpa using hown) (Fr.refl _ _) (fun b hb=>.inl hb)
      exact run_append_none_any hu h1 w o.type c2 (by rw [h3]; exact hown)
    | some ad =>
      obtain ⟨v',w',hr,ho',hg',_,hat⟩:=run_append_own_at (P:=P) w 0 T o.type e ti zv k by1 hu h1 h2 h3 h4 hz he.pos v l.length _ hown ad 0 c2 [] (by simp) (by simp) (by simp) (by simpa [maxLen] using small_len hown) (by simpa using hb) (Nat.zero_le _)
      exact hfin w' v' hr (by simpa using ho') (Fr.of_grown hg') (fun b hb=>at_or hat hb)
  · obtain ⟨ad,rfl,hbk,hc⟩:=g4 hne
    obtain ⟨v', w', hr, ho', hg', _, hat⟩ := run_append_own_at (P := P) w 0 T o.type e ti zv k by1 hu h1 h2 h3 h4 hz he.pos v l.length _ hown ad l2.length c2 (l2.flatMap enc)
      (by rw [flat_len he.len]) (flat_cells he.len hc) (fun u hu => by obtain ⟨a, _, ha⟩ := List.mem_flatMap.1 hu; exact he.one a u ha) (by
          have h1:0 < by1:=by simpa using hp
          have h2:=Nat.le_mul_of_pos_right (l.length + l2.length) h1
          simp only [maxLen]; omega) hb (Nat.zero_le _)
    exact hfin w' v' hr ho' (Fr.of_grown hg') (fun b hb=>at_or hat hb)
theorem yw {n by1 : Nat} {zv : Value} {parts : Array (Nat × Operand)} {ps : List (Nat × Value)} (enc : α → List Value) (l : List α) (hw : Want N D ops E g true) (hu : P.underlying T = some (.slice e)) (hs : Inf P e k by1 zv) (he : evp E parts.toList = some ps) (hf : dense k 0 ps = some (l.flatMap enc)) (hn : ps.length = n) (hl : l.length = n)
    (hk:0 < n * k) (hsm:n * k≤16777216) (hd:Nat.blt d N=true)
    (h:∀ b,WL P N D ops Q rest ((d,.slice (some ⟨b,0,none⟩) n n)::E) (Mem w0 M (Row (.slice (some ⟨b,0,none⟩) n n) e k enc l::L))):WL P N D ops Q (⟨some d,.buildSlice T n parts,ty,pos,aft,g⟩::rest) E (Mem w0 M L):=by
  subst hl
  exact l_bs (l.flatMap enc) hw hu hs he hf hn hk hsm hd h
theorem ju {by1 : Nat} {zv : Value} (enc : α → List Value) (hw : Want N D ops E g true) (hu : P.underlying T = some (.slice e)) (hs : Inf P e k by1 zv) (hd : Nat.blt d N = true)
    (h:∀ b,WL P N D ops Q rest ((d,.slice (some ⟨b,0,none⟩) 0 0)::E) (Mem w0 M (Row (.slice (some ⟨b,0,none⟩) 0 0) e k enc []::L))):WL P N D ops Q (⟨some d,.buildSlice T 0 #[],ty,pos,aft,g⟩::rest) E (Mem w0 M L) :=
  l_bs0 hw hu hs hd h
theorem u9 (q : Nat) {i j : Nat} {a : α} (he : Enc enc k) (hx : ev E x = some (.pointer (some ((ad.add (i * k)).add j)))) (hL : L[q]? = some (Row (.slice A n c) e k enc l)) (hA : A = some ad) (hi : l[i]? = some a) (hj : (enc a)[j]? = some u) (hf : flatT P T = true) : Runs P N D E (Mem w0 M L) (.load T x) ty u :=
  uq hx hf fun _ h=>(RowSl he h q hL).cell hA hi hj
theorem jE (q : Nat) {i j k1 by1 : Nat} {z1 : Value} {a : α} (vs : List Value) (he : Enc enc k) (hx : ev E x = some (.pointer (some ((ad.add (i * k)).add j)))) (hL : L[q]? = some (Row (.slice A n c) e k enc l)) (hA : A = some ad) (hi : l[i]? = some a) (hv : ((enc a).drop j).take k1 = vs) (hl : vs.length = k1) (hg : aggT P T = true) (hs : Inf P T k1 by1 z1) :
    Runs P N D E (Mem w0 M L) (.load T x) ty (.agg vs.toArray) :=
  jC vs hx hg hs hl fun _ h p u hu => by
    rw [add_add,add_add,← add_add]
    rw [← hv,List.getElem?_take] at hu
    split at hu
    · exact (RowSl he h q hL).cell hA hi (by simpa using hu)
    · cases hu
theorem splice_len {cs vs : List Value} {o : Nat} (h : o + vs.length ≤ cs.length) : (splice cs o vs).length = cs.length := by
  simp [splice]; omega
theorem splice_app {a b vs : List Value} {o : Nat} (h : o + vs.length ≤ a.length) : splice (a ++ b) o vs = splice a o vs ++ b := by
  simp only [splice]
  rw [List.take_append_of_le_length (by omega),List.drop_append_of_le_length h]
  simp
theorem take_splice {cs vs : List Value} {o m : Nat} (h : o + vs.length ≤ m) (hm : m ≤ cs.length) : (splice cs o vs).take m = splice (cs.take m) o vs := by
  have hl:(cs.take m).length=m:=by simp; omega
  have h1:splice cs o vs=splice (cs.take m) o vs++cs.drop m:=by rw [← splice_app (by rw [hl]; exact h),List.take_append_drop]
  have h2:(splice (cs.take m) o vs).length=m:=by rw [splice_len (by rw [hl]; exact h),hl]
  rw [h1]
  exact List.take_left' h2
theorem flat_set (he : ∀ a, (enc a).length = k) {vs : List Value} {off : Nat} {a a' : α} (ha : splice (enc a) off vs = enc a') (ho : off + vs.length ≤ k) : ∀ (l : List α) (i : Nat), l[i]? = some a → splice (l.flatMap enc) (i * k + off) vs = (l.set i a').flatMap enc
  | [],i,h=>by simp at h
  | b :: l, 0, h => by
    obtain rfl:b=a:=by simpa using h
    rw [List.set_cons_zero,List.flatMap_cons,List.flatMap_cons,← ha]
    have:=he b
    simp only [splice,Nat.zero_mul,Nat.zero_add]
    rw [List.take_append_of_le_length (by omega),List.drop_append_of_le_length (by omega)]
    simp
  | b :: l, i + 1, h => by
    have ih:=flat_set he ha ho l i (by simpa using h)
    rw [List.set_cons_succ,List.flatMap_cons,List.flatMap_cons,← ih]
    have:=he b
    simp only [splice]
    rw [List.take_append,List.drop_append]
    rw [List.take_of_length_le (by rw [Nat.succ_mul]; omega),List.drop_of_length_le (by rw [Nat.succ_mul]; omega)]
    rw [show (i + 1) * k + off - (enc b).length=i * k + off by rw [Nat.succ_mul]; omega,show (i + 1) * k + off + vs.length - (enc b).length=i * k + off + vs.length by rw [Nat.succ_mul]; omega]
    simp
theorem u5 (q : Nat) {i j k1 by1 : Nat} {zv : Value} {vs : List Value} {a : α} (a' : α) (he : Enc enc k) (hw : Want N D ops E g true) (hx : ev E x = some (.pointer (some ((ad.add (i * k)).add j)))) (hy : ev E y = some v) (hv : v.cells = vs.toArray)
    (hL:L[q]?=some (Row (.slice A l.length c) e k enc l)) (hA:A=some ad) (hi:l[i]?=some a) (hs:Inf P T k1 by1 zv) (hl:vs.length=k1) (h1:vs.all (·.oneCell')=true) (hj:Nat.ble (j + k1) k=true) (ha':splice (enc a) j vs=enc a')
    (h:WL P N D ops Q rest E (Mem w0 M (L.set q (Row (.slice A l.length c) e k enc (l.set i a'))))):WL P N D ops Q (⟨none,.store T x y,ty,pos,aft,g⟩::rest) E (Mem w0 M L) :=
  gM hw (fun o ho _ ac w ha hS => by
    have hj':j + k1≤k:=Nat.le_of_ble_eq_true hj
    have hil:i < l.length:=(List.getElem?_eq_some_iff.1 hi).1
    have hown:=hS.row hL
    subst hA
    rcases hown.2 with ⟨h0,_⟩ | ⟨gb,cap,cur,h0,hbg,hg,hnc,hcm,hcs,htk⟩
    · cases h0
    injection h0 with e1 e2 e3
    injection e1 with e1
    subst e1 e3
    have hpos:(i + 1) * k≤l.length * k:=Nat.mul_le_mul_right k hil
    rw [Nat.succ_mul] at hpos
    have hle:l.length * k≤c * k:=Nat.mul_le_mul_right k hnc
    have hcl:cur.toList.length=c * k:=by simpa using hcs
    have haddr:(((⟨gb,0,none⟩:Addr).add (i * k)).add j)=⟨gb,i * k + j,none⟩:=by rw [add_add,add_lit]; simp
    have hst:=run_storeVarN (P:=P) (T:=T) hs (v:=v) (vs:=vs) hv hl h1 (b:=gb) (j:=i * k + j) (cur:=cur.toList) (t:=e) (w:=w) (by simpa using hg) (by omega)
    refine ⟨w.setRow gb (splice cur.toList (i * k + j) vs).toArray,?_,?_⟩
    · unfold execOp; rw [ho]
      simp only [ha.eval hx,ha.eval hy,haddr]
      simp [Instr.storeAt,Instr.sureAddr,hst]
    · refine hS.upd hL rfl ⟨rfl,rfl,rfl,by simp,fun b _ hk=>setRow_other w gb b _ (fun e=>hk (by simp [Own.fp,Value.ownBlock,e]))⟩ ?_ (fun b hb=>⟨.inl hb,?_⟩)
      · refine ⟨?_,.inr ⟨gb,c,_,by rw [List.length_set],hbg,setRow_heap w gb _ _ e _ hg,by rw [List.length_set]; exact hnc,hcm,?_,?_⟩⟩
        · rw [flat_len he.len]
        · simp only [List.size_toArray]; rw [splice_len (by omega)]; exact hcl
        · rw [← flat_set he.len ha' (by omega) l i hi,← htk,List.length_set]
          exact take_splice (by omega) (by omega)
      · have:=(hS.ok q _ hL).2.1 b hb
        simpa using this) h
def RetL (w:World) (e k:Nat) {α:Type} (enc:α→List Value) (l:List α):Ending→World→Prop:=RetRow w e k l.length (l.flatMap enc)
theorem uU {f : Nat} {args : Array Operand} {ts : Array TypeId} {vs : List Value} (l : List α) (hw : Want N D ops E g true) (hargs : evs E args.toList = some vs)
    (hcall:∀ vs w,(callFunc f vs).run P w=.ok (.enter f vs) w) (hd:Nat.blt d N=true)
    (hc:∀ w,Mem w0 M L w→Calls P f vs.toArray w (RetL w e k enc l))
    (h:∀ A c,l.length≤c→c≤9223372036854775807→(l≠[]→∃ ad,A=some ad)→WL P N D ops Q rest ((d,.slice A l.length c)::E) (Mem w0 M (Row (.slice A l.length c) e k enc l::L))) :
    WL P N D ops Q (⟨some d,.call { callee:=.value (.func f),args:=args,argTypes:=ts },ty,pos,aft,g⟩::rest) E (Mem w0 M L) :=
  l_callRow hw hargs hcall hd hc fun v => by
    intro w hS
    obtain ⟨A,c,rfl,h2,h3,h4⟩:=row_form' (hS.row (i:=0) rfl)
    exact h A c h2 h3 h4 w hS
def RetLT (w:World) (e k:Nat) {α:Type} (enc:α→List Value) (l:List α) (mk:Value→Value):Ending→World→Prop:=fun en w'=>∃ r,en=.returned (mk r)∧Fr no w w'∧w'.ownsRow w.heap.size e k r l.length (l.flatMap enc)
theorem l_callLT {f : Nat} {args : Array Operand} {ts : Array TypeId} {vs : List Value} (l : List α) (mk : Value → Value) (hw : Want N D ops E g true) (hx : ev E x = some (.func (.func f) #[] #[])) (hargs : evs E args.toList = some vs)
    (hcall:∀ vs w,(callFunc f vs).run P w=.ok (.enter f vs) w) (hd:Nat.blt d N=true)
    (hc:∀ w,Mem w0 M L w→Calls P f vs.toArray w (RetLT w e k enc l mk))
    (h:∀ A c,l.length≤c→c≤9223372036854775807→(l≠[]→∃ ad,A=some ad)→WL P N D ops Q rest ((d,mk (.slice A l.length c))::E) (Mem w0 M (Row (.slice A l.length c) e k enc l::L))) :
    WL P N D ops Q (⟨some d,.call { callee:=.value x,args:=args,argTypes:=ts },ty,pos,aft,g⟩::rest) E (Mem w0 M L) :=
  uc (Φ := fun v w' => ∃ r, v = mk r ∧ Mem w0 M (Row r e k enc l :: L) w') hw hx hargs hcall hd (fun w hS => by
    have:=hc w hS
    simp only [Array.append_empty]
    exact this.mono fun en w' ⟨r,he,hf,ho⟩=>⟨mk r,he,r,rfl,hS.addRow hf ho⟩) fun v w hw a ha=>by
    obtain ⟨r,rfl,hS⟩:=hw
    obtain ⟨A,c,rfl,h2,h3,h4⟩:=row_form' (hS.row (i:=0) rfl)
    exact h A c h2 h3 h4 w hS a ha
theorem Mem.gD {p : Nat → Prop} {l' : List α} {mk : Value → Value} {v' : Value} (h : Mem w ⟨no, p⟩ L w0) (i : Nat) (hL : L[i]? = some (Row v e k enc l)) (hl : l = l') (hv : v' = mk v) : RetLT w e k enc l' mk (.returned v') w0 := by
  obtain ⟨u,hu,h1,h2⟩:=h.retRow i hL
  subst hl hv
  cases hu
  exact ⟨v,rfl,h1,h2⟩
theorem Mem.uh {p:Nat→Prop} {l':List α} (h:Mem w ⟨no,p⟩ L w0) (i:Nat) (hL:L[i]?=some (Row v e k enc l)) (hl:l=l'):RetL w e k enc l' (.returned v) w0:=hl ▸ h.retRow i hL
def RetU (w:World) (v:Value) (e k:Nat) {α:Type} (enc:α→List Value) (l:List α):Ending→World→Prop:=fun en w'=>∃ v',en=.returned v'∧Fr (fun b=>v.ownBlock=some b) w w'∧w'.ownsRow 0 e k v' l.length (l.flatMap enc)∧∀ b,v'.ownBlock=some b→v.ownBlock=some b∨w.heap.size≤b
theorem uL (i : Nat) {f : Nat} {args : Array Operand} {ts : Array TypeId} {vs : List Value} {l : List α} (l' : List α) (hL : L[i]? = some (Row v e k enc l)) (hw : Want N D ops E g true) (hargs : evs E args.toList = some vs)
    (hcall:∀ vs w,(callFunc f vs).run P w=.ok (.enter f vs) w) (hd:Nat.blt d N=true)
    (hc:∀ w,Mem w0 M L w→Calls P f vs.toArray w (RetU w v e k enc l'))
    (h:∀ A c,l'.length≤c→c≤9223372036854775807→(l'≠[]→∃ ad,A=some ad)→WL P N D ops Q rest ((d,.slice A l'.length c)::E) (Mem w0 M (L.set i (Row (.slice A l'.length c) e k enc l')))) :
    WL P N D ops Q (⟨some d,.call { callee:=.value (.func f),args:=args,argTypes:=ts },ty,pos,aft,g⟩::rest) E (Mem w0 M L) :=
  jh (Φ := fun v w' => Mem w0 M (L.set i (Row v e k enc l')) w') hw hargs hcall hd (fun w hS => (hc w hS).mono fun _ _ ⟨v', he, hf, ho, hb⟩ => ⟨v', he, hS.grow hL hf ho hb⟩) fun v => by
    intro w hS
    have hi:i < L.length:=(List.getElem?_eq_some_iff.1 hL).1
    obtain ⟨A,c,rfl,h2,h3,h4⟩:=row_form' (hS.row (i:=i) (by rw [List.getElem?_set_self hi]))
    exact h A c h2 h3 h4 w hS
theorem Mem.ownArg {n : Nat} {xs : List Value} (ho : w.ownsRow 0 e k v n xs) : Mem w (fun b => v.ownBlock = some b) [.row v e k n xs] w := by
  refine ⟨Fr.refl _ _,fun i o hi=>?_,fun i j o o' hi hj hij=>?_,fun _=>False,by simp,by simp,by simp,fun i F hi=>?_⟩
  · cases i with
    | zero => obtain rfl : Own.row v e k n xs = o := by simpa using hi
              exact ⟨ho,fun b hb=>(ho.lt b hb).2,fun _ b hb=>.inr hb⟩
    | succ i=>simp at hi
  · have h1:i < 1:=by have:=(List.getElem?_eq_some_iff.1 hi).1; simpa using this
    have h2:j < 1:=by have:=(List.getElem?_eq_some_iff.1 hj).1; simpa using this
    omega
  · cases i <;> simp at hi
theorem Mem.retU {w1 : World} {v' : Value} (h : Mem w (fun b => v.ownBlock = some b) L w1) (i : Nat) (hL : L[i]? = some (Row v' e k enc l)) : RetU w v e k enc l (.returned v') w1 :=
  ⟨v',rfl,h.fr,h.row hL,fun b hb=>((h.ok i _ hL).2.2 rfl b hb).symm.imp id id⟩
theorem Mem.ja {w1:World} {v':Value} {l':List α} (h:Mem w (fun b=>v.ownBlock=some b) L w1) (i:Nat) (hL:L[i]?=some (Row v' e k enc l)) (hl:l=l'):RetU w v e k enc l' (.returned v') w1:=hl ▸ h.retU i hL
end
end Ex
end
section
namespace Ex
def mk (n : Nat) : List Nat → Array Bool
  | []=>Array.replicate n false
  | i::is=>(mk n is).setIfInBounds i true
def NQ (Q:Exit→Act→World→Prop):Exit→Act→World→Prop:=fun e a w=>(e=.normal∧Q .normal a w)∨∃ c,e=.panic c∧∀ a':Act,a'.defers=a.defers→a'.tmps.size=a.tmps.size→Q (.panic c) a' w
theorem NQ.use {Q : Exit → Act → World → Prop} (e : Exit) (a : Act) (w : World) (h : NQ Q e a w) : Q e a w := by
  rcases h with ⟨rfl,h⟩ | ⟨c,rfl,h⟩
  · exact h
  · exact h a rfl rfl
theorem NQ.put {Q : Exit → Act → World → Prop} {d : Option Tmp} {v : Value} (c : List PanicEntry) (a : Act) (w : World) (h : NQ Q (.panic c) (a.put d v) w) : NQ Q (.panic c) a w := by
  rcases h with ⟨h,_⟩ | ⟨c',h,k⟩
  · cases h
  · refine .inr ⟨c',h,fun a' h1 h2=>k a' (h1.trans ?_) (h2.trans ?_)⟩ <;> cases d <;> simp [Act.put]
section
variable {P:Program} {ops:Array Oper} {Q Q':Exit→Act→World→Prop} {S0:World→Prop}
theorem upon_monoQ (h : ∀ e a w, Q e a w → Q' e a w) {o : Oper} {a : Act} {K : Act → World → Prop} {r : Result Next} (hh : o.upon P a K Q r) : o.upon P a K Q' r := by
  cases r with
  | ok n w' =>
    cases n <;> simp only [Oper.upon] at hh ⊢ <;>
      first
        | exact hh
        | exact Calls.mono hh (fun e w'' he=>by cases e <;> first | exact he | exact h _ _ _ he | exact (by obtain ⟨a,w,hq⟩:=he; exact ⟨a,w,h _ _ _ hq⟩))
  | halt x w'=>cases x <;> simp only [Oper.upon] at hh ⊢ <;> first | exact hh | exact h _ _ _ hh
theorem upon_nonnormal {K1 : Exit → Act → World → Prop} {o : Oper} {a : Act} {K : Act → World → Prop} {r : Result Next} (hK : ∀ e a w, K1 e a w → e = .normal) (hh : o.upon P a K K1 r) : o.upon P a K (fun _ _ _ => False) r := by
  cases r with
  | ok n w' =>
    cases n <;> simp only [Oper.upon] at hh ⊢ <;>
      first
        | exact hh
        | exact Calls.mono hh (fun e w'' he=>by cases e <;> first | exact he | (exact absurd (hK _ _ _ he) (by simp)) | exact (by obtain ⟨a,w,hq⟩:=he; exact absurd (hK _ _ _ hq) (by simp)))
  | halt x w'=>cases x <;> simp only [Oper.upon] at hh ⊢ <;> first | exact hh | exact absurd (hK _ _ _ hh) (by simp)
theorem wpOp_monoQ (h : ∀ e a w, Q e a w → Q' e a w) {i : Nat} {a : Act} {w : World} {K : Act → World → Prop} (hh : wpOp P ops Q i K a w) : wpOp P ops Q' i K a w := by
  unfold wpOp at *
  split
  · simpa [*] using hh
  · rename_i o ho
    simp only [ho] at hh
    split
    · rename_i hw
      simp only [hw,if_true] at hh
      rcases hh with hh | ⟨h1,a,w,hq⟩
      · exact .inl (upon_monoQ h hh)
      · exact .inr ⟨h1,a,w,h _ _ _ hq⟩
    · rename_i hw; simp only [hw] at hh; exact hh
theorem wpAny_monoQ {md : Region.Mode} (h : ∀ e a w, Q e a w → Q' e a w) : ∀ (f : Nat) (listed : Array Bool) (a : Act) (w : World), wpAny P md ops Q f listed a w → wpAny P md ops Q' f listed a w
  | 0,_,_,_,hh=>⟨hh.1,h _ _ _ hh.2⟩
  | f + 1,_,_,_,hh=>⟨fun h0=>h _ _ _ (hh.1 h0),fun i hi=>wpOp_mono (fun a' w' h'=>wpAny_monoQ h f _ a' w' h') (wpOp_monoQ h (hh.2 i hi))⟩
def pureRun (P : Program) (ops : Array Oper) (S0 : World → Prop) (K : Act → Prop) : List Oper → Act → Prop
  | [],a=>K a
  | o::r,a=>∃ v,YieldsIf P ops S0 o v a∧pureRun P ops S0 K r (a.put o.dst v)
def okRun (ops : Array Oper) (n : Nat) : List Nat → List Nat → Bool
  | _,[]=>true
  | is,i::r=>(Region.ready .any ops (mk n is)).contains i && Region.free .any ops (mk n is) i && okRun ops n (i::is) r
theorem held_run {n : Nat} (hs : Region.noSelect ops = true) {f : Nat} {w : World} (hS : S0 w) : ∀ (seq is : List Nat) (l : List Oper) (a : Act), okRun ops n is seq = true → seq.map (fun i => ops[i]?) = l.map some →
    pureRun P ops S0 (fun a'=>Go.wpAnyH P .any ops (NQ Q) S0 f (mk n (seq.reverse++is)) a' w) l a→Go.wpAnyH P .any ops (NQ Q) S0 (f + seq.length) (mk n is) a w
  | [],is,[],a,_,_,h=>by simpa [pureRun] using h
  | [],is,o::l,a,_,he,_=>by simp at he
  | i::seq,is,[],a,_,he,_=>by simp at he
  | i :: seq, is, o :: l, a, hB, he, h => by
    simp only [okRun,Bool.and_eq_true] at hB
    simp only [List.map_cons,List.cons.injEq] at he
    obtain ⟨v,hy,hK⟩:=h
    refine Go.wpAnyH_take (fuel:=f + seq.length) he.1 hs hB.1.2 hB.1.1 (fun c a w hq=>NQ.put c a w hq) hy hS (held_run hs hS seq (i::is) l _ hB.2 he.2 ?_)
    simpa [List.reverse_cons,List.append_assoc] using hK
end
def nthO : List Oper → Nat → Option Oper
  | [],_=>none
  | o::_,0=>some o
  | _::r,i + 1=>nthO r i
theorem nthO_eq : ∀ (l : List Oper) (i : Nat), nthO l i = l[i]?
  | [],i=>by simp [nthO]
  | o::r,0=>by simp [nthO]
  | o::r,i + 1=>by simp [nthO,nthO_eq r i]
def seqOps (l0 : List Oper) : List Nat → Option (List Oper)
  | []=>some []
  | i :: r => match nthO l0 i, seqOps l0 r with
    | some o,some t=>some (o::t)
    | _,_=>none
theorem seqOps_eq (l0 : List Oper) : ∀ (seq : List Nat) (l : List Oper), seqOps l0 seq = some l → seq.map (fun i => l0.toArray[i]?) = l.map some
  | [],l,h=>by simp [seqOps] at h; subst h; rfl
  | i :: r, l, h => by
    unfold seqOps at h
    split at h
    · rename_i o t h1 h2
      obtain rfl:o::t=l:=by simpa using h
      rw [nthO_eq] at h1
      simp only [List.map_cons,seqOps_eq l0 r t h2]
      simp [h1]
    · cases h
def WN (P : Program) (N : Nat) (D : List Deferred) (ops : Array Oper) (n : Nat) (Q : Exit → Act → World → Prop) (S0 : World → Prop) (f : Nat) (is : List Nat) (E : Env) (S : World → Prop) : Prop :=
  ∀ w,S w→∀ a,Has N D a E→Go.wpAnyH P .any ops (NQ Q) S0 f (mk n is) a w
def WS (P:Program) (N:Nat) (D:List Deferred) (ops:Array Oper) (S0:World→Prop) (K:Act→Prop) (l:List Oper) (E:Env):Prop:=∀ a,Has N D a E→pureRun P ops S0 K l a
section
variable {P : Program} {N n : Nat} {D : List Deferred} {E : Env} {S S0 : World → Prop} {Q : Exit → Act → World → Prop} {ops : Array Oper} {K : Act → Prop} {f F : Nat} {is : List Nat}
  {rest:List Oper} {d:Nat} {dst:Option Tmp} {op:Op} {ty:TypeId} {pos:String} {aft:Array Edge} {g:Option (Nat × Bool)} {v u:Value}
theorem vL {id : Nat} {l : List Oper} (S0 : World → Prop) (hm : P.follows .mixedOrders = true) (hd : ∀ w, S w → S w.drew) (hn : l.length = n)
    (h:WN P N D l.toArray n Q S0 n [] E S):WC P N D (.region id l.toArray true) Q E S:=fun w hw a ha=>by
  subst hn
  refine wp_region_any hm (wpAny_monoQ (Q:=NQ Q) NQ.use _ _ _ _ (wpAny_of_held (S:=S0) _ _ _ _ ?_))
  have:=h _ (hd w hw) a ha
  simpa [mk] using this
theorem u6 {l0 l : List Oper} (seq : List Nat) (hl : seqOps l0 seq = some l) (hf : F = f + seq.length) (hs : Region.noSelect l0.toArray = true) (hB : okRun l0.toArray n is seq = true) (hS0 : ∀ w, S w → S0 w)
    (h:∀ K:Act→Prop,(∀ E',WN P N D l0.toArray n Q S0 f (seq.reverse++is) E' S→∀ a,Has N D a E'→K a)→WS P N D l0.toArray S0 K l E):WN P N D l0.toArray n Q S0 F is E S:=fun w hw a ha=>by
  subst hf
  exact held_run hs (hS0 w hw) seq is l a hB (seqOps_eq l0 seq l hl) (h _ (fun E' h' a' ha'=>h' w hw a' ha') a ha)
theorem yd (hK:∀ E',WN P N D ops n Q S0 f is E' S→∀ a,Has N D a E'→K a) (h:WN P N D ops n Q S0 f is E S):WS P N D ops S0 K [] E:=fun a ha=>hK E h a ha
theorem s_val (hw : Want N D ops E g true) (hr : Runs P N D E S0 op ty v) (hd : Nat.blt d N = true) (h : WS P N D ops S0 K rest ((d, v) :: E)) : WS P N D ops S0 K (⟨some d, op, ty, pos, aft, g⟩ :: rest) E := fun a ha =>
  ⟨v,.inl ⟨hw _ rfl a ha,fun w hS=>hr _ rfl rfl a w ha hS⟩,h _ (ha.put v hd)⟩
def W1 (P : Program) (N : Nat) (D : List Deferred) (ops : Array Oper) (n : Nat) (Q : Exit → Act → World → Prop) (S0 : World → Prop) (f : Nat) (is : List Nat) (i : Nat) (E : Env) (S : World → Prop) : Prop :=
  ∀ w,S w→∀ a,Has N D a E→wpOp P ops (NQ Q) i (fun a' w'=>S0 w'∧Go.wpAnyH P .any ops (NQ Q) S0 f (mk n (i::is)) a' w') a w
theorem yb {l0 : List Oper} {o : Oper} {i : Nat} (hi : nthO l0 i = some o) (h : ∀ K : Exit → Act → World → Prop, (∀ E' S', (∀ w, S' w → S0 w) → WN P N D l0.toArray n Q S0 f (i :: is) E' S' → WE N D K .normal E' S') → WL P N D l0.toArray K [o] E S) : W1 P N D l0.toArray n Q S0 f is i E S := fun w hw a ha => by
  have hi:l0.toArray[i]?=some o:=by rw [nthO_eq] at hi; simpa using hi
  have h1:=h (fun e a w=>e=.normal∧S0 w∧Go.wpAnyH P .any l0.toArray (NQ Q) S0 f (mk n (i::is)) a w) (fun E' S' hS h' w hw a ha=>⟨rfl,hS w hw,h' w hw a ha⟩) w hw a ha
  unfold wpList at h1
  unfold wpOp
  simp only [hi]
  split at h1
  · rename_i hwn
    rw [if_pos hwn]
    rcases h1 with h1 | ⟨h1,a,w,hq⟩
    · refine .inl (upon_monoQ (Q:=fun _ _ _=>False) (fun _ _ _ hq=>hq.elim) ?_)
      have h2:=Oper.wp_mono (K':=fun a' w'=>S0 w'∧Go.wpAnyH P .any l0.toArray (NQ Q) S0 f (mk n (i::is)) a' w') (fun a w hh=>(show _∧_ from hh).2) h1
      exact upon_nonnormal (fun _ _ _ hq=>hq.1) h2
    · exact absurd hq.1 (by simp)
  · rename_i hwn
    rw [if_neg hwn]
    exact h1.2
theorem yN {l0 : List Oper} {o : Oper} {i : Nat} (hi : nthO l0 i = some o) (h : ∀ K : Exit → Act → World → Prop, (∀ E' S', (∀ w, S' w → S0 w) → WN P N D l0.toArray n Q S0 f (i :: is) E' S' → WE N D K .normal E' S') → (∀ c S', WE N D Q (.panic c) [] S' → ∀ E', WE N D K (.panic c) E' S') → WL P N D l0.toArray K [o] E S) : W1 P N D l0.toArray n Q S0 f is i E S := fun w hw a ha => by
  have hi:l0.toArray[i]?=some o:=by rw [nthO_eq] at hi; simpa using hi
  have h1 := h (fun e a w => (e = .normal ∧ S0 w ∧ Go.wpAnyH P .any l0.toArray (NQ Q) S0 f (mk n (i :: is)) a w) ∨ ∃ c, e = .panic c ∧ ∀ a' : Act, a'.defers = a.defers → a'.tmps.size = a.tmps.size → Q (.panic c) a' w) (fun E' S' hS h' w hw a ha => .inl ⟨rfl, hS w hw, h' w hw a ha⟩)
    (fun c S' h' E' w hw a ha=>.inr ⟨c,rfl,fun a' h1 h2=>h' w hw a' ⟨h1.trans ha.d,h2.trans ha.n,fun t v hv=>by simp [look] at hv⟩⟩) w hw a ha
  unfold wpList at h1
  unfold wpOp
  simp only [hi]
  split at h1
  · rename_i hwn
    rw [if_pos hwn]
    rcases h1 with h1 | ⟨h1,a,w,hq⟩
    · refine .inl (upon_monoQ (Q:=fun e a w=>∃ c,e=.panic c∧∀ a':Act,a'.defers=a.defers→a'.tmps.size=a.tmps.size→Q (.panic c) a' w) (fun _ _ _ hq=>.inr hq) ?_)
      have h2:=Oper.wp_mono (K':=fun a' w'=>S0 w'∧Go.wpAnyH P .any l0.toArray (NQ Q) S0 f (mk n (i::is)) a' w') (fun a w hh=>by rcases (show (_∨_) from hh) with hh | ⟨c,e,_⟩; exact hh.2; cases e) h1
      unfold Oper.wp at h2
      generalize (execOp a.eval o).run P w=r at h2
      cases r with
      | ok n w' =>
        cases n <;> simp only [Oper.upon] at h2 ⊢ <;>
          first
            | exact h2
            | exact Calls.mono h2 (fun e w'' he => by
                cases e with
                | returned v=>exact he
                | panicked c=>rcases he with ⟨e,_⟩ | he; cases e; exact he
                | outgrown=>obtain ⟨a,w,hq⟩:=he; rcases hq with ⟨e,_⟩ | ⟨c,e,_⟩ <;> cases e)
      | halt x w' =>
        cases x <;> simp only [Oper.upon] at h2 ⊢ <;> first | exact h2 | (rcases h2 with ⟨e,_⟩ | h2; cases e; exact h2)
    · rcases hq with ⟨e,_⟩ | ⟨c,e,_⟩ <;> cases e
  · rename_i hwn
    rw [if_neg hwn]
    rcases h1 with h1 | ⟨c,e,_⟩
    · exact h1.2
    · cases e
theorem n_step1 {i : Nat} (hf : F = f + 1) (hr : Region.ready .any ops (mk n is) = [i]) (h : W1 P N D ops n Q S0 f is i E S) : WN P N D ops n Q S0 F is E S := fun w hw a ha => by
  subst hf
  exact Go.wpAnyH_all hr (by simp) (fun x hx=>by obtain rfl:=List.mem_singleton.1 hx; exact h w hw a ha)
theorem vX {i j : Nat} (hf : F = f + 1) (hr : Region.ready .any ops (mk n is) = [i, j]) (h1 : W1 P N D ops n Q S0 f is i E S) (h2 : W1 P N D ops n Q S0 f is j E S) : WN P N D ops n Q S0 F is E S := fun w hw a ha => by
  subst hf
  exact Go.wpAnyH_all hr (by simp) (fun x hx => by
    rcases List.mem_cons.1 hx with rfl | hx
    · exact h1 w hw a ha
    obtain rfl:=List.mem_singleton.1 hx; exact h2 w hw a ha)
theorem yu (hr:Region.ready .any ops (mk n is)=[]) (h:WE N D Q .normal E S):WN P N D ops n Q S0 f is E S:=fun w hw a ha=>Go.wpAnyH_done hr (.inl ⟨rfl,h w hw a ha⟩) _
end
end Ex
end
section
namespace Ex
theorem lgc : (∀ (α : Type) (h : Decidable True) (a b : α), @ite α True h a b = a) ∧ (∀ (α : Type) (h : Decidable False) (a b : α), @ite α False h a b = b) ∧ ((false = true) = False) ∧ ((true = false) = False) ∧ ((¬ True) = False) ∧ ((¬ False) = True) ∧ (∀ (α : Type) (a b : α), (a ≠ b) = ¬ (a = b)) ∧ (∀ p : Prop, (p ∧ True) = p) ∧ (∀ p : Prop, (True ∧ p) = p) ∧ (∀ p : Prop, (p ∧ False) = False) ∧ (∀ p : Prop, (False ∧ p) = False) ∧ (∀ p : Prop, (p ∧ p) = p) ∧ (∀ p q : Prop, (¬ (p ∧ q)) = (p → ¬ q)) :=
  ⟨fun _ _ _ _=>if_pos trivial,fun _ _ _ _=>if_neg (fun h=>h),by simp,by simp,by simp,by simp,fun _ _ _=>rfl,by simp,by simp,by simp,by simp,by simp,by simp⟩
section
variable {P : Program} {N : Nat} {D : List Deferred} {E : Env} {S S0 : World → Prop} {Q : Exit → Act → World → Prop} {K : Act → Prop} {K2 : Act → World → Prop} {w0 : World} {M : Fp} {L L' : List Own}
  {ops:Array Oper} {rest:List Oper} {d:Nat} {ty:TypeId} {pos:String} {aft:Array Edge} {v:Value} {x:Operand} {op:Op}
theorem S9 (is:List Nat) (hn:is.Nodup:=by decide) (he:L'.map some=is.map (fun i=>L[i]?):=by rfl):∀ w,Mem w0 M L w→Mem w0 M L' w:=fun _ h=>h.sel is hn he
theorem zE (hx:ev E x=some v) (h:WL P N D ops Q rest ((d,v)::E) S) (hd:Nat.blt d N=true:=by rfl):WL P N D ops Q (⟨some d,.move x,ty,pos,aft,none⟩::rest) E S:=gB wn (zi hx) hd h
theorem zP (hx:ev E x=some v) (h:WL P N D ops Q rest ((d,v)::E) S) (hd:Nat.blt d N=true:=by rfl):WL P N D ops Q (⟨some d,.assign x,ty,pos,aft,none⟩::rest) E S:=gB wn (yk hx) hd h
theorem zB (hr:Runs P N D E S op ty v) (h:WL P N D ops Q rest ((d,v)::E) S) (hd:Nat.blt d N=true:=by rfl):WL P N D ops Q (⟨some d,op,ty,pos,aft,none⟩::rest) E S:=gB wn hr hd h
theorem zb {j d':Nat} {b:Bool} (hr:Runs P N D E S op ty v) (h:WL P N D ops Q rest ((d,v)::E) S) (hj:(ops[j]?).bind (·.dst)=some d':=by rfl) (hl:look E d'=some (.bool b):=by rfl) (hd:Nat.blt d N=true:=by rfl):WL P N D ops Q (⟨some d,op,ty,pos,aft,some (j,b)⟩::rest) E S:=gB (wg hj hl (by cases b <;> rfl)) hr hd h
theorem zq (hr:Runs P N D E S op ty v) (h:WQ P N D ops K2 rest ((d,v)::E) S) (hd:Nat.blt d N=true:=by rfl):WQ P N D ops K2 (⟨some d,op,ty,pos,aft,none⟩::rest) E S:=gK wn hr hd h
theorem yn (hx:ev E x=some v) (h:WQ P N D ops K2 rest ((d,v)::E) S) (hd:Nat.blt d N=true:=by rfl):WQ P N D ops K2 (⟨some d,.move x,ty,pos,aft,none⟩::rest) E S:=gK wn (zi hx) hd h
theorem yL {j d':Nat} {b:Bool} (hr:Runs P N D E S op ty v) (h:WQ P N D ops K2 rest ((d,v)::E) S) (hj:(ops[j]?).bind (·.dst)=some d':=by rfl) (hl:look E d'=some (.bool b):=by rfl) (hd:Nat.blt d N=true:=by rfl):WQ P N D ops K2 (⟨some d,op,ty,pos,aft,some (j,b)⟩::rest) E S:=gK (wg hj hl (by cases b <;> rfl)) hr hd h
theorem yD (hr:Runs P N D E S0 op ty v) (h:WS P N D ops S0 K rest ((d,v)::E)) (hd:Nat.blt d N=true:=by rfl):WS P N D ops S0 K (⟨some d,op,ty,pos,aft,none⟩::rest) E:=s_val wn hr hd h
theorem zQ {j d':Nat} {b:Bool} (h:WL P N D ops Q rest ((d,undef)::E) S) (hj:(ops[j]?).bind (·.dst)=some d':=by rfl) (hl:look E d'=some (.bool !b):=by rfl) (hd:Nat.blt d N=true:=by rfl):WL P N D ops Q (⟨some d,op,ty,pos,aft,some (j,b)⟩::rest) E S:=y7 (wg hj hl (by cases b <;> rfl)) hd h
theorem yB {j d':Nat} {b:Bool} (h:WQ P N D ops K2 rest ((d,undef)::E) S) (hj:(ops[j]?).bind (·.dst)=some d':=by rfl) (hl:look E d'=some (.bool !b):=by rfl) (hd:Nat.blt d N=true:=by rfl):WQ P N D ops K2 (⟨some d,op,ty,pos,aft,some (j,b)⟩::rest) E S:=yx (wg hj hl (by cases b <;> rfl)) hd h
theorem zG {id:Nat} {l:List Oper} {y:Code} (h:∀ K:Act→World→Prop,(∀ E S,WC P N D y Q E S→∀ w,S w→∀ a,Has N D a E→K a w)→WL P N D l.toArray (Exit.then K Q) l E S):WC P N D (.seq (.region id l.toArray false) y) Q E S:=zS fun K hK=>zL (h K hK)
theorem zD {y:Code} {K:Act→World→Prop} (hK:∀ E S,WC P N D y Q E S→∀ w,S w→∀ a,Has N D a E→K a w) (h:WC P N D y Q E S):WL P N D ops (Exit.then K Q) [] E S:=zl (zy hK h)
theorem yK {y:Code} {K:Act→World→Prop} (hK:∀ E S,WC P N D y Q E S→∀ w,S w→∀ a,Has N D a E→K a w) (h:WC P N D y Q E S):WC P N D .skip (Exit.then K Q) E S:=yU (zy hK h)
section
variable {n f F i:Nat} {is:List Nat} {l0 l:List Oper}
theorem vK (f : Nat) (seq sl : List Nat) (hl : seqOps l0 seq = some l) (h : ∀ K : Act → Prop, (∀ E', WN P N D l0.toArray n Q (Mem w0 M L') f (seq.reverse ++ is) E' (Mem w0 M L) → ∀ a, Has N D a E' → K a) → WS P N D l0.toArray (Mem w0 M L') K l E)
    (hf:F=f + seq.length:=by rfl) (hs:Region.noSelect l0.toArray=true:=by kernel_rfl) (hB:okRun l0.toArray n is seq=true:=by kernel_rfl) (hn:sl.Nodup:=by decide) (he:L'.map some=sl.map (fun i=>L[i]?):=by rfl):WN P N D l0.toArray n Q (Mem w0 M L') F is E (Mem w0 M L) :=
  u6 (f:=f) seq hl hf hs hB (S9 sl hn he) h
theorem yY (f i:Nat) (h:W1 P N D ops n Q S0 f is i E S) (hf:F=f + 1:=by rfl) (hr:Region.ready .any ops (mk n is)=[i]:=by kernel_rfl):WN P N D ops n Q S0 F is E S:=n_step1 hf hr h
theorem yP {X:List (Nat × Value)→(World→Prop)→Prop} {K:Exit→Act→World→Prop} (hK:∀ E' S',(∀ w,S' w→Mem w0 M L' w)→X E' S'→WE N D K .normal E' S') (sl:List Nat) (h:X E (Mem w0 M L)) (hn:sl.Nodup:=by decide) (he:L'.map some=sl.map (fun i=>L[i]?):=by rfl):WL P N D ops K [] E (Mem w0 M L):=zl (hK _ _ (S9 sl hn he) h)
end
end
end Ex
end
section
open Ex
set_option maxRecDepth 100000
theorem mix:Tryz.prog.follows .mixedOrders=true:=by kernel_rfl
theorem inf3:Ex.Inf Tryz.prog 3 1 8 (.int .i64 0):=by unfold Ex.Inf; kernel_rfl
theorem flat3:Ex.flatT Tryz.prog 3=true:=by kernel_rfl
theorem flat4:Ex.flatT Tryz.prog 4=true:=by kernel_rfl
theorem inf9:Ex.Inf Tryz.prog 9 1 16 (.string ⟨#[]⟩):=by unfold Ex.Inf; kernel_rfl
theorem flat9:Ex.flatT Tryz.prog 9=true:=by kernel_rfl
theorem inf23:Ex.Inf Tryz.prog 23 1 24 (.slice none 0 0):=by unfold Ex.Inf; kernel_rfl
theorem flat23:Ex.flatT Tryz.prog 23=true:=by kernel_rfl
theorem inf25:Ex.Inf Tryz.prog 25 2 32 (.agg [.slice none 0 0,.int .i64 0].toArray):=by unfold Ex.Inf; kernel_rfl
theorem agg25:Ex.aggT Tryz.prog 25=true:=by kernel_rfl
theorem pl25:Ex.placesOf Tryz.prog 25=some [(0,1),(1,1)]:=by kernel_rfl
theorem fld25_0:Ex.fldAt Tryz.prog 25 0=some 0:=by kernel_rfl
theorem fld25_1:Ex.fldAt Tryz.prog 25 1=some 1:=by kernel_rfl
theorem flat27:Ex.flatT Tryz.prog 27=true:=by kernel_rfl
theorem inf32:Ex.Inf Tryz.prog 32 1 24 (.slice none 0 0):=by unfold Ex.Inf; kernel_rfl
theorem flat32:Ex.flatT Tryz.prog 32=true:=by kernel_rfl
theorem inf34:Ex.Inf Tryz.prog 34 4 48 (.agg [.int .i64 0,.int .i64 0,.slice none 0 0,.int .i64 0].toArray):=by unfold Ex.Inf; kernel_rfl
theorem agg34:Ex.aggT Tryz.prog 34=true:=by kernel_rfl
theorem pl34:Ex.placesOf Tryz.prog 34=some [(0,1),(1,1),(2,1),(3,1)]:=by kernel_rfl
theorem fld34_0:Ex.fldAt Tryz.prog 34 0=some 0:=by kernel_rfl
theorem fld34_2:Ex.fldAt Tryz.prog 34 2=some 2:=by kernel_rfl
theorem fld34_3:Ex.fldAt Tryz.prog 34 3=some 3:=by kernel_rfl
theorem inf39:Ex.Inf Tryz.prog 39 1 24 (.slice none 0 0):=by unfold Ex.Inf; kernel_rfl
theorem flat39:Ex.flatT Tryz.prog 39=true:=by kernel_rfl
theorem inf41:Ex.Inf Tryz.prog 41 2 16 (.agg [.int .i64 0,.int .i64 0].toArray):=by unfold Ex.Inf; kernel_rfl
theorem agg41:Ex.aggT Tryz.prog 41=true:=by kernel_rfl
theorem pl41:Ex.placesOf Tryz.prog 41=some [(0,1),(1,1)]:=by kernel_rfl
theorem fld41_0:Ex.fldAt Tryz.prog 41 0=some 0:=by kernel_rfl
theorem fld41_1:Ex.fldAt Tryz.prog 41 1=some 1:=by kernel_rfl
theorem inf43:Ex.Inf Tryz.prog 43 7 80 (.agg [.int .i64 0,.int .i64 0,.int .i64 0,.slice none 0 0,.int .i64 0,.int .i64 0,.string ⟨#[]⟩].toArray):=by unfold Ex.Inf; kernel_rfl
theorem agg43:Ex.aggT Tryz.prog 43=true:=by kernel_rfl
theorem pl43:Ex.placesOf Tryz.prog 43=some [(0,1),(1,1),(2,1),(3,1),(4,2),(6,1)]:=by kernel_rfl
theorem fld43_0:Ex.fldAt Tryz.prog 43 0=some 0:=by kernel_rfl
theorem fld43_1:Ex.fldAt Tryz.prog 43 1=some 1:=by kernel_rfl
theorem fld43_2:Ex.fldAt Tryz.prog 43 2=some 2:=by kernel_rfl
theorem fld43_3:Ex.fldAt Tryz.prog 43 3=some 3:=by kernel_rfl
theorem fld43_4:Ex.fldAt Tryz.prog 43 4=some 4:=by kernel_rfl
theorem fld43_5:Ex.fldAt Tryz.prog 43 5=some 6:=by kernel_rfl
theorem inf47:Ex.Inf Tryz.prog 47 1 24 (.slice none 0 0):=by unfold Ex.Inf; kernel_rfl
theorem flat47:Ex.flatT Tryz.prog 47=true:=by kernel_rfl
theorem inf48:Ex.Inf Tryz.prog 48 1 24 (.slice none 0 0):=by unfold Ex.Inf; kernel_rfl
theorem flat48:Ex.flatT Tryz.prog 48=true:=by kernel_rfl
theorem inf50:Ex.Inf Tryz.prog 50 9 136 (.agg [.slice none 0 0,.slice none 0 0,.slice none 0 0,.slice none 0 0,.int .i64 0,.int .i64 0,.int .i64 0,.int .i64 0,.int .i64 0].toArray):=by unfold Ex.Inf; kernel_rfl
theorem agg50:Ex.aggT Tryz.prog 50=true:=by kernel_rfl
theorem pl50:Ex.placesOf Tryz.prog 50=some [(0,1),(1,1),(2,1),(3,1),(4,1),(5,1),(6,1),(7,1),(8,1)]:=by kernel_rfl
theorem fld50_0:Ex.fldAt Tryz.prog 50 0=some 0:=by kernel_rfl
theorem fld50_1:Ex.fldAt Tryz.prog 50 1=some 1:=by kernel_rfl
theorem fld50_2:Ex.fldAt Tryz.prog 50 2=some 2:=by kernel_rfl
theorem fld50_3:Ex.fldAt Tryz.prog 50 3=some 3:=by kernel_rfl
theorem fld50_4:Ex.fldAt Tryz.prog 50 4=some 4:=by kernel_rfl
theorem fld50_5:Ex.fldAt Tryz.prog 50 5=some 5:=by kernel_rfl
theorem fld50_6:Ex.fldAt Tryz.prog 50 6=some 6:=by kernel_rfl
theorem fld50_7:Ex.fldAt Tryz.prog 50 7=some 7:=by kernel_rfl
theorem fld50_8:Ex.fldAt Tryz.prog 50 8=some 8:=by kernel_rfl
theorem inf55:Ex.Inf Tryz.prog 55 1 24 (.slice none 0 0):=by unfold Ex.Inf; kernel_rfl
theorem flat55:Ex.flatT Tryz.prog 55=true:=by kernel_rfl
theorem inf56:Ex.Inf Tryz.prog 56 1 24 (.slice none 0 0):=by unfold Ex.Inf; kernel_rfl
theorem flat56:Ex.flatT Tryz.prog 56=true:=by kernel_rfl
theorem inf57:Ex.Inf Tryz.prog 57 1 24 (.slice none 0 0):=by unfold Ex.Inf; kernel_rfl
theorem flat57:Ex.flatT Tryz.prog 57=true:=by kernel_rfl
theorem inf59:Ex.Inf Tryz.prog 59 7 112 (.agg [.int .i64 0,.int .i64 0,.int .i64 0,.string ⟨#[]⟩,.slice none 0 0,.slice none 0 0,.slice none 0 0].toArray):=by unfold Ex.Inf; kernel_rfl
theorem agg59:Ex.aggT Tryz.prog 59=true:=by kernel_rfl
theorem pl59:Ex.placesOf Tryz.prog 59=some [(0,1),(1,1),(2,1),(3,1),(4,1),(5,1),(6,1)]:=by kernel_rfl
theorem fld59_0:Ex.fldAt Tryz.prog 59 0=some 0:=by kernel_rfl
theorem fld59_1:Ex.fldAt Tryz.prog 59 1=some 1:=by kernel_rfl
theorem fld59_2:Ex.fldAt Tryz.prog 59 2=some 2:=by kernel_rfl
theorem fld59_3:Ex.fldAt Tryz.prog 59 3=some 3:=by kernel_rfl
theorem fld59_4:Ex.fldAt Tryz.prog 59 4=some 4:=by kernel_rfl
theorem fld59_5:Ex.fldAt Tryz.prog 59 5=some 5:=by kernel_rfl
theorem fld59_6:Ex.fldAt Tryz.prog 59 6=some 6:=by kernel_rfl
theorem inf61:Ex.Inf Tryz.prog 61 2 16 (.agg [.int .i64 0,.int .i64 0].toArray):=by unfold Ex.Inf; kernel_rfl
theorem agg61:Ex.aggT Tryz.prog 61=true:=by kernel_rfl
theorem pl61:Ex.placesOf Tryz.prog 61=some [(0,1),(1,1)]:=by kernel_rfl
theorem fld61_0:Ex.fldAt Tryz.prog 61 0=some 0:=by kernel_rfl
theorem fld61_1:Ex.fldAt Tryz.prog 61 1=some 1:=by kernel_rfl
theorem inf74:Ex.Inf Tryz.prog 74 2 32 (.agg [.string ⟨#[]⟩,.string ⟨#[]⟩].toArray):=by unfold Ex.Inf; kernel_rfl
theorem agg74:Ex.aggT Tryz.prog 74=true:=by kernel_rfl
theorem pl74:Ex.placesOf Tryz.prog 74=some [(0,1),(1,1)]:=by kernel_rfl
theorem fld74_0:Ex.fldAt Tryz.prog 74 0=some 0:=by kernel_rfl
theorem fld74_1:Ex.fldAt Tryz.prog 74 1=some 1:=by kernel_rfl
theorem inf81:Ex.Inf Tryz.prog 81 2 32 (.agg [.slice none 0 0,.int .i64 0].toArray):=by unfold Ex.Inf; kernel_rfl
theorem agg81:Ex.aggT Tryz.prog 81=true:=by kernel_rfl
theorem pl81:Ex.placesOf Tryz.prog 81=some [(0,1),(1,1)]:=by kernel_rfl
theorem fld81_0:Ex.fldAt Tryz.prog 81 0=some 0:=by kernel_rfl
theorem fld81_1:Ex.fldAt Tryz.prog 81 1=some 1:=by kernel_rfl
theorem inf89:Ex.Inf Tryz.prog 89 7 56 (.agg [.int .i64 0,.int .i64 0,.int .i64 0,.int .i64 0,.int .i64 0,.int .i64 0,.int .i64 0].toArray):=by unfold Ex.Inf; kernel_rfl
theorem agg89:Ex.aggT Tryz.prog 89=true:=by kernel_rfl
theorem pl89:Ex.placesOf Tryz.prog 89=some [(0,1),(1,1),(2,1),(3,1),(4,1),(5,1),(6,1)]:=by kernel_rfl
theorem fld89_0:Ex.fldAt Tryz.prog 89 0=some 0:=by kernel_rfl
theorem fld89_1:Ex.fldAt Tryz.prog 89 1=some 1:=by kernel_rfl
theorem fld89_2:Ex.fldAt Tryz.prog 89 2=some 2:=by kernel_rfl
theorem fld89_3:Ex.fldAt Tryz.prog 89 3=some 3:=by kernel_rfl
theorem fld89_4:Ex.fldAt Tryz.prog 89 4=some 4:=by kernel_rfl
theorem fld89_5:Ex.fldAt Tryz.prog 89 5=some 5:=by kernel_rfl
theorem fld89_6:Ex.fldAt Tryz.prog 89 6=some 6:=by kernel_rfl
theorem flat91:Ex.flatT Tryz.prog 91=true:=by kernel_rfl
theorem inf93:Ex.Inf Tryz.prog 93 2 32 (.agg [.slice none 0 0,.int .i64 0].toArray):=by unfold Ex.Inf; kernel_rfl
theorem pl93:Ex.placesOf Tryz.prog 93=some [(0,2)]:=by kernel_rfl
theorem fld93_0:Ex.fldAt Tryz.prog 93 0=some 0:=by kernel_rfl
theorem flat95:Ex.flatT Tryz.prog 95=true:=by kernel_rfl
theorem inf111:Ex.Inf Tryz.prog 111 2 16 (.agg [.int .i64 0,.int .i64 0].toArray):=by unfold Ex.Inf; kernel_rfl
theorem pl111:Ex.placesOf Tryz.prog 111=some [(0,2)]:=by kernel_rfl
theorem fld111_0:Ex.fldAt Tryz.prog 111 0=some 0:=by kernel_rfl
theorem inf114:Ex.Inf Tryz.prog 114 3 32 (.agg [.string ⟨#[]⟩,.int .i64 0,.int .i64 0].toArray):=by unfold Ex.Inf; kernel_rfl
theorem pl114:Ex.placesOf Tryz.prog 114=some [(0,1),(1,1),(2,1)]:=by kernel_rfl
theorem fld114_0:Ex.fldAt Tryz.prog 114 0=some 0:=by kernel_rfl
theorem fld114_1:Ex.fldAt Tryz.prog 114 1=some 1:=by kernel_rfl
theorem fld114_2:Ex.fldAt Tryz.prog 114 2=some 2:=by kernel_rfl
theorem inf119:Ex.Inf Tryz.prog 119 1 8 (.agg [.int .i64 0].toArray):=by unfold Ex.Inf; kernel_rfl
theorem pl119:Ex.placesOf Tryz.prog 119=some [(0,1)]:=by kernel_rfl
theorem fld119_0:Ex.fldAt Tryz.prog 119 0=some 0:=by kernel_rfl
theorem inf163:Ex.Inf Tryz.prog 163 8 64 (.agg [.int .i64 0,.int .i64 0,.int .i64 0,.int .i64 0,.int .i64 0,.int .i64 0,.int .i64 0,.int .i64 0].toArray):=by unfold Ex.Inf; kernel_rfl
theorem agg163:Ex.aggT Tryz.prog 163=true:=by kernel_rfl
theorem pl163:Ex.placesOf Tryz.prog 163=some [(0,1),(1,7)]:=by kernel_rfl
theorem fld163_0:Ex.fldAt Tryz.prog 163 0=some 0:=by kernel_rfl
theorem fld163_1:Ex.fldAt Tryz.prog 163 1=some 1:=by kernel_rfl
theorem inf164:Ex.Inf Tryz.prog 164 3 24 (.agg [.int .i64 0,.int .i64 0,.int .i64 0].toArray):=by unfold Ex.Inf; kernel_rfl
theorem agg164:Ex.aggT Tryz.prog 164=true:=by kernel_rfl
theorem pl164:Ex.placesOf Tryz.prog 164=some [(0,1),(1,1),(2,1)]:=by kernel_rfl
theorem fld164_0:Ex.fldAt Tryz.prog 164 0=some 0:=by kernel_rfl
theorem fld164_1:Ex.fldAt Tryz.prog 164 1=some 1:=by kernel_rfl
theorem fld164_2:Ex.fldAt Tryz.prog 164 2=some 2:=by kernel_rfl
theorem flat170:Ex.flatT Tryz.prog 170=true:=by kernel_rfl
theorem inf172:Ex.Inf Tryz.prog 172 3 40 (.agg [.bool false,.int .i64 0,.slice none 0 0].toArray):=by unfold Ex.Inf; kernel_rfl
theorem agg172:Ex.aggT Tryz.prog 172=true:=by kernel_rfl
theorem pl172:Ex.placesOf Tryz.prog 172=some [(0,1),(1,1),(2,1)]:=by kernel_rfl
theorem fld172_0:Ex.fldAt Tryz.prog 172 0=some 0:=by kernel_rfl
theorem fld172_1:Ex.fldAt Tryz.prog 172 1=some 1:=by kernel_rfl
theorem fld172_2:Ex.fldAt Tryz.prog 172 2=some 2:=by kernel_rfl
theorem inf176:Ex.Inf Tryz.prog 176 2 16 (.agg [.int .i64 0,.nilFunc].toArray):=by unfold Ex.Inf; kernel_rfl
theorem pl176:Ex.placesOf Tryz.prog 176=some [(0,1),(1,1)]:=by kernel_rfl
theorem fld176_0:Ex.fldAt Tryz.prog 176 0=some 0:=by kernel_rfl
theorem fld176_1:Ex.fldAt Tryz.prog 176 1=some 1:=by kernel_rfl
theorem inf179:Ex.Inf Tryz.prog 179 3 40 (.agg [.int .i64 0,.string ⟨#[]⟩,.string ⟨#[]⟩].toArray):=by unfold Ex.Inf; kernel_rfl
theorem agg179:Ex.aggT Tryz.prog 179=true:=by kernel_rfl
theorem pl179:Ex.placesOf Tryz.prog 179=some [(0,1),(1,1),(2,1)]:=by kernel_rfl
theorem fld179_0:Ex.fldAt Tryz.prog 179 0=some 0:=by kernel_rfl
theorem fld179_1:Ex.fldAt Tryz.prog 179 1=some 1:=by kernel_rfl
theorem fld179_2:Ex.fldAt Tryz.prog 179 2=some 2:=by kernel_rfl
theorem inf217:Ex.Inf Tryz.prog 217 3 24 (.agg [.int .i64 0,.int .i64 0,.int .i64 0].toArray):=by unfold Ex.Inf; kernel_rfl
theorem agg217:Ex.aggT Tryz.prog 217=true:=by kernel_rfl
theorem pl217:Ex.placesOf Tryz.prog 217=some [(0,1),(1,1),(2,1)]:=by kernel_rfl
theorem fld217_0:Ex.fldAt Tryz.prog 217 0=some 0:=by kernel_rfl
theorem fld217_1:Ex.fldAt Tryz.prog 217 1=some 1:=by kernel_rfl
theorem fld217_2:Ex.fldAt Tryz.prog 217 2=some 2:=by kernel_rfl
theorem eqv41 : EqV Tryz.prog 41 Sample zo := ⟨fun a b w => by
  obtain ⟨a0,a1⟩:=a
  obtain ⟨c0,c1⟩:=b
  rw [run_equalIn_struct (P:=Tryz.prog) w 9999 41 _ _ Tryz.underlying41 (by kernel_rfl)]
  simp [go_sem,zo]
  try ((repeat' split) <;> simp_all),by kernel_rfl⟩
theorem eqv74 : EqV Tryz.prog 74 Label zj := ⟨fun a b w => by
  obtain ⟨a0,a1⟩:=a
  obtain ⟨c0,c1⟩:=b
  rw [run_equalIn_struct (P:=Tryz.prog) w 9999 74 _ _ Tryz.underlying74 (by kernel_rfl)]
  simp [go_sem,zj,toList_inj]
  try ((repeat' split) <;> simp_all),by kernel_rfl⟩
theorem eqv163 : EqV Tryz.prog 163 Bucket zU := ⟨fun a b w => by
  obtain ⟨a,⟨a0,a1,a2,a3,a4,a5,a6⟩⟩:=a
  obtain ⟨c,⟨c0,c1,c2,c3,c4,c5,c6⟩⟩:=b
  rw [run_equalIn_struct (P:=Tryz.prog) w 9999 163 _ _ Tryz.underlying163 (by kernel_rfl)]
  simp [go_sem,zU]
  try ((repeat' split) <;> simp_all),by kernel_rfl⟩
end
section
namespace Ex
open Go.ChangeMaps
theorem mk_size (n : Nat) : ∀ is : List Nat, (mk n is).size = n
  | []=>by simp [mk]
  | i::is=>by simp [mk,mk_size n is]
theorem mk_at (n j : Nat) : ∀ is : List Nat, (mk n is)[j]? = if j < n then some (decide (j ∈ is)) else none
  | [] => by
    simp only [mk,Array.getElem?_replicate]; split <;> simp
  | i :: is => by
    simp only [mk,Array.getElem?_setIfInBounds,mk_size,mk_at n j is]
    by_cases h:i=j
    · subst h
      by_cases h2:i < n <;> simp [h2]
    · rw [if_neg h]
      by_cases h2:j < n
      · rw [if_pos h2,if_pos h2]
        have:(j ∈ i::is)↔j ∈ is:=by simp [Ne.symm h]
        simp [this]
      · rw [if_neg h2,if_neg h2]
theorem mk_getD (n j : Nat) (d : Bool) (is : List Nat) : (mk n is).getD j d = if j < n then decide (j ∈ is) else d := by
  rw [Array.getD_eq_getD_getElem?,mk_at]; split <;> rfl
theorem mk_congr {n : Nat} {is is' : List Nat} (h : ∀ j, j ∈ is ↔ j ∈ is') : mk n is = mk n is' := by
  apply Array.ext_getElem?
  intro j
  rw [mk_at,mk_at]
  simp [h j]
section
variable {P:Program} {N n:Nat} {D:List Deferred} {E:Env} {S S0:World→Prop} {Q:Exit→Act→World→Prop} {ops:Array Oper} {f F:Nat} {is:List Nat} {X:Type}
theorem fst_inj : ∀ {T : List (Nat × X)}, (T.map (·.1)).Nodup → ∀ {x y : Nat × X}, y ∈ T → x ∈ T → y.1 = x.1 → y = x
  | [],_,_,_,h,_,_=>by cases h
  | z :: T, hp, x, y, hy, hx, e => by
    rw [List.map_cons,List.nodup_cons] at hp
    rcases List.mem_cons.1 hy with rfl | hy'
    · rcases List.mem_cons.1 hx with rfl | hx'
      · rfl
      · exact absurd (List.mem_map.2 ⟨x,hx',e.symm⟩) hp.1
    · rcases List.mem_cons.1 hx with rfl | hx'
      · exact absurd (List.mem_map.2 ⟨y,hy',e⟩) hp.1
      · exact fst_inj hp.2 hy' hx' e
end
set_option linter.unusedSectionVars false
theorem nd {α:Type} {l':List α} (l:List α) (h:l'=l) (hn:l.Nodup):l'.Nodup:=h ▸ hn
structure KeyT (P : Program) (kt : TypeId) (kd : TypeDesc) {α : Type} [DecidableEq α] (ek : α → Value) : Prop where
  und:P.underlying kt=some kd
  same:∀ a b,Instr.sameNow kd (ek a) (ek b)=some (decide (a=b))
  chk:∀ e a w,(Instr.checkKey e 10000 kt (ek a)).run P w=.ok () w
section
variable {α:Type} [DecidableEq α] {ek:α→Value} {P:Program} {kt et t:TypeId} {kd:TypeDesc}
theorem KeyT.str {kt : TypeId} (h : P.underlying kt = some .string) : KeyT P kt .string Value.string := ⟨h, fun a b => by
  have : (a == b) = decide (a = b) := by
    have h:=MapKept.bytes_beq a b
    by_cases e:a=b
    · rw [h.2 e,decide_eq_true e]
    · have : (a == b) = false := by
        cases hb:a == b with
        | false=>rfl
        | true=>exact absurd (h.1 hb) e
      simp [this,e]
  simp [Instr.sameNow,this],fun e a w=>by unfold Instr.checkKey; simp [run_underlying h]⟩
section
variable {N n : Nat} {D : List Deferred} {E : Env} {S S0 : World → Prop} {Q : Exit → Act → World → Prop} {ops : Array Oper} {f F : Nat} {is : List Nat} {w0 : World} {M : Fp} {L : List Own}
  {rest:List Oper} {d:Nat} {op:Op} {ty:TypeId} {pos:String} {aft:Array Edge} {g:Option (Nat × Bool)} {v u:Value} {x y m:Operand} {b:Nat}
def insAt (ops : Array Oper) (t : TypeId) (m : Operand) (E : Env) (ek : α → Value) (x : Nat × α × Int) : Prop :=
  ∃ (k v:Operand) (ty:TypeId) (pos:String) (aft:Array Edge),ops[x.1]?=some ⟨none,.insert t m k v,ty,pos,aft,none⟩∧ev E k=some (ek x.2.1)∧ev E v=some (.int .i64 x.2.2)
def insAll (ops : Array Oper) (t : TypeId) (m : Operand) (E : Env) (ek : α → Value) : List (Nat × α × Int) → Prop
  | []=>True
  | x::r=>insAt ops t m E ek x∧insAll ops t m E ek r
theorem insAll.at : ∀ {T : List (Nat × α × Int)}, insAll ops t m E ek T → ∀ x ∈ T, insAt ops t m E ek x
  | [],_,x,hx=>by cases hx
  | y :: T, h, x, hx => by
    rcases List.mem_cons.1 hx with rfl | hx
    · exact h.1
    · exact insAll.at h.2 x hx
end
end
set_option linter.unusedSimpArgs false
end Ex
end
section
namespace Ex
set_option linter.unusedSimpArgs false
def lob (E : Env) : Option Operand → Nat → Prop
  | none,lo=>lo=0
  | some y,lo=>∃ k m,ev E y=some (.int k m)∧m=(lo:Int)
def hib (E : Env) (len : Nat) : Option Operand → Nat → Prop
  | none,hi=>hi=len
  | some y,hi=>∃ k m,ev E y=some (.int k m)∧m=(hi:Int)
theorem lo0 {E:Env}:lob E none 0:=rfl
theorem lo1 {E:Env} {y:Operand} {k:IntKind} {m:Int} {lo:Nat} (h:ev E y=some (.int k m)) (hm:m=(lo:Int)):lob E (some y) lo:=⟨k,m,h,hm⟩
theorem hi0 {E:Env} {n:Nat}:hib E n none n:=rfl
theorem hi1 {E:Env} {y:Operand} {k:IntKind} {m:Int} {n hi:Nat} (h:ev E y=some (.int k m)) (hm:m=(hi:Int)):hib E n (some y) hi:=⟨k,m,h,hm⟩
def subA (A:Option Addr) (k c lo:Nat):Option Addr:=if c=lo then A else A.map (·.add (lo * k))
section
variable {P : Program} {N : Nat} {D : List Deferred} {E : Env} {S : World → Prop} {Q : Exit → Act → World → Prop} {w0 w : World} {M : Fp} {L : List Own} {α : Type} {enc : α → List Value} {k : Nat} {l : List α} {A : Option Addr} {c lo hi : Nat} {Sb : Nat → Prop}
  {ops:Array Oper} {rest:List Oper} {d:Nat} {e ty T T':TypeId} {pos:String} {aft:Array Edge} {g:Option (Nat × Bool)} {v u:Value} {x:Operand} {y z:Option Operand}
theorem jr {len by1 : Nat} {zv : Value} (hx : ev E x = some (.slice A len c)) (hy : lob E y lo) (hz : hib E len z hi) (h1 : lo ≤ hi) (h2 : hi ≤ len) (h3 : len ≤ c) (hu : P.underlying T = some (.slice e)) (hs : Inf P e k by1 zv) : Runs P N D E S (.slice T x y z none) ty (.slice (subA A k c lo) (hi - lo) (c - lo)) := fun o ho hty a w ha _ => by
  have hb : (Instr.sliceBounds true len c (y.map a.eval) (z.map a.eval) none).run P w = .ok (lo, hi, c) w := by
    cases y with
    | none =>
      obtain rfl:lo=0:=hy
      cases z with
      | none =>
        obtain rfl:hi=len:=hz
        simp [Instr.sliceBounds]
      | some z =>
        obtain ⟨k2,m2,hz1,rfl⟩:=hz
        have h4:hi≤c:=by omega
        simp [Instr.sliceBounds,ha.eval hz1,Instr.sliceBound,asIntOf,h4]
    | some y =>
      obtain ⟨k1,m1,hy1,rfl⟩:=hy
      cases z with
      | none =>
        obtain rfl:hi=len:=hz
        have h4:lo≤hi:=by omega
        simp [Instr.sliceBounds,ha.eval hy1,Instr.sliceBound,asIntOf,h4]
      | some z =>
        obtain ⟨k2,m2,hz1,rfl⟩:=hz
        have h4:hi≤c:=by omega
        have h5:lo≤hi:=by omega
        simp [Instr.sliceBounds,ha.eval hy1,ha.eval hz1,Instr.sliceBound,asIntOf,h4,h5]
  unfold execOp; rw [ho]
  simp only [ha.eval hx,Option.map_none,Sem.run_bind,Instr.sliceAt,run_underlying hu,Result.andThen_ok]
  simp only [Instr.slice,Sem.run_bind,run_underlying hu,Result.andThen_ok,hb,run_sizeOf' hs,Sem.run_pure,subA]
theorem sub_len (h2:hi≤l.length):((l.take hi).drop lo).length=hi - lo:=by simp; omega
theorem zJ.sub (h : zJ Sb k enc (.slice A l.length c) l w) (h1 : lo ≤ hi) (h2 : hi ≤ l.length) : zJ Sb k enc (.slice (subA A k c lo) (hi - lo) (c - lo)) ((l.take hi).drop lo) w := by
  obtain ⟨A',c',e1,e2,e3,h4⟩:=h
  injection e1 with f1 _ f3
  subst f1 f3
  refine ⟨subA A k c lo,c - lo,by rw [sub_len h2],by rw [sub_len h2]; omega,by omega,fun hne=>?_⟩
  have hlt : lo < hi := by
    rcases Nat.lt_or_ge lo hi with h | h
    · exact h
    · exact absurd (List.eq_nil_of_length_eq_zero (by rw [sub_len h2]; omega)) hne
  obtain ⟨ad,rfl,hb,hc⟩:=h4 (by rintro rfl; simp at h2; omega)
  refine ⟨ad.add (lo * k),by unfold subA; rw [if_neg (by omega)]; rfl,by rw [add_block]; exact hb,fun i x hi' j u hu=>?_⟩
  have : l[lo + i]? = some x := by
    rw [List.getElem?_drop,List.getElem?_take] at hi'
    split at hi'
    · exact hi'
    · cases hi'
  have h5:=hc (lo + i) x this j u hu
  rw [add_add,add_add] at *
  rw [Nat.add_mul,Nat.add_assoc] at h5
  exact h5
end
theorem js {P:Program} {N:Nat} {D:List Deferred} {E:Env} {S:World→Prop} {op:Op} {ty:TypeId} {k:IntKind} {m n:Int} (h:m=n) (r:Runs P N D E S op ty (.int k m)):Runs P N D E S op ty (.int k n):=h ▸ r
end Ex
end
section
abbrev wr (n:Int):Int:=IntKind.wrap .i64 n
instance:Inhabited Sum:=⟨⟨0,0,0,0,0,0,0⟩⟩
def Sum.zero:Sum:=⟨0,0,0,0,0,0,0⟩
theorem wr_eq (n : Int) : wr n = if n % 18446744073709551616 ≥ 9223372036854775808 then n % 18446744073709551616 - 18446744073709551616 else n % 18446744073709551616 := by
  simp [wr,IntKind.wrap,IntKind.bits,IntKind.signed]
theorem wr_id {n : Int} (h1 : -9223372036854775808 ≤ n) (h2 : n ≤ 9223372036854775807) : wr n = n := by
  rw [wr_eq]; split <;> omega
theorem wr_mod (n : Int) : ∃ q : Int, wr n = n + 18446744073709551616 * q := by
  rw [wr_eq]
  have:=Int.emod_add_mul_ediv n 18446744073709551616
  split
  · exact ⟨-(n / 18446744073709551616) - 1,by omega⟩
  · exact ⟨-(n / 18446744073709551616),by omega⟩
theorem wr_congr {m n q : Int} (h : m = n + 18446744073709551616 * q) : wr m = wr n := by
  rw [wr_eq,wr_eq]
  have:m % 18446744073709551616=n % 18446744073709551616:=by rw [h]; exact Int.add_mul_emod_self_left ..
  rw [this]
theorem wr_l (a b : Int) : wr (wr a + b) = wr (a + b) := by
  obtain ⟨q,h⟩:=wr_mod a
  exact wr_congr (q:=q) (by omega)
theorem wr_r (a b : Int) : wr (a + wr b) = wr (a + b) := by
  obtain ⟨q,h⟩:=wr_mod b
  exact wr_congr (q:=q) (by omega)
theorem List.reverseRecOn' {α : Type} {motive : List α → Prop} (l : List α) (nil : motive []) (snoc : ∀ l x, motive l → motive (l ++ [x])) : motive l := by
  have : ∀ n, ∀ l : List α, l.length = n → motive l := by
    intro n
    induction n with
    | zero=>intro l h; rw [List.eq_nil_of_length_eq_zero h]; exact nil
    | succ n ih =>
      intro l h
      have hne:l≠[]:=by rintro rfl; simp at h
      rw [← List.dropLast_concat_getLast hne]
      exact snoc _ _ (ih _ (by simp; omega))
  exact this _ l rfl
namespace Agg
def rise (a b:Int):Int:=if b < a then b else wr (b - a)
def one (v:Int):Sum:=⟨1,v,v,v,v,v,0⟩
def join (a b : Sum) : Sum :=
  if a.count=0 then b else if b.count=0 then a else
  ⟨wr (a.count + b.count),wr (a.total + b.total),if b.min < a.min then b.min else a.min,if a.max < b.max then b.max else a.max,a.first,b.last,wr (wr (a.rise + rise a.last b.first) + b.rise)⟩
def of (l:List Sample):Sum:=l.foldl (fun s x=>join s (one x.value)) Sum.zero
def words:List ByteArray:=[⟨#[97,118,103]⟩,⟨#[99,111,117,110,116]⟩,⟨#[102,105,114,115,116]⟩,⟨#[108,97,115,116]⟩,⟨#[109,97,120]⟩,⟨#[109,105,110]⟩,⟨#[114,105,115,101]⟩,⟨#[115,117,109]⟩]
def value (word : ByteArray) (s : Sum) : Int × Bool :=
  if s.count < 1 then (0,false) else
  if word=⟨#[97,118,103]⟩ then (wr (Int.tdiv s.total s.count),true) else
  if word=⟨#[99,111,117,110,116]⟩ then (s.count,true) else
  if word=⟨#[102,105,114,115,116]⟩ then (s.first,true) else
  if word=⟨#[108,97,115,116]⟩ then (s.last,true) else
  if word=⟨#[109,97,120]⟩ then (s.max,true) else
  if word=⟨#[109,105,110]⟩ then (s.min,true) else
  if word=⟨#[114,105,115,101]⟩ then (s.rise,true) else
  if word=⟨#[115,117,109]⟩ then (s.total,true) else
  (0,false)
theorem join_none (a : Sum) : join a ⟨0,0,0,0,0,0, 0⟩ = if a.count = 0 then ⟨0,0,0,0,0,0, 0⟩ else a := by
  unfold join; split <;> simp
theorem none_join (a:Sum):join ⟨0,0,0,0,0,0,0⟩ a=a:=by simp [join]
theorem join_count {a b : Sum} (ha : 0 ≤ a.count) (hb : 0 ≤ b.count) (h : a.count + b.count ≤ 9223372036854775807) : (join a b).count = a.count + b.count := by
  unfold join
  split
  · omega
  · split
    · omega
    · exact wr_id (by omega) (by omega)
theorem min_assoc (a b c : Int) : (if (if c < b then c else b) < a then (if c < b then c else b) else a) = (if c < (if b < a then b else a) then c else (if b < a then b else a)) := by
  repeat' split
  all_goals omega
theorem max_assoc (a b c : Int) : (if a < (if b < c then c else b) then (if b < c then c else b) else a) = (if (if a < b then b else a) < c then c else (if a < b then b else a)) := by
  repeat' split
  all_goals omega
theorem join_assoc {a b c : Sum} (ha : 0 ≤ a.count) (hb : 0 ≤ b.count) (hc : 0 ≤ c.count) (h : a.count + b.count + c.count ≤ 9223372036854775807) : join a (join b c) = join (join a b) c := by
  by_cases a0:a.count=0
  · have h1:∀ x,join a x=x:=fun x=>by unfold join; rw [if_pos a0]
    rw [h1,h1]
  by_cases b0:b.count=0
  · have h1:join b c=c:=by unfold join; rw [if_pos b0]
    have h2:join a b=a:=by unfold join; rw [if_neg a0,if_pos b0]
    rw [h1,h2]
  by_cases c0:c.count=0
  · have h1:∀ x,x.count≠0→join x c=x:=fun x hx=>by unfold join; rw [if_neg hx,if_pos c0]
    rw [h1 b b0,h1 (join a b) (by rw [join_count ha hb (by omega)]; omega)]
  have e1 : join b c = ⟨wr (b.count + c.count), wr (b.total + c.total), if c.min < b.min then c.min else b.min, if b.max < c.max then c.max else b.max, b.first, c.last, wr (wr (b.rise + rise b.last c.first) + c.rise)⟩ := by
    unfold join; rw [if_neg b0,if_neg c0]
  have e2 : join a b = ⟨wr (a.count + b.count), wr (a.total + b.total), if b.min < a.min then b.min else a.min, if a.max < b.max then b.max else a.max, a.first, b.last, wr (wr (a.rise + rise a.last b.first) + b.rise)⟩ := by
    unfold join; rw [if_neg a0,if_neg b0]
  have n1:wr (b.count + c.count)≠0:=by rw [wr_id (by omega) (by omega)]; omega
  have n2:wr (a.count + b.count)≠0:=by rw [wr_id (by omega) (by omega)]; omega
  rw [e1,e2]
  unfold join
  rw [if_neg a0,if_neg n1,if_neg n2,if_neg c0]
  simp only [Sum.mk.injEq,wr_l,wr_r,min_assoc,max_assoc,true_and]
  refine ⟨by rw [Int.add_assoc],by rw [Int.add_assoc],?_⟩
  congr 1
  omega
theorem of_nil:of []=⟨0,0,0,0,0,0,0⟩:=rfl
theorem of_snoc (l:List Sample) (x:Sample):of (l++[x])=join (of l) (one x.value):=by simp [of]
theorem of_count : ∀ (l : List Sample), l.length ≤ 9223372036854775807 → (of l).count = l.length := by
  intro l
  induction l using List.reverseRecOn' with
  | nil=>intro _; rfl
  | snoc l x ih =>
    intro h
    have hl:(l++[x]).length=l.length + 1:=by simp
    rw [hl] at h
    have h1:=ih (by omega)
    rw [of_snoc,join_count (by omega) (by simp [one]) (by simp [one]; omega),h1,hl]
    simp [one]
theorem of_append (a b : List Sample) (h : a.length + b.length ≤ 9223372036854775807) : of (a ++ b) = join (of a) (of b) := by
  induction b using List.reverseRecOn' with
  | nil =>
    rw [List.append_nil,of_nil,join_none]
    split
    · have:=of_count a (by simpa using h)
      have:a=[]:=List.eq_nil_of_length_eq_zero (by omega)
      subst this; rfl
    · rfl
  | snoc b x ih =>
    have hl:(b++[x]).length=b.length + 1:=by simp
    rw [hl] at h
    have h1:=of_count a (by omega)
    have h2:=of_count b (by omega)
    rw [← List.append_assoc,of_snoc,of_snoc,ih (by omega),join_assoc (by omega) (by omega) (by simp [one]) (by simp [one]; omega)]
theorem of_one (x:Sample):of [x]=one x.value:=by simp [of,join,Sum.zero]
end Agg
namespace Codec
def badRange (s:Sample):Prop:=s.time < 0∨1000000 < s.time∨s.value < -1000000000∨1000000000 < s.value
instance (s:Sample):Decidable (badRange s):=by unfold badRange; infer_instance
def notAhead (prev : Option Sample) (s : Sample) : Bool := match prev with
  | some p=>decide (s.time≤p.time)
  | none=>false
def wrongFrom : Nat → Option Sample → List Sample → Fault
  | _,_,[]=>⟨0,0⟩
  | k,prev,s::r=>if badRange s then ⟨3,k⟩ else if notAhead prev s then ⟨2,k⟩ else wrongFrom (k + 1) (some s) r
def wrong (l:List Sample):Fault:=if 500 < l.length then ⟨5,0⟩ else wrongFrom 0 none l
end Codec
end
section
namespace Ex
@[reducible] def iV (n:Int):Value:=.int .i64 n
@[reducible] def Zs:Value:=.slice none 0 0
@[reducible] def Zx:List Value:=[.int .i64 0,.int .i64 0,.int .i64 0,.string ⟨#[]⟩,.slice none 0 0,.slice none 0 0,.slice none 0 0]
@[reducible] def Rb (T:TypeId) (p:Nat) (s:ByteArray) (i:Nat) (n:Int):Own:=.blk p [.string s,.int .i64 (i:Int),.int .i64 n] T
end Ex
end
section
open Tryz
open Ex
set_option linter.unusedVariables false
set_option linter.unusedSimpArgs false
theorem c_rise (a : Int) (b : Int) (w : World)   :
    Calls prog 110 #[iV a,iV b] w (Ret w (iV (Agg.rise a b))):=by
 refine fstart (N:=12) (vals:=[iV a,iV b]) (S:=Mem w no []) func110 rfl rfl rfl (Mem.ofDats dn) (zG fun _ hK1=>zP rfl (zD hK1 (zS fun _ hK2=>zG fun _ hK3=>zE rfl (zE rfl (zB (yR rfl rfl) (zD hK3 (zZ rfl (fun h1=>?_) (fun h1=>?_))))))))
 · refine zG fun _ hK4=>zE rfl (zP rfl (zD hK4 (zX (zK (zY (.inl rfl) results110 (zR rfl) fun w1 hM=>?_)))))
   exact zn (by simp [Agg.rise,h1]) hM
 refine yK hK2 (zG fun _ hK5=>zE rfl (zE rfl (zB (gL rfl rfl) (zP rfl (zD hK5 (zX (zY (.inl rfl) results110 (zR rfl) fun w1 hM=>?_)))))))
 exact zn (by simp [Agg.rise,h1]) hM
theorem gN (v : Int) (w : World)   :
    Calls prog 67 #[iV v] w (Ret w (.agg (sumE (Agg.one v)).toArray)):=by
 refine fstart (N:=9) (vals:=[iV v]) (S:=Mem w no []) func67 rfl rfl rfl (Mem.ofDats dn) (zG fun _ hK1=>yC wn inf89 rfl fun b2=>zD hK1 (zG fun _ hK2=>zE rfl (zE rfl (zE rfl (zE rfl (zE rfl (zB (zz [iV 1,iV v,iV v,iV v,iV v,iV v,iV 0] pl89 inf89 rfl rfl) (zr 0 wn rfl rfl rfl inf89 rfl rfl rfl ?_))))))))
 refine zD hK2 (zX (zY (.inl rfl) results67 (zt 0 rfl rfl agg89 inf89 rfl) fun w1 hM=>?_))
 exact vq rfl hM
theorem uW (a : Sum) (b : Sum) (w : World)   :
    Calls prog 66 #[.agg (sumE a).toArray,.agg (sumE b).toArray] w (Ret w (.agg (sumE (Agg.join a b)).toArray)):=by
 refine fstart (N:=51) (vals:=[.agg (sumE a).toArray,.agg (sumE b).toArray]) (S:=Mem w no []) func66 rfl rfl rfl (Mem.ofDats dn) (zG fun _ hK1=>vS wn rfl rfl fun b2=>vS wn rfl rfl fun b3=>yC wn inf89 rfl fun b4=>zD hK1 (zS fun _ hK2=>zk (zG fun _ hK3=>zB (za rfl fld89_0) (zB (zg 2 rfl rfl rfl flat3) (zB (yf rfl rfl) ?_)))))
 refine zP rfl (zD hK3 (zZ rfl (fun h1=>?_) (fun h1=>?_)))
 · refine zG fun _ hK4=>zB (yM 1 [iV b.count,iV b.total,iV b.min,iV b.max,iV b.first,iV b.last,iV b.rise] rfl rfl rfl rfl agg89 inf89) (zr 0 wn rfl rfl rfl inf89 rfl rfl rfl (zD hK4 (zX (yA (zK (zY (.inl rfl) results66 (zt 0 rfl rfl agg89 inf89 rfl) fun w1 hM=>?_))))))
   exact vq (l1:=[iV b.count,iV b.total,iV b.min,iV b.max,iV b.first,iV b.last,iV b.rise]) (by simp [Agg.join,sumE,h1]) hM
 refine zG fun _ hK5=>zB (za rfl fld89_0) (zB (zg 1 rfl rfl rfl flat3) (zB (yf rfl rfl) (zP rfl (zD hK5 (zZ rfl (fun h2=>?_) (fun h2=>?_))))))
 · refine zG fun _ hK6=>zB (yM 2 [iV a.count,iV a.total,iV a.min,iV a.max,iV a.first,iV a.last,iV a.rise] rfl rfl rfl rfl agg89 inf89) (zr 0 wn rfl rfl rfl inf89 rfl rfl rfl (zD hK6 (zX (yA (zK (zY (.inl rfl) results66 (zt 0 rfl rfl agg89 inf89 rfl) fun w1 hM=>?_))))))
   exact vq (l1:=[iV a.count,iV a.total,iV a.min,iV a.max,iV a.first,iV a.last,iV a.rise]) (by simp [Agg.join,sumE,h1,h2]) hM
 refine yU (zm (zy hK2 (zS fun _ hK7=>va 36 mix (by kernel_rfl) (fun _ h=>h.drew) fun _ hT1=>zq (za rfl fld89_0) (zq (zg 2 rfl rfl rfl flat3) (zq (za rfl fld89_0) (zq (zg 1 rfl rfl rfl flat3) (zq (jc rfl rfl) (zq (za rfl fld89_1) (zq (zg 2 rfl rfl rfl flat3) (zq (za rfl fld89_1) (zq (zg 1 rfl rfl rfl flat3) ?_)))))))))))
 refine zq (jc rfl rfl) (zq (za rfl fld89_2) (zq (zg 2 rfl rfl rfl flat3) (zq (za rfl fld89_2) (zq (zg 1 rfl rfl rfl flat3) (zq (jd rfl rfl) (zq (za rfl fld89_3) (zq (zg 2 rfl rfl rfl flat3) (zq (za rfl fld89_3) (zq (zg 1 rfl rfl rfl flat3) (zq (uj rfl rfl) (zq (za rfl fld89_4) ?_)))))))))))
 refine zq (zg 2 rfl rfl rfl flat3) (zq (za rfl fld89_5) (zq (zg 1 rfl rfl rfl flat3) (zq (za rfl fld89_6) (zq (zg 2 rfl rfl rfl flat3) (zq (za rfl fld89_5) (zq (zg 2 rfl rfl rfl flat3) (zq (za rfl fld89_4) (zq (zg 1 rfl rfl rfl flat3) (vP wn rfl call110 rfl (fun w1 hM=>c_rise a.last b.first w1) (zq (jc rfl rfl) (zq (za rfl fld89_6) ?_)))))))))))
 refine zq (zg 1 rfl rfl rfl flat3) (zq (jc rfl rfl) (zq (zz [iV (IntKind.wrap .i64 (a.count + b.count)),iV (IntKind.wrap .i64 (a.total + b.total)),iV (if b.min < a.min then b.min else a.min),iV (if a.max < b.max then b.max else a.max),iV a.first,iV b.last,iV (IntKind.wrap .i64 ((IntKind.wrap .i64 (a.rise + (Agg.rise a.last b.first))) + b.rise))] pl89 inf89 rfl rfl) (v8 hT1 (zr 0 wn rfl rfl rfl inf89 rfl rfl rfl (zD hK7 (zX (zY (.inl rfl) results66 (zt 0 rfl rfl agg89 inf89 rfl) fun w1 hM=>?_)))))))
 exact vq (l1:=[iV (IntKind.wrap .i64 (a.count + b.count)),iV (IntKind.wrap .i64 (a.total + b.total)),iV (if b.min < a.min then b.min else a.min),iV (if a.max < b.max then b.max else a.max),iV a.first,iV b.last,iV (IntKind.wrap .i64 ((IntKind.wrap .i64 (a.rise + (Agg.rise a.last b.first))) + b.rise))]) (by simp [Agg.join,sumE,h1,h2]) hM
theorem c_Words  (w : World)   :
    Calls prog 33 #[] w (RetL w 9 1 strE Agg.words):=by
 refine fstart (N:=2) (vals:=[]) (S:=Mem w no []) func33 rfl rfl rfl (Mem.ofDats dn) (zG fun _ hK1=>zP rfl (zD hK1 (zG fun _ hK2=>yw strE ([⟨#[97,118,103]⟩,⟨#[99,111,117,110,116]⟩,⟨#[102,105,114,115,116]⟩,⟨#[108,97,115,116]⟩,⟨#[109,97,120]⟩,⟨#[109,105,110]⟩,⟨#[114,105,115,101]⟩,⟨#[115,117,109]⟩]:List ByteArray) wn underlying56 inf9 rfl rfl rfl rfl (by decide) (by decide) rfl fun b1=>zP rfl (zD hK2 (zX (zY (.inl rfl) results33 (zR rfl) fun w1 hM=>?_))))))
 exact hM.uh 0 rfl rfl
theorem c_Value (word : ByteArray) (s : Sum) (w : World)   :
    Calls prog 35 #[.string word,.agg (sumE s).toArray] w (Ret w (.tuple #[iV (Agg.value word s).1,.bool (Agg.value word s).2])):=by
 refine fstart (N:=45) (vals:=[.string word,.agg (sumE s).toArray]) (S:=Mem w no []) func35 rfl rfl rfl (Mem.ofDats dn) (zG fun _ hK1=>vS wn rfl rfl fun b3=>zP rfl (zP rfl (zD hK1 (zS fun _ hK2=>zG fun _ hK3=>zB (za rfl fld89_0) (zB (zg 0 rfl rfl rfl flat3) (zB (yR rfl rfl) (zD hK3 ?_)))))))
 refine zZ rfl (fun h1=>?_) (fun h1=>?_)
 · refine zG fun _ hK4=>zP rfl (zP rfl (zD hK4 (zX (zK (yT (.inl rfl) results35 (zR rfl) (zR rfl) fun w1 hM=>?_)))))
   exact zn (by simp [Agg.value,h1]) hM
 refine yK hK2 (zS fun _ hK5=>zG fun _ hK6=>zE rfl (zD hK6 (zk (zG fun _ hK7=>zB (vf rfl rfl) (zP rfl (zD hK7 (zZ rfl (fun h2=>?_) (fun h2=>?_))))))))
 · refine zG fun _ hK8=>zB (za rfl fld89_1) (zB (zg 0 rfl rfl rfl flat3) (zB (za rfl fld89_0) (zB (zg 0 rfl rfl rfl flat3) (zB (r_quo rfl rfl (by omega)) (zP rfl (zP rfl (zD hK8 (zX (yA (zK (yT (.inl rfl) results35 (zR rfl) (zR rfl) fun w1 hM=>?_)))))))))))
   exact zn (by simp [Agg.value,h1,h2]) hM
 refine zG fun _ hK9=>zB (vf rfl rfl) (zP rfl (zD hK9 (zZ rfl (fun h3=>?_) (fun h3=>?_))))
 · refine zG fun _ hK10=>zB (za rfl fld89_0) (zB (zg 0 rfl rfl rfl flat3) (zP rfl (zP rfl (zD hK10 (zX (yA (zK (yT (.inl rfl) results35 (zR rfl) (zR rfl) fun w1 hM=>?_))))))))
   exact zn (by simp [Agg.value,h1,h2,h3]) hM
 refine zG fun _ hK11=>zB (vf rfl rfl) (zP rfl (zD hK11 (zZ rfl (fun h4=>?_) (fun h4=>?_))))
 · refine zG fun _ hK12=>zB (za rfl fld89_4) (zB (zg 0 rfl rfl rfl flat3) (zP rfl (zP rfl (zD hK12 (zX (yA (zK (yT (.inl rfl) results35 (zR rfl) (zR rfl) fun w1 hM=>?_))))))))
   exact zn (by simp [Agg.value,h1,h2,h3,h4]) hM
 refine zG fun _ hK13=>zB (vf rfl rfl) (zP rfl (zD hK13 (zZ rfl (fun h5=>?_) (fun h5=>?_))))
 · refine zG fun _ hK14=>zB (za rfl fld89_5) (zB (zg 0 rfl rfl rfl flat3) (zP rfl (zP rfl (zD hK14 (zX (yA (zK (yT (.inl rfl) results35 (zR rfl) (zR rfl) fun w1 hM=>?_))))))))
   exact zn (by simp [Agg.value,h1,h2,h3,h4,h5]) hM
 refine zG fun _ hK15=>zB (vf rfl rfl) (zP rfl (zD hK15 (zZ rfl (fun h6=>?_) (fun h6=>?_))))
 · refine zG fun _ hK16=>zB (za rfl fld89_3) (zB (zg 0 rfl rfl rfl flat3) (zP rfl (zP rfl (zD hK16 (zX (yA (zK (yT (.inl rfl) results35 (zR rfl) (zR rfl) fun w1 hM=>?_))))))))
   exact zn (by simp [Agg.value,h1,h2,h3,h4,h5,h6]) hM
 refine zG fun _ hK17=>zB (vf rfl rfl) (zP rfl (zD hK17 (zZ rfl (fun h7=>?_) (fun h7=>?_))))
 · refine zG fun _ hK18=>zB (za rfl fld89_2) (zB (zg 0 rfl rfl rfl flat3) (zP rfl (zP rfl (zD hK18 (zX (yA (zK (yT (.inl rfl) results35 (zR rfl) (zR rfl) fun w1 hM=>?_))))))))
   exact zn (by simp [Agg.value,h1,h2,h3,h4,h5,h6,h7]) hM
 refine zG fun _ hK19=>zB (vf rfl rfl) (zP rfl (zD hK19 (zZ rfl (fun h8=>?_) (fun h8=>?_))))
 · refine zG fun _ hK20=>zB (za rfl fld89_6) (zB (zg 0 rfl rfl rfl flat3) (zP rfl (zP rfl (zD hK20 (zX (yA (zK (yT (.inl rfl) results35 (zR rfl) (zR rfl) fun w1 hM=>?_))))))))
   exact zn (by simp [Agg.value,h1,h2,h3,h4,h5,h6,h7,h8]) hM
 refine zG fun _ hK21=>zB (vf rfl rfl) (zP rfl (zD hK21 (zZ rfl (fun h9=>?_) (fun h9=>?_))))
 · refine zG fun _ hK22=>zB (za rfl fld89_1) (zB (zg 0 rfl rfl rfl flat3) (zP rfl (zP rfl (zD hK22 (zX (yA (zK (yT (.inl rfl) results35 (zR rfl) (zR rfl) fun w1 hM=>?_))))))))
   exact zn (by simp [Agg.value,h1,h2,h3,h4,h5,h6,h7,h8,h9]) hM
 refine yU (zm (zy hK5 (zG fun _ hK23=>zP rfl (zP rfl (zD hK23 (zX (yT (.inl rfl) results35 (zR rfl) (zR rfl) fun w1 hM=>?_)))))))
 exact zn (by simp [Agg.value,h1,h2,h3,h4,h5,h6,h7,h8,h9]) hM
end
section
namespace Roll
def step (tier:Int):Int:=if tier=1 then 10 else if tier=2 then 60 else 0
def at' (t step:Int):Int:=wr (t - Int.tmod t step)
def add (l : List Bucket) (t step : Int) (s : Sum) : List Bucket := match l.getLast? with
  | some b=>if b.at_=at' t step then l.set (l.length - 1) ⟨b.at_,Agg.join b.sum s⟩ else l++[⟨at' t step,s⟩]
  | none=>l++[⟨at' t step,s⟩]
def ups (l:List Sample) (step:Int):List Bucket:=l.foldl (fun b s=>add b s.time step (Agg.one s.value)) []
def up (l:List Sample) (tier:Int):List Bucket:=if step tier=0 then [] else ups l (step tier)
def greater (l:List Bucket):List Bucket:=l.foldl (fun b x=>add b x.at_ 60 x.sum) []
def of (l:List Bucket) (frm to:Int):Sum:=l.foldl (fun s b=>if frm≤b.at_∧b.at_ < to then Agg.join s b.sum else s) Sum.zero
theorem ups_succ (l : List Sample) (st : Int) (k : Nat) (x : Sample) (h : l[k]? = some x) : ups (l.take (k + 1)) st = add (ups (l.take k) st) x.time st (Agg.one x.value) := by
  unfold ups; rw [List.take_add_one,h]; simp
theorem greater_succ (l : List Bucket) (k : Nat) (x : Bucket) (h : l[k]? = some x) : greater (l.take (k + 1)) = add (greater (l.take k)) x.at_ 60 x.sum := by
  unfold greater; rw [List.take_add_one,h]; simp
theorem of_succ (l : List Bucket) (f t : Int) (k : Nat) (x : Bucket) (h : l[k]? = some x) : of (l.take (k + 1)) f t = if f ≤ x.at_ ∧ x.at_ < t then Agg.join (of (l.take k) f t) x.sum else of (l.take k) f t := by
  unfold of; rw [List.take_add_one,h]; simp
theorem add_len (l : List Bucket) (t st : Int) (s : Sum) : (add l t st s).length ≤ l.length + 1 := by
  unfold add; split
  · split <;> simp
  · simp
theorem ups_len (l : List Sample) (st : Int) : (ups l st).length ≤ l.length := by
  induction l using List.reverseRecOn' with
  | nil=>simp [ups]
  | snoc l x ih =>
    have e:ups (l++[x]) st=add (ups l st) x.time st (Agg.one x.value):=by simp [ups]
    have:=add_len (ups l st) x.time st (Agg.one x.value)
    rw [e,List.length_append]; simp only [List.length_cons,List.length_nil]; omega
theorem greater_len (l : List Bucket) : (greater l).length ≤ l.length := by
  induction l using List.reverseRecOn' with
  | nil=>simp [greater]
  | snoc l x ih =>
    have e:greater (l++[x])=add (greater l) x.at_ 60 x.sum:=by simp [greater]
    have:=add_len (greater l) x.at_ 60 x.sum
    rw [e,List.length_append]; simp only [List.length_cons,List.length_nil]; omega
theorem up_len (l : List Sample) (t : Int) : (up l t).length ≤ l.length := by
  unfold up; split
  · simp
  · exact ups_len _ _
theorem add_last {l : List Bucket} {b : Bucket} {t st : Int} {s : Sum} (h : l[l.length - 1]? = some b) (he : b.at_ = at' t st) : l.set (l.length - 1) ⟨b.at_, Agg.join b.sum s⟩ = add l t st s := by
  unfold add; rw [List.getLast?_eq_getElem?,h]; simp [he]
theorem add_new {l : List Bucket} {b : Bucket} {t st : Int} {s : Sum} (h : l[l.length - 1]? = some b) (he : ¬ b.at_ = at' t st) : l ++ [⟨at' t st, s⟩] = add l t st s := by
  unfold add; rw [List.getLast?_eq_getElem?,h]; simp [he]
theorem add_nil {l : List Bucket} {t st : Int} {s : Sum} (h : ¬ 0 ≤ (l.length : Int) - 1) : l ++ [⟨at' t st, s⟩] = add l t st s := by
  have:l=[]:=List.eq_nil_of_length_eq_zero (by omega)
  subst this; rfl
end Roll
namespace Codec
def prevOf (l:List Sample) (k:Nat):Option Sample:=if k=0 then none else l[k - 1]?
theorem wrong_start (l:List Sample):wrongFrom 0 none l=wrongFrom 0 (prevOf l 0) (l.drop 0):=by simp [prevOf]
theorem wrong_step {l : List Sample} {k : Nat} {s : Sample} (h : l[k]? = some s) : wrongFrom k (prevOf l k) (l.drop k) = if badRange s then ⟨3, k⟩ else if notAhead (prevOf l k) s then ⟨2, k⟩ else wrongFrom (k + 1) (prevOf l (k + 1)) (l.drop (k + 1)) := by
  obtain ⟨hk,e⟩:=List.getElem?_eq_some_iff.1 h
  rw [List.drop_eq_getElem_cons hk,e]
  have:prevOf l (k + 1)=some s:=by unfold prevOf; rw [if_neg (by omega)]; simpa using h
  rw [this]; rfl
theorem wrong_end {l : List Sample} {k : Nat} {p : Option Sample} (h : l.length ≤ k) : wrongFrom k p (l.drop k) = ⟨0, 0⟩ := by
  rw [List.drop_of_length_le h]; rfl
end Codec
theorem same_step {α : Type} {a b : List α} {k : Nat} {x y : α} (h : a.take k = b.take k) (hx : a[k]? = some x) (hy : b[k]? = some y) (e : x = y) : a.take (k + 1) = b.take (k + 1) := by
  rw [List.take_add_one,List.take_add_one,hx,hy,h,e]
theorem same_done {α : Type} {a b : List α} {k : Nat} (ha : a.length ≤ k) (hb : b.length ≤ k) (h : a.take k = b.take k) : a = b := by
  rwa [List.take_of_length_le ha,List.take_of_length_le hb] at h
end
section
namespace zc
structure IsCmp {α : Type} (f : α → α → Int) : Prop where
  anti:∀ a b,f b a=-f a b
  zero:∀ a b,f a b=0↔a=b
  trans:∀ a b c,f a b < 0→f b c < 0→f a c < 0
theorem IsCmp.lex {α β : Type} {f : α → α → Int} {g : β → β → Int} (hf : IsCmp f) (hg : IsCmp g) : IsCmp (fun (a b : α × β) => if f a.1 b.1 ≠ 0 then f a.1 b.1 else g a.2 b.2) := by
  refine ⟨fun a b=>?_,fun a b=>?_,fun a b c h1 h2=>?_⟩
  · have h1:=hf.anti a.1 b.1
    have h2:=hg.anti a.2 b.2
    split <;> split <;> omega
  · have h1:=hf.zero a.1 b.1
    have h2:=hg.zero a.2 b.2
    constructor
    · intro h
      split at h
      · contradiction
      · rename_i h0
        exact Prod.ext (h1.1 (Classical.not_not.1 h0)) (h2.1 h)
    · rintro rfl
      rw [if_neg (by simp [h1.2 rfl]),h2.2 rfl]
  · by_cases e1:f a.1 b.1=0
    · have e1':=(hf.zero _ _).1 e1
      rw [if_neg (by simp [e1])] at h1
      rw [e1']
      by_cases e2:f b.1 c.1=0
      · rw [if_neg (by simp [e2])] at h2 ⊢
        exact hg.trans _ _ _ h1 h2
      · rw [if_pos e2] at h2 ⊢; exact h2
    · rw [if_pos e1] at h1
      by_cases e2:f b.1 c.1=0
      · rw [← (hf.zero _ _).1 e2,if_pos e1]; exact h1
      · rw [if_pos e2] at h2
        have h3:=hf.trans _ _ _ h1 h2
        rw [if_pos (by omega)]; exact h3
theorem bl_irrefl : ∀ a : List UInt8, Op.bytesLess a a = false
  | []=>rfl
  | x :: a => by
    have h1:¬ x < x:=fun k=>by have:=UInt8.lt_iff_toNat_lt.1 k; omega
    simp [Op.bytesLess,h1,bl_irrefl a]
theorem bl_trans : ∀ a b c : List UInt8, Op.bytesLess a b = true → Op.bytesLess b c = true → Op.bytesLess a c = true
  | [],_,[],_,h=>by cases ‹List UInt8› <;> simp [Op.bytesLess] at h
  | [],_,_::_,_,_=>by simp [Op.bytesLess]
  | _::_,[],_,h,_=>by simp [Op.bytesLess] at h
  | _::_,_::_,[],_,h=>by simp [Op.bytesLess] at h
  | x :: a, y :: b, z :: c, h1, h2 => by
    simp only [Op.bytesLess,Bool.or_eq_true,decide_eq_true_eq,Bool.and_eq_true,beq_iff_eq,UInt8.lt_iff_toNat_lt] at *
    rcases h1 with h1 | ⟨rfl,h1⟩
    · rcases h2 with h2 | ⟨rfl,h2⟩
      · left; omega
      · left; exact h1
    · rcases h2 with h2 | ⟨rfl,h2⟩
      · left; exact h2
      · right; exact ⟨rfl,bl_trans a b c h1 h2⟩
def cmpS (a b:ByteArray):Int:=if Ex.sless a b=true then -1 else if Ex.sless b a=true then 1 else 0
theorem cmpS_is : IsCmp cmpS := by
  have tot : ∀ a b : ByteArray, Ex.sless a b = false → Ex.sless b a = false → a = b := by
    intro a b h1 h2
    have:=Ex.sl_total a b
    have h1':Op.bytesLess a.toList b.toList=false:=h1
    rw [h2,h1'] at this
    simpa using this
  have asym : ∀ a b : ByteArray, Ex.sless a b = true → Ex.sless b a = true → False := by
    intro a b h1 h2
    have:=bl_trans _ _ _ h1 h2
    rw [bl_irrefl] at this; cases this
  have irr:∀ a:ByteArray,Ex.sless a a=false:=fun a=>bl_irrefl _
  refine ⟨fun a b=>?_,fun a b=>?_,fun a b c h1 h2=>?_⟩
  · unfold cmpS
    cases h1:Ex.sless a b <;> cases h2:Ex.sless b a <;> simp
    exact asym a b h1 h2
  · constructor
    · unfold cmpS
      cases h1:Ex.sless a b <;> cases h2:Ex.sless b a <;> simp
      exact tot a b h1 h2
    · rintro rfl
      unfold cmpS; simp [irr]
  · have f : ∀ a b, cmpS a b < 0 → Ex.sless a b = true := by
      intro a b
      unfold cmpS
      cases h1:Ex.sless a b <;> cases h2:Ex.sless b a <;> simp
    have:Ex.sless a c=true:=bl_trans _ _ _ (f _ _ h1) (f _ _ h2)
    unfold cmpS; simp [this]
def cmpL (x y:Label):Int:=if cmpS x.key y.key≠0 then cmpS x.key y.key else cmpS x.val y.val
theorem cmpL_is : IsCmp cmpL := by
  have h:=cmpS_is.lex cmpS_is
  exact ⟨fun a b=>h.anti (a.key,a.val) (b.key,b.val),fun a b=>(h.zero (a.key,a.val) (b.key,b.val)).trans ⟨fun e=>by cases a; cases b; simp at e; simp [e],fun e=>by rw [e]⟩,fun a b c=>h.trans (a.key,a.val) (b.key,b.val) (c.key,c.val)⟩
def orI : List Int → Int
  | []=>0
  | x::l=>if x≠0 then x else orI l
theorem orI_two (a b : Int) : orI [a, b] = if a ≠ 0 then a else b := by
  simp only [orI]; split
  · rfl
  · split <;> simp_all
theorem or_step {l : List Int} {k : Nat} {x : Int} (h : l[k]? = some x) : orI (l.drop k) = if x ≠ 0 then x else orI (l.drop (k + 1)) := by
  obtain ⟨h1,rfl⟩:=List.getElem?_eq_some_iff.1 h
  rw [List.drop_eq_getElem_cons h1,orI]
theorem or_end {l : List Int} {k : Nat} (h : l.length ≤ k) : orI (l.drop k) = 0 := by
  rw [List.drop_of_length_le h,orI]
def compare : List Label → List Label → Int
  | [],[]=>0
  | [],_::_=>-1
  | _::_,[]=>1
  | x::a,y::b=>if cmpL x y≠0 then cmpL x y else compare a b
theorem compare_is : IsCmp compare := by
  refine ⟨?_,?_,?_⟩
  · intro a
    induction a with
    | nil=>intro b; cases b <;> simp [compare]
    | cons x a ih =>
      intro b
      cases b with
      | nil=>simp [compare]
      | cons y b =>
        have h1:=cmpL_is.anti x y
        have h2:=ih b
        simp only [compare]
        split <;> split <;> omega
  · intro a
    induction a with
    | nil=>intro b; cases b <;> simp [compare]
    | cons x a ih =>
      intro b
      cases b with
      | nil=>simp [compare]
      | cons y b =>
        have h1:=cmpL_is.zero x y
        have h2:=ih b
        simp only [compare,List.cons.injEq]
        constructor
        · intro h
          split at h
          · contradiction
          · rename_i h0
            exact ⟨h1.1 (Classical.not_not.1 h0),h2.1 h⟩
        · rintro ⟨rfl,rfl⟩
          rw [if_neg (by simp [h1.2 rfl]),h2.2 rfl]
  · intro a
    induction a with
    | nil=>intro b c h1 h2; cases b <;> cases c <;> simp_all [compare]
    | cons x a ih =>
      intro b c h1 h2
      cases b with
      | nil=>simp [compare] at h1
      | cons y b =>
        cases c with
        | nil=>simp [compare] at h2
        | cons z c =>
          simp only [compare] at *
          by_cases e1:cmpL x y=0
          · obtain rfl:=(cmpL_is.zero _ _).1 e1
            rw [if_neg (by simp [e1])] at h1
            by_cases e2:cmpL x z=0
            · rw [if_neg (by simp [e2])] at h2 ⊢
              exact ih b c h1 h2
            · rw [if_pos e2] at h2 ⊢; exact h2
          · rw [if_pos e1] at h1
            by_cases e2:cmpL y z=0
            · obtain rfl:=(cmpL_is.zero _ _).1 e2
              rw [if_pos e1]; exact h1
            · rw [if_pos e2] at h2
              have h3:=cmpL_is.trans _ _ _ h1 h2
              rw [if_pos (by omega)]; exact h3
theorem compare_step {a b : List Label} {k : Nat} {x y : Label} (hx : a[k]? = some x) (hy : b[k]? = some y) : compare (a.drop k) (b.drop k) = if cmpL x y ≠ 0 then cmpL x y else compare (a.drop (k + 1)) (b.drop (k + 1)) := by
  obtain ⟨h1,rfl⟩:=List.getElem?_eq_some_iff.1 hx
  obtain ⟨h2,rfl⟩:=List.getElem?_eq_some_iff.1 hy
  rw [List.drop_eq_getElem_cons h1,List.drop_eq_getElem_cons h2,compare]
theorem compare_over {a b : List Label} {k : Nat} {x : Label} (hx : a[k]? = some x) (hb : b.length ≤ k) : compare (a.drop k) (b.drop k) = 1 := by
  obtain ⟨h1,rfl⟩:=List.getElem?_eq_some_iff.1 hx
  rw [List.drop_eq_getElem_cons h1,List.drop_of_length_le hb,compare]
theorem compare_end {a b : List Label} {k : Nat} (ha : a.length ≤ k) (hk : k ≤ a.length) : compare (a.drop k) (b.drop k) = if a.length < b.length then -1 else 0 := by
  rw [List.drop_of_length_le ha]
  split
  · rw [List.drop_eq_getElem_cons (by omega),compare]
  · rw [List.drop_of_length_le (by omega),compare]
def get : List Label → ByteArray → ByteArray × Bool
  | [],_=>(⟨#[]⟩,false)
  | x::r,key=>if x.key=key then (x.val,true) else get r key
theorem get_step {l : List Label} {k : Nat} {x : Label} {key : ByteArray} (hx : l[k]? = some x) : get (l.drop k) key = if x.key = key then (x.val, true) else get (l.drop (k + 1)) key := by
  obtain ⟨h1,rfl⟩:=List.getElem?_eq_some_iff.1 hx
  rw [List.drop_eq_getElem_cons h1,get]
theorem get_end {l : List Label} {k : Nat} {key : ByteArray} (h : l.length ≤ k) : get (l.drop k) key = (⟨#[]⟩, false) := by
  rw [List.drop_of_length_le h,get]
def match1 (s : List Label) (m : Match) : Bool :=
  if m.kind=1 then (get s m.key).2 && decide ((get s m.key).1=m.val)
  else if m.kind=2 then !(get s m.key).2 || decide ((get s m.key).1≠m.val)
  else if m.kind=3 then (get s m.key).2
  else if m.kind=4 then !(get s m.key).2
  else false
def vB (s:List Label) (l:List Match):Bool:=l.all (match1 s)
theorem matches_stop {s : List Label} {l : List Match} {k : Nat} {m : Match} (hm : l[k]? = some m) (h : match1 s m = false) : vB s l = false := by
  unfold vB
  rw [List.all_eq_false]
  exact ⟨m,List.mem_of_getElem? hm,by simp [h]⟩
theorem matches_step {s : List Label} {l : List Match} {k : Nat} {m : Match} (hm : l[k]? = some m) (h : match1 s m = true) (hl : ∀ x ∈ l.take k, match1 s x = true) : ∀ x ∈ l.take (k + 1), match1 s x = true := by
  rw [List.take_add_one,hm]
  intro x hx
  rcases List.mem_append.1 hx with h1 | h1
  · exact hl x h1
  · obtain rfl:x=m:=by simpa using h1
    exact h
theorem matches_done {s : List Label} {l : List Match} {k : Nat} (hk : l.length ≤ k) (hl : ∀ x ∈ l.take k, match1 s x = true) : vB s l = true := by
  rw [List.take_of_length_le hk] at hl
  exact List.all_eq_true.2 hl
def indexOf : List ByteArray → ByteArray → Nat → Int
  | [],_,_=>-1
  | x::l,v,i=>if v=x then i else indexOf l v (i + 1)
theorem index_step {l : List ByteArray} {k : Nat} {x v : ByteArray} (h : l[k]? = some x) : indexOf (l.drop k) v k = if v = x then (k : Int) else indexOf (l.drop (k + 1)) v (k + 1) := by
  obtain ⟨h1,rfl⟩:=List.getElem?_eq_some_iff.1 h
  rw [List.drop_eq_getElem_cons h1,indexOf]
theorem index_end {l : List ByteArray} {k : Nat} {v : ByteArray} (h : l.length ≤ k) : indexOf (l.drop k) v k = -1 := by
  rw [List.drop_of_length_le h,indexOf]
theorem index_mem : ∀ (l : List ByteArray) (v : ByteArray) (i : Nat), 0 ≤ indexOf l v i ↔ v ∈ l
  | [],v,i=>by simp [indexOf]
  | x :: l, v, i => by
    rw [indexOf]
    split
    · rename_i h; simp [h]
    · rename_i h; rw [index_mem l v (i + 1),List.mem_cons]; exact ⟨.inr,fun g=>g.resolve_left h⟩
def only (s:List Label) (by_:List ByteArray):List Label:=s.filter (fun l=>decide (0≤indexOf by_ l.key 0))
theorem only_succ {l : List Label} {by_ : List ByteArray} {k : Nat} {x : Label} (h : l[k]? = some x) : only (l.take (k + 1)) by_ = if 0 ≤ indexOf by_ x.key 0 then only (l.take k) by_ ++ [x] else only (l.take k) by_ := by
  unfold only
  rw [List.take_add_one,h,List.filter_append]
  split
  · rename_i hm; simp [hm]
  · rename_i hm; simp [hm]
theorem only_len (l:List Label) (by_:List ByteArray):(only l by_).length≤l.length:=List.length_filter_le ..
def pairs (x y:Label):List Pair2:=[⟨x.key,y.key⟩,⟨x.val,y.val⟩]
def fineB (i:Nat) (c:UInt8):Prop:=(97≤(c.toNat:Int)∧(c.toNat:Int)≤122)∨(i≠0∧((48≤(c.toNat:Int)∧(c.toNat:Int)≤57)∨(c.toNat:Int)=95))
instance (i:Nat) (c:UInt8):Decidable (fineB i c):=by unfold fineB; infer_instance
def namedL : Nat → List UInt8 → Bool
  | _,[]=>true
  | i,c::r=>decide (fineB i c) && namedL (i + 1) r
def named (s:ByteArray):Bool:=decide (1≤s.size) && decide (s.size≤12) && namedL 0 s.data.toList
theorem at_list {s : ByteArray} {k : Nat} {c : UInt8} (h : s[k]? = some c) : s.data.toList[k]? = some c := by
  by_cases hk:k < s.size
  · rw [getElem?_pos s k hk] at h
    rw [Array.getElem?_toList,← h]
    exact Array.getElem?_eq_getElem hk
  · rw [getElem?_neg s k hk] at h; cases h
theorem named_step {s : ByteArray} {k : Nat} {c : UInt8} (h : s[k]? = some c) : namedL k (s.data.toList.drop k) = (decide (fineB k c) && namedL (k + 1) (s.data.toList.drop (k + 1))) := by
  obtain ⟨h1,h2⟩:=List.getElem?_eq_some_iff.1 (at_list h)
  rw [List.drop_eq_getElem_cons h1,namedL,h2]
theorem named_end {s : ByteArray} {k : Nat} (h : s.size ≤ k) : namedL k (s.data.toList.drop k) = true := by
  rw [List.drop_of_length_le (by simpa using h),namedL]
def behind : Option Label → Label → Bool
  | some y,x=>!(Ex.sless y.key x.key)
  | none,_=>false
def wrongFrom : Option Label → List Label → Int
  | _,[]=>0
  | p,x::r=>if (!named x.key)=true∨(!named x.val)=true then 7 else if behind p x=true then 2 else wrongFrom (some x) r
def wrong (l:List Label):Int:=if 4 < l.length then 5 else wrongFrom none l
def prevOf (l:List Label) (k:Nat):Option Label:=if k=0 then none else l[k - 1]?
theorem wrong_start (l:List Label):wrongFrom none l=wrongFrom (prevOf l 0) (l.drop 0):=by simp [prevOf]
theorem wrong_step {l : List Label} {k : Nat} {x : Label} (h : l[k]? = some x) : wrongFrom (prevOf l k) (l.drop k) = if (!named x.key) = true ∨ (!named x.val) = true then 7 else if behind (prevOf l k) x = true then 2 else wrongFrom (prevOf l (k + 1)) (l.drop (k + 1)) := by
  obtain ⟨h1,h2⟩:=List.getElem?_eq_some_iff.1 h
  have:prevOf l (k + 1)=some x:=by unfold prevOf; rw [if_neg (by omega)]; simpa using h
  rw [List.drop_eq_getElem_cons h1,wrongFrom,h2,this]
theorem wrong_end {l : List Label} {k : Nat} {p : Option Label} (h : l.length ≤ k) : wrongFrom p (l.drop k) = 0 := by
  rw [List.drop_of_length_le h,wrongFrom]
end zc
end
section
open Tryz
open Ex
set_option linter.unusedVariables false
set_option linter.unusedSimpArgs false
theorem c_isNaN (a : ByteArray) (w : World)   :
    Calls prog 96 #[.string a] w (Ret w (.bool false)):=by
 refine fstart (N:=6) (vals:=[.string a]) (S:=Mem w no []) func96 rfl rfl rfl (Mem.ofDats dn) (zG fun _ hK1=>zP rfl (zD hK1 (zG fun _ hK2=>zE rfl (zE rfl (zB (u7 rfl rfl) (zP rfl (zD hK2 (zX (zY (.inl rfl) results96 (zR rfl) fun w1 hM=>?_)))))))))
 exact zn (by simp) hM
theorem c_cmpS (a : ByteArray) (b : ByteArray) (w : World)   :
    Calls prog 50 #[.string a,.string b] w (Ret w (iV (zc.cmpS a b))):=by
 refine fstart (N:=20) (vals:=[.string a,.string b]) (S:=Mem w no []) func50 rfl rfl rfl (Mem.ofDats dn) (zG fun _ hK1=>zP rfl (zD hK1 (zG fun _ hK2=>zE rfl (yF wn rfl call96 rfl (fun w1 hM=>c_isNaN a w1) (zP rfl (zD hK2 (zG fun _ hK3=>zE rfl (yF wn rfl call96 rfl (fun w1 hM=>c_isNaN b w1) ?_))))))))
 refine zP rfl (zD hK3 (zS fun _ hK4=>zG fun _ hK5=>zE rfl (zD hK5 (yr rfl rfl (yK hK4 (zS fun _ hK6=>zG fun _ hK7=>zE rfl (zD hK7 ?_)))))))
 refine yr rfl rfl (yK hK6 (zS fun _ hK8=>zG fun _ hK9=>zE rfl (zE rfl (zB (r_slss' rfl rfl) (zD hK9 (yp rfl (fun h1=>?_) (fun h1=>?_)))))))
 · refine zG fun _ hK10=>zP rfl (zD hK10 (zX (zK (zY (.inl rfl) results50 (zR rfl) fun w1 hM=>?_))))
   exact zn (by simp [zc.cmpS,h1]) hM
 refine yK hK8 (zS fun _ hK11=>zG fun _ hK12=>zE rfl (zE rfl (zB (r_sgtr' rfl rfl) (zD hK12 (yp rfl (fun h2=>?_) (fun h2=>?_))))))
 · refine zG fun _ hK13=>zP rfl (zD hK13 (zX (zK (zY (.inl rfl) results50 (zR rfl) fun w1 hM=>?_))))
   exact zn (by simp [zc.cmpS,h1,h2]) hM
 refine yK hK11 (zG fun _ hK14=>zP rfl (zD hK14 (zX (zY (.inl rfl) results50 (zR rfl) fun w1 hM=>?_))))
 exact zn (by simp [zc.cmpS,h1,h2]) hM
theorem c_or (lv : Value) (l : List Int) (w : World) (hl : zJ (In w) 1 intE lv l w)  :
    Calls prog 49 #[lv] w (Ret w (iV (zc.orI l))):=by
 obtain ⟨lA,lc,rfl,hlc,hlm,hlA⟩:=hl.form
 refine fstart (N:=18) (vals:=[.slice lA l.length lc]) (S:=Mem w no [slO (In w) 1 intE (.slice lA l.length lc) l]) func49 rfl rfl rfl (Mem.ofDats (dc (dl hl) dn)) (zG fun _ hK1=>zP rfl (zD hK1 (zG fun _ hK2=>zP rfl (zD hK2 (zS fun _ hK3=>zG fun _ hK4=>zE rfl (zB (yW rfl underlying37) (zE rfl ?_)))))))
 refine zD hK4 (zk (y8 (fun (k:Nat)=>[(3,iV 0),(6,.slice lA l.length lc),(7,iV l.length),(8,iV k)]) (fun (k:Nat)=>[slO (In w) 1 intE (.slice lA l.length lc) l]) (fun (k:Nat)=>k≤l.length∧zc.orI l=zc.orI (l.drop k)) (fun (k:Nat)=>l.length - k) 0 (sc rfl (sc rfl (sc rfl (sc (ji (by omega)) sn)))) (fun _ h=>h) ?_ (fun k hI1=>?_)))
 · simp
 refine zG fun _ hK5=>zB (yR rfl rfl) (zD hK5 (zS fun _ hK6=>zZ rfl (fun h1=>?_) (fun h1=>?_)))
 · refine yK hK6 (zS fun _ hK7=>zk (zG fun _ hK8=>?_))
   obtain ⟨ad1,hd1⟩:=hlA (ne_nil (i:=k) (by first | omega | (simp <;> omega)))
   refine zB (y6 (i:=k) rfl hd1 rfl (by omega) (by first | omega | (simp <;> omega)) underlying37 inf3) ?_
   obtain ⟨s1,hs1⟩:∃ x,l[k]?=some x:=⟨_,List.getElem?_eq_getElem (by first | omega | (simp <;> omega))⟩
   refine zB (gH 0 rfl rfl hd1 hs1 rfl flat3) (zP rfl (zD hK8 (zG fun _ hK9=>zE rfl (zE rfl (zB (vD rfl rfl) (zD hK9 (zZ rfl (fun h2=>?_) (fun h2=>?_))))))))
   · refine zG fun _ hK10=>zE rfl (zP rfl (zD hK10 (zX (yA (zK (ye (yA (zK (zY (.inl rfl) results49 (zR rfl) fun w1 hM=>?_)))))))))
     exact zn (by rw [hI1.2,zc.or_step hs1,if_pos h2]) hM
   refine yU (zm (zy hK7 (zL (zB (zw rfl rfl (by omega)) (zE rfl (zl (yX (k + 1) (sc rfl (sc rfl (sc rfl (sc (ji (by omega)) sn)))) (fun _ h=>h) ?_ ?_)))))))
   · exact ⟨by omega,by rw [hI1.2,zc.or_step hs1,if_neg (by simpa using h2)]⟩
   omega
 refine yZ (yH (yj (yI (zy hK3 (zG fun _ hK11=>zE rfl (zP rfl (zD hK11 (zX (zY (.inl rfl) results49 (zR rfl) fun w1 hM=>?_)))))))))
 exact zn (by rw [hI1.2,zc.or_end (by omega)]) hM
theorem c_cmpL (a : Label) (b : Label) (w : World)   :
    Calls prog 48 #[.agg (zj a).toArray,.agg (zj b).toArray] w (Ret w (iV (zc.cmpL a b))):=by
 refine fstart (N:=17) (vals:=[.agg (zj a).toArray,.agg (zj b).toArray]) (S:=Mem w no []) func48 rfl rfl rfl (Mem.ofDats dn) (zG fun _ hK1=>vS wn rfl rfl fun b2=>vS wn rfl rfl fun b3=>zP rfl (zD hK1 (zS fun _ hK2=>va 10 mix (by kernel_rfl) (fun _ h=>h.drew) fun _ hT1=>zq (za rfl fld74_0) (zq (zg 1 rfl rfl rfl flat9) (zq (za rfl fld74_0) (zq (zg 0 rfl rfl rfl flat9) ?_))))))
 refine vP wn rfl call50 rfl (fun w1 hM=>c_cmpS a.key b.key w1) (zq (za rfl fld74_1) (zq (zg 1 rfl rfl rfl flat9) (zq (za rfl fld74_1) (zq (zg 0 rfl rfl rfl flat9) (vP wn rfl call50 rfl (fun w1 hM=>c_cmpS a.val b.val w1) (v8 hT1 (yw intE ([(zc.cmpS a.key b.key),(zc.cmpS a.val b.val)]:List Int) wn underlying37 inf3 rfl rfl rfl rfl (by decide) (by decide) rfl fun b15=>yF wn rfl call49 rfl (fun w1 hM=>c_or _ ([(zc.cmpS a.key b.key),(zc.cmpS a.val b.val)]:List Int) w1 (RowSl encInt hM 0 rfl)) (zP rfl (zD hK2 (zX (zY (.inl rfl) results48 (zR rfl) fun w1 hM=>?_)))))))))))
 exact zn (by rw [zc.orI_two]; rfl) hM
theorem c_compareFunc (av : Value) (a : List Label) (bv : Value) (b : List Label) (w : World) (ha : zJ (In w) 2 zj av a w) (hb : zJ (In w) 2 zj bv b w)  :
    Calls prog 47 #[av,bv,.func (.func 48) #[] #[]] w (Ret w (iV (zc.compare a b))):=by
 obtain ⟨aA,ac,rfl,hac,ham,haA⟩:=ha.form
 obtain ⟨bA,bc,rfl,hbc,hbm,hbA⟩:=hb.form
 refine fstart (N:=39) (vals:=[.slice aA a.length ac,.slice bA b.length bc,.func (.func 48) #[] #[]]) (S:=Mem w no [slO (In w) 2 zj (.slice aA a.length ac) a,slO (In w) 2 zj (.slice bA b.length bc) b]) func47 rfl rfl rfl (Mem.ofDats (dc (dl ha) (dc (dl hb) dn))) (zG fun _ hK1=>zP rfl (zD hK1 (zS fun _ hK2=>zG fun _ hK3=>zE rfl (zB (yW rfl underlying39) (zE rfl (zD hK3 (zk (y8 (fun (k:Nat)=>[(0,.slice aA a.length ac),(1,.slice bA b.length bc),(2,.func (.func 48) #[] #[]),(11,.slice aA a.length ac),(12,iV a.length),(13,iV k)]) (fun (k:Nat)=>[slO (In w) 2 zj (.slice aA a.length ac) a,slO (In w) 2 zj (.slice bA b.length bc) b]) (fun (k:Nat)=>k≤a.length∧zc.compare a b=zc.compare (a.drop k) (b.drop k)) (fun (k:Nat)=>a.length - k) 0 (sc rfl (sc rfl (sc rfl (sc rfl (sc rfl (sc (ji (by omega)) sn)))))) (fun _ h=>h) ?_ (fun k hI1=>?_)))))))))
 · simp
 refine zG fun _ hK4=>zB (yR rfl rfl) (zD hK4 (zS fun _ hK5=>zZ rfl (fun h1=>?_) (fun h1=>?_)))
 · refine yK hK5 (zS fun _ hK6=>zk (zG fun _ hK7=>zE rfl ?_))
   obtain ⟨ad1,hd1⟩:=haA (ne_nil (i:=k) (by first | omega | (simp <;> omega)))
   refine zB (y6 (i:=k) rfl hd1 rfl (by omega) (by first | omega | (simp <;> omega)) underlying39 inf74) ?_
   obtain ⟨s1,hs1⟩:∃ x,a[k]?=some x:=⟨_,List.getElem?_eq_getElem (by first | omega | (simp <;> omega))⟩
   refine zB (vx 0 [.string s1.key,.string s1.val] rfl rfl hd1 hs1 rfl rfl agg74 inf74) (yC wn inf74 rfl fun b8=>zP rfl (zr 0 wn rfl rfl rfl inf74 rfl rfl rfl (zD hK7 (zS fun _ hK8=>zG fun _ hK9=>zE rfl (zE rfl (zB (yW rfl underlying39) (zB (vn rfl rfl) (zD hK9 ?_))))))))
   refine zZ rfl (fun h2=>?_) (fun h2=>?_)
   · refine zG fun _ hK10=>zP rfl (zD hK10 (zX (zK (yA (zK (ye (yA (zK (zY (.inl rfl) results47 (zR rfl) fun w1 hM=>?_)))))))))
     exact zn (by rw [hI1.2,zc.compare_over hs1 (by omega)]) hM
   refine yK hK8 (zG fun _ hK11=>zE rfl (zE rfl ?_))
   obtain ⟨ad2,hd2⟩:=hbA (ne_nil (i:=k) (by first | omega | (simp <;> omega)))
   refine zB (y6 (i:=k) rfl hd2 rfl (by omega) (by first | omega | (simp <;> omega)) underlying39 inf74) ?_
   obtain ⟨s2,hs2⟩:∃ x,b[k]?=some x:=⟨_,List.getElem?_eq_getElem (by first | omega | (simp <;> omega))⟩
   refine zB (vx 2 [.string s2.key,.string s2.val] rfl rfl hd2 hs2 rfl rfl agg74 inf74) (yC wn inf74 rfl fun b9=>zr 0 wn rfl rfl rfl inf74 rfl rfl rfl (zD hK11 (zG fun _ hK12=>zE rfl (zB (yM 1 [.string s1.key,.string s1.val] rfl rfl rfl rfl agg74 inf74) (zB (yM 0 [.string s2.key,.string s2.val] rfl rfl rfl rfl agg74 inf74) (jD wn rfl rfl call48 rfl (fun w1 hM=>c_cmpL s1 s2 w1) (zP rfl (zD hK12 (zG fun _ hK13=>?_)))))))))
   refine zE rfl (zB (vD rfl rfl) (zD hK13 (zZ rfl (fun h3=>?_) (fun h3=>?_))))
   · refine zG fun _ hK14=>zE rfl (zP rfl (zD hK14 (zX (yA (zK (ye (yA (zK (zY (.inl rfl) results47 (zR rfl) fun w1 hM=>?_)))))))))
     exact zn (by rw [hI1.2,zc.compare_step hs1 hs2,if_pos h3]) hM
   refine yU (zm (zy hK6 (zL (zB (zw rfl rfl (by omega)) (zE rfl (zl (yX (k + 1) (sc rfl (sc rfl (sc rfl (sc rfl (sc rfl (sc (ji (by omega)) sn)))))) (S9 [2,3]) ?_ ?_)))))))
   · exact ⟨by omega,by rw [hI1.2,zc.compare_step hs1 hs2,if_neg (by simpa using h3)]⟩
   omega
 refine yZ (yH (yj (yI (zy hK2 (zS fun _ hK15=>zG fun _ hK16=>zE rfl (zB (yW rfl underlying39) (zE rfl (zB (yW rfl underlying39) (zB (yR rfl rfl) (zD hK16 (zZ rfl (fun h4=>?_) (fun h4=>?_))))))))))))
 · refine zG fun _ hK17=>zP rfl (zD hK17 (zX (zK (zY (.inl rfl) results47 (zR rfl) fun w1 hM=>?_))))
   exact zn (by rw [hI1.2,zc.compare_end (by omega) (by omega),if_pos (by omega)]) hM
 refine yK hK15 (zG fun _ hK18=>zP rfl (zD hK18 (zX (zY (.inl rfl) results47 (zR rfl) fun w1 hM=>?_))))
 exact zn (by rw [hI1.2,zc.compare_end (by omega) (by omega),if_neg (by omega)]) hM
theorem c_compare (av : Value) (a : List Label) (bv : Value) (b : List Label) (w : World) (ha : zJ (In w) 2 zj av a w) (hb : zJ (In w) 2 zj bv b w)  :
    Calls prog 22 #[av,bv] w (Ret w (iV (zc.compare a b))):=by
 obtain ⟨aA,ac,rfl,hac,ham,haA⟩:=ha.form
 obtain ⟨bA,bc,rfl,hbc,hbm,hbA⟩:=hb.form
 refine fstart (N:=8) (vals:=[.slice aA a.length ac,.slice bA b.length bc]) (S:=Mem w no [slO (In w) 2 zj (.slice aA a.length ac) a,slO (In w) 2 zj (.slice bA b.length bc) b]) func22 rfl rfl rfl (Mem.ofDats (dc (dl ha) (dc (dl hb) dn))) (zG fun _ hK1=>zP rfl (zD hK1 (zG fun _ hK2=>zE rfl (zE rfl (yF wn rfl call47 rfl (fun w1 hM=>c_compareFunc _ a _ b w1 (hM.sl 0 rfl) (hM.sl 1 rfl)) (zP rfl (zD hK2 (zX (zY (.inl rfl) results22 (zR rfl) fun w1 hM=>?_)))))))))
 exact zn rfl hM
theorem c_get (lv : Value) (l : List Label) (key : ByteArray) (w : World) (hl : zJ (In w) 2 zj lv l w)  :
    Calls prog 104 #[lv,.string key] w (Ret w (.tuple #[.string (zc.get l key).1,.bool (zc.get l key).2])):=by
 obtain ⟨lA,lc,rfl,hlc,hlm,hlA⟩:=hl.form
 refine fstart (N:=21) (vals:=[.slice lA l.length lc,.string key]) (S:=Mem w no [slO (In w) 2 zj (.slice lA l.length lc) l]) func104 rfl rfl rfl (Mem.ofDats (dc (dl hl) dn)) (zG fun _ hK1=>zP rfl (zP rfl (zD hK1 (zS fun _ hK2=>zG fun _ hK3=>zE rfl (zB (yW rfl underlying39) (zE rfl (zD hK3 (zk ?_))))))))
 refine y8 (fun (k:Nat)=>[(1,.string key),(8,.slice lA l.length lc),(9,iV l.length),(10,iV k)]) (fun (k:Nat)=>[slO (In w) 2 zj (.slice lA l.length lc) l]) (fun (k:Nat)=>k≤l.length∧zc.get l key=zc.get (l.drop k) key) (fun (k:Nat)=>l.length - k) 0 (sc rfl (sc rfl (sc rfl (sc (ji (by omega)) sn)))) (fun _ h=>h) ?_ (fun k hI1=>?_)
 · simp
 refine zG fun _ hK4=>zB (yR rfl rfl) (zD hK4 (zS fun _ hK5=>zZ rfl (fun h1=>?_) (fun h1=>?_)))
 · refine yK hK5 (zS fun _ hK6=>zk (zG fun _ hK7=>?_))
   obtain ⟨ad1,hd1⟩:=hlA (ne_nil (i:=k) (by first | omega | (simp <;> omega)))
   refine zB (y6 (i:=k) rfl hd1 rfl (by omega) (by first | omega | (simp <;> omega)) underlying39 inf74) ?_
   obtain ⟨s1,hs1⟩:∃ x,l[k]?=some x:=⟨_,List.getElem?_eq_getElem (by first | omega | (simp <;> omega))⟩
   refine zB (vx 0 [.string s1.key,.string s1.val] rfl rfl hd1 hs1 rfl rfl agg74 inf74) (yC wn inf74 rfl fun b7=>zr 0 wn rfl rfl rfl inf74 rfl rfl rfl (zD hK7 (zG fun _ hK8=>zB (za rfl fld74_0) (zB (zg 0 rfl rfl rfl flat9) (zE rfl (zB (vf rfl rfl) (zD hK8 (zZ rfl (fun h2=>?_) (fun h2=>?_)))))))))
   · refine zG fun _ hK9=>zB (za rfl fld74_1) (zB (zg 0 rfl rfl rfl flat9) (zP rfl (zP rfl (zD hK9 (zX (yA (zK (ye (yA (zK (yT (.inl rfl) results104 (zR rfl) (zR rfl) fun w1 hM=>?_)))))))))))
     exact zn (by rw [hI1.2,zc.get_step hs1,if_pos h2]) hM
   refine yU (zm (zy hK6 (zL (zB (zw rfl rfl (by omega)) (zE rfl (zl (yX (k + 1) (sc rfl (sc rfl (sc rfl (sc (ji (by omega)) sn)))) (S9 [1]) ?_ ?_)))))))
   · exact ⟨by omega,by rw [hI1.2,zc.get_step hs1,if_neg h2]⟩
   omega
 refine yZ (yH (yj (yI (zy hK2 (zG fun _ hK10=>zP rfl (zP rfl (zD hK10 (zX (yT (.inl rfl) results104 (zR rfl) (zR rfl) fun w1 hM=>?_)))))))))
 exact zn (by rw [hI1.2,zc.get_end (by omega)]) hM
theorem c_matches (rv : Value) (r : List Label) (lv : Value) (l : List Match) (w : World) (hr : zJ (In w) 2 zj rv r w) (hl : zJ (In w) 3 yg lv l w)  :
    Calls prog 60 #[rv,lv] w (Ret w (.bool (zc.vB r l))):=by
 obtain ⟨rA,rc,rfl,hrc,hrm,hrA⟩:=hr.form
 obtain ⟨lA,lc,rfl,hlc,hlm,hlA⟩:=hl.form
 refine fstart (N:=54) (vals:=[.slice rA r.length rc,.slice lA l.length lc]) (S:=Mem w no [slO (In w) 2 zj (.slice rA r.length rc) r,slO (In w) 3 yg (.slice lA l.length lc) l]) func60 rfl rfl rfl (Mem.ofDats (dc (dl hr) (dc (dl hl) dn))) (zG fun _ hK1=>zP rfl (zD hK1 (zS fun _ hK2=>zG fun _ hK3=>zE rfl (zB (yW rfl underlying55) (zE rfl (zD hK3 (zk (y8 (fun (k:Nat)=>[(0,.slice rA r.length rc),(10,.slice lA l.length lc),(11,iV l.length),(12,iV k)]) (fun (k:Nat)=>[slO (In w) 2 zj (.slice rA r.length rc) r,slO (In w) 3 yg (.slice lA l.length lc) l]) (fun (k:Nat)=>k≤l.length∧∀ x ∈ l.take k,zc.match1 r x=true) (fun (k:Nat)=>l.length - k) 0 (sc rfl (sc rfl (sc rfl (sc (ji (by omega)) sn)))) (fun _ h=>h) ?_ (fun k hI1=>?_)))))))))
 · simp
 refine zG fun _ hK4=>zB (yR rfl rfl) (zD hK4 (zS fun _ hK5=>zZ rfl (fun h1=>?_) (fun h1=>?_)))
 · refine yK hK5 (zS fun _ hK6=>zk (zG fun _ hK7=>?_))
   obtain ⟨ad1,hd1⟩:=hlA (ne_nil (i:=k) (by first | omega | (simp <;> omega)))
   refine zB (y6 (i:=k) rfl hd1 rfl (by omega) (by first | omega | (simp <;> omega)) underlying55 inf179) ?_
   obtain ⟨s1,hs1⟩:∃ x,l[k]?=some x:=⟨_,List.getElem?_eq_getElem (by first | omega | (simp <;> omega))⟩
   refine zB (vx 1 [iV s1.kind,.string s1.key,.string s1.val] rfl rfl hd1 hs1 rfl rfl agg179 inf179) (yC wn inf179 rfl fun b6=>zr 0 wn rfl rfl rfl inf179 rfl rfl rfl (zD hK7 (zG fun _ hK8=>zE rfl (zB (za rfl fld179_1) (zB (zg 0 rfl rfl rfl flat9) (yF wn rfl call104 rfl (fun w1 hM=>c_get _ r s1.key w1 (hM.sl 1 rfl)) (zE rfl (zB (yG rfl rfl) (zB (yG rfl rfl) ?_)))))))))
   refine zP rfl (zP rfl (zD hK8 (zG fun _ hK9=>zP rfl (zD hK9 (zS fun _ hK10=>zG fun _ hK11=>zB (za rfl fld179_0) (zB (zg 0 rfl rfl rfl flat3) (zD hK11 (zk ?_))))))))
   refine zG fun _ hK12=>zB (yf rfl rfl) (zP rfl (zD hK12 (zZ rfl (fun h2=>?_) (fun h2=>?_))))
   · refine zL (zE rfl (zE rfl (uT (t:=28) rfl (fun h3=>?_) (fun h3=>?_))))
     · refine zb (zi rfl) (zb (za rfl fld179_2) (zb (zg 0 rfl rfl rfl flat9) (zb (vf rfl rfl) (zB (zM rfl rfl) (zP rfl (zl (zm (zy hK10 (zG fun _ hK13=>zE rfl (zB (jB rfl) (zD hK13 (zZ rfl (fun h4=>?_) (fun h4=>?_)))))))))))))
       · refine zG fun _ hK14=>zP rfl (zD hK14 (zX (yA (zK (ye (yA (zK (zY (.inl rfl) results60 (zR rfl) fun w1 hM=>?_))))))))
         exact zn (by rw [zc.matches_stop hs1 (by (try simp at h2); (try simp at h3); (try simp at h4); simp [zc.match1,h2,h3,h4])]) hM
       refine yU (zm (zy hK6 (zL (zB (zw rfl rfl (by omega)) (zE rfl (zl (yX (k + 1) (sc rfl (sc rfl (sc rfl (sc (ji (by omega)) sn)))) (S9 [1,2]) ?_ ?_)))))))
       · exact ⟨by omega,zc.matches_step hs1 (by (try simp at h2); (try simp at h3); (try simp at h4); simp [zc.match1,h2,h3,h4]) hI1.2⟩
       omega
     refine zQ (zQ (zQ (zQ (zB (zM rfl rfl) (zP rfl (zl (zm (zy hK10 (zG fun _ hK15=>zE rfl (zB (vC rfl) (zD hK15 (vM rfl rfl ?_))))))))))))
     refine zG fun _ hK16=>zP rfl (zD hK16 (zX (yA (zK (ye (yA (zK (zY (.inl rfl) results60 (zR rfl) fun w1 hM=>?_))))))))
     exact zn (by rw [zc.matches_stop hs1 (by (try simp at h2); (try simp at h3); simp [zc.match1,h2,h3])]) hM
   refine zG fun _ hK17=>zB (yf rfl rfl) (zP rfl (zD hK17 (zZ rfl (fun h5=>?_) (fun h5=>?_))))
   · refine zL (zE rfl (zB (vC rfl) (zE rfl (uT (t:=38) rfl (fun h6=>?_) (fun h6=>?_)))))
     · refine zQ (zQ (zQ (zQ (zB (zM rfl rfl) (zP rfl (zl (zm (zy hK10 (zG fun _ hK18=>zE rfl (zB (vC rfl) (zD hK18 (yr rfl rfl ?_))))))))))))
       refine yU (zm (zy hK6 (zL (zB (zw rfl rfl (by omega)) (zE rfl (zl (yX (k + 1) (sc rfl (sc rfl (sc rfl (sc (ji (by omega)) sn)))) (S9 [1,2]) ?_ ?_)))))))
       · exact ⟨by omega,zc.matches_step hs1 (by (try simp at h2); (try simp at h5); (try simp at h6); simp [zc.match1,h2,h5,h6]) hI1.2⟩
       omega
     refine zb (zi rfl) (zb (za rfl fld179_2) (zb (zg 0 rfl rfl rfl flat9) (zb (u7 rfl rfl) (zB (zM rfl rfl) (zP rfl (zl (zm (zy hK10 (zG fun _ hK19=>zE rfl (zB (jB rfl) (zD hK19 (zZ rfl (fun h7=>?_) (fun h7=>?_)))))))))))))
     · refine zG fun _ hK20=>zP rfl (zD hK20 (zX (yA (zK (ye (yA (zK (zY (.inl rfl) results60 (zR rfl) fun w1 hM=>?_))))))))
       exact zn (by rw [zc.matches_stop hs1 (by (try simp at h2); (try simp at h5); (try simp at h6); (try simp at h7); simp [zc.match1,h2,h5,h6,h7])]) hM
     refine yU (zm (zy hK6 (zL (zB (zw rfl rfl (by omega)) (zE rfl (zl (yX (k + 1) (sc rfl (sc rfl (sc rfl (sc (ji (by omega)) sn)))) (S9 [1,2]) ?_ ?_)))))))
     · exact ⟨by omega,zc.matches_step hs1 (by (try simp at h2); (try simp at h5); (try simp at h6); (try simp at h7); simp [zc.match1,h2,h5,h6,h7]) hI1.2⟩
     omega
   refine zG fun _ hK21=>zB (yf rfl rfl) (zP rfl (zD hK21 (zZ rfl (fun h8=>?_) (fun h8=>?_))))
   · refine zL (zE rfl (zP rfl (zl (zm (zy hK10 (zG fun _ hK22=>zE rfl (zB (vC rfl) (zD hK22 (yp rfl (fun h9=>?_) (fun h9=>?_))))))))))
     · refine zG fun _ hK23=>zP rfl (zD hK23 (zX (yA (zK (ye (yA (zK (zY (.inl rfl) results60 (zR rfl) fun w1 hM=>?_))))))))
       exact zn (by rw [zc.matches_stop hs1 (by (try simp at h2); (try simp at h5); (try simp at h8); (try simp at h9); simp [zc.match1,h2,h5,h8,h9])]) hM
     refine yU (zm (zy hK6 (zL (zB (zw rfl rfl (by omega)) (zE rfl (zl (yX (k + 1) (sc rfl (sc rfl (sc rfl (sc (ji (by omega)) sn)))) (S9 [1,2]) ?_ ?_)))))))
     · exact ⟨by omega,zc.matches_step hs1 (by (try simp at h2); (try simp at h5); (try simp at h8); (try simp at h9); simp [zc.match1,h2,h5,h8,h9]) hI1.2⟩
     omega
   refine zG fun _ hK24=>zB (yf rfl rfl) (zP rfl (zD hK24 (zZ rfl (fun h10=>?_) (fun h10=>?_))))
   · refine zL (zE rfl (zB (vC rfl) (zP rfl (zl (zm (zy hK10 (zG fun _ hK25=>zE rfl (zB (vC rfl) (zD hK25 (yp rfl (fun h11=>?_) (fun h11=>?_)))))))))))
     · refine zG fun _ hK26=>zP rfl (zD hK26 (zX (yA (zK (ye (yA (zK (zY (.inl rfl) results60 (zR rfl) fun w1 hM=>?_))))))))
       exact zn (by rw [zc.matches_stop hs1 (by (try simp at h2); (try simp at h5); (try simp at h8); (try simp at h10); (try simp at h11); simp [zc.match1,h2,h5,h8,h10,h11])]) hM
     refine yU (zm (zy hK6 (zL (zB (zw rfl rfl (by omega)) (zE rfl (zl (yX (k + 1) (sc rfl (sc rfl (sc rfl (sc (ji (by omega)) sn)))) (S9 [1,2]) ?_ ?_)))))))
     · exact ⟨by omega,zc.matches_step hs1 (by (try simp at h2); (try simp at h5); (try simp at h8); (try simp at h10); (try simp at h11); simp [zc.match1,h2,h5,h8,h10,h11]) hI1.2⟩
     omega
   refine yU (zm (zy hK10 (zG fun _ hK27=>zE rfl (zB (vC rfl) (zD hK27 (vM rfl rfl (zG fun _ hK28=>zP rfl (zD hK28 (zX (yA (zK (ye (yA (zK (zY (.inl rfl) results60 (zR rfl) fun w1 hM=>?_)))))))))))))))
   exact zn (by rw [zc.matches_stop hs1 (by (try simp at h2); (try simp at h5); (try simp at h8); (try simp at h10); simp [zc.match1,h2,h5,h8,h10])]) hM
 refine yZ (yH (yj (yI (zy hK2 (zG fun _ hK29=>zP rfl (zD hK29 (zX (zY (.inl rfl) results60 (zR rfl) fun w1 hM=>?_))))))))
 exact zn (by rw [zc.matches_done (by omega) hI1.2]) hM
theorem uu (s : ByteArray) (w : World)   :
    Calls prog 92 #[.string s] w (Ret w (.bool (zc.named s))):=by
 refine fstart (N:=44) (vals:=[.string s]) (S:=Mem w no []) func92 rfl rfl rfl (Mem.ofDats dn) (zG fun _ hK1=>zP rfl (zD hK1 (zS fun _ hK2=>vm [(0,.string s),(12,.bool (decide (((s.size:Int) < 1)∨(12 < (s.size:Int)))))] (Mem w no []) (fun _ hK3=>?_) ?_)))
 · refine zL (zE rfl (zB (uV rfl underlying9) (zB (yR rfl rfl) (zE rfl (yQ (t:=8) rfl (fun h1=>?_) (fun h1=>?_))))))
   · refine zQ (zQ (zQ (zB (zM rfl rfl) ?_)))
     refine zl (ym hK3 (sc rfl (sc (jt (Or.inl h1)) sn)) (fun _ h=>h))
   refine zb (zi rfl) (zb (uV rfl underlying9) (zb (vH rfl rfl) (zB (zM rfl rfl) ?_)))
   refine zl (ym hK3 (sc rfl (sc (jp (iff_or_right h1 Iff.rfl)) sn)) (fun _ h=>h))
 refine zZ rfl (fun h2=>?_) (fun h2=>?_)
 · refine zG fun _ hK4=>zP rfl (zD hK4 (zX (zK (zY (.inl rfl) results92 (zR rfl) fun w1 hM=>?_))))
   exact zn (by unfold zc.named; simp; omega) hM
 refine yK hK2 (zS fun _ hK5=>zG fun _ hK6=>zE rfl (zB (uV rfl underlying9) (zE rfl (zD hK6 (zk (y8 (fun (k:Nat)=>[(0,.string s),(14,iV s.size),(15,iV k)]) (fun (k:Nat)=>[]) (fun (k:Nat)=>k≤s.size∧zc.namedL 0 s.data.toList=zc.namedL k (s.data.toList.drop k)) (fun (k:Nat)=>s.size - k) 0 (sc rfl (sc rfl (sc (ji (by omega)) sn))) (fun _ h=>h) ?_ (fun k hI1=>?_)))))))
 · simp
 refine zG fun _ hK7=>zB (yR rfl rfl) (zD hK7 (zS fun _ hK8=>zZ rfl (fun h3=>?_) (fun h3=>?_)))
 · refine yK hK8 (zS fun _ hK9=>zk (zG fun _ hK10=>zE rfl (zP rfl (zD hK10 (zG fun _ hK11=>zE rfl (zE rfl ?_))))))
   obtain ⟨c1,hc1⟩:∃ x,s[k]?=some x:=⟨_,byte_at (by first | omega | (simp <;> omega))⟩
   refine zB (jI rfl rfl (by omega) hc1 underlying9) (zP rfl (zD hK11 (vm [(0,.string s),(14,iV s.size),(15,iV k),(42,.bool (decide ((((c1.toNat:Int) < 97)∧(((k:Int)=0)∨((((c1.toNat:Int) < 48)∧((c1.toNat:Int)≠95))∨(¬ ((c1.toNat:Int) < 48)∧((57 < (c1.toNat:Int))∧((c1.toNat:Int)≠95))))))∨(¬ ((c1.toNat:Int) < 97)∧((122 < (c1.toNat:Int))∧(((k:Int)=0)∨((((c1.toNat:Int) < 48)∧((c1.toNat:Int)≠95))∨(¬ ((c1.toNat:Int) < 48)∧((57 < (c1.toNat:Int))∧((c1.toNat:Int)≠95))))))))))] (Mem w no []) (fun _ hK12=>?_) ?_)))
   · refine zL (zE rfl (zB (yR rfl rfl) (zE rfl (yQ (t:=23) rfl (fun h4=>?_) (fun h4=>?_)))))
     · refine zQ (zQ (zB (zM rfl rfl) (zE rfl (zb (zi rfl) (zb (yf rfl rfl) (zb (zi rfl) (yQ (t:=30) rfl (fun h5=>?_) (fun h5=>?_))))))))
       · refine zQ (zQ (zQ (y7 (wu rfl rfl) rfl (y7 (wu rfl rfl) rfl (zQ (zQ (y7 (wu rfl rfl) rfl (y7 (wu rfl rfl) rfl (zQ (zb (zM rfl rfl) (zB (zM rfl rfl) ?_)))))))))))
         refine zl (ym hK12 (sc rfl (sc rfl (sc rfl (sc (jt (Or.inl ⟨h4,(Or.inl h5)⟩)) sn)))) (fun _ h=>h))
       refine zb (zi rfl) (zb (yR rfl rfl) (zb (zi rfl) (yQ (t:=33) rfl (fun h6=>?_) (fun h6=>?_))))
       · refine zQ (zQ (zb (zM rfl rfl) (zb (zi rfl) (zb (zi rfl) (zb (vD rfl rfl) (zb (zM rfl rfl) (zb (zM rfl rfl) (zB (zM rfl rfl) ?_))))))))
         refine zl (ym hK12 (sc rfl (sc rfl (sc rfl (sc (jp (iff_ite_l h4 (iff_or_right h5 (iff_ite_l h6 Iff.rfl)))) sn)))) (fun _ h=>h))
       refine zb (zi rfl) (zb (vH rfl rfl) (zb (zM rfl rfl) (zb (zi rfl) (yQ (t:=37) rfl (fun h7=>?_) (fun h7=>?_)))))
       · refine zb (zi rfl) (zb (vD rfl rfl) (zb (zM rfl rfl) (zb (zM rfl rfl) (zB (zM rfl rfl) ?_))))
         refine zl (ym hK12 (sc rfl (sc rfl (sc rfl (sc (jp (iff_ite_l h4 (iff_or_right h5 (iff_ite_r h6 (iff_and_right h7 Iff.rfl))))) sn)))) (fun _ h=>h))
       refine zQ (zQ (zb (zM rfl rfl) (zb (zM rfl rfl) (zB (zM rfl rfl) ?_))))
       refine zl (ym hK12 (sc rfl (sc rfl (sc rfl (sc (jf (fun g=>g.elim (fun k=>(fun g=>g.elim h5 (fun g=>g.elim (fun k=>h6 k.1) (fun k=>(fun g=>h7 g.1) k.2))) k.2) (fun k=>k.1 h4))) sn)))) (fun _ h=>h))
     refine zb (zi rfl) (zb (vH rfl rfl) (zB (zM rfl rfl) (zE rfl (yQ (t:=27) rfl (fun h8=>?_) (fun h8=>?_)))))
     · refine zb (zi rfl) (zb (yf rfl rfl) (zb (zi rfl) (yQ (t:=30) rfl (fun h9=>?_) (fun h9=>?_))))
       · refine zQ (zQ (zQ (y7 (wu rfl rfl) rfl (y7 (wu rfl rfl) rfl (zQ (zQ (y7 (wu rfl rfl) rfl (y7 (wu rfl rfl) rfl (zQ (zb (zM rfl rfl) (zB (zM rfl rfl) ?_)))))))))))
         refine zl (ym hK12 (sc rfl (sc rfl (sc rfl (sc (jt (Or.inr ⟨h4,⟨h8,(Or.inl h9)⟩⟩)) sn)))) (fun _ h=>h))
       refine zb (zi rfl) (zb (yR rfl rfl) (zb (zi rfl) (yQ (t:=33) rfl (fun h10=>?_) (fun h10=>?_))))
       · refine zQ (zQ (zb (zM rfl rfl) (zb (zi rfl) (zb (zi rfl) (zb (vD rfl rfl) (zb (zM rfl rfl) (zb (zM rfl rfl) (zB (zM rfl rfl) ?_))))))))
         refine zl (ym hK12 (sc rfl (sc rfl (sc rfl (sc (jp (iff_ite_r h4 (iff_and_right h8 (iff_or_right h9 (iff_ite_l h10 Iff.rfl))))) sn)))) (fun _ h=>h))
       refine zb (zi rfl) (zb (vH rfl rfl) (zb (zM rfl rfl) (zb (zi rfl) (yQ (t:=37) rfl (fun h11=>?_) (fun h11=>?_)))))
       · refine zb (zi rfl) (zb (vD rfl rfl) (zb (zM rfl rfl) (zb (zM rfl rfl) (zB (zM rfl rfl) ?_))))
         refine zl (ym hK12 (sc rfl (sc rfl (sc rfl (sc (jp (iff_ite_r h4 (iff_and_right h8 (iff_or_right h9 (iff_ite_r h10 (iff_and_right h11 Iff.rfl)))))) sn)))) (fun _ h=>h))
       refine zQ (zQ (zb (zM rfl rfl) (zb (zM rfl rfl) (zB (zM rfl rfl) ?_))))
       refine zl (ym hK12 (sc rfl (sc rfl (sc rfl (sc (jf (fun g=>g.elim (fun k=>h4 k.1) (fun k=>(fun g=>(fun g=>g.elim h9 (fun g=>g.elim (fun k=>h10 k.1) (fun k=>(fun g=>h11 g.1) k.2))) g.2) k.2))) sn)))) (fun _ h=>h))
     refine zQ (zQ (zQ (y7 (wu rfl rfl) rfl (y7 (wu rfl rfl) rfl (y7 (wu rfl rfl) rfl (y7 (wu rfl rfl) rfl (y7 (wu rfl rfl) rfl (y7 (wu rfl rfl) rfl (y7 (wu rfl rfl) rfl (y7 (wu rfl rfl) rfl (y7 (wu rfl rfl) rfl ?_)))))))))))
     refine y7 (wu rfl rfl) rfl (zQ (zB (zM rfl rfl) ?_))
     refine zl (ym hK12 (sc rfl (sc rfl (sc rfl (sc (jf (fun g=>g.elim (fun k=>h4 k.1) (fun k=>(fun g=>h8 g.1) k.2))) sn)))) (fun _ h=>h))
   refine zZ rfl (fun h12=>?_) (fun h12=>?_)
   · refine zG fun _ hK13=>zP rfl (zD hK13 (zX (yA (zK (ye (yA (zK (zY (.inl rfl) results92 (zR rfl) fun w1 hM=>?_))))))))
     exact zn (by unfold zc.named; rw [hI1.2,zc.named_step hc1,decide_eq_false (show ¬ zc.fineB k c1 from by unfold zc.fineB; omega)]; simp) hM
   refine yU (zm (zy hK9 (zL (zB (zw rfl rfl (by omega)) (zE rfl (zl (yX (k + 1) (sc rfl (sc rfl (sc (ji (by omega)) sn))) (fun _ h=>h) ?_ ?_)))))))
   · exact ⟨by omega,by rw [hI1.2,zc.named_step hc1,decide_eq_true (show zc.fineB k c1 from by unfold zc.fineB; omega),Bool.true_and]⟩
   omega
 refine yZ (yH (yj (yI (zy hK5 (zG fun _ hK14=>zP rfl (zD hK14 (zX (zY (.inl rfl) results92 (zR rfl) fun w1 hM=>?_))))))))
 exact zn (by unfold zc.named; rw [decide_eq_true (by omega),decide_eq_true (by omega),hI1.2,zc.named_end (by omega)]; rfl) hM
theorem c_namesWrong (lv : Value) (l : List Label) (w : World) (hl : zJ (In w) 2 zj lv l w)  :
    Calls prog 42 #[lv] w (Ret w (iV (zc.wrong l))):=by
 obtain ⟨lA,lc,rfl,hlc,hlm,hlA⟩:=hl.form
 refine fstart (N:=39) (vals:=[.slice lA l.length lc]) (S:=Mem w no [slO (In w) 2 zj (.slice lA l.length lc) l]) func42 rfl rfl rfl (Mem.ofDats (dc (dl hl) dn)) (zG fun _ hK1=>zP rfl (zD hK1 (zS fun _ hK2=>zG fun _ hK3=>zE rfl (zB (yW rfl underlying39) (zB (vH rfl rfl) (zD hK3 (zZ rfl (fun h1=>?_) (fun h1=>?_))))))))
 · refine zG fun _ hK4=>zP rfl (zD hK4 (zX (zK (zY (.inl rfl) results42 (zR rfl) fun w1 hM=>?_))))
   exact zn (by rw [zc.wrong,if_pos (by omega)]) hM
 refine yK hK2 (zS fun _ hK5=>zG fun _ hK6=>zE rfl (zB (yW rfl underlying39) (zE rfl (zD hK6 (zk (y8 (fun (k:Nat)=>[(0,.slice lA l.length lc),(8,.slice lA l.length lc),(9,iV l.length),(10,iV k)]) (fun (k:Nat)=>[slO (In w) 2 zj (.slice lA l.length lc) l]) (fun (k:Nat)=>k≤l.length∧zc.wrongFrom none l=zc.wrongFrom (zc.prevOf l k) (l.drop k)) (fun (k:Nat)=>l.length - k) 0 (sc rfl (sc rfl (sc rfl (sc (ji (by omega)) sn)))) (fun _ h=>h) ?_ (fun k hI1=>?_)))))))
 · exact ⟨by omega,zc.wrong_start l⟩
 refine zG fun _ hK7=>zB (yR rfl rfl) (zD hK7 (zS fun _ hK8=>zZ rfl (fun h2=>?_) (fun h2=>?_)))
 · refine yK hK8 (zS fun _ hK9=>zk (zG fun _ hK10=>zE rfl ?_))
   obtain ⟨ad1,hd1⟩:=hlA (ne_nil (i:=k) (by first | omega | (simp <;> omega)))
   refine zB (y6 (i:=k) rfl hd1 rfl (by omega) (by first | omega | (simp <;> omega)) underlying39 inf74) ?_
   obtain ⟨s1,hs1⟩:∃ x,l[k]?=some x:=⟨_,List.getElem?_eq_getElem (by first | omega | (simp <;> omega))⟩
   refine zB (vx 0 [.string s1.key,.string s1.val] rfl rfl hd1 hs1 rfl rfl agg74 inf74) (yC wn inf74 rfl fun b4=>zP rfl (zr 0 wn rfl rfl rfl inf74 rfl rfl rfl (zD hK10 (zS fun _ hK11=>vm [(0,.slice lA l.length lc),(3,iV k),(4,.pointer (some ⟨b4,0,none⟩)),(8,.slice lA l.length lc),(9,iV l.length),(10,iV k),(24,.bool (decide (((!(zc.named s1.key))=true)∨((!(zc.named s1.val))=true))))] (Mem w no [.blk b4 [.string s1.key,.string s1.val] 74,slO (In w) 2 zj (.slice lA l.length lc) l]) (fun _ hK12=>?_) ?_))))
   · refine zL (zB (za rfl fld74_0) (zB (zg 0 rfl rfl rfl flat9) (yF wn rfl call92 rfl (fun w1 hM=>uu s1.key w1) (zB (vC rfl) (zE rfl (uT (t:=19) rfl (fun h3=>?_) (fun h3=>?_)))))))
     · refine zQ (zQ (zQ (zQ (zB (zM rfl rfl) ?_))))
       refine zl (ym hK12 (sc rfl (sc rfl (sc rfl (sc rfl (sc rfl (sc rfl (sc (jt (Or.inl h3)) sn))))))) (fun _ h=>h))
     refine zb (za rfl fld74_1) (zb (zg 0 rfl rfl rfl flat9) (yF (wg rfl rfl rfl) rfl call92 rfl (fun w1 hM=>uu s1.val w1) (zb (vC rfl) (zB (zM rfl rfl) ?_))))
     refine zl (ym hK12 (sc rfl (sc rfl (sc rfl (sc rfl (sc rfl (sc rfl (sc (jpb (iff_or_right h3 Iff.rfl)) sn))))))) (fun _ h=>h))
   refine zZ rfl (fun h4=>?_) (fun h4=>?_)
   · refine zG fun _ hK13=>zP rfl (zD hK13 (zX (zK (yA (zK (ye (yA (zK (zY (.inl rfl) results42 (zR rfl) fun w1 hM=>?_)))))))))
     exact zn (by rw [zc.wrong,if_neg (by omega),hI1.2,zc.wrong_step hs1,if_pos h4]) hM
   refine yK hK11 (zS fun _ hK14=>vN mix (by kernel_rfl) (fun _ h=>h.drew) (yn rfl (zq (vH rfl rfl) (yn rfl (vh (t:=27) rfl (fun h5=>?_) (fun h5=>?_))))))
   · refine yL (zi rfl) (yL (zi rfl) (yL (vw rfl rfl (by omega)) (yL (y6 (i:=(k - 1)) rfl hd1 rfl (by omega) (by first | omega | (simp <;> omega)) underlying39 inf74) (yL (yy rfl fld74_0) ?_))))
     obtain ⟨s2,hs2⟩:∃ x,l[(k - 1)]?=some x:=⟨_,List.getElem?_eq_getElem (by first | omega | (simp <;> omega))⟩
     refine yL (gH 1 rfl rfl hd1 hs2 rfl flat9) (yL (za rfl fld74_0) (yL (zg 0 rfl rfl rfl flat9) (yL (r_sgeq' rfl rfl) (zq (zM rfl rfl) (vJ (zy hK14 (yp rfl (fun h6=>?_) (fun h6=>?_))))))))
     · refine zG fun _ hK15=>zP rfl (zD hK15 (zX (yA (zK (ye (yA (zK (zY (.inl rfl) results42 (zR rfl) fun w1 hM=>?_))))))))
       exact zn (by rw [zc.wrong,if_neg (by omega),hI1.2,zc.wrong_step hs1,if_neg h4,if_pos (by rw [zc.prevOf,if_neg (by omega),hs2]; simpa [zc.behind] using h6)]) hM
     refine yU (zm (zy hK9 (zL (zB (zw rfl rfl (by omega)) (zE rfl (zl (yX (k + 1) (sc rfl (sc rfl (sc rfl (sc (ji (by omega)) sn)))) (S9 [1]) ?_ ?_)))))))
     · exact ⟨by omega,by rw [hI1.2,zc.wrong_step hs1,if_neg h4,if_neg (by rw [zc.prevOf,if_neg (by omega),hs2]; simpa [zc.behind] using h6)]⟩
     omega
   refine yB (yB (yB (yB (yB (yB (yB (yB (yB (zq (zM rfl rfl) (vJ (zy hK14 (yr rfl rfl ?_))))))))))))
   refine yU (zm (zy hK9 (zL (zB (zw rfl rfl (by omega)) (zE rfl (zl (yX (k + 1) (sc rfl (sc rfl (sc rfl (sc (ji (by omega)) sn)))) (S9 [1]) ?_ ?_)))))))
   · exact ⟨by omega,by rw [hI1.2,zc.wrong_step hs1,if_neg h4,if_neg (by rw [zc.prevOf,if_pos (by omega)]; simp [zc.behind])]⟩
   omega
 refine yZ (yH (yj (yI (zy hK5 (zG fun _ hK16=>zP rfl (zD hK16 (zX (zY (.inl rfl) results42 (zR rfl) fun w1 hM=>?_))))))))
 exact zn (by rw [zc.wrong,if_neg (by omega),hI1.2,zc.wrong_end (by omega)]) hM
theorem c_index (lv : Value) (l : List ByteArray) (v : ByteArray) (w : World) (hl : zJ (In w) 1 strE lv l w)  :
    Calls prog 185 #[lv,.string v] w (Ret w (iV (zc.indexOf l v 0))):=by
 obtain ⟨lA,lc,rfl,hlc,hlm,hlA⟩:=hl.form
 refine fstart (N:=19) (vals:=[.slice lA l.length lc,.string v]) (S:=Mem w no [slO (In w) 1 strE (.slice lA l.length lc) l]) func185 rfl rfl rfl (Mem.ofDats (dc (dl hl) dn)) (zG fun _ hK1=>zP rfl (zD hK1 (zS fun _ hK2=>zG fun _ hK3=>zE rfl (zB (yW rfl underlying56) (zE rfl (zD hK3 (zk (y8 (fun (k:Nat)=>[(0,.slice lA l.length lc),(1,.string v),(7,iV l.length),(8,iV k)]) (fun (k:Nat)=>[slO (In w) 1 strE (.slice lA l.length lc) l]) (fun (k:Nat)=>k≤l.length∧zc.indexOf l v 0=zc.indexOf (l.drop k) v k) (fun (k:Nat)=>l.length - k) 0 (sc rfl (sc rfl (sc rfl (sc (ji (by omega)) sn)))) (fun _ h=>h) ?_ (fun k hI1=>?_)))))))))
 · simp
 refine zG fun _ hK4=>zB (yR rfl rfl) (zD hK4 (zS fun _ hK5=>zZ rfl (fun h1=>?_) (fun h1=>?_)))
 · refine yK hK5 (zS fun _ hK6=>zk (zG fun _ hK7=>zE rfl (zP rfl (zD hK7 (zG fun _ hK8=>zE rfl (zE rfl (zE rfl ?_)))))))
   obtain ⟨ad1,hd1⟩:=hlA (ne_nil (i:=k) (by first | omega | (simp <;> omega)))
   refine zB (y6 (i:=k) rfl hd1 rfl (by omega) (by first | omega | (simp <;> omega)) underlying56 inf9) ?_
   obtain ⟨s1,hs1⟩:∃ x,l[k]?=some x:=⟨_,List.getElem?_eq_getElem (by first | omega | (simp <;> omega))⟩
   refine zB (gH 0 rfl rfl hd1 hs1 rfl flat9) (zB (vf rfl rfl) (zD hK8 (zZ rfl (fun h2=>?_) (fun h2=>?_))))
   · refine zG fun _ hK9=>zE rfl (zP rfl (zD hK9 (zX (yA (zK (ye (yA (zK (zY (.inl rfl) results185 (zR rfl) fun w1 hM=>?_)))))))))
     exact zn (by rw [hI1.2,zc.index_step hs1,if_pos h2]) hM
   refine yU (zm (zy hK6 (zL (zB (zw rfl rfl (by omega)) (zE rfl (zl (yX (k + 1) (sc rfl (sc rfl (sc rfl (sc (ji (by omega)) sn)))) (fun _ h=>h) ?_ ?_)))))))
   · exact ⟨by omega,by rw [hI1.2,zc.index_step hs1,if_neg h2]⟩
   omega
 refine yZ (yH (yj (yI (zy hK2 (zG fun _ hK10=>zP rfl (zD hK10 (zX (zY (.inl rfl) results185 (zR rfl) fun w1 hM=>?_))))))))
 exact zn (by rw [hI1.2,zc.index_end (by omega)]) hM
theorem uQ (lv : Value) (l : List ByteArray) (v : ByteArray) (w : World) (hl : zJ (In w) 1 strE lv l w)  :
    Calls prog 150 #[lv,.string v] w (Ret w (.bool (decide (0≤zc.indexOf l v 0)))):=by
 obtain ⟨lA,lc,rfl,hlc,hlm,hlA⟩:=hl.form
 refine fstart (N:=9) (vals:=[.slice lA l.length lc,.string v]) (S:=Mem w no [slO (In w) 1 strE (.slice lA l.length lc) l]) func150 rfl rfl rfl (Mem.ofDats (dc (dl hl) dn)) (zG fun _ hK1=>zP rfl (zD hK1 (zG fun _ hK2=>zE rfl (zE rfl (yF wn rfl call185 rfl (fun w1 hM=>c_index _ l v w1 (hM.sl 0 rfl)) (zB (vn rfl rfl) (zP rfl (zD hK2 (zX (zY (.inl rfl) results150 (zR rfl) fun w1 hM=>?_))))))))))
 exact zn rfl hM
theorem c_only (lv : Value) (l : List Label) (by_v : Value) (by_ : List ByteArray) (w : World) (hl : zJ (In w) 2 zj lv l w) (hby_ : zJ (In w) 1 strE by_v by_ w) (hl1 : l.length ≤ 1048576) :
    Calls prog 188 #[lv,by_v] w (RetL w 74 2 zj (zc.only l by_)):=by
 obtain ⟨lA,lc,rfl,hlc,hlm,hlA⟩:=hl.form
 obtain ⟨by_A,by_c,rfl,hby_c,hby_m,hby_A⟩:=hby_.form
 refine fstart (N:=24) (vals:=[.slice lA l.length lc,.slice by_A by_.length by_c]) (S:=Mem w no [slO (In w) 2 zj (.slice lA l.length lc) l,slO (In w) 1 strE (.slice by_A by_.length by_c) by_]) func188 rfl rfl rfl (Mem.ofDats (dc (dl hl) (dc (dl hby_) dn))) (zG fun _ hK1=>vE (zj:Label→List Value) 74 2 (zP rfl (zD hK1 (zG fun _ hK2=>vE (zj:Label→List Value) 74 2 (zP rfl (zD hK2 (zS fun _ hK3=>zG fun _ hK4=>zE rfl ?_)))))))
 refine zB (yW rfl underlying39) (zE rfl (zD hK4 (zk (uS (fun (k:Nat) (vr:Value)=>[(1,.slice by_A by_.length by_c),(5,vr),(8,.slice lA l.length lc),(9,iV l.length),(10,iV k)]) (fun (k:Nat) (vr:Value)=>[Row vr 74 2 zj (zc.only (l.take k) by_),Row (Zs) 74 2 zj ([]:List Label),slO (In w) 2 zj (.slice lA l.length lc) l,slO (In w) 1 strE (.slice by_A by_.length by_c) by_]) (fun (k:Nat) (vr:Value)=>k≤l.length) (fun (k:Nat) (vr:Value)=>l.length - k) 0 (Zs) (sc rfl (sc rfl (sc rfl (sc rfl (sc (ji (by omega)) sn))))) (fun _ h=>h) ?_ (fun k vr hI1=>?_)))))
 · omega
 have hlen:=Nat.le_trans (zc.only_len (l.take k) by_) (List.length_take_le k l)
 refine vW 0 (l:=(zc.only (l.take k) by_)) rfl fun A1 cp1 hv1 hc1 hm1 hA1=>?_
 subst hv1
 refine zG fun _ hK5=>zB (yR rfl rfl) (zD hK5 (zS fun _ hK6=>zZ rfl (fun h1=>?_) (fun h1=>?_)))
 · refine yK hK6 (zS fun _ hK7=>zk (zG fun _ hK8=>?_))
   obtain ⟨ad1,hd1⟩:=hlA (ne_nil (i:=k) (by first | omega | (simp <;> omega)))
   refine zB (y6 (i:=k) rfl hd1 rfl (by omega) (by first | omega | (simp <;> omega)) underlying39 inf74) ?_
   obtain ⟨s1,hs1⟩:∃ x,l[k]?=some x:=⟨_,List.getElem?_eq_getElem (by first | omega | (simp <;> omega))⟩
   refine zB (vx 2 [.string s1.key,.string s1.val] rfl rfl hd1 hs1 rfl rfl agg74 inf74) (yC wn inf74 rfl fun b7=>zr 0 wn rfl rfl rfl inf74 rfl rfl rfl (zD hK8 (zG fun _ hK9=>zE rfl (zB (za rfl fld74_0) (zB (zg 0 rfl rfl rfl flat9) (yF wn rfl call150 rfl (fun w1 hM=>uQ _ by_ s1.key w1 (hM.sl 4 rfl)) (zD hK9 (zZ rfl (fun h2=>?_) (fun h2=>?_)))))))))
   · refine zL (zE rfl (zB (yM 0 [.string s1.key,.string s1.val] rfl rfl rfl rfl agg74 inf74) (yw zj ([s1]:List Label) wn underlying39 inf74 rfl rfl rfl rfl (by decide) (by decide) rfl fun b20=>vG 2 (zc.only (l.take k) by_) ([s1]:List Label) encLabel wn rfl rfl rfl (fun _ hM=>(RowSl encLabel hM 0 rfl)) underlying39 inf74 rfl rfl (by simp only [List.length_append,List.length_cons,List.length_nil]; omega) rfl fun A2 cp2 hc2 hm2 hA2=>zP rfl (zl (zm (zy hK7 (zL (zB (zw rfl rfl (by omega)) (zE rfl (zl (vb (k + 1) (.slice A2 (((zc.only (l.take k) by_)++([s1]:List Label)).length) cp2) (sc rfl (sc rfl (sc rfl (sc rfl (sc (ji (by omega)) sn))))) (fun _ h=>by rw [(zc.only_succ hs1).trans (if_pos h2)]; exact (h.sel [2,3,4,5] (by decide) rfl)) ?_ ?_)))))))))))
     · omega
     omega
   refine yU (zm (zy hK7 (zL (zB (zw rfl rfl (by omega)) (zE rfl (zl (vb (k + 1) (.slice A1 ((zc.only (l.take k) by_).length) cp1) (sc rfl (sc rfl (sc rfl (sc rfl (sc (ji (by omega)) sn))))) (fun _ h=>by rw [(zc.only_succ hs1).trans (if_neg h2)]; exact (h.sel [1,2,3,4] (by decide) rfl)) ?_ ?_)))))))
   · omega
   omega
 refine yZ (yH (uB (yI (zy hK3 (zG fun _ hK10=>zE rfl (zP rfl (zD hK10 (zX (zY (.inl rfl) results188 (zR rfl) fun w1 hM=>?_)))))))))
 exact hM.uh 0 rfl (by rw [List.take_of_length_le (by omega)])
end
section
namespace Agg
structure Fits (l : List Sample) (s : Sum) : Prop where
  count:s.count=l.length
  t1:-1000000000 * (l.length:Int)≤s.total
  t2:s.total≤1000000000 * (l.length:Int)
  f1:s.min≤s.first
  f2:s.first≤s.max
  l1:s.min≤s.last
  l2:s.last≤s.max
  m1:-1000000000≤s.min
  m2:s.max≤1000000000
  s1:s.min * s.count≤s.total
  s2:s.total≤s.max * s.count
theorem fits : ∀ (l : List Sample), l ≠ [] → l.length ≤ 1048576 → (∀ x ∈ l, -1000000000 ≤ x.value ∧ x.value ≤ 1000000000) → Fits l (of l) := by
  intro l
  induction l using List.reverseRecOn' with
  | nil=>intro h; exact absurd rfl h
  | snoc l x ih =>
    intro _ hl hb
    have hx:=hb x (by simp)
    have hlen:(l++[x]).length=l.length + 1:=by simp
    rw [hlen] at hl
    by_cases hne:l=[]
    · subst hne
      have:of ([]++[x])=one x.value:=by simp [of,join,Sum.zero]
      rw [this]
      constructor <;> simp [one] <;> omega
    · have h:=ih hne (by omega) (fun y hy=>hb y (by simp [hy]))
      have hc : (of l).count ≠ 0 := by
        rw [h.count]
        have:=List.length_pos_iff.2 hne
        omega
      have hpos:=List.length_pos_iff.2 hne
      have e : of (l ++ [x]) = ⟨wr ((of l).count + 1), wr ((of l).total + x.value), if x.value < (of l).min then x.value else (of l).min, if (of l).max < x.value then x.value else (of l).max, (of l).first, x.value, wr (wr ((of l).rise + rise (of l).last x.value) + 0)⟩ := by
        rw [of_snoc]; unfold join; rw [if_neg hc,if_neg (by simp [one])]; rfl
      have h1:=h.t1
      have h2:=h.t2
      have h3:=h.count
      have e1:wr ((of l).count + 1)=(l.length:Int) + 1:=by rw [wr_id (by omega) (by omega),h3]
      have e2:wr ((of l).total + x.value)=(of l).total + x.value:=wr_id (by omega) (by omega)
      rw [e,e1,e2]
      have h4:=h.f1; have h5:=h.f2; have h6:=h.m1; have h7:=h.m2; have h8:=h.s1; have h9:=h.s2
      rw [h3] at h8 h9
      have hmin:(if x.value < (of l).min then x.value else (of l).min)≤(of l).min∧(if x.value < (of l).min then x.value else (of l).min)≤x.value∧-1000000000≤(if x.value < (of l).min then x.value else (of l).min):=by split <;> omega
      have hmax:(of l).max≤(if (of l).max < x.value then x.value else (of l).max)∧x.value≤(if (of l).max < x.value then x.value else (of l).max)∧(if (of l).max < x.value then x.value else (of l).max)≤1000000000:=by split <;> omega
      generalize (if x.value < (of l).min then x.value else (of l).min)=mn at hmin ⊢
      generalize (if (of l).max < x.value then x.value else (of l).max)=mx at hmax ⊢
      have g1:mn * (l.length:Int)≤(of l).min * (l.length:Int):=Int.mul_le_mul_of_nonneg_right hmin.1 (by omega)
      have g2:(of l).max * (l.length:Int)≤mx * (l.length:Int):=Int.mul_le_mul_of_nonneg_right hmax.1 (by omega)
      have d1:mn * ((l.length:Int) + 1)=mn * (l.length:Int) + mn:=by rw [Int.mul_add,Int.mul_one]
      have d2:mx * ((l.length:Int) + 1)=mx * (l.length:Int) + mx:=by rw [Int.mul_add,Int.mul_one]
      constructor
      · simp
      · simp only [hlen]; omega
      · simp only [hlen]; omega
      all_goals dsimp only
      all_goals first | omega | (rw [d1]; omega) | (rw [d2]; omega)
theorem tdiv_between {t c a b : Int} (hc : 0 < c) (h1 : a * c ≤ t) (h2 : t ≤ b * c) : a ≤ Int.tdiv t c ∧ Int.tdiv t c ≤ b := by
  by_cases ht:0≤t
  · rw [Int.tdiv_eq_ediv_of_nonneg ht]
    exact ⟨Int.le_ediv_of_mul_le hc h1,Int.le_of_lt_add_one (Int.ediv_lt_of_lt_mul hc (by rw [Int.add_mul]; omega))⟩
  · have e : Int.tdiv t c = -((-t) / c) := by
      have:Int.tdiv (-t) c=(-t) / c:=Int.tdiv_eq_ediv_of_nonneg (by omega)
      rw [← this,Int.neg_tdiv]; omega
    rw [e]
    have g1:(-t) / c < -a + 1:=Int.ediv_lt_of_lt_mul hc (by rw [Int.add_mul,Int.neg_mul]; omega)
    have g2:-b≤(-t) / c:=Int.le_ediv_of_mul_le hc (by rw [Int.neg_mul]; omega)
    omega
end Agg
end
section
namespace Codec
structure Right (l : List Sample) : Prop where
  len:l.length≤500
  rng:∀ x ∈ l,0≤x.time∧x.time≤1000000∧-1000000000≤x.value∧x.value≤1000000000
  inc:l.Pairwise (fun x y=>x.time < y.time)
theorem from_right : ∀ (l : List Sample) (k : Nat) (p : Option Sample), (wrongFrom k p l).err = 0 →
    (∀ x ∈ l,¬ badRange x)∧l.Pairwise (fun x y=>x.time < y.time)∧(∀ q,p=some q→∀ x ∈ l,q.time < x.time)
  | [],_,_,_=>⟨by simp,by simp,by simp⟩
  | s :: r, k, p, h => by
    unfold wrongFrom at h
    split at h
    · simp at h
    · rename_i hb
      split at h
      · simp at h
      · rename_i hn
        obtain ⟨h1,h2,h3⟩:=from_right r (k + 1) (some s) h
        have h4:=h3 s rfl
        refine ⟨?_,List.pairwise_cons.2 ⟨h4,h2⟩,?_⟩
        · intro x hx
          rcases List.mem_cons.1 hx with rfl | hx
          · exact hb
          · exact h1 x hx
        · rintro q rfl x hx
          have h5:q.time < s.time:=by simpa [notAhead] using hn
          rcases List.mem_cons.1 hx with rfl | hx
          · exact h5
          · have:=h4 x hx; omega
theorem right_of {l : List Sample} (h : (wrong l).err = 0) : Right l := by
  unfold wrong at h
  split at h
  · simp at h
  · rename_i hl
    obtain ⟨h1,h2,_⟩:=from_right l 0 none h
    refine ⟨by omega,fun x hx=>?_,h2⟩
    have:=h1 x hx
    unfold badRange at this
    omega
end Codec
namespace Roll
def tot (b:List Bucket):Int:=(b.map (·.sum.count)).sum
theorem tot_append (a b:List Bucket):tot (a++b)=tot a + tot b:=by simp [tot,List.sum_append]
theorem tot_one (b:Bucket):tot [b]=b.sum.count:=by simp [tot]
theorem add_snoc (l : List Bucket) (b : Bucket) (t st : Int) (s : Sum) : add (l ++ [b]) t st s = if b.at_ = at' t st then l ++ [⟨b.at_, Agg.join b.sum s⟩] else l ++ [b] ++ [⟨at' t st, s⟩] := by
  unfold add
  simp only [List.getLast?_append,List.getLast?_singleton,Option.some_or]
  split
  · simp
  · rfl
theorem add_empty (t st:Int) (s:Sum):add [] t st s=[⟨at' t st,s⟩]:=rfl
theorem add_cases (l : List Bucket) (t st : Int) (s : Sum) : add l t st s = l ++ [⟨at' t st, s⟩] ∨ ∃ l0 b, l = l0 ++ [b] ∧ b.at_ = at' t st ∧ add l t st s = l0 ++ [⟨b.at_, Agg.join b.sum s⟩] := by
  rcases List.eq_nil_or_concat l with rfl | ⟨l0,b,rfl⟩
  · exact .inl rfl
  · rw [List.concat_eq_append,add_snoc]
    split
    · rename_i h; exact .inr ⟨l0,b,rfl,h,rfl⟩
    · exact .inl rfl
theorem ups_snoc (l:List Sample) (x:Sample) (st:Int):ups (l++[x]) st=add (ups l st) x.time st (Agg.one x.value):=by simp [ups]
theorem greater_snoc (l:List Bucket) (x:Bucket):greater (l++[x])=add (greater l) x.at_ 60 x.sum:=by simp [greater]
structure Counts (b : List Bucket) (n : Int) : Prop where
  pos:∀ x ∈ b,1≤x.sum.count
  all:tot b=n
theorem Counts.le {b : List Bucket} {n : Int} (h : Counts b n) : ∀ x ∈ b, x.sum.count ≤ n := by
  obtain ⟨h1,rfl⟩:=h
  induction b with
  | nil=>simp
  | cons a r ih =>
    have ht:tot (a::r)=a.sum.count + tot r:=by simp [tot]
    have hp : 0 ≤ tot r := by
      have : ∀ (r : List Bucket), (∀ x ∈ r, 1 ≤ x.sum.count) → 0 ≤ tot r := by
        intro r
        induction r with
        | nil=>intro _; simp [tot]
        | cons c r ih=>intro h; have:=ih (fun x hx=>h x (by simp [hx])); have:=h c (by simp); simp only [tot,List.map_cons,List.sum_cons] at *; omega
      exact this r fun x hx=>h1 x (by simp [hx])
    have ha:=h1 a (by simp)
    intro x hx
    rcases List.mem_cons.1 hx with rfl | hx
    · omega
    · have:=ih (fun x hx=>h1 x (by simp [hx])) x hx; omega
theorem Counts.nonneg {b : List Bucket} {n : Int} (h : Counts b n) : 0 ≤ n := by
  by_cases hb:b=[]
  · subst hb; obtain ⟨_,rfl⟩:=h; simp [tot]
  · obtain ⟨x,hx⟩:=List.exists_mem_of_ne_nil b hb
    have:=h.pos x hx; have:=h.le x hx; omega
theorem Counts.add {b : List Bucket} {n : Int} {t st : Int} {s : Sum} (h : Counts b n) (hs : 1 ≤ s.count) (hn : n + s.count ≤ 1000000000) : Counts (Roll.add b t st s) (n + s.count) := by
  rcases add_cases b t st s with e | ⟨l0,c,rfl,he,e⟩
  · rw [e]
    refine ⟨fun x hx=>?_,by rw [tot_append,tot_one,h.all]⟩
    rcases List.mem_append.1 hx with hx | hx
    · exact h.pos x hx
    · simp only [List.mem_singleton] at hx; subst hx; exact hs
  · have hc:=h.pos c (by simp)
    have hcl:=h.le c (by simp)
    have hnn:=h.nonneg
    have hj:(Agg.join c.sum s).count=c.sum.count + s.count:=Agg.join_count (by omega) (by omega) (by omega)
    rw [e]
    refine ⟨fun x hx=>?_,?_⟩
    · rcases List.mem_append.1 hx with hx | hx
      · exact h.pos x (by simp [hx])
      · simp only [List.mem_singleton] at hx; subst hx; show 1≤(Agg.join c.sum s).count; omega
    · have:=h.all
      rw [tot_append,tot_one] at *
      show tot l0 + (Agg.join c.sum s).count=_
      omega
theorem ups_counts (l : List Sample) (st : Int) (h : l.length ≤ 1048576) : Counts (ups l st) l.length := by
  induction l using List.reverseRecOn' with
  | nil=>exact ⟨by simp [ups],by simp [ups,tot]⟩
  | snoc l x ih =>
    have hl:(l++[x]).length=l.length + 1:=by simp
    rw [hl] at h ⊢
    rw [ups_snoc]
    exact Counts.add (ih (by omega)) (by simp [Agg.one]) (by simp [Agg.one]; omega)
theorem at_eq {t st : Int} (h0 : 0 ≤ t) (h1 : t ≤ 1000000) (hs : 0 < st) : at' t st = t - t % st := by
  unfold at'
  rw [Int.tmod_eq_emod_of_nonneg h0]
  have:=Int.emod_nonneg t (by omega:st≠0)
  have:=Int.emod_add_mul_ediv t st
  have:0≤st * (t / st):=Int.mul_nonneg (by omega) (Int.ediv_nonneg h0 (by omega))
  exact wr_id (by omega) (by omega)
theorem at_range {t st : Int} (h0 : 0 ≤ t) (h1 : t ≤ 1000000) (hs : 0 < st) : 0 ≤ at' t st ∧ at' t st ≤ t ∧ t < at' t st + st ∧ at' t st % st = 0 := by
  rw [at_eq h0 h1 hs]
  have:=Int.emod_nonneg t (by omega:st≠0)
  have:=Int.emod_lt_of_pos t hs
  have e:=Int.emod_add_mul_ediv t st
  have:0≤st * (t / st):=Int.mul_nonneg (by omega) (Int.ediv_nonneg h0 (by omega))
  refine ⟨by omega,by omega,by omega,?_⟩
  rw [show t - t % st=st * (t / st) by omega]
  exact Int.mul_emod_right _ _
theorem at_at {t : Int} (h0 : 0 ≤ t) (h1 : t ≤ 1000000) : at' (at' t 10) 60 = at' t 60 := by
  have h:=at_range h0 h1 (by decide:(0:Int) < 10)
  rw [at_eq h.1 (by omega) (by decide),at_eq h0 h1 (by decide),at_eq h0 h1 (by decide)]
  omega
theorem add_time {l:List Bucket} {t t' st:Int} {s:Sum} (h:at' t st=at' t' st):add l t st s=add l t' st s:=by unfold add; rw [h]
theorem add_add {l : List Bucket} {n t t' st : Int} {a b : Sum} (hc : Counts l n) (hn : n + a.count + b.count ≤ 1000000000) (ha : 1 ≤ a.count) (hb : 1 ≤ b.count) (h : at' t st = at' t' st) : add (add l t st a) t' st b = add l t st (Agg.join a b) := by
  have hnn:=hc.nonneg
  rcases List.eq_nil_or_concat l with rfl | ⟨l0,c,rfl⟩
  · rw [add_empty,add_empty]
    have:=add_snoc [] ⟨at' t st,a⟩ t' st b
    rw [if_pos h] at this
    exact this
  · rw [List.concat_eq_append] at *
    have h1:=hc.pos c (by simp)
    have h2:=hc.le c (by simp)
    rw [add_snoc,add_snoc]
    by_cases e:c.at_=at' t st
    · rw [if_pos e,if_pos e,add_snoc,if_pos (by rw [← h]; exact e)]
      rw [Agg.join_assoc (by omega) (by omega) (by omega) (by omega)]
    · rw [if_neg e,if_neg e,add_snoc,if_pos h]
theorem Counts.init {l : List Bucket} {b : Bucket} {n : Int} (h : Counts (l ++ [b]) n) : Counts l (n - b.sum.count) :=
  ⟨fun x hx=>h.pos x (by simp [hx]),by have:=h.all; rw [tot_append,tot_one] at this; omega⟩
theorem greater_counts {b : List Bucket} {n : Int} (h : Counts b n) (hn : n ≤ 1000000) : Counts (greater b) n := by
  induction b using List.reverseRecOn' generalizing n with
  | nil=>obtain ⟨_,rfl⟩:=h; exact ⟨by simp [greater],by simp [greater,tot]⟩
  | snoc b x ih =>
    have h1:=h.init
    have h2:=h.pos x (by simp)
    rw [greater_snoc]
    have:=Counts.add (t:=x.at_) (st:=60) (ih h1 (by omega)) h2 (by omega)
    rwa [show n - x.sum.count + x.sum.count=n by omega] at this
end Roll
end
section
open Tryz
open Ex
set_option linter.unusedVariables false
set_option linter.unusedSimpArgs false
theorem ue (lv : Value) (l : List Sample) (w : World) (hl : zJ (In w) 2 zo lv l w)  :
    Calls prog 43 #[lv] w (Ret w (.agg (faultE (Codec.wrong l)).toArray)):=by
 obtain ⟨lA,lc,rfl,hlc,hlm,hlA⟩:=hl.form
 refine fstart (N:=53) (vals:=[.slice lA l.length lc]) (S:=Mem w no [slO (In w) 2 zo (.slice lA l.length lc) l]) func43 rfl rfl rfl (Mem.ofDats (dc (dl hl) dn)) (zG fun _ hK1=>yC wn inf61 rfl fun b2=>zD hK1 (zS fun _ hK2=>zG fun _ hK3=>zE rfl (zB (yW rfl underlying47) (zB (vH rfl rfl) (zD hK3 (zZ rfl (fun h1=>?_) (fun h1=>?_)))))))
 · refine zG fun _ hK4=>zB (zz [iV 5,iV 0] pl61 inf61 rfl rfl) (zr 0 wn rfl rfl rfl inf61 rfl rfl rfl (zD hK4 (zX (zK (zY (.inl rfl) results43 (zt 0 rfl rfl agg61 inf61 rfl) fun w1 hM=>?_)))))
   exact vq (l1:=[iV 5,iV 0]) (by rw [Codec.wrong,if_pos (by omega)]) hM
 refine yK hK2 (zS fun _ hK5=>zG fun _ hK6=>zE rfl (zB (yW rfl underlying47) (zE rfl (zD hK6 (zk (y8 (fun (k:Nat)=>[(0,.slice lA l.length lc),(2,.pointer (some ⟨b2,0,none⟩)),(9,.slice lA l.length lc),(10,iV l.length),(11,iV k)]) (fun (k:Nat)=>[.blk b2 [iV 0,iV 0] 61,slO (In w) 2 zo (.slice lA l.length lc) l]) (fun (k:Nat)=>k≤l.length∧Codec.wrongFrom 0 none l=Codec.wrongFrom k (Codec.prevOf l k) (l.drop k)) (fun (k:Nat)=>l.length - k) 0 (sc rfl (sc rfl (sc rfl (sc rfl (sc (ji (by omega)) sn))))) (fun _ h=>h) ?_ (fun k hI1=>?_)))))))
 · exact ⟨by omega,Codec.wrong_start l⟩
 refine zG fun _ hK7=>zB (yR rfl rfl) (zD hK7 (zS fun _ hK8=>zZ rfl (fun h2=>?_) (fun h2=>?_)))
 · refine yK hK8 (zS fun _ hK9=>zk (zG fun _ hK10=>zE rfl ?_))
   obtain ⟨ad1,hd1⟩:=hlA (ne_nil (i:=k) (by first | omega | (simp <;> omega)))
   refine zB (y6 (i:=k) rfl hd1 rfl (by omega) (by first | omega | (simp <;> omega)) underlying47 inf41) ?_
   obtain ⟨s1,hs1⟩:∃ x,l[k]?=some x:=⟨_,List.getElem?_eq_getElem (by first | omega | (simp <;> omega))⟩
   refine zB (vx 1 [iV s1.time,iV s1.value] rfl rfl hd1 hs1 rfl rfl agg41 inf41) (yC wn inf41 rfl fun b4=>zP rfl (zr 0 wn rfl rfl rfl inf41 rfl rfl rfl (zD hK10 (zS fun _ hK11=>vm [(0,.slice lA l.length lc),(2,.pointer (some ⟨b2,0,none⟩)),(3,iV k),(4,.pointer (some ⟨b4,0,none⟩)),(9,.slice lA l.length lc),(10,iV l.length),(11,iV k),(33,.bool (decide ((s1.time < 0)∨((1000000 < s1.time)∨((s1.value < (-1000000000))∨(1000000000 < s1.value))))))] (Mem w no [.blk b4 [iV s1.time,iV s1.value] 41,.blk b2 [iV 0,iV 0] 61,slO (In w) 2 zo (.slice lA l.length lc) l]) (fun _ hK12=>?_) ?_))))
   · refine zL (zB (za rfl fld41_0) (zB (zg 0 rfl rfl rfl flat3) (zB (yR rfl rfl) (zE rfl (yQ (t:=19) rfl (fun h3=>?_) (fun h3=>?_))))))
     · refine zQ (zQ (zQ (zB (zM rfl rfl) (zE rfl (zQ (zQ (zQ (zB (zM rfl rfl) (zE rfl (zQ (zQ ?_)))))))))))
       refine zQ (zB (zM rfl rfl) ?_)
       refine zl (ym hK12 (sc rfl (sc rfl (sc rfl (sc rfl (sc rfl (sc rfl (sc rfl (sc (jt (Or.inl h3)) sn)))))))) (fun _ h=>h))
     refine zb (za rfl fld41_0) (zb (zg 0 rfl rfl rfl flat3) (zb (vH rfl rfl) (zB (zM rfl rfl) (zE rfl (yQ (t:=24) rfl (fun h4=>?_) (fun h4=>?_))))))
     · refine zQ (zQ (zQ (zB (zM rfl rfl) (zE rfl (zQ (zQ (zQ (zB (zM rfl rfl) ?_))))))))
       refine zl (ym hK12 (sc rfl (sc rfl (sc rfl (sc rfl (sc rfl (sc rfl (sc rfl (sc (jt (Or.inr (Or.inl h4))) sn)))))))) (fun _ h=>h))
     refine zb (za rfl fld41_1) (zb (zg 0 rfl rfl rfl flat3) (zb (yR rfl rfl) (zB (zM rfl rfl) (zE rfl (yQ (t:=29) rfl (fun h5=>?_) (fun h5=>?_))))))
     · refine zQ (zQ (zQ (zB (zM rfl rfl) ?_)))
       refine zl (ym hK12 (sc rfl (sc rfl (sc rfl (sc rfl (sc rfl (sc rfl (sc rfl (sc (jt (Or.inr (Or.inr (Or.inl h5)))) sn)))))))) (fun _ h=>h))
     refine zb (za rfl fld41_1) (zb (zg 0 rfl rfl rfl flat3) (zb (vH rfl rfl) (zB (zM rfl rfl) ?_)))
     refine zl (ym hK12 (sc rfl (sc rfl (sc rfl (sc rfl (sc rfl (sc rfl (sc rfl (sc (jp (iff_or_right h3 (iff_or_right h4 (iff_or_right h5 Iff.rfl)))) sn)))))))) (fun _ h=>h))
   refine zZ rfl (fun h6=>?_) (fun h6=>?_)
   · refine zG fun _ hK13=>zE rfl (zB (zz [iV 3,iV k] pl61 inf61 rfl rfl) (zr 1 wn rfl rfl rfl inf61 rfl rfl rfl (zD hK13 (zX (zK (yA (zK (ye (yA (zK (zY (.inl rfl) results43 (zt 1 rfl rfl agg61 inf61 rfl) fun w1 hM=>?_)))))))))))
     exact vq (l1:=[iV 3,iV k]) (by rw [Codec.wrong,if_neg (by omega),hI1.2,Codec.wrong_step hs1,if_pos (by unfold Codec.badRange; omega)]) hM
   refine yK hK11 (zS fun _ hK14=>vN mix (by kernel_rfl) (fun _ h=>h.drew) (yn rfl (zq (vH rfl rfl) (yn rfl (vh (t:=38) rfl (fun h7=>?_) (fun h7=>?_))))))
   · refine yL (zi rfl) (yL (zi rfl) (yL (vw rfl rfl (by omega)) (yL (y6 (i:=(k - 1)) rfl hd1 rfl (by omega) (by first | omega | (simp <;> omega)) underlying47 inf41) (yL (yy rfl fld41_0) ?_))))
     obtain ⟨s2,hs2⟩:∃ x,l[(k - 1)]?=some x:=⟨_,List.getElem?_eq_getElem (by first | omega | (simp <;> omega))⟩
     refine yL (gH 2 rfl rfl hd1 hs2 rfl flat3) (yL (za rfl fld41_0) (yL (zg 0 rfl rfl rfl flat3) (yL (vn rfl rfl) (zq (zM rfl rfl) (vJ (zy hK14 (zZ rfl (fun h8=>?_) (fun h8=>?_))))))))
     · refine zG fun _ hK15=>zE rfl (zB (zz [iV 2,iV k] pl61 inf61 rfl rfl) (zr 1 wn rfl rfl rfl inf61 rfl rfl rfl (zD hK15 (zX (yA (zK (ye (yA (zK (zY (.inl rfl) results43 (zt 1 rfl rfl agg61 inf61 rfl) fun w1 hM=>?_))))))))))
       exact vq (l1:=[iV 2,iV k]) (by rw [Codec.wrong,if_neg (by omega),hI1.2,Codec.wrong_step hs1,if_neg (by unfold Codec.badRange; omega),if_pos (by rw [Codec.prevOf,if_neg (by omega),hs2]; simp [Codec.notAhead]; omega)]) hM
     refine yU (zm (zy hK9 (zL (zB (zw rfl rfl (by omega)) (zE rfl (zl (yX (k + 1) (sc rfl (sc rfl (sc rfl (sc rfl (sc (ji (by omega)) sn))))) (S9 [1,2]) ?_ ?_)))))))
     · exact ⟨by omega,by rw [hI1.2,Codec.wrong_step hs1,if_neg (by unfold Codec.badRange; omega),if_neg (by rw [Codec.prevOf,if_neg (by omega),hs2]; simp [Codec.notAhead]; omega)]⟩
     omega
   refine yB (yB (yB (yB (yB (yB (yB (yB (yB (zq (zM rfl rfl) (vJ (zy hK14 (yr rfl rfl ?_))))))))))))
   refine yU (zm (zy hK9 (zL (zB (zw rfl rfl (by omega)) (zE rfl (zl (yX (k + 1) (sc rfl (sc rfl (sc rfl (sc rfl (sc (ji (by omega)) sn))))) (S9 [1,2]) ?_ ?_)))))))
   · exact ⟨by omega,by rw [hI1.2,Codec.wrong_step hs1,if_neg (by unfold Codec.badRange; omega),if_neg (by rw [Codec.prevOf,if_pos (by omega)]; simp [Codec.notAhead])]⟩
   omega
 refine yZ (yH (yj (yI (zy hK5 (zG fun _ hK16=>zB (zz [iV 0,iV 0] pl61 inf61 rfl rfl) (zr 0 wn rfl rfl rfl inf61 rfl rfl rfl (zD hK16 (zX (zY (.inl rfl) results43 (zt 0 rfl rfl agg61 inf61 rfl) fun w1 hM=>?_)))))))))
 exact vq (l1:=[iV 0,iV 0]) (by rw [Codec.wrong,if_neg (by omega),hI1.2,Codec.wrong_end (by omega)]) hM
theorem c_SameSamples (av : Value) (a : List Sample) (bv : Value) (b : List Sample) (w : World) (ha : zJ (In w) 2 zo av a w) (hb : zJ (In w) 2 zo bv b w)  :
    Calls prog 90 #[av,bv] w (Ret w (.bool (decide (a=b)))):=by
 obtain ⟨aA,ac,rfl,hac,ham,haA⟩:=ha.form
 obtain ⟨bA,bc,rfl,hbc,hbm,hbA⟩:=hb.form
 refine fstart (N:=26) (vals:=[.slice aA a.length ac,.slice bA b.length bc]) (S:=Mem w no [slO (In w) 2 zo (.slice aA a.length ac) a,slO (In w) 2 zo (.slice bA b.length bc) b]) func90 rfl rfl rfl (Mem.ofDats (dc (dl ha) (dc (dl hb) dn))) (zG fun _ hK1=>zP rfl (zD hK1 (zS fun _ hK2=>zG fun _ hK3=>zE rfl (zB (yW rfl underlying47) (zE rfl (zB (yW rfl underlying47) (zB (vD rfl rfl) (zD hK3 ?_))))))))
 refine zZ rfl (fun h1=>?_) (fun h1=>?_)
 · refine zG fun _ hK4=>zP rfl (zD hK4 (zX (zK (zY (.inl rfl) results90 (zR rfl) fun w1 hM=>?_))))
   exact zn (by rw [decide_eq_false (fun e=>h1 (by rw [e]))]) hM
 refine yK hK2 (zS fun _ hK5=>zG fun _ hK6=>zE rfl (zB (yW rfl underlying47) (zE rfl (zD hK6 (zk (y8 (fun (k:Nat)=>[(0,.slice aA a.length ac),(1,.slice bA b.length bc),(12,iV a.length),(13,iV k)]) (fun (k:Nat)=>[slO (In w) 2 zo (.slice aA a.length ac) a,slO (In w) 2 zo (.slice bA b.length bc) b]) (fun (k:Nat)=>k≤a.length∧a.take k=b.take k) (fun (k:Nat)=>a.length - k) 0 (sc rfl (sc rfl (sc rfl (sc (ji (by omega)) sn)))) (fun _ h=>h) ?_ (fun k hI1=>?_)))))))
 · simp
 refine zG fun _ hK7=>zB (yR rfl rfl) (zD hK7 (zS fun _ hK8=>zZ rfl (fun h2=>?_) (fun h2=>?_)))
 · refine yK hK8 (zS fun _ hK9=>zk (zG fun _ hK10=>zE rfl (zP rfl (zD hK10 (zS fun _ hK11=>vN mix (by kernel_rfl) (fun _ h=>h.drew) (yn rfl (yn rfl ?_)))))))
   obtain ⟨ad1,hd1⟩:=haA (ne_nil (i:=k) (by first | omega | (simp <;> omega)))
   refine zq (y6 (i:=k) rfl hd1 rfl (by omega) (by first | omega | (simp <;> omega)) underlying47 inf41) ?_
   obtain ⟨s1,hs1⟩:∃ x,a[k]?=some x:=⟨_,List.getElem?_eq_getElem (by first | omega | (simp <;> omega))⟩
   refine zq (vx 0 [iV s1.time,iV s1.value] rfl rfl hd1 hs1 rfl rfl agg41 inf41) (yn rfl (yn rfl ?_))
   obtain ⟨ad2,hd2⟩:=hbA (ne_nil (i:=k) (by first | omega | (simp <;> omega)))
   refine zq (y6 (i:=k) rfl hd2 rfl (by omega) (by first | omega | (simp <;> omega)) underlying47 inf41) ?_
   obtain ⟨s2,hs2⟩:∃ x,b[k]?=some x:=⟨_,List.getElem?_eq_getElem (by first | omega | (simp <;> omega))⟩
   refine zq (vx 1 [iV s2.time,iV s2.value] rfl rfl hd2 hs2 rfl rfl agg41 inf41) (zq (jk (a:=s1) (b:=s2) rfl rfl eqv41) (vJ (zy hK11 (zZ rfl (fun h3=>?_) (fun h3=>?_)))))
   · refine zG fun _ hK12=>zP rfl (zD hK12 (zX (yA (zK (ye (yA (zK (zY (.inl rfl) results90 (zR rfl) fun w1 hM=>?_))))))))
     exact zn (by rw [decide_eq_false (fun e=>h3 (Option.some.inj (hs1.symm.trans (by rw [e]; exact hs2))))]) hM
   refine yU (zm (zy hK9 (zL (zB (zw rfl rfl (by omega)) (zE rfl (zl (yX (k + 1) (sc rfl (sc rfl (sc rfl (sc (ji (by omega)) sn)))) (fun _ h=>h) ?_ ?_)))))))
   · exact ⟨by omega,same_step hI1.2 hs1 hs2 (Classical.not_not.1 h3)⟩
   omega
 refine yZ (yH (yj (yI (zy hK5 (zG fun _ hK13=>zP rfl (zD hK13 (zX (zY (.inl rfl) results90 (zR rfl) fun w1 hM=>?_))))))))
 exact zn (by rw [decide_eq_true (same_done (by omega) (by omega) hI1.2)]) hM
theorem c_SameBuckets (av : Value) (a : List Bucket) (bv : Value) (b : List Bucket) (w : World) (ha : zJ (In w) 8 zU av a w) (hb : zJ (In w) 8 zU bv b w)  :
    Calls prog 91 #[av,bv] w (Ret w (.bool (decide (a=b)))):=by
 obtain ⟨aA,ac,rfl,hac,ham,haA⟩:=ha.form
 obtain ⟨bA,bc,rfl,hbc,hbm,hbA⟩:=hb.form
 refine fstart (N:=26) (vals:=[.slice aA a.length ac,.slice bA b.length bc]) (S:=Mem w no [slO (In w) 8 zU (.slice aA a.length ac) a,slO (In w) 8 zU (.slice bA b.length bc) b]) func91 rfl rfl rfl (Mem.ofDats (dc (dl ha) (dc (dl hb) dn))) (zG fun _ hK1=>zP rfl (zD hK1 (zS fun _ hK2=>zG fun _ hK3=>zE rfl (zB (yW rfl underlying48) (zE rfl (zB (yW rfl underlying48) (zB (vD rfl rfl) (zD hK3 ?_))))))))
 refine zZ rfl (fun h1=>?_) (fun h1=>?_)
 · refine zG fun _ hK4=>zP rfl (zD hK4 (zX (zK (zY (.inl rfl) results91 (zR rfl) fun w1 hM=>?_))))
   exact zn (by rw [decide_eq_false (fun e=>h1 (by rw [e]))]) hM
 refine yK hK2 (zS fun _ hK5=>zG fun _ hK6=>zE rfl (zB (yW rfl underlying48) (zE rfl (zD hK6 (zk (y8 (fun (k:Nat)=>[(0,.slice aA a.length ac),(1,.slice bA b.length bc),(12,iV a.length),(13,iV k)]) (fun (k:Nat)=>[slO (In w) 8 zU (.slice aA a.length ac) a,slO (In w) 8 zU (.slice bA b.length bc) b]) (fun (k:Nat)=>k≤a.length∧a.take k=b.take k) (fun (k:Nat)=>a.length - k) 0 (sc rfl (sc rfl (sc rfl (sc (ji (by omega)) sn)))) (fun _ h=>h) ?_ (fun k hI1=>?_)))))))
 · simp
 refine zG fun _ hK7=>zB (yR rfl rfl) (zD hK7 (zS fun _ hK8=>zZ rfl (fun h2=>?_) (fun h2=>?_)))
 · refine yK hK8 (zS fun _ hK9=>zk (zG fun _ hK10=>zE rfl (zP rfl (zD hK10 (zS fun _ hK11=>vN mix (by kernel_rfl) (fun _ h=>h.drew) (yn rfl (yn rfl ?_)))))))
   obtain ⟨ad1,hd1⟩:=haA (ne_nil (i:=k) (by first | omega | (simp <;> omega)))
   refine zq (y6 (i:=k) rfl hd1 rfl (by omega) (by first | omega | (simp <;> omega)) underlying48 inf163) ?_
   obtain ⟨s1,hs1⟩:∃ x,a[k]?=some x:=⟨_,List.getElem?_eq_getElem (by first | omega | (simp <;> omega))⟩
   refine zq (vx 0 [iV s1.at_,iV s1.sum.count,iV s1.sum.total,iV s1.sum.min,iV s1.sum.max,iV s1.sum.first,iV s1.sum.last,iV s1.sum.rise] rfl rfl hd1 hs1 rfl rfl agg163 inf163) (yn rfl (yn rfl ?_))
   obtain ⟨ad2,hd2⟩:=hbA (ne_nil (i:=k) (by first | omega | (simp <;> omega)))
   refine zq (y6 (i:=k) rfl hd2 rfl (by omega) (by first | omega | (simp <;> omega)) underlying48 inf163) ?_
   obtain ⟨s2,hs2⟩:∃ x,b[k]?=some x:=⟨_,List.getElem?_eq_getElem (by first | omega | (simp <;> omega))⟩
   refine zq (vx 1 [iV s2.at_,iV s2.sum.count,iV s2.sum.total,iV s2.sum.min,iV s2.sum.max,iV s2.sum.first,iV s2.sum.last,iV s2.sum.rise] rfl rfl hd2 hs2 rfl rfl agg163 inf163) (zq (jk (a:=s1) (b:=s2) rfl rfl eqv163) (vJ (zy hK11 (zZ rfl (fun h3=>?_) (fun h3=>?_)))))
   · refine zG fun _ hK12=>zP rfl (zD hK12 (zX (yA (zK (ye (yA (zK (zY (.inl rfl) results91 (zR rfl) fun w1 hM=>?_))))))))
     exact zn (by rw [decide_eq_false (fun e=>h3 (Option.some.inj (hs1.symm.trans (by rw [e]; exact hs2))))]) hM
   refine yU (zm (zy hK9 (zL (zB (zw rfl rfl (by omega)) (zE rfl (zl (yX (k + 1) (sc rfl (sc rfl (sc rfl (sc (ji (by omega)) sn)))) (fun _ h=>h) ?_ ?_)))))))
   · exact ⟨by omega,same_step hI1.2 hs1 hs2 (Classical.not_not.1 h3)⟩
   omega
 refine yZ (yH (yj (yI (zy hK5 (zG fun _ hK13=>zP rfl (zD hK13 (zX (zY (.inl rfl) results91 (zR rfl) fun w1 hM=>?_))))))))
 exact zn (by rw [decide_eq_true (same_done (by omega) (by omega) hI1.2)]) hM
theorem c_SameSeries (av : Value) (a : List Label) (bv : Value) (b : List Label) (w : World) (ha : zJ (In w) 2 zj av a w) (hb : zJ (In w) 2 zj bv b w)  :
    Calls prog 41 #[av,bv] w (Ret w (.bool (decide (a=b)))):=by
 obtain ⟨aA,ac,rfl,hac,ham,haA⟩:=ha.form
 obtain ⟨bA,bc,rfl,hbc,hbm,hbA⟩:=hb.form
 refine fstart (N:=26) (vals:=[.slice aA a.length ac,.slice bA b.length bc]) (S:=Mem w no [slO (In w) 2 zj (.slice aA a.length ac) a,slO (In w) 2 zj (.slice bA b.length bc) b]) func41 rfl rfl rfl (Mem.ofDats (dc (dl ha) (dc (dl hb) dn))) (zG fun _ hK1=>zP rfl (zD hK1 (zS fun _ hK2=>zG fun _ hK3=>zE rfl (zB (yW rfl underlying39) (zE rfl (zB (yW rfl underlying39) (zB (vD rfl rfl) (zD hK3 ?_))))))))
 refine zZ rfl (fun h1=>?_) (fun h1=>?_)
 · refine zG fun _ hK4=>zP rfl (zD hK4 (zX (zK (zY (.inl rfl) results41 (zR rfl) fun w1 hM=>?_))))
   exact zn (by rw [decide_eq_false (fun e=>h1 (by rw [e]))]) hM
 refine yK hK2 (zS fun _ hK5=>zG fun _ hK6=>zE rfl (zB (yW rfl underlying39) (zE rfl (zD hK6 (zk (y8 (fun (k:Nat)=>[(0,.slice aA a.length ac),(1,.slice bA b.length bc),(12,iV a.length),(13,iV k)]) (fun (k:Nat)=>[slO (In w) 2 zj (.slice aA a.length ac) a,slO (In w) 2 zj (.slice bA b.length bc) b]) (fun (k:Nat)=>k≤a.length∧a.take k=b.take k) (fun (k:Nat)=>a.length - k) 0 (sc rfl (sc rfl (sc rfl (sc (ji (by omega)) sn)))) (fun _ h=>h) ?_ (fun k hI1=>?_)))))))
 · simp
 refine zG fun _ hK7=>zB (yR rfl rfl) (zD hK7 (zS fun _ hK8=>zZ rfl (fun h2=>?_) (fun h2=>?_)))
 · refine yK hK8 (zS fun _ hK9=>zk (zG fun _ hK10=>zE rfl (zP rfl (zD hK10 (zS fun _ hK11=>vN mix (by kernel_rfl) (fun _ h=>h.drew) (yn rfl (yn rfl ?_)))))))
   obtain ⟨ad1,hd1⟩:=haA (ne_nil (i:=k) (by first | omega | (simp <;> omega)))
   refine zq (y6 (i:=k) rfl hd1 rfl (by omega) (by first | omega | (simp <;> omega)) underlying39 inf74) ?_
   obtain ⟨s1,hs1⟩:∃ x,a[k]?=some x:=⟨_,List.getElem?_eq_getElem (by first | omega | (simp <;> omega))⟩
   refine zq (vx 0 [.string s1.key,.string s1.val] rfl rfl hd1 hs1 rfl rfl agg74 inf74) (yn rfl (yn rfl ?_))
   obtain ⟨ad2,hd2⟩:=hbA (ne_nil (i:=k) (by first | omega | (simp <;> omega)))
   refine zq (y6 (i:=k) rfl hd2 rfl (by omega) (by first | omega | (simp <;> omega)) underlying39 inf74) ?_
   obtain ⟨s2,hs2⟩:∃ x,b[k]?=some x:=⟨_,List.getElem?_eq_getElem (by first | omega | (simp <;> omega))⟩
   refine zq (vx 1 [.string s2.key,.string s2.val] rfl rfl hd2 hs2 rfl rfl agg74 inf74) (zq (jk (a:=s1) (b:=s2) rfl rfl eqv74) (vJ (zy hK11 (zZ rfl (fun h3=>?_) (fun h3=>?_)))))
   · refine zG fun _ hK12=>zP rfl (zD hK12 (zX (yA (zK (ye (yA (zK (zY (.inl rfl) results41 (zR rfl) fun w1 hM=>?_))))))))
     exact zn (by rw [decide_eq_false (fun e=>h3 (Option.some.inj (hs1.symm.trans (by rw [e]; exact hs2))))]) hM
   refine yU (zm (zy hK9 (zL (zB (zw rfl rfl (by omega)) (zE rfl (zl (yX (k + 1) (sc rfl (sc rfl (sc rfl (sc (ji (by omega)) sn)))) (fun _ h=>h) ?_ ?_)))))))
   · exact ⟨by omega,same_step hI1.2 hs1 hs2 (Classical.not_not.1 h3)⟩
   omega
 refine yZ (yH (yj (yI (zy hK5 (zG fun _ hK13=>zP rfl (zD hK13 (zX (zY (.inl rfl) results41 (zR rfl) fun w1 hM=>?_))))))))
 exact zn (by rw [decide_eq_true (same_done (by omega) (by omega) hI1.2)]) hM
end
end Go.Proofs.YtgojhpocpajmlaaGreatDoor
