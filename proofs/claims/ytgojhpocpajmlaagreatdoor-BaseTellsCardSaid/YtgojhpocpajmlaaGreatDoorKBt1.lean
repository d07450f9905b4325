/- Laws and walks for the proof of BaseTells, packed by program; each theorem bears its own conditions. -/
import Derived.WalkKit
import Derived.ProofKit
import Derived.OpenShut
import Derived.JoinedCond
import Derived.Deep.Quiet
import Derived.Laws.OwnMore
import Derived.Laws.StructEq
import Derived.Great.BuildSlice
import Derived.Laws.Cover1
import Derived.StillTail
import Derived.Maps.AppendAt
import Derived.OrdersHeld
import Derived.MapKept
import Derived.ChangeMaps4
import Derived.Lib.ConvBytes
import Derived.Laws.IdiomStrings
import Derived.Laws.Cover3
set_option linter.unusedSectionVars false
set_option linter.unusedVariables false
set_option linter.unusedSimpArgs false
set_option maxHeartbeats 20000000
namespace Go.Proofs.YtgojhpocpajmlaaGreatDoor
section
theorem qO {p:Prop} (h:p:=by omega):p:=h
theorem qI {p:Prop} (h:p:=by first | omega | (simp <;> omega)):p:=h
theorem qS {p:Prop} (h:p:=by simp):p:=h
theorem qD {p:Prop} (h:p:=by decide):p:=h
theorem qL {α:Type _}:(∀ a b:List α,(a++b).length=a.length + b.length)∧(∀ (a:α) (b:List α),(a::b).length=b.length + 1)∧([]:List α).length=0:=⟨fun _ _=>List.length_append,fun _ _=>rfl,rfl⟩
theorem zI:∀ {c:Prop} {h:Decidable c},¬c->∀ {α:Sort _} {t e:α},(if c then t else e)=e:=@if_neg
theorem zP:∀ {c:Prop} {h:Decidable c},c->∀ {α:Sort _} {t e:α},(if c then t else e)=t:=@if_pos
theorem vQ:∀ {α:Type _} {l:List α} {i:Nat} {a:α},l[i]?=some a->a ∈ l:=@List.mem_of_getElem?
theorem yb:∀ {α:Type _} {i:Nat} {a:α} {l:List α},l[i]?=some a↔∃ h:i < l.length,l[i]=a:=@List.getElem?_eq_some_iff
theorem uF:∀ {α:Type _} {as bs:List α},List.length (as++bs)=List.length as + List.length bs:=@List.length_append
theorem gP:∀ {α:Type _} {a:α} {as:List α},List.length (a::as)=List.length as + 1:=@List.length_cons
theorem vg:∀ {α:Type _} {i:Nat} {l:List α},List.length l<=i->List.take i l=l:=@List.take_of_length_le
theorem yq:∀ {p:Prop} [inst:Decidable p],¬p->decide p=false:=@decide_eq_false
theorem vM:∀ {p:Prop} [inst:Decidable p],p->decide p=true:=@decide_eq_true
theorem yl:∀ {α:Type _} {a:α} {s t:List α},a ∈ s++t↔a ∈ s∨a ∈ t:=@List.mem_append
theorem vA:∀ {α:Type _} {l:List α} {i:Nat} (h:i < List.length l),l[i]?=some l[i]:=@List.getElem?_eq_getElem
theorem yV:∀ {α:Type _} {β:Type _} {f:α->β} {l:List α} {i:Nat},(List.map f l)[i]?=Option.map f l[i]?:=@List.getElem?_map
theorem ya:∀ {α:Type _} {b:α} {l:List α} {a:α},a ∈ b::l↔a=b∨a ∈ l:=@List.mem_cons
theorem yf:∀ {α:Type _} {a b:α},a ∈ [b]↔a=b:=@List.mem_singleton
theorem yi:∀ {α:Type _} {β:Type _} {f:α->β} {l₁ l₂:List α},List.map f (l₁++l₂)=List.map f l₁++List.map f l₂:=@List.map_append
theorem vE:∀ {α:Type _} {l:List α} {i:Nat},List.take (i + 1) l=List.take i l++Option.toList l[i]?:=@List.take_add_one
theorem vb:∀ {α:Type _} {β:Type _} {as:List α} (f:α->β),List.length (List.map f as)=List.length as:=@List.length_map
theorem uW:∀ {α:Type _} {a:α} {l:List α},a ∈ a::l:=@List.mem_cons_self
theorem yr:∀ {α:Type _} {β:Type _} {b:β} {f:α->β} {l:List α},b ∈ List.map f l↔∃ a,a ∈ l∧f a=b:=@List.mem_map
theorem vw:∀ {α:Type _} {i:Nat} {l:List α},List.length l<=i->List.drop i l=[]:=@List.drop_of_length_le
theorem uI:∀ {α:Type _} {i:Nat} {l:List α} (h:i < List.length l),List.drop i l=l[i]::List.drop (i + 1) l:=@List.drop_eq_getElem_cons
theorem vl:∀ {α:Type _} {β:Type _} {f:α->β} {a:α} {l:List α},List.map f (a::l)=f a::List.map f l:=@List.map_cons
theorem uX:∀ {α:Type _} {l₁ l₂:List α} {i:Nat},i < List.length l₁->(l₁++l₂)[i]?=l₁[i]?:=@List.getElem?_append_left
theorem ym:∀ {a:Prop},¬¬a↔a:=@Classical.not_not
theorem jU:∀ {α:Type _} {l₁ l₂:List α} {i:Nat},List.length l₁<=i->(l₁++l₂)[i]?=l₂[i - List.length l₁]?:=@List.getElem?_append_right
theorem ub:∀ {α:Type _} (as bs cs:List α),as++bs++cs=as++(bs++cs):=@List.append_assoc
theorem jb:∀ {α:Type _} {l:List α},List.length l=0->l=[]:=@List.eq_nil_of_length_eq_zero
theorem vN:∀ {n m k:Nat},n<=m->m<=k->n<=k:=@Nat.le_trans
theorem vY:∀ (n:Nat),n<=n:=@Nat.le_refl
theorem uP:∀ {n m k:Nat},n < m->m<=k->n < k:=@Nat.lt_of_lt_of_le
theorem uc:∀ {α:Type _} (as:List α),as++[]=as:=@List.append_nil
theorem ud:∀ {p:Prop} [inst:Decidable p],(decide p=true)=p:=@decide_eq_true_eq
end
section
namespace Ex
abbrev Env:=List (Nat × Value)
def look:Env->Nat->Option Value
  | [],_=>none
  | p :: r, t => match Nat.beq p.1 t with
    | true=>some p.2
    | false=>look r t
def ev (E:Env):Operand->Option Value
  | .tmp t=>look E t
  | .const v=>some v
  | .global g=>some (.pointer (some ⟨g,0,none⟩))
  | .func f=>some (.func (.func f) #[] #[])
structure Has (N:Nat) (D:List Deferred) (a:Act) (E:Env):Prop where
  d:a.defers=D
  n:a.tmps.size=N
  h:∀ t v,look E t=some v->a.tmps[t]?=some v
section
variable {N:Nat} {D:List Deferred} {E E':Env} {a:Act}
theorem Has.eval (h:Has N D a E) {x:Operand} {v:Value} (e:ev E x=some v):a.eval x=v:=by
 cases x with
 | tmp t=>have:=h.h t v e; simp [Act.eval,this]
 | const u=>simpa [ev,Act.eval] using e
 | global g=>simpa [ev,Act.eval] using e
 | func f=>simpa [ev,Act.eval] using e
theorem Cp (p:Nat × Value) (r:Env) (t:Nat):look (p::r) t=if p.1=t then some p.2 else look r t:=by
 rw [look]
 cases h:Nat.beq p.1 t with
 | true=>rw [zP (Nat.eq_of_beq_eq_true h)]
 | false=>rw [zI (Nat.ne_of_beq_eq_false h)]
theorem Has.put (h:Has N D a E) {d:Nat} (v:Value) (f:Nat.blt d N=true):Has N D (a.put (some d) v) ((d,v)::E):=by
 have c:d < N:=by simpa [Nat.blt_eq] using f
 refine ⟨h.d,by simp [Act.put,h.n],fun t u b=>?_⟩;rw [Cp] at b;simp only [Act.put];by_cases e:d=t;subst e;rw [zP rfl] at b;rw [Array.getElem?_setIfInBounds_self_of_lt (by rw [h.n]; exact c)];exact b;rw [zI e] at b;rw [Array.getElem?_setIfInBounds_ne e];exact h.h t u b
theorem Has.less (h:Has N D a E) (c:∀ p ∈ E',look E p.1=some p.2):Has N D a E':=by
 refine ⟨h.d,h.n,fun t v b=>h.h t v ?_⟩
 clear h
 induction E' with
 | nil=>simp [look] at b
 | cons p r ih =>
  rw [Cp] at b
  by_cases e:p.1=t
  ·rw [zP e] at b
   have:=c p (uW ..)
   rw [<-e,this,b]
  ·rw [zI e] at b
   exact ih (fun q f=>c q (List.mem_cons_of_mem _ f)) b
end
def BZ (E:Env):Env->Prop
  | []=>True
  | p::r=>look E p.1=some p.2∧BZ E r
theorem BZ.all {E E':Env} (h:BZ E E'):∀ p ∈ E',look E p.1=some p.2:=by
 induction E' with
 | nil=>simp
 | cons p r ih =>
  intro q a
  rcases ya.1 a with rfl | a
  ·exact h.1
  ·exact ih h.2 q a
structure Fr (M:Nat->Prop) (w w':World):Prop where
  os:w'.os=w.os
  tape:w'.tape=w.tape
  output:w'.output=w.output
  size:w.heap.size<=w'.heap.size
  block:∀ k,k < w.heap.size->¬ M k->w'.heap[k]?=w.heap[k]?
def no:Nat->Prop:=fun _=>False
section
variable {M M':Nat->Prop} {w w' w'':World}
theorem Fr.refl (M:Nat->Prop) (w:World):Fr M w w:=⟨rfl,rfl,rfl,vY _,fun _ _ _=>rfl⟩
theorem Fr.trans (h:Fr M w w') (k:Fr M' w' w'') (d:∀ b,b < w.heap.size->M' b->M b):Fr M w w'' :=
 ⟨k.os.trans h.os,k.tape.trans h.tape,k.output.trans h.output,vN h.size k.size,fun b a c=>(k.block b (uP a h.size) (fun e=>c (d b a e))).trans (h.block b a c)⟩
theorem Fr.mono (h:Fr M w w') (c:∀ b,b < w.heap.size->M b->M' b):Fr M' w w':=⟨h.os,h.tape,h.output,h.size,fun b a d=>h.block b a fun e=>d (c b a e)⟩
theorem Fr.alloc (M:Nat->Prop) (w:World) (o:Obj):Fr M w (w.alloc o):=⟨rfl,rfl,rfl,qS,fun k a _=>Go.RowKit.Below.heap_alloc w o k a⟩
theorem Fr.drew (M:Nat->Prop) (w:World):Fr M w w.drew:=⟨rfl,rfl,rfl,vY _,fun _ _ _=>rfl⟩
theorem Fr.below (h:Fr no w w'):Go.RowKit.Below w.heap.size w w':=⟨h.os,h.tape,h.output,h.size,fun k a=>h.block k a id⟩
theorem Fr.PQ (h:Go.RowKit.Below w.heap.size w w'):Fr no w w':=⟨h.os,h.tape,h.output,h.size,fun k a _=>h.block k a⟩
theorem Fr.Pf {a:Option Nat} (h:w.grownBy w' a):Fr (fun b=>a=some b) w w':=⟨h.os,h.tape,h.output,h.size,fun k d c=>h.block k d fun e=>c e.symm⟩
end
structure Fp where
  m:Nat->Prop
  p:Nat->Prop
instance:Coe (Nat->Prop) Fp:=⟨fun m=>⟨m,fun _=>False⟩⟩
inductive Own where
  | blk (b:Nat) (cs:List Value) (T:TypeId)
  | row (v:Value) (e:TypeId) (k n:Nat) (xs:List Value)
  | map (b:Nat) (es:List MapEntry) (n:Nat)
  | dat (S:Nat->Prop) (F:World->Prop)
  | pub (F:(Nat->Prop)->World->Prop)
def Own.mut:Own->Bool
  | .dat ..=>false
  | .pub ..=>false
  | _=>true
def Own.fp:Own->Nat->Prop
  | .blk b _ _=>(·=b)
  | .row v _ _ _ _=>fun b=>v.ownBlock=some b
  | .map b _ _=>(·=b)
  | .dat S _=>S
  | .pub _=>fun _=>False
def Loc (F:(Nat->Prop)->World->Prop):Prop:=∀ (S S':Nat->Prop) (u u':World),(∀ b,S b->S' b)->(∀ b,S b->u'.heap[b]?=u.heap[b]?)->F S u->F S' u'
def Own.holds:Own->World->Prop
  | .blk b cs T,w=>w.heap[b]?=some (.cells cs.toArray T (0,0))
  | .row v e k n xs,w=>w.ownsRow 0 e k v n xs
  | .map b es n,w=>w.heap[b]?=some (.map es.toArray n)
  | .dat S F,w=>F w∧∀ u u':World,(∀ b,S b->u'.heap[b]?=u.heap[b]?)->F u->F u'
  | .pub F,_=>Loc F
theorem Own.GC {o:Own} {w w':World} (h:o.holds w) (a:∀ b,o.fp b->w'.heap[b]?=w.heap[b]?):o.holds w':=by
 cases o with
 | blk b cs T=>exact (a b rfl).trans h
 | row v e k n xs =>
  refine ⟨h.1,?_⟩
  rcases h.2 with d | ⟨g,cap,cur,rfl,f,c,r⟩
  ·exact .inl d
  ·exact .inr ⟨g,cap,cur,rfl,f,(a g rfl).trans c,r⟩
 | map b es n=>exact (a b rfl).trans h
 | dat S F=>exact ⟨h.2 w w' a h.1,h.2⟩
 | pub F=>exact h
structure DP (w0:World) (M:Fp) (L:List Own) (w:World) (Pb:Nat->Prop):Prop where
  sub:∀ b,Pb b->M.p b∨w0.heap.size<=b
  lt:∀ b,Pb b->b < w.heap.size
  dj:∀ (i:Nat) (o:Own),L[i]?=some o->o.mut=true->∀ b,Pb b->¬ o.fp b
  at_:∀ (i:Nat) (F:(Nat->Prop)->World->Prop),L[i]?=some (.pub F)->F Pb w
structure Mem (w0:World) (M:Fp) (L:List Own) (w:World):Prop where
  fr:Fr M.m w0 w
  ok:∀ (i:Nat) (o:Own),L[i]?=some o->o.holds w∧(∀ b,o.fp b->b < w.heap.size)∧(o.mut=true->∀ b,o.fp b->w0.heap.size<=b∨M.m b)
  dj:∀ (i j:Nat) (o o':Own),L[i]?=some o->L[j]?=some o'->i≠j->(o.mut=true∨o'.mut=true)->∀ b,o.fp b->¬ o'.fp b
  pb:∃ Pb,DP w0 M L w Pb
def Own.Cu:Own->Bool
  | .pub _=>true
  | _=>false
theorem Own.OJ {o:Own} (h:o.Cu=false) (F:(Nat->Prop)->World->Prop):o≠.pub F:=by rintro rfl; cases h
section
variable {w0 w w':World} {M M':Fp} {L L':List Own} {o o':Own}
theorem Mem.start (w:World) (M:Fp):Mem w M [] w:=⟨Fr.refl _ _,qS,qS,fun _=>False,qS,qS,qS,qS⟩
theorem DP.stay {a:Nat->Prop} (h:DP w0 M L w a) (c:∀ (i:Nat) (o:Own),L[i]?=some o->o.holds w) (d:∀ b,a b->w'.heap[b]?=w.heap[b]?) {i:Nat} {F:(Nat->Prop)->World->Prop} (hi:L[i]?=some (.pub F)):F a w' :=
 (c i _ hi:Loc F) a a w w' (fun _ h=>h) d (h.at_ i F hi)
theorem Mem.Cl (h:Mem w0 M L w) (d:Fr no w w'):Mem w0 M L w':=by
 refine ⟨h.fr.trans d (fun _ _ k=>k.elim),fun i o hi=>?_,h.dj,?_⟩;obtain ⟨g,e,j⟩:=h.ok i o hi;exact ⟨Own.GC g (fun b a=>d.block b (e b a) id),fun b a=>uP (e b a) d.size,j⟩;obtain ⟨f,c⟩:=h.pb;exact ⟨f,c.sub,fun b a=>uP (c.lt b a) d.size,c.dj,fun i F hi=>c.stay (fun i o hi=>(h.ok i o hi).1) (fun b a=>d.block b (c.lt b a) id) hi⟩
theorem Mem.upd (h:Mem w0 M L w) {i:Nat} (hi:L[i]?=some o) (n:o.mut=true) (r:Fr o.fp w w') (D:o'.holds w')
  (s:∀ b,o'.fp b->(o.fp b∨w.heap.size<=b)∧b < w'.heap.size) (B:o'.Cu=false:=by rfl):Mem w0 M (L.set i o') w':=by
 have f:i < L.length:=(yb.1 hi).1
 have A:=h.fr.size
 refine ⟨h.fr.trans r (fun b d c=>((h.ok i o hi).2.2 n b c).resolve_left qO),fun j p a=>?_,?_,?_⟩
 ·rw [List.getElem?_set] at a
  by_cases e:i=j
  ·rw [zP e,zP f] at a
   obtain rfl:o'=p:=by simpa using a
   refine ⟨D,fun b d=>(s b d).2,fun _ b d=>?_⟩
   rcases (s b d).1 with c | c
   ·exact (h.ok i o hi).2.2 n b c
   ·left; omega
  ·rw [zI e] at a
   obtain ⟨g,z,E⟩:=h.ok j p a
   exact ⟨Own.GC g (fun b d=>r.block b (z b d) (h.dj j i p o a hi (Ne.symm e) (.inr n) b d)),fun b d=>uP (z b d) r.size,E⟩
 ·intro j k p q a l v t b d c
  rw [List.getElem?_set] at a l
  by_cases x:i=j
  ·rw [zP x,zP f] at a
   obtain rfl:o'=p:=by simpa using a
   rw [zI qO] at l
   rcases (s b d).1 with g | g
   ·exact h.dj i k o q hi l qO (.inl n) b g c
   ·have:=(h.ok k q l).2.1 b c; omega
  ·rw [zI x] at a
   by_cases y:i=k
   ·rw [zP y,zP f] at l
    obtain rfl:o'=q:=by simpa using l
    rcases (s b c).1 with g | g
    ·exact h.dj i j o p hi a qO (.inl n) b g d
    ·have:=(h.ok j p a).2.1 b d; omega
   ·rw [zI y] at l
    exact h.dj j k p q a l v t b d c
 ·obtain ⟨C,m⟩:=h.pb
  refine ⟨C,m.sub,fun b d=>uP (m.lt b d) r.size,fun j p a u b d c=>?_,fun j F a=>?_⟩
  ·rw [List.getElem?_set] at a
   by_cases e:i=j
   ·rw [zP e,zP f] at a
    obtain rfl:o'=p:=by simpa using a
    rcases (s b c).1 with g | g
    ·exact m.dj i o hi n b d g
    ·have:=m.lt b d; omega
   ·rw [zI e] at a
    exact m.dj j p a u b d c
  ·rw [List.getElem?_set] at a
   by_cases e:i=j
   ·rw [zP e,zP f] at a
    exact absurd (by simpa using a) (Own.OJ B F)
   ·rw [zI e] at a
    exact m.stay (fun i o hi=>(h.ok i o hi).1) (fun b d=>r.block b (m.lt b d) (m.dj i o hi n b d)) a
theorem Mem.add (h:Mem w0 M L w) (f:Fr no w w') (t:o.holds w') (e:∀ b,o.fp b->w.heap.size<=b∧b < w'.heap.size) (r:o.Cu=false:=by rfl):Mem w0 M (o::L) w':=by
  have m:=h.Cl f
  have n:=h.fr.size
  refine ⟨m.fr,fun i p hi=>?_,?_,?_⟩
  · cases i with
    | zero => obtain rfl : o = p := by simpa using hi
              exact ⟨t,fun b a=>(e b a).2,fun _ b a=>.inl (by have:=(e b a).1; omega)⟩
    | succ i=>exact m.ok i p (by simpa using hi)
  · intro i j p q hi l g k b a c
    cases i with
    | zero =>
      obtain rfl:o=p:=by simpa using hi
      cases j with
      | zero=>exact g rfl
      | succ j=>have:=(h.ok j q (by simpa using l)).2.1 b c; have:=(e b a).1; omega
    | succ i =>
      cases j with
      | zero => obtain rfl : o = q := by simpa using l
                have:=(h.ok i p (by simpa using hi)).2.1 b a; have:=(e b c).1; omega
      | succ j=>exact h.dj i j p q (by simpa using hi) (by simpa using l) qO k b a c
  · obtain ⟨s,d⟩:=h.pb
    refine ⟨s,d.sub,fun b a=>uP (d.lt b a) f.size,fun i p hi k b a c=>?_,fun i F hi=>?_⟩
    · cases i with
      | zero =>
        obtain rfl:o=p:=by simpa using hi
        have:=d.lt b a; have:=(e b c).1; omega
      | succ i=>exact d.dj i p (by simpa using hi) k b a c
    · cases i with
      | zero=>exact absurd (by simpa using hi) (Own.OJ r F)
      | succ i=>exact d.stay (fun i o hi=>(h.ok i o hi).1) (fun b a=>f.block b (d.lt b a) id) (by simpa using hi)
theorem Mem.wk (h:Mem w0 M L w) {i:Nat} (hi:L[i]?=some o) (A:o'.holds w) (r:∀ b,o'.fp b->o.fp b) (s:o'.mut=true->o.mut=true) (y:o'.Cu=false:=by rfl):Mem w0 M (L.set i o') w:=by
 have d:i < L.length:=(yb.1 hi).1;refine ⟨h.fr,fun j p a=>?_,?_,?_⟩;rw [List.getElem?_set] at a;by_cases e:i=j;rw [zP e,zP d] at a;obtain rfl:o'=p:=by simpa using a
 obtain ⟨_,B,C⟩:=h.ok i o hi;exact ⟨A,fun b f=>B b (r b f),fun u b f=>C (s u) b (r b f)⟩;rw [zI e] at a;exact h.ok j p a;intro j k p q a l v g b f c;rw [List.getElem?_set] at a l;by_cases t:i=j;rw [zP t,zP d] at a;obtain rfl:o'=p:=by simpa using a
 rw [zI qO] at l;exact h.dj i k o q hi l qO (g.imp s id) b (r b f) c;rw [zI t] at a;by_cases x:i=k;rw [zP x,zP d] at l;obtain rfl:o'=q:=by simpa using l
 exact h.dj j i p o a hi (Ne.symm t) (g.imp id s) b f (r b c);rw [zI x] at l;exact h.dj j k p q a l v g b f c;obtain ⟨z,n⟩:=h.pb;refine ⟨z,n.sub,n.lt,fun j p a m b f c=>?_,fun j F a=>?_⟩;rw [List.getElem?_set] at a;by_cases e:i=j;rw [zP e,zP d] at a;obtain rfl:o'=p:=by simpa using a
 exact n.dj i o hi (s m) b f (r b c);rw [zI e] at a;exact n.dj j p a m b f c;rw [List.getElem?_set] at a;by_cases e:i=j;rw [zP e,zP d] at a;exact absurd (by simpa using a) (Own.OJ y F);rw [zI e] at a;exact n.at_ j F a
theorem Mem.sel (h:Mem w0 M L w) (is:List Nat) (r:is.Nodup) (he:L'.map some=is.map (fun i=>L[i]?)):Mem w0 M L' w:=by
 have a:∀ (j:Nat) (o:Own),L'[j]?=some o->∃ i:Nat,is[j]?=some i∧L[i]?=some o:=by
  intro j o b
  have f:(L'.map some)[j]?=some (some o):=by simp [b]
  rw [he,yV] at f
  cases hi:is[j]? with
  | none=>simp [hi] at f
  | some i=>exact ⟨i,rfl,by simpa [hi] using f⟩
 refine ⟨h.fr,fun j o b=>?_,fun j k o o' b t q x=>?_,?_⟩
 ·obtain ⟨i,_,hi⟩:=a j o b
  exact h.ok i o hi
 ·obtain ⟨i,f,hi⟩:=a j o b
  obtain ⟨u,v,p⟩:=a k o' t
  refine h.dj i u o o' hi p (fun e=>q ?_) x
  subst e
  obtain ⟨d,g⟩:=yb.1 f
  obtain ⟨m,l⟩:=yb.1 v
  rcases Nat.lt_trichotomy j k with c | rfl | c
  ·exact absurd (g.trans l.symm) (List.pairwise_iff_getElem.1 r j k d m c)
  ·rfl
  ·exact absurd (l.trans g.symm) (List.pairwise_iff_getElem.1 r k j m d c)
 ·obtain ⟨s,n⟩:=h.pb
  exact ⟨s,n.sub,n.lt,fun j o b=>by obtain ⟨i,_,hi⟩:=a j o b; exact n.dj i o hi,fun j F b=>by obtain ⟨i,_,hi⟩:=a j _ b; exact n.at_ i F hi⟩
theorem Mem.yO (h:Mem w0 M L w) {F:(Nat->Prop)->World->Prop} (l:Loc F) (k:∀ e,DP w0 M L w e->F e w):Mem w0 M (.pub F::L) w:=by
  refine ⟨h.fr,fun i p hi=>?_,?_,?_⟩
  · cases i with
    | zero => obtain rfl : Own.pub F = p := by simpa using hi
              exact ⟨l,fun b c=>c.elim,fun d=>by cases d⟩
    | succ i=>exact h.ok i p (by simpa using hi)
  · intro i j p q hi g m d b c a
    cases i with
    | zero =>
      obtain rfl:Own.pub F=p:=by simpa using hi
      exact c
    | succ i =>
      cases j with
      | zero => obtain rfl : Own.pub F = q := by simpa using g
                exact a
      | succ j=>exact h.dj i j p q (by simpa using hi) (by simpa using g) qO d b c a
  · obtain ⟨e,f⟩:=h.pb
    refine ⟨e,f.sub,f.lt,fun i p hi d b c a=>?_,fun i G hi=>?_⟩
    · cases i with
      | zero => obtain rfl : Own.pub F = p := by simpa using hi
                cases d
      | succ i=>exact f.dj i p (by simpa using hi) d b c a
    · cases i with
      | zero => obtain rfl : F = G := by simpa using hi
                exact k e f
      | succ i=>exact f.at_ i G (by simpa using hi)
theorem Mem.lay (h:Mem w0 M L w) {F:(Nat->Prop)->World->Prop} (t:Loc F) (n:Fr no w w') (v:∀ k,DP w0 M L w k->∃ e,(∀ b,e b->(k b∨w.heap.size<=b)∧b < w'.heap.size)∧F e w'):Mem w0 M (.pub F::L) w':=by
  have r:=h.Cl n
  have s:=h.fr.size
  refine ⟨r.fr,fun i p hi=>?_,?_,?_⟩
  · cases i with
    | zero => obtain rfl : Own.pub F = p := by simpa using hi
              exact ⟨t,fun b a=>a.elim,fun g=>by cases g⟩
    | succ i=>exact r.ok i p (by simpa using hi)
  · intro i j p q hi u x g b a c
    cases i with
    | zero =>
      obtain rfl:Own.pub F=p:=by simpa using hi
      exact a
    | succ i =>
      cases j with
      | zero => obtain rfl : Own.pub F = q := by simpa using u
                exact c
      | succ j=>exact h.dj i j p q (by simpa using hi) (by simpa using u) qO g b a c
  · obtain ⟨k,f⟩:=h.pb
    obtain ⟨e,m,o⟩:=v k f
    refine ⟨fun b=>k b∨e b,?_,?_,?_,?_⟩
    · rintro b (a | a)
      · exact f.sub b a
      · rcases (m b a).1 with l | l
        · exact f.sub b l
        · right; omega
    · rintro b (a | a)
      · exact uP (f.lt b a) n.size
      · exact (m b a).2
    · intro i p hi g b a c
      cases i with
      | zero => obtain rfl : Own.pub F = p := by simpa using hi
                cases g
      | succ i =>
        have d:L[i]?=some p:=by simpa using hi
        rcases a with a | a
        · exact f.dj i p d g b a c
        · rcases (m b a).1 with l | l
          · exact f.dj i p d g b l c
          · have:=(h.ok i p d).2.1 b c; omega
    · intro i G hi
      cases i with
      | zero => obtain rfl : F = G := by simpa using hi
                exact t e _ w' w' (fun b a=>.inr a) (fun _ _=>rfl) o
      | succ i =>
        have d:L[i]?=some (.pub G):=by simpa using hi
        exact ((h.ok i _ d).1:Loc G) k _ w w' (fun b a=>.inl a) (fun b a=>n.block b (f.lt b a) id) (f.at_ i G d)
theorem Mem.q3 (h:Mem w0 M L w) {i:Nat} (hi:L[i]?=some o) (s:o.mut=true) (z:∀ b,o.fp b->w0.heap.size<=b∨M.p b) {F:(Nat->Prop)->World->Prop} (y:Loc F) (x:∀ g,DP w0 M L w g->F (fun b=>g b∨o.fp b) w):Mem w0 M (L.set i (.pub F)) w:=by
 have f:i < L.length:=(yb.1 hi).1;refine ⟨h.fr,fun j p a=>?_,?_,?_⟩;rw [List.getElem?_set] at a;by_cases e:i=j;rw [zP e,zP f] at a;obtain rfl:Own.pub F=p:=by simpa using a
 exact ⟨y,fun b c=>c.elim,fun s=>by cases s⟩;rw [zI e] at a;exact h.ok j p a;intro j k p q a m n t b c d;rw [List.getElem?_set] at a m;by_cases u:i=j;rw [zP u,zP f] at a;obtain rfl:Own.pub F=p:=by simpa using a
 exact c;rw [zI u] at a;by_cases v:i=k;rw [zP v,zP f] at m;obtain rfl:Own.pub F=q:=by simpa using m
 exact d;rw [zI v] at m;exact h.dj j k p q a m n t b c d;obtain ⟨g,l⟩:=h.pb;refine ⟨fun b=>g b∨o.fp b,?_,?_,?_,?_⟩;rintro b (c | c);exact l.sub b c;exact (z b c).symm;rintro b (c | c);exact l.lt b c;exact (h.ok i o hi).2.1 b c;intro j p a r b c d;rw [List.getElem?_set] at a;by_cases e:i=j;rw [zP e,zP f] at a;obtain rfl:Own.pub F=p:=by simpa using a
 exact d;rw [zI e] at a;rcases c with c | c
 exact l.dj j p a r b c d;exact h.dj i j o p hi a e (.inl s) b c d;intro j G a;rw [List.getElem?_set] at a;by_cases e:i=j;rw [zP e,zP f] at a;obtain rfl:F=G:=by simpa using a
 exact x g l;rw [zI e] at a;exact ((h.ok j _ a).1:Loc G) g _ w w (fun b c=>.inl c) (fun _ _=>rfl) (l.at_ j G a)
theorem Mem.get (h:Mem w0 M L w) {i:Nat} (hi:L[i]?=some o):o.holds w:=(h.ok i o hi).1
theorem Mem.blk (h:Mem w0 M L w) {i b:Nat} {cs:List Value} {T:TypeId} (hi:L[i]?=some (.blk b cs T)):w.heap[b]?=some (.cells cs.toArray T (0,0)):=h.get hi
theorem Mem.row (h:Mem w0 M L w) {i k n:Nat} {v:Value} {e:TypeId} {a:List Value} (hi:L[i]?=some (.row v e k n a)):w.ownsRow 0 e k v n a:=h.get hi
theorem Mem.map (h:Mem w0 M L w) {i b n:Nat} {a:List MapEntry} (hi:L[i]?=some (.map b a n)):w.heap[b]?=some (.map a.toArray n):=h.get hi
theorem Mem.dat (h:Mem w0 M L w) {i:Nat} {S:Nat->Prop} {F:World->Prop} (hi:L[i]?=some (.dat S F)):F w:=(h.get hi).1
theorem Mem.yU (h:Mem w0 M L w) {i:Nat} {F:(Nat->Prop)->World->Prop} (hi:L[i]?=some (.pub F)):F (fun b=>b < w.heap.size) w:=by
 obtain ⟨c,a⟩:=h.pb;exact ((h.ok i _ hi).1:Loc F) c _ w w a.lt (fun _ _=>rfl) (a.at_ i F hi)
theorem Mem.new (h:Mem w0 M L w) (cs:List Value) (T:TypeId):Mem w0 M (.blk w.heap.size cs T::L) (w.alloc (.cells cs.toArray T)) :=
 h.add (Fr.alloc _ _ _) (heap_alloc_new w _) (fun b (a:b=_)=>by subst a; simp)
theorem Mem.drew (h:Mem w0 M L w):Mem w0 M L w.drew:=h.Cl (Fr.drew _ _)
end
def WC (P:Program) (N:Nat) (D:List Deferred) (c:Code) (Q:Exit->Act->World->Prop) (E:Env) (S:World->Prop):Prop:=∀ w,S w->∀ a,Has N D a E->c.wp P Q a w
def WL (P:Program) (N:Nat) (D:List Deferred) (ops:Array Oper) (Q:Exit->Act->World->Prop) (l:List Oper) (E:Env) (S:World->Prop):Prop:=∀ w,S w->∀ a,Has N D a E->wpList P ops Q l a w
def WQ (P:Program) (N:Nat) (D:List Deferred) (ops:Array Oper) (K:Act->World->Prop) (l:List Oper) (E:Env) (S:World->Prop):Prop :=
  ∀ a,Has N D a E->wpQuiet P ops S (fun a'=>∀ w',S w'->K a' w') l a
def WE (N:Nat) (D:List Deferred) (Q:Exit->Act->World->Prop) (e:Exit) (E:Env) (S:World->Prop):Prop:=∀ w,S w->∀ a,Has N D a E->Q e a w
section
variable {P:Program} {N:Nat} {D:List Deferred} {E E':Env} {S S':World->Prop} {Q:Exit->Act->World->Prop} {K:Act->World->Prop}
theorem ze {x y:Code} (h:∀ K:Act->World->Prop,(∀ E S,WC P N D y Q E S->∀ w,S w->∀ a,Has N D a E->K a w)->WC P N D x (Exit.then K Q) E S):WC P N D (.seq x y) Q E S :=
 fun w f a e=>wp_seq (h (fun a w=>y.wp P Q a w) (fun _ _ d w' c g b=>d w' c g b) w f a e)
theorem c_seq2 {x y z:Code} (h:∀ K2:Act->World->Prop,(∀ E S,WC P N D z Q E S->∀ w,S w->∀ a,Has N D a E->K2 a w)->∀ K1:Act->World->Prop,(∀ E S,WC P N D y (Exit.then K2 Q) E S->∀ w,S w->∀ a,Has N D a E->K1 a w)->WC P N D x (Exit.then K1 Q) E S):WC P N D (.seq x (.seq y z)) Q E S :=
 fun w g a f=>wp_seq (h (fun a w=>z.wp P Q a w) (fun _ _ d w' c e b=>d w' c e b) (fun a w=>(Code.seq y z).wp P Q a w) (fun _ _ d w' c e b=>wp_seq (d w' c e b)) w g a f)
theorem uJ {x y:Code} (E':Env) (S':World->Prop) (h:∀ K:Act->World->Prop,(∀ w,S' w->∀ a,Has N D a E'->K a w)->WC P N D x (Exit.then K Q) E S) (d:WC P N D y Q E' S'):WC P N D (.seq x y) Q E S :=
 fun w f a e=>wp_seq (h (fun a w=>y.wp P Q a w) (fun w' c g b=>d w' c g b) w f a e)
theorem zU {id:Nat} {l:List Oper} (h:WL P N D l.toArray Q l E S):WC P N D (.region id l.toArray false) Q E S:=fun w c a b=>wp_region_lit (h w c a b)
theorem TN {id:Nat} {l:List Oper} (e:P.follows .mixedOrders=true) (b:Region.lexB .any l.toArray=true) (c:∀ w,S w->S w.drew) (h:WQ P N D l.toArray (Q .normal) l E S):WC P N D (.region id l.toArray true) Q E S :=
 fun w f a d=>wp_region_quiet (C:=S) e b (c w f) (by simpa using h a d)
theorem vH {id:Nat} {c:Code} (h:WC P N D c (Exit.inBlock id Q) E S):WC P N D (.block id c) Q E S:=fun w d a b=>wp_block (h w d a b)
theorem vK (h:WE N D Q .ret E S):WC P N D .ret Q E S:=fun w c a b=>wp_ret (h w c a b)
theorem yW (h:WE N D Q .normal E S):WC P N D .skip Q E S:=fun w c a b=>wp_skip (h w c a b)
theorem yS {id:Nat} (h:WE N D Q (.exit id) E S):WC P N D (.exit id) Q E S:=fun w c a b=>wp_exit (h w c a b)
theorem yg {c:Operand} {x y:Code} {p:Prop} [Decidable p] (f:ev E c=some (.bool (decide p))) (g:p->WC P N D x Q E S) (e:¬ p->WC P N D y Q E S):WC P N D (.cond c x y) Q E S :=
 fun w d a b=>wp_cond_split (b.eval f) (fun h=>g (of_decide_eq_true h) w d a b) (fun h=>e (of_decide_eq_false h) w d a b)
theorem gm {c:Operand} {x y:Code} {b:Bool} (g:ev E c=some (.bool b)) (i:b=true->WC P N D x Q E S) (f:b=false->WC P N D y Q E S):WC P N D (.cond c x y) Q E S :=
 fun w e a d=>wp_cond_split (d.eval g) (fun h=>i h w e a d) (fun h=>f h w e a d)
theorem yh {c:Operand} {x y:Code} {b:Bool} (f:ev E c=some (.bool b)) (e:b=true) (h:WC P N D x Q E S):WC P N D (.cond c x y) Q E S:=by
 subst e; exact fun w g a d=>wp_cond_true (d.eval f) (h w g a d)
theorem yJ {c:Operand} {x y:Code} {b:Bool} (f:ev E c=some (.bool b)) (e:b=false) (h:WC P N D y Q E S):WC P N D (.cond c x y) Q E S:=by
 subst e; exact fun w g a d=>wp_cond_false (d.eval f) (h w g a d)
theorem c_loop {σ:Type} {c:Code} (f:σ->Env) (I:σ->World->Prop) (μ:σ->Nat) (t:σ) (he:BZ E (f t)) (C:∀ w,S w->I t w)
  (h:∀ s,WC P N D c (Exit.then (fun m w'=>∃ s',Has N D m (f s')∧I s' w'∧μ s' < μ s) Q) (f s) (I s)):WC P N D (.loop c) Q E S:=by
 intro w z a r b k cs
 have y:∀ n s a w,μ s=n->Has N D a (f s)->I s w ->
   ∃ e m w',Q e m w'∧Arrives P (lone (b.at a (.code c::.inLoop c::k)) cs w) b k cs e m w':=by
  intro n
  induction n using Nat.strongRecOn with
  | _ n ih =>
   intro s a w B r A
   obtain ⟨e,j,o,g,d⟩:=h s w A a r b (.inLoop c::k) cs
   cases e with
   | normal =>
    obtain ⟨s',q,u,v⟩:=g
    obtain ⟨H,F,G,p,i⟩:=ih (μ s') (B ▸ v) s' j o rfl q u
    exact ⟨H,F,G,p,.of_steps (Steps.trans d (.one step_inLoop)) i⟩
   | exit id=>exact ⟨_,j,o,g,.pass (x:=.inLoop c) rfl (fun _ _=>.inl qS) d⟩
   | goto l=>exact ⟨_,j,o,g,.pass (x:=.inLoop c) rfl (fun _ _=>.inl qS) d⟩
   | ret=>exact ⟨_,j,o,g,.pass (x:=.inLoop c) rfl (fun _ _=>.inl qS) d⟩
   | panic ch=>exact ⟨_,j,o,g,.pass (x:=.inLoop c) rfl (fun _ _=>.inl qS) d⟩
   | outgrown=>exact ⟨_,j,o,g,.pass (x:=.inLoop c) rfl (fun _ _=>.inl qS) d⟩
 obtain ⟨e,m,w',g,d⟩:=y _ t a w rfl (r.less he.all) (C w z)
 exact ⟨e,m,w',g,.of_steps (.one step_loop) d⟩
theorem uo {y:Code} (b:∀ E S,WC P N D y Q E S->∀ w,S w->∀ a,Has N D a E->K a w) (h:WC P N D y Q E S):WE N D (Exit.then K Q) .normal E S:=fun w d a c=>b E S h w d a c
theorem yc (b:∀ w,S' w->∀ a,Has N D a E'->K a w) (he:BZ E E') (d:∀ w,S w->S' w):WE N D (Exit.then K Q) .normal E S:=fun w e a c=>b w (d w e) a (c.less he.all)
theorem zw {id:Nat} (h:WE N D Q (.exit id) E S):WE N D (Exit.then K Q) (.exit id) E S:=h
theorem yC (h:WE N D Q .ret E S):WE N D (Exit.then K Q) .ret E S:=h
theorem zj {id:Nat} (h:WE N D Q .normal E S):WE N D (Exit.inBlock id Q) .normal E S:=h
theorem vD {id:Nat} (h:WE N D Q .ret E S):WE N D (Exit.inBlock id Q) .ret E S:=h
theorem zx {id:Nat} (h:WE N D Q .normal E S):WE N D (Exit.inBlock id Q) (.exit id) E S:=fun w c a b=>by
 show (if id=id then Q .normal a w else Q (.exit id) a w)
 rw [zP rfl]; exact h w c a b
theorem vF {id b:Nat} (c:Nat.beq b id=false) (h:WE N D Q (.exit b) E S):WE N D (Exit.inBlock id Q) (.exit b) E S:=fun w e a d=>by
 show (if b=id then Q .normal a w else Q (.exit b) a w)
 rw [zI (Nat.ne_of_beq_eq_false c)]; exact h w e a d
def AR (P:Program) (N:Nat) (D:List Deferred) (E:Env) (S:World->Prop) (op:Op) (ty:TypeId) (v:Value):Prop :=
  ∀ o:Oper,o.op=op->o.type=ty->∀ a w,Has N D a E->S w->(execOp a.eval o).run P w=.ok (.value v) w
def Want (N:Nat) (D:List Deferred) (ops:Array Oper) (E:Env) (g:Option (Nat × Bool)) (b:Bool):Prop:=∀ o:Oper,o.guard=g->∀ a,Has N D a E->Region.wanted o (yielded ops a.tmps)=b
theorem wn {ops:Array Oper}:Want N D ops E none true:=fun o b a _=>by simp [Region.wanted,b]
theorem wg {ops:Array Oper} {j d:Nat} {c b r:Bool} (l:(ops[j]?).bind (·.dst)=some d) (f:look E d=some (.bool b)) (k:(b == c)=r):Want N D ops E (some (j,c)) r:=fun o i a g=>by
 have e:=g.h d _ f
 simp only [Region.wanted,i,yielded,l,Option.bind_some,e]
 rw [<-k]; cases b <;> cases c <;> rfl
variable {ops:Array Oper} {rest:List Oper} {d:Nat} {op:Op} {ty:TypeId} {pos:String} {aft:Array Edge} {g:Option (Nat × Bool)} {v:Value}
theorem zK (h:WE N D Q .normal E S):WL P N D ops Q [] E S:=h
theorem gQ (f:Want N D ops E g false) (e:Nat.blt d N=true) (h:WL P N D ops Q rest ((d,undef)::E) S):WL P N D ops Q (⟨some d,op,ty,pos,aft,g⟩::rest) E S:=fun w c a b=>by
 unfold wpList
 rw [zI (by rw [f _ rfl a b]; exact Bool.false_ne_true)]
 exact h w c _ (b.put _ e)
theorem qr (i:Want N D ops E g true) (f:AR P N D E S op ty v) (e:Nat.blt d N=true) (h:WL P N D ops Q rest ((d,v)::E) S):WL P N D ops Q (⟨some d,op,ty,pos,aft,g⟩::rest) E S:=fun w c a b=>by
 unfold wpList
 rw [zP (i _ rfl a b)]
 left
 unfold Oper.wp
 rw [f _ rfl rfl a w b c]
 exact h w c _ (b.put _ e)
theorem uQ {t:Nat} {p:Prop} [Decidable p] {l:List Oper} (k:look E t=some (.bool (decide p))) (j:p->WL P N D ops Q l ((t,.bool true)::E) S) (m:¬ p->WL P N D ops Q l ((t,.bool false)::E) S):WL P N D ops Q l E S:=fun w i a c=>by
 have g:=c.h t _ k
 by_cases f:p
 ·refine j f w i a ⟨c.d,c.n,fun s u b=>?_⟩
  rw [Cp] at b
  by_cases e:t=s
  ·rw [zP e] at b; rw [<-e,g,vM f]; simpa using b
  ·rw [zI e] at b; exact c.h s u b
 ·refine m f w i a ⟨c.d,c.n,fun s u b=>?_⟩
  rw [Cp] at b
  by_cases e:t=s
  ·rw [zP e] at b; rw [<-e,g,yq f]; simpa using b
  ·rw [zI e] at b; exact c.h s u b
theorem q_nil (h:WE N D (fun _=>K) .normal E S):WQ P N D ops K [] E S:=fun a c=>wpQuiet_nil (fun w' b=>h w' b a c)
theorem q_skip (f:Want N D ops E g false) (c:Nat.blt d N=true) (h:WQ P N D ops K rest ((d,undef)::E) S):WQ P N D ops K (⟨some d,op,ty,pos,aft,g⟩::rest) E S:=fun a b=>by
 refine wpQuiet_step fun K' e=>?_
 rw [zI (by rw [f _ rfl a b]; exact Bool.false_ne_true)]
 exact e _ (h _ (b.put _ c))
theorem q_val (c:Want N D ops E g true) (i:AR P N D E S op ty v) (f:Nat.blt d N=true) (h:WQ P N D ops K rest ((d,v)::E) S):WQ P N D ops K (⟨some d,op,ty,pos,aft,g⟩::rest) E S:=fun a b=>by
 refine wpQuiet_step fun K' e=>?_
 rw [zP (c _ rfl a b)]
 refine ⟨v,fun w c=>?_,e _ (h _ (b.put _ f))⟩
 unfold Oper.quietAt
 rw [i _ rfl rfl a w b c]
 exact ⟨rfl,rfl⟩
theorem q_case {t:Nat} {p:Prop} [Decidable p] {l:List Oper} (j:look E t=some (.bool (decide p))) (i:p->WQ P N D ops K l ((t,.bool true)::E) S) (k:¬ p->WQ P N D ops K l ((t,.bool false)::E) S):WQ P N D ops K l E S:=fun a c=>by
 have g:=c.h t _ j
 by_cases f:p
 ·refine i f a ⟨c.d,c.n,fun s u b=>?_⟩
  rw [Cp] at b
  by_cases e:t=s
  ·rw [zP e] at b; rw [<-e,g,vM f]; simpa using b
  ·rw [zI e] at b; exact c.h s u b
 ·refine k f a ⟨c.d,c.n,fun s u b=>?_⟩
  rw [Cp] at b
  by_cases e:t=s
  ·rw [zP e] at b; rw [<-e,g,yq f]; simpa using b
  ·rw [zI e] at b; exact c.h s u b
end
end Ex
end
section
namespace Ex
open Go.RowKit (wrap64)
def Inf (P:Program) (t:TypeId) (k bytes:Nat) (z:Value):Prop:=(P.info? t).map (fun i=>(i.zero,i.size,i.bytes))=some (some z,k,bytes)
theorem Inf.get {P:Program} {t:TypeId} {k a:Nat} {z:Value} (h:Inf P t k a z):∃ i,P.info? t=some i∧i.zero=some z∧i.size=k∧i.bytes=a:=by
 unfold Inf at h
 cases hi:P.info? t with
 | none=>simp [hi] at h
 | some i =>
  simp only [hi,Option.map_some,Option.some.injEq,Prod.mk.injEq] at h
  exact ⟨i,rfl,h.1,h.2.1,h.2.2⟩
def Cv (P:Program) (t:TypeId):Bool:=match P.underlying t with
  | some (.struct _) | some (.array _ _) | none=>false
  | _=>true
def Dh (P:Program) (t:TypeId):Bool:=match P.underlying t with
  | some (.struct _) | some (.array _ _)=>true
  | _=>false
def DN (P:Program) (s k:Nat):Option Nat:=match P.underlying s with
  | some (.struct fs) => match fs[k]? with
    | some f => match (P.info? f.type).map (·.size) with
      | some (_ + 1)=>some f.offset
      | _=>none
    | none=>none
  | _=>none
def placesOf (P:Program) (t:TypeId):Option (List (Nat × Nat)):=match P.underlying t with
  | some (.struct fs)=>fs.toList.mapM fun f=>(P.info? f.type).map fun i=>(f.offset,i.size)
  | _=>none
theorem Ku {P:Program} {t:TypeId} (h:Cv P t=true) (w:World):(isAgg t).run P w=.ok false w:=by
 unfold Cv at h
 cases hd:P.underlying t with
 | none=>simp [hd] at h
 | some d=>cases d <;> first | (simp [hd] at h; done) | simp [isAgg,run_underlying hd]
theorem Ha {P:Program} {t:TypeId} (h:Dh P t=true) (w:World):(isAgg t).run P w=.ok true w:=by
 unfold Dh at h
 cases hd:P.underlying t with
 | none=>simp [hd] at h
 | some d=>cases d <;> first | (simp [hd] at h; done) | simp [isAgg,run_underlying hd]
theorem Bk {P:Program} {t:TypeId} {k a:Nat} {z:Value} (h:Inf P t k a z) (w:World):(sizeOf t).run P w=.ok k w:=by
 obtain ⟨i,c,_,b,_⟩:=h.get;simp [sizeOf,typeInfo,c,b]
theorem Cg {P:Program} {t:TypeId} {k a:Nat} {z:Value} (h:Inf P t k a z) (w:World):(zeroValue t).run P w=.ok z w:=by
 obtain ⟨i,b,c,_,_⟩:=h.get;simp [zeroValue,typeInfo,b,c]
def evs (E:Env):List Operand->Option (List Value)
  | []=>some []
  | x :: r => match ev E x, evs E r with
    | some v,some vs=>some (v::vs)
    | _,_=>none
def evp (E:Env):List (Nat × Operand)->Option (List (Nat × Value))
  | []=>some []
  | x :: r => match ev E x.2, evp E r with
    | some v,some vs=>some ((x.1,v)::vs)
    | _,_=>none
section
variable {P:Program} {N:Nat} {D:List Deferred} {E:Env} {S:World->Prop} {a:Act}
theorem KU (b:Has N D a E):∀ {l:List Operand} {vs:List Value},evs E l=some vs->l.map a.eval=vs
 | [],vs,h=>by simpa [evs] using h
 | x :: r, vs, h => by
  unfold evs at h
  cases h1:ev E x with
  | none=>simp [h1] at h
  | some v =>
   cases h2:evs E r with
   | none=>simp [h1,h2] at h
   | some us =>
    simp only [h1,h2,Option.some.injEq] at h
    rw [<-h,List.map_cons,b.eval h1,KU b h2]
theorem KI (b:Has N D a E):∀ {l:List (Nat × Operand)} {vs:List (Nat × Value)},evp E l=some vs->l.map (fun x=>(x.1,a.eval x.2))=vs
 | [],vs,h=>by simpa [evp] using h
 | x :: r, vs, h => by
  unfold evp at h
  cases h1:ev E x.2 with
  | none=>simp [h1] at h
  | some v =>
   cases h2:evp E r with
   | none=>simp [h1,h2] at h
   | some us =>
    simp only [h1,h2,Option.some.injEq] at h
    rw [<-h,List.map_cons,b.eval h1,KI b h2]
variable {x y z c:Operand} {u v:Value} {k k':IntKind} {m n:Int} {T T' ty:TypeId}
theorem jy (d:ev E x=some v):AR P N D E S (.move x) ty v:=fun o c _ a w b _=>by unfold execOp; rw [c]; simp [b.eval d]
theorem PO (d:ev E x=some v):AR P N D E S (.assign x) ty v:=fun o c _ a w b _=>by unfold execOp; rw [c]; simp [b.eval d]
theorem yy {b:Bool} (e:ev E c=some (.bool b)) (f:(bif b then ev E x else ev E y)=some v):AR P N D E S (.pick c x y) ty v:=fun o g _ a w d _=>by
 unfold execOp; rw [g]
 cases b
 ·simp [d.eval e,asBool,d.eval (show ev E y=some v from f)]
 ·simp [d.eval e,asBool,d.eval (show ev E x=some v from f)]
theorem jD {i:Nat} {vs:List Value} (d:ev E x=some (.tuple vs.toArray)) (e:vs[i]?=some v):AR P N D E S (.extract x i) ty v:=fun o c _ a w b _=>by
 unfold execOp; rw [c]
 simp [b.eval d,Instr.extract,e]
theorem vG {ad:Addr} (d:ev E x=some (.pointer (some ad))):AR P N D E S (.nilCheck x) ty (.pointer (some ad)):=fun o c _ a w b _=>by
 unfold execOp; rw [c]
 simp [b.eval d]
theorem ibeq (m n:Int):(m == n)=decide (m=n):=by rfl
section
variable (hx:ev E x=some (.int k m)) (hy:ev E y=some (.int k n))
include hx hy
theorem uq:AR P N D E S (.binOp .add T x y T') ty (.int k (k.wrap (m + n))):=fun o c _ a w b _=>by unfold execOp; rw [c]; simp [b.eval hx,b.eval hy,eqGuard_at_int,binOp_add,Op.intArith]
theorem qd:AR P N D E S (.binOp .sub T x y T') ty (.int k (k.wrap (m - n))):=fun o c _ a w b _=>by unfold execOp; rw [c]; simp [b.eval hx,b.eval hy,eqGuard_at_int,binOp_sub,Op.intArith]
theorem r_mul:AR P N D E S (.binOp .mul T x y T') ty (.int k (k.wrap (m * n))):=fun o c _ a w b _=>by unfold execOp; rw [c]; simp [b.eval hx,b.eval hy,eqGuard_at_int,binOp_mul,Op.intArith]
theorem r_quo (d:n≠0):AR P N D E S (.binOp .quo T x y T') ty (.int k (k.wrap (m.tdiv n))):=fun o c _ a w b _=>by unfold execOp; rw [c]; simp [b.eval hx,b.eval hy,eqGuard_at_int,binOp_quo,Op.intDiv,d]
theorem gE (d:n≠0):AR P N D E S (.binOp .rem T x y T') ty (.int k (m.tmod n)):=fun o c _ a w b _=>by unfold execOp; rw [c]; simp [b.eval hx,b.eval hy,eqGuard_at_int,binOp_rem,Op.intDiv,d]
theorem jE:AR P N D E S (.binOp .lss T x y T') ty (.bool (decide (m < n))):=fun o c _ a w b _=>by unfold execOp; rw [c]; simp [b.eval hx,b.eval hy,eqGuard_at_int,binOp_lss]
theorem r_leq:AR P N D E S (.binOp .leq T x y T') ty (.bool (decide (m<=n))):=fun o c _ a w b _=>by unfold execOp; rw [c]; simp [b.eval hx,b.eval hy,eqGuard_at_int,binOp_leq]
theorem jV:AR P N D E S (.binOp .gtr T x y T') ty (.bool (decide (n < m))):=fun o c _ a w b _=>by unfold execOp; rw [c]; simp [b.eval hx,b.eval hy,eqGuard_at_int,binOp_gtr]
theorem r_geq:AR P N D E S (.binOp .geq T x y T') ty (.bool (decide (n<=m))):=fun o c _ a w b _=>by unfold execOp; rw [c]; simp [b.eval hx,b.eval hy,eqGuard_at_int,binOp_geq]
theorem jX:AR P N D E S (.binOp .eql T x y T') ty (.bool (decide (m=n))):=fun o c _ a w b _=>by
 unfold execOp; rw [c]; simp [b.eval hx,b.eval hy,eqGuard_at_int,binOp_eql,ibeq]
theorem gc:AR P N D E S (.binOp .neq T x y T') ty (.bool (decide (m≠n))):=fun o c _ a w b _=>by
 unfold execOp; rw [c]; simp [b.eval hx,b.eval hy,eqGuard_at_int,binOp_neq,bne,ibeq]
theorem r_min:AR P N D E S (.call { callee:=.builtin .min,args:=#[x,y],argTypes:=#[T,T'] }) ty (.int k (if n < m then n else m)):=fun o d c a w b _=>by
 unfold execOp; rw [d]; simp [resolve,invoke,builtin,Builtin.min_,b.eval hx,b.eval hy,Builtin.min2]
theorem ge:AR P N D E S (.call { callee:=.builtin .max,args:=#[x,y],argTypes:=#[T,T'] }) ty (.int k (if m < n then n else m)):=fun o d c a w b _=>by
 unfold execOp; rw [d]; simp [resolve,invoke,builtin,Builtin.max_,b.eval hx,b.eval hy,Builtin.max2]
end
theorem Fx {n:Int} (h:-9223372036854775808<=n∧n<=9223372036854775807):IntKind.i64.wrap n=n:=IntWalk.i64_in n h
section
variable (hx:ev E x=some (.int .i64 m)) (hy:ev E y=some (.int .i64 n))
include hx hy
theorem vf (h:-9223372036854775808<=m + n∧m + n<=9223372036854775807):AR P N D E S (.binOp .add T x y T') ty (.int .i64 (m + n)):=by have:=uq (P:=P) (N:=N) (D:=D) (S:=S) (T:=T) (T':=T') (ty:=ty) hx hy; rwa [Fx h] at this
theorem gR (h:-9223372036854775808<=m - n∧m - n<=9223372036854775807):AR P N D E S (.binOp .sub T x y T') ty (.int .i64 (m - n)):=by have:=qd (P:=P) (N:=N) (D:=D) (S:=S) (T:=T) (T':=T') (ty:=ty) hx hy; rwa [Fx h] at this
theorem gS (h:-9223372036854775808<=m * n∧m * n<=9223372036854775807):AR P N D E S (.binOp .mul T x y T') ty (.int .i64 (m * n)):=by have:=r_mul (P:=P) (N:=N) (D:=D) (S:=S) (T:=T) (T':=T') (ty:=ty) hx hy; rwa [Fx h] at this
theorem r_quon (a:0<=m∧m<=9223372036854775807) (f:0 < n):AR P N D E S (.binOp .quo T x y T') ty (.int .i64 (m / n)):=by
 have b:=r_quo (P:=P) (N:=N) (D:=D) (S:=S) (T:=T) (T':=T') (ty:=ty) hx hy qO
 have c:m.tdiv n=m / n:=Int.tdiv_eq_ediv_of_nonneg a.1
 have d:0<=m / n:=Int.ediv_nonneg a.1 qO
 have e:m / n<=m:=Int.ediv_le_self _ a.1
 rwa [c,Fx qO] at b
theorem r_remn (b:0<=m) (c:0 < n):AR P N D E S (.binOp .rem T x y T') ty (.int .i64 (m % n)):=by
 have a:=gE (P:=P) (N:=N) (D:=D) (S:=S) (T:=T) (T':=T') (ty:=ty) hx hy qO
 rwa [Int.tmod_eq_emod_of_nonneg b] at a
end
theorem qt {p:Prop} [Decidable p] (d:ev E x=some (.bool (decide p))):AR P N D E S (.unOp .not T x) ty (.bool (decide (¬ p))):=fun o c _ a w b _=>by unfold execOp; rw [c]; simp [b.eval d,Op.unary]
theorem zz {b:Bool} (e:ev E x=some (.bool b)):AR P N D E S (.unOp .not T x) ty (.bool (!b)):=fun o d _ a w c _=>by unfold execOp; rw [d]; simp [c.eval e,Op.unary]
theorem r_neg (d:ev E x=some (.int .i64 m)) (h:-9223372036854775807<=m∧m<=9223372036854775807):AR P N D E S (.unOp .neg T x) ty (.int .i64 (-m)):=fun o c _ a w b _=>by
 unfold execOp; rw [c]; simp [b.eval d,Op.unary,Op.intArith,Fx (n:=-m) qO]
theorem qi (h:ev E x=some (.int k m)) (c:(P.underlying T).isSome=true) (e:P.underlying T'=some (.int k')):AR P N D E S (.convert T T' x) ty (.int k' (k'.wrap m)):=fun o g _ a w f _=>by
 obtain ⟨d,b⟩:=Option.isSome_iff_exists.mp c
 unfold execOp; rw [g]; simp [f.eval h,convert,run_underlying b,run_underlying e,Conv.intToInt]
section
variable {s t:ByteArray}
theorem KJ (s t:ByteArray):(s.toList == t.toList)=decide (s=t):=by
 by_cases h:s=t
 ·subst h; simp
 ·have:¬ s.toList=t.toList:=fun e=>h (by
   rw [ByteArray.toList_eq,ByteArray.toList_eq] at e
   obtain ⟨⟨x⟩⟩:=s
   obtain ⟨⟨y⟩⟩:=t
   simp at e
   rw [e])
  simp [h,this]
section
variable (hx:ev E x=some (.string s)) (hy:ev E y=some (.string t))
include hx hy
theorem r_seql:AR P N D E S (.binOp .eql T x y T') ty (.bool (decide (s=t))):=fun o c _ a w b _=>by
 unfold execOp; rw [c]; simp only [b.eval hx,b.eval hy,eqGuard_at_string]; simp [binOp,Op.stringOp,KJ]
theorem r_sneq:AR P N D E S (.binOp .neq T x y T') ty (.bool (decide (s≠t))):=fun o c _ a w b _=>by
 unfold execOp; rw [c]; simp only [b.eval hx,b.eval hy,eqGuard_at_string]; simp [binOp,Op.stringOp,KJ]
theorem r_slss:AR P N D E S (.binOp .lss T x y T') ty (.bool (Op.bytesLess s.toList t.toList)):=fun o c _ a w b _=>by
 unfold execOp; rw [c]; simp only [b.eval hx,b.eval hy,eqGuard_at_string]; simp [binOp,Op.stringOp]
theorem r_sgtr:AR P N D E S (.binOp .gtr T x y T') ty (.bool (!(Op.bytesLess s.toList t.toList || decide (s=t)))):=fun o c _ a w b _=>by
 unfold execOp; rw [c]; simp only [b.eval hx,b.eval hy,eqGuard_at_string]; simp [binOp,Op.stringOp,KJ]
theorem r_sgeq:AR P N D E S (.binOp .geq T x y T') ty (.bool (!(Op.bytesLess s.toList t.toList))):=fun o c _ a w b _=>by
 unfold execOp; rw [c]; simp only [b.eval hx,b.eval hy,eqGuard_at_string]; simp [binOp,Op.stringOp]
theorem r_sleq:AR P N D E S (.binOp .leq T x y T') ty (.bool (Op.bytesLess s.toList t.toList || decide (s=t))):=fun o c _ a w b _=>by
 unfold execOp; rw [c]; simp only [b.eval hx,b.eval hy,eqGuard_at_string]; simp [binOp,Op.stringOp,KJ]
end
theorem r_slen (f:ev E x=some (.string s)) (c:P.underlying T=some .string):AR P N D E S (.call { callee:=.builtin .len,args:=#[x],argTypes:=#[T] }) ty (.int .i64 s.size):=fun o e b a w d _=>by
 unfold execOp; rw [e]; simp [resolve,invoke,builtin,d.eval f,Builtin.len_,run_underlying c,goInt]
theorem ua {i:Nat} {b:UInt8} (j:ev E x=some (.string s)) (e:ev E y=some (.int k m)) (h:m=(i:Int)) (hi:s[i]?=some b) (f:P.underlying T=some .string):AR P N D E S (.index T x y) ty (.int .u8 b.toNat):=fun o g d a w c _=>by
 unfold execOp; rw [g]; subst h; simp [c.eval j,c.eval e,Instr.index,asIntOf,run_underlying f,hi]
theorem RC {l:Nat} (h:ev E x=some (.string s)) (e:ev E y=some (.int k m)) (g:m=(l:Int)) (i:l<=s.size) (b:P.underlying T=some .string):AR P N D E S (.slice T x (some y) none none) ty (.string (s.extract l s.size)):=fun o f d a w c _=>by
 unfold execOp; rw [f]; subst g
 simp only [c.eval h,c.eval e,Option.map_some,Option.map_none,Sem.run_bind,run_sliceAt_string w T _ _ _ _ b,run_slice_string_l w T s b k l qO qO,Result.andThen_ok,Sem.run_pure,Int.toNat_natCast]
theorem u3 {l h:Nat} (q:ev E x=some (.string s)) (e:ev E y=some (.int k m)) (p:m=(l:Int)) (r:ev E z=some (.int k' n)) (j:n=(h:Int)) (f:l<=h) (g:h<=s.size) (c:P.underlying T=some .string) :
  AR P N D E S (.slice T x (some y) (some z) none) ty (.string (s.extract l h)):=fun o i d a w b _=>by
 unfold execOp; rw [i]; subst p j
 simp only [b.eval q,b.eval e,b.eval r,Option.map_some,Option.map_none,Sem.run_bind,run_sliceAt_string w T _ _ _ _ c]
 simp [Instr.slice,run_underlying c,Instr.sliceBounds,Instr.sliceBound,asIntOf,f,g]
end
section
variable {A:Option Addr} {len cap:Nat} {ad:Addr}
theorem ur (f:ev E x=some (.slice A len cap)) (c:P.underlying T=some (.slice T')):AR P N D E S (.call { callee:=.builtin .len,args:=#[x],argTypes:=#[T] }) ty (.int .i64 len):=fun o e b a w d _=>by
 unfold execOp; rw [e]; simp [resolve,invoke,builtin,d.eval f,Builtin.len_,run_underlying c,goInt]
theorem Jp {s c b:Nat} (a:DN P s c=some b) (w:World):(Instr.fieldAt s (.pointer (some ad)) c).run P w=.ok (.pointer (some (ad.add b))) w:=by
 unfold DN at a
 cases hu:P.underlying s with
 | none=>simp [hu] at a
 | some d =>
  cases d <;> try (simp [hu] at a; done)
  rename_i l
  simp only [hu] at a
  cases hl:l[c]? with
  | none=>simp [hl] at a
  | some f =>
   simp only [hl] at a
   cases hi:P.info? f.type with
   | none=>simp [hi] at a
   | some i =>
    cases hs:i.size with
    | zero=>simp [hi,hs] at a
    | succ q =>
     simp only [hi,Option.map_some,hs,Option.some.injEq] at a
     subst a
     simp [Instr.fieldAt,run_underlying hu,hl,Instr.sureAddr,fieldPlace,sizeOf,typeInfo,hi,hs]
theorem add_lit (b o n:Nat):Addr.add ⟨b,o,none⟩ n=⟨b,o + n,none⟩:=Addr.add_lit b o n
theorem add_add (ad:Addr) (i j:Nat):(ad.add i).add j=ad.add (i + j):=by
 unfold Addr.add;by_cases hi:i=0 <;> by_cases a:j=0 <;> simp [hi,a,Nat.add_assoc]
theorem Ck (ad:Addr) (n:Nat):(ad.add n).block=ad.block:=by unfold Addr.add; split <;> rfl
theorem vk {b o d c:Nat} (h:ev E x=some (.pointer (some ⟨b,o,none⟩))) (f:DN P T d=some c):AR P N D E S (.fieldAddr T x d) ty (.pointer (some ⟨b,o + c,none⟩)):=fun p e _ a w g _=>by
 unfold execOp; rw [e]; simp [g.eval h,Jp f,add_lit]
theorem qJ {i o c b:Nat} (g:ev E x=some (.pointer (some ((ad.add i).add o)))) (e:DN P T c=some b):AR P N D E S (.fieldAddr T x c) ty (.pointer (some ((ad.add i).add (o + b)))):=fun p d _ a w f _=>by
 unfold execOp; rw [d]; simp [f.eval g,Jp e,add_add,Nat.add_assoc]
theorem vO {i c b:Nat} {l:Value} (o:ev E x=some (.slice A len cap)) (j:A=some ad) (f:ev E y=some (.int k m)) (n:m=(i:Int)) (hi:i < len) (h:P.underlying T=some (.slice T')) (e:Inf P T' c b l) :
  AR P N D E S (.indexAddr T x y) ty (.pointer (some ((ad.add (i * c)).add 0))):=fun p g _ a w d _=>by
 unfold execOp; rw [g]; subst j n
 simp [d.eval o,d.eval f,Instr.indexAt,asIntOf,run_underlying h,hi,Bk e,Addr.add_zero']
theorem jh (g:ev E x=some (.pointer (some ad))) (c:Cv P T=true) (e:∀ w,S w->w.cell? ad=some v):AR P N D E S (.load T x) ty v:=fun p b _ a w d f=>by
 unfold execOp; rw [b]; simp [d.eval g,Instr.loadAt,Instr.sureAddr,loadVar,Ku c,e w f]
theorem jj {c b:Nat} {l:Value} (cs:List Value) (m:ev E x=some (.pointer (some ad))) (h:Dh P T=true) (d:Inf P T c b l) (f:cs.length=c) (i:∀ w,S w->∀ (j:Nat) u,cs[j]?=some u->w.cell? (ad.add j)=some u) :
  AR P N D E S (.load T x) ty (.agg cs.toArray):=fun p e _ a w g k=>by
 subst f
 unfold execOp; rw [e]; simp [g.eval m,Instr.loadAt,Instr.sureAddr,loadVar,Ha h,Bk d,run_loadCells_list w ad cs (i w k)]
end
section
variable {w0:World} {M:Fp} {L:List Own}
theorem Mem.cell {w:World} (h:Mem w0 M L w) {i b j:Nat} {cs:List Value} {t:TypeId} (hi:L[i]?=some (.blk b cs t)):w.cell? ⟨b,j,none⟩=cs[j]?:=by
 rw [cell_of_row w b j _ t (0,0) (h.blk hi)]; simp
theorem vZ (i:Nat) {b j:Nat} {cs:List Value} {t:TypeId} (c:ev E x=some (.pointer (some ⟨b,j,none⟩))) (d:L[i]?=some (.blk b cs t)) (e:cs[j]?=some v) (a:Cv P T=true):AR P N D E (Mem w0 M L) (.load T x) ty v :=
 jh c a fun _ h=>(h.cell d).trans e
theorem gh (i:Nat) {b j c d:Nat} {l:Value} {cs:List Value} {t:TypeId} (vs:List Value) (n:ev E x=some (.pointer (some ⟨b,j,none⟩))) (m:L[i]?=some (.blk b cs t)) (f:(cs.drop j).take c=vs) (g:vs.length=c) (k:Dh P T=true) (e:Inf P T c d l) :
  AR P N D E (Mem w0 M L) (.load T x) ty (.agg vs.toArray) :=
 jj vs n k e g fun _ h q u a=>by
  rw [add_lit,h.cell m]
  rw [<-f,List.getElem?_take] at a
  split at a
  ·simpa using a
  ·cases a
end
def BP (cs:List Value) (o:Nat) (vs:List Value):List Value:=cs.take o++(vs++cs.drop (o + vs.length))
def QQ (pl:List (Nat × Nat)):List Value->List (Nat × Value)->Option (List Value)
  | cs,[]=>some cs
  | cs, p :: r => match pl[p.1]? with
    | none=>none
    | some q => match Nat.beq p.2.cells.toList.length q.2, Nat.ble (q.1 + p.2.cells.toList.length) cs.length with
      | true,true=>QQ pl (BP cs q.1 p.2.cells.toList) r
      | _,_=>none
theorem GJ (a:Nat):∀ (vs:List Value) (j:Nat) (cs:List Value),a + j + vs.length<=cs.length ->
  (vs.zipIdx j).foldl (fun (cs:Array Value) (x:Value × Nat)=>cs.setIfInBounds (a + x.2) x.1) cs.toArray=(BP cs (a + j) vs).toArray
 | [],j,cs,_=>by simp [BP]
 | v :: r, j, cs, h => by
  simp only [List.length_cons] at h
  simp only [List.zipIdx_cons,List.foldl_cons]
  have e:(cs.toArray.setIfInBounds (a + j) v)=(cs.set (a + j) v).toArray:=qS
  rw [e,GJ a r (j + 1) _ (by simp; omega)]
  congr 1
  have:=list_seg_step cs (a + j) v r qO
  simp only [BP,<-ub]
  simpa [Nat.add_assoc] using this
theorem Lj (c:List (Nat × Nat)):∀ (a:List (Nat × Value)) (cs cs':List Value),QQ c cs a=some cs'->Instr.fill (fun i=>c.toArray[i]?) cs.toArray a=some cs'.toArray
 | [],cs,cs',h=>by simp [QQ] at h; simp [Instr.fill,h]
 | p :: r, cs, cs', h => by
  obtain ⟨i,v⟩:=p
  unfold QQ at h
  unfold Instr.fill
  dsimp only at h ⊢
  have e:c.toArray[i]?=c[i]?:=qS
  rw [e]
  cases hq:c[i]? with
  | none=>rw [hq] at h; cases h
  | some q =>
   obtain ⟨b,size⟩:=q
   rw [hq] at h
   dsimp only at h ⊢
   cases h1:Nat.beq v.cells.toList.length size with
   | false=>rw [h1] at h; cases h
   | true =>
    cases h2:Nat.ble (b + v.cells.toList.length) cs.length with
    | false=>rw [h1,h2] at h; cases h
    | true =>
     rw [h1,h2] at h
     have g:v.cells.size=size:=by simpa using Nat.eq_of_beq_eq_true h1
     have d:b + v.cells.size<=cs.length:=by simpa using Nat.le_of_ble_eq_true h2
     have f:¬ ((decide (v.cells.size≠size) || decide (b + v.cells.size > cs.toArray.size))=true):=by simp; omega
     rw [zI f,<-Lj c r _ cs' h]
     have:=GJ b v.cells.toList 0 cs (by simpa using d)
     simp only [Nat.add_zero] at this
     rw [<-this,<-Array.foldl_toList]
     simp
theorem uE {g:List (Nat × Nat)} {b:Array (Nat × Operand)} {e:List (Nat × Value)} {l h:Nat} {f:List Value} (cs:List Value) (c:placesOf P T=some g) (k:Inf P T l h (.agg f.toArray)) (he:evp E b.toList=some e) (p:QQ g f e=some cs) :
  AR P N D E S (.build T b) ty (.agg cs.toArray):=fun o s _ a w q _=>by
 unfold execOp; rw [s]
 have m:(b.map fun (i,x)=>(i,a.eval x)).toList=e:=by
  rw [Array.toList_map]; exact KI q he
 have r:P.built T e=some cs.toArray:=by
  obtain ⟨i,n,j,t,_⟩:=k.get
  unfold placesOf at c
  cases hu:P.underlying T with
  | none=>simp [hu] at c
  | some d =>
   cases d <;> try (simp [hu] at c; done)
   rename_i u
   simp only [hu] at c
   unfold Program.built
   simp only [n,hu,j,c]
   exact Lj g e f cs p
 simp only [Sem.run_bind,run_build w T _ _ (by rw [m]; exact r),Result.andThen_ok,Sem.run_pure]
end
end Ex
end
section
namespace Ex
variable {P:Program} {N:Nat} {D:List Deferred} {E:Env} {S:World->Prop} {Q:Exit->Act->World->Prop} {K:Act->World->Prop}
  {w0:World} {M:Fp} {L:List Own}
  {ops:Array Oper} {rest:List Oper} {d:Nat} {dst:Option Tmp} {op:Op} {ty T T':TypeId} {pos:String} {aft:Array Edge} {g:Option (Nat × Bool)} {v u:Value} {x y z:Operand}
theorem l_gen {S':World->Prop} (j:Want N D ops E g true) (f:Nat.blt d N=true)
  (h:∀ o:Oper,o.op=op->o.type=ty->∀ a w,Has N D a E->S w->∃ v w',(execOp a.eval o).run P w=.ok (.value v) w'∧S' w'∧WL P N D ops Q rest ((d,v)::E) S') :
  WL P N D ops Q (⟨some d,op,ty,pos,aft,g⟩::rest) E S:=fun w k a e=>by
 unfold wpList
 rw [zP (j _ rfl a e)]
 left
 obtain ⟨v,w',i,c,b⟩:=h ⟨some d,op,ty,pos,aft,g⟩ rfl rfl a w e k
 unfold Oper.wp
 rw [i]
 exact b w' c _ (e.put _ f)
theorem jc (j:Want N D ops E g true) (f:Nat.blt d N=true)
  (h:∀ o:Oper,o.op=op->o.type=ty->∀ a w,Has N D a E->S w->∃ v w',(execOp a.eval o).run P w=.ok (.value v) w'∧∃ S':World->Prop,S' w'∧WL P N D ops Q rest ((d,v)::E) S') :
  WL P N D ops Q (⟨some d,op,ty,pos,aft,g⟩::rest) E S:=fun w k a e=>by
 unfold wpList
 rw [zP (j _ rfl a e)]
 left
 obtain ⟨v,w',i,S',c,b⟩:=h ⟨some d,op,ty,pos,aft,g⟩ rfl rfl a w e k
 unfold Oper.wp
 rw [i]
 exact b w' c _ (e.put _ f)
theorem qu {S':World->Prop} (e:Want N D ops E g true)
  (h:∀ o:Oper,o.op=op->o.type=ty->∀ a w,Has N D a E->S w->∃ w',(execOp a.eval o).run P w=.ok .skip w'∧S' w')
  (i:WL P N D ops Q rest E S'):WL P N D ops Q (⟨none,op,ty,pos,aft,g⟩::rest) E S:=fun w f a c=>by
 unfold wpList
 rw [zP (e _ rfl a c)]
 left
 obtain ⟨w',d,b⟩:=h ⟨none,op,ty,pos,aft,g⟩ rfl rfl a w c f
 unfold Oper.wp
 rw [d]
 exact i w' b _ c
theorem qv {cs:List Value} {t:TypeId} (k:Want N D ops E g true) (e:Nat.blt d N=true)
  (j:∀ o:Oper,o.op=op->o.type=ty->∀ a w,Has N D a E->(execOp a.eval o).run P w=.ok (.value (.pointer (some ⟨w.heap.size,0,none⟩))) (w.alloc (.cells cs.toArray t)))
  (h:∀ b,WL P N D ops Q rest ((d,.pointer (some ⟨b,0,none⟩))::E) (Mem w0 M (.blk b cs t::L))):WL P N D ops Q (⟨some d,op,ty,pos,aft,g⟩::rest) E (Mem w0 M L) :=
 jc k e fun o i c a w f l=>⟨_,_,j o i c a w f,_,l.new cs t,h _⟩
theorem u4 {e:List Value} {k c:Nat} (l:Want N D ops E g true) (f:Inf P T k c (.agg e.toArray)) (i:Nat.blt d N=true)
  (h:∀ b,WL P N D ops Q rest ((d,.pointer (some ⟨b,0,none⟩))::E) (Mem w0 M (.blk b e T::L))):WL P N D ops Q (⟨some d,.alloc T,ty,pos,aft,g⟩::rest) E (Mem w0 M L) :=
 qv l i (fun o j _ a w _=>by unfold execOp; rw [j]; simp [Instr.alloc,Cg f,newVar,newRow,Value.cells]) h
theorem Vm {c:Value} {k e:Nat} (l:Want N D ops E g true) (f:Inf P T k e c) (m:c.cells=#[c]) (i:Nat.blt d N=true)
  (h:∀ b,WL P N D ops Q rest ((d,.pointer (some ⟨b,0,none⟩))::E) (Mem w0 M (.blk b [c] T::L))):WL P N D ops Q (⟨some d,.alloc T,ty,pos,aft,g⟩::rest) E (Mem w0 M L) :=
 qv l i (fun o j _ a w _=>by unfold execOp; rw [j]; simp [Instr.alloc,Cg f,newVar,newRow,m]) h
theorem gt {vs:List Value} (i:Want N D ops E g true) (j:ev E x=some (.agg vs.toArray)) (c:Nat.blt d N=true)
  (h:∀ b,WL P N D ops Q rest ((d,.pointer (some ⟨b,0,none⟩))::E) (Mem w0 M (.blk b vs T::L))):WL P N D ops Q (⟨some d,.box T x,ty,pos,aft,g⟩::rest) E (Mem w0 M L) :=
 qv i c (fun o f _ a w e=>by unfold execOp; rw [f]; simp [Instr.box,e.eval j,newVar,newRow,Value.cells]) h
theorem l_box1 (i:Want N D ops E g true) (j:ev E x=some v) (k:v.cells=#[v]) (c:Nat.blt d N=true)
  (h:∀ b,WL P N D ops Q rest ((d,.pointer (some ⟨b,0,none⟩))::E) (Mem w0 M (.blk b [v] T::L))):WL P N D ops Q (⟨some d,.box T x,ty,pos,aft,g⟩::rest) E (Mem w0 M L) :=
 qv i c (fun o f _ a w e=>by unfold execOp; rw [f]; simp [Instr.box,e.eval j,newVar,newRow,k]) h
theorem FW {k c:Nat} {l:Value} (d:Inf P T k c l) {vs:List Value} (a:v.cells=vs.toArray) (f:vs.length=k) (e:vs.all (·.oneCell')=true) {b j:Nat} {cur:List Value} {t:TypeId} {w:World}
  (g:w.heap[b]?=some (.cells cur.toArray t (0,0))) (i:j + k<=cur.length) :
  (storeVar T ⟨b,j,none⟩ v).run P w=.ok () (w.setRow b (BP cur j vs).toArray):=by
 subst f
 have h:=run_storeCells_at P b j t vs 0 cur.toArray w g (by simpa using i) (fun v a=>List.all_eq_true.1 e v a)
 simp only [Nat.add_zero,ub] at h
 simp [storeVar,Bk d,a,BP,h]
theorem Mem.setRow {w:World} (h:Mem w0 M L w) {i b:Nat} {cs cs':List Value} {t:TypeId} (hi:L[i]?=some (.blk b cs t)):Mem w0 M (L.set i (.blk b cs' t)) (w.setRow b cs'.toArray):=by
 refine h.upd hi rfl ⟨rfl,rfl,rfl,qS,fun k _ d=>setRow_other w b k _ d⟩ ?_ (fun c a=>⟨.inl a,?_⟩);exact setRow_heap w b _ _ t _ (h.blk hi);have:=(h.ok i _ hi).2.1 c a;simpa using this
theorem qw (i:Nat) {b j e:Nat} {A:Value} {cs:List Value} {t:TypeId} (s:Want N D ops E g true) (z:ev E x=some (.pointer (some ⟨b,j,none⟩))) (n:ev E y=some v) (l:L[i]?=some (.blk b cs t)) (u:Nat.blt j cs.length=true) (m:Inf P T 1 e A) (q:v.cells=#[v]) (p:v.oneCell'=true)
  (h:WL P N D ops Q rest E (Mem w0 M (L.set i (.blk b (BP cs j [v]) t)))):WL P N D ops Q (⟨none,.store T x y,ty,pos,aft,g⟩::rest) E (Mem w0 M L) :=
 qu s (fun o r _ a w f k=>⟨w.setRow b (BP cs j [v]).toArray,by
  unfold execOp; rw [r]
  have c:j < cs.length:=by simpa [Nat.blt_eq] using u
  have d:=FW m (v:=v) (vs:=[v]) (b:=b) (j:=j) (by simpa using q) rfl (by simpa using p) (k.blk l) c
  simp [f.eval z,f.eval n,Instr.storeAt,Instr.sureAddr,d],k.setRow l⟩) h
theorem jd (i:Nat) {b j k d:Nat} {A:Value} {vs cs:List Value} {t:TypeId} (s:Want N D ops E g true) (z:ev E x=some (.pointer (some ⟨b,j,none⟩))) (n:ev E y=some (.agg vs.toArray)) (l:L[i]?=some (.blk b cs t)) (m:Inf P T k d A) (q:vs.length=k) (u:Nat.ble (j + k) cs.length=true) (p:vs.all (·.oneCell')=true)
  (h:WL P N D ops Q rest E (Mem w0 M (L.set i (.blk b (BP cs j vs) t)))):WL P N D ops Q (⟨none,.store T x y,ty,pos,aft,g⟩::rest) E (Mem w0 M L) :=
 qu s (fun o r _ a w e f=>⟨w.setRow b (BP cs j vs).toArray,by
  unfold execOp; rw [r]
  have c:j + k<=cs.length:=Nat.le_of_ble_eq_true u
  simp [e.eval z,e.eval n,Instr.storeAt,Instr.sureAddr,FW m (v:=.agg vs.toArray) (vs:=vs) (by simp [Value.cells]) q p (f.blk l) c],f.setRow l⟩) h
def Ret (w:World) (v:Value):Ending->World->Prop:=fun e w'=>e=.returned v∧Fr no w w'
theorem IY {f:Nat} {args:Array Operand} {ts:Array TypeId} {vs:List Value} {cap:Array Value} {a:Act} {o:Oper} {w:World} (d:Has N D a E) (h:ev E x=some (.func (.func f) #[] cap)) (b:evs E args.toList=some vs)
  (c:∀ vs w,(callFunc f vs).run P w=.ok (.enter f vs) w) (g:o.op=.call { callee:=.value x,args:=args,argTypes:=ts }):(execOp a.eval o).run P w=.ok (.enter f (vs.toArray++cap)) w:=by
 have e:args.map a.eval=vs.toArray:=by
  apply Array.toList_inj.1
  rw [Array.toList_map]
  exact KU d b
 unfold execOp; rw [g]
 simp [resolve,Deferred.ofValue,d.eval h,e,invoke,c]
theorem u6 {f:Nat} {args:Array Operand} {ts:Array TypeId} {vs:List Value} {cap:Array Value} {Φ:Value->World->Prop} (m:Want N D ops E g true) (o:ev E x=some (.func (.func f) #[] cap)) (b:evs E args.toList=some vs)
  (c:∀ vs w,(callFunc f vs).run P w=.ok (.enter f vs) w) (j:Nat.blt d N=true)
  (l:∀ w,S w->Calls P f (vs.toArray++cap) w (fun e w'=>∃ v,e=.returned v∧Φ v w')) (h:∀ v,WL P N D ops Q rest ((d,v)::E) (Φ v)) :
  WL P N D ops Q (⟨some d,.call { callee:=.value x,args:=args,argTypes:=ts },ty,pos,aft,g⟩::rest) E S:=fun w n a i=>by
 unfold wpList
 rw [zP (m _ rfl a i)]
 left
 unfold Oper.wp
 rw [IY i o b c rfl,Oper.upon_enter]
 refine (l w n).mono ?_
 rintro e w' ⟨v,rfl,k⟩
 exact h v w' k _ (i.put _ j)
theorem ui {f:Nat} {args:Array Operand} {ts:Array TypeId} {vs:List Value} {cap:Array Value} (n:Want N D ops E g true) (o:ev E x=some (.func (.func f) #[] cap)) (b:evs E args.toList=some vs)
  (c:∀ vs w,(callFunc f vs).run P w=.ok (.enter f vs) w) (k:Nat.blt d N=true)
  (m:∀ w,Mem w0 M L w->Calls P f (vs.toArray++cap) w (Ret w v)) (h:WL P N D ops Q rest ((d,v)::E) (Mem w0 M L)) :
  WL P N D ops Q (⟨some d,.call { callee:=.value x,args:=args,argTypes:=ts },ty,pos,aft,g⟩::rest) E (Mem w0 M L) :=
 u6 (Φ:=fun u w'=>u=v∧Mem w0 M L w') n o b c k (fun w i=>(m w i).mono fun e w' ⟨he,hf⟩=>⟨v,he,rfl,i.Cl hf⟩) (fun u w j a l=>by obtain ⟨rfl,i⟩:=j; exact h w i a l)
theorem q_callR {f:Nat} {args:Array Operand} {ts:Array TypeId} {vs:List Value} {cap:Array Value} (n:Want N D ops E g true) (o:ev E x=some (.func (.func f) #[] cap)) (b:evs E args.toList=some vs)
  (c:∀ vs w,(callFunc f vs).run P w=.ok (.enter f vs) w) (l:Nat.blt d N=true)
  (m:∀ w,Mem w0 M L w->Calls P f (vs.toArray++cap) w (Ret w v)) (h:WQ P N D ops K rest ((d,v)::E) (Mem w0 M L)) :
  WQ P N D ops K (⟨some d,.call { callee:=.value x,args:=args,argTypes:=ts },ty,pos,aft,g⟩::rest) E (Mem w0 M L):=fun a i=>by
 refine wpQuiet_step fun K' k=>?_
 rw [zP (n _ rfl a i)]
 refine ⟨v,fun w j=>?_,k _ (h _ (i.put _ l))⟩
 unfold Oper.quietAt
 rw [IY i o b c rfl]
 exact ⟨rfl,(m w j).mono fun e w' ⟨he,hf⟩=>⟨he,j.Cl hf⟩⟩
theorem vn {f:Nat} {args:Array Operand} {ts:Array TypeId} {vs:List Value} (i:Want N D ops E g true) (a:evs E args.toList=some vs)
  (b:∀ vs w,(callFunc f vs).run P w=.ok (.enter f vs) w) (c:Nat.blt d N=true)
  (e:∀ w,Mem w0 M L w->Calls P f vs.toArray w (Ret w v)) (h:WL P N D ops Q rest ((d,v)::E) (Mem w0 M L)) :
  WL P N D ops Q (⟨some d,.call { callee:=.value (.func f),args:=args,argTypes:=ts },ty,pos,aft,g⟩::rest) E (Mem w0 M L) :=
 ui i (by rfl) a b c (fun w j=>by simpa using e w j) h
theorem yL {f:Nat} {args:Array Operand} {ts:Array TypeId} {vs:List Value} (i:Want N D ops E g true) (a:evs E args.toList=some vs)
  (b:∀ vs w,(callFunc f vs).run P w=.ok (.enter f vs) w) (c:Nat.blt d N=true)
  (e:∀ w,Mem w0 M L w->Calls P f vs.toArray w (Ret w v)) (h:WQ P N D ops K rest ((d,v)::E) (Mem w0 M L)) :
  WQ P N D ops K (⟨some d,.call { callee:=.value (.func f),args:=args,argTypes:=ts },ty,pos,aft,g⟩::rest) E (Mem w0 M L) :=
 q_callR i (by rfl) a b c (fun w j=>by simpa using e w j) h
theorem vI {f:Nat} {args:Array Operand} {ts:Array TypeId} {vs:List Value} (i:Want N D ops E g true) (k:ev E x=some (.func (.func f) #[] #[])) (a:evs E args.toList=some vs)
  (b:∀ vs w,(callFunc f vs).run P w=.ok (.enter f vs) w) (c:Nat.blt d N=true)
  (e:∀ w,Mem w0 M L w->Calls P f vs.toArray w (Ret w v)) (h:WL P N D ops Q rest ((d,v)::E) (Mem w0 M L)) :
  WL P N D ops Q (⟨some d,.call { callee:=.value x,args:=args,argTypes:=ts },ty,pos,aft,g⟩::rest) E (Mem w0 M L) :=
 ui i k a b c (fun w j=>by simpa using e w j) h
theorem qK {f:Nat} {args:Array Operand} {ts:Array TypeId} {vs:List Value} {Φ:Value->World->Prop} (j:Want N D ops E g true) (a:evs E args.toList=some vs)
  (b:∀ vs w,(callFunc f vs).run P w=.ok (.enter f vs) w) (c:Nat.blt d N=true)
  (i:∀ w,Mem w0 M L w->Calls P f vs.toArray w (fun e w'=>∃ v,e=.returned v∧Φ v w')) (h:∀ v,WL P N D ops Q rest ((d,v)::E) (Φ v)) :
  WL P N D ops Q (⟨some d,.call { callee:=.value (.func f),args:=args,argTypes:=ts },ty,pos,aft,g⟩::rest) E (Mem w0 M L) :=
 u6 j (by rfl) a b c (fun w k=>by simpa using i w k) h
def HZ:Nat->List Value->Env
  | _,[]=>[]
  | i,v::r=>(i,v)::HZ (i + 1) r
theorem Fy (t:Nat):∀ (i:Nat) (l:List Value),look (HZ i l) t=if t < i then none else l[t - i]?
 | i,[]=>by simp [HZ,look]
 | i, v :: r => by
  rw [HZ,Cp,Fy t (i + 1) r]
  by_cases h:i=t
  ·subst h; simp
  ·rw [if_neg h]
   by_cases h2:t < i
   ·rw [if_pos h2,if_pos qO]
   ·rw [if_neg h2,if_neg qO]
    rw [show t - i=(t - (i + 1)) + 1 by omega]
    simp
theorem Gv {f:Nat} {fn:Func} {c:Code} {Bh:List Value} {w:World} {R:Ending->World->Prop} (d:P.funcs[f]?=some fn) (e:fn.body=some c) (i:fn.ntmps=N) (g:Nat.ble Bh.length N=true)
  (j:S w) (h:WC P N [] c (bodyPost P fn R) (HZ 0 Bh) S):Calls P f Bh.toArray w R:=by
 refine calls_of_wp d e (h w j _ ⟨rfl,?_,fun t v a=>?_⟩)
 ·have:=Nat.le_of_ble_eq_true g
  simp [i]; omega
 ·rw [Fy,zI qO] at a
  simp only [Nat.sub_zero] at a
  have b:t < Bh.length:=(yb.1 a).1
  rw [Array.getElem?_append_left (by simpa using b)]
  simpa using a
section
variable {fn:Func} {R:Ending->World->Prop}
def resF (tmps:Array Value):ResultVar->Sem Value
  | .tmp t=>pure (tmps.getD t undef)
  | .cell p t=>do loadVar t (<-asAddr (tmps.getD p undef))
def DX (P:Program) (N:Nat) (D:List Deferred) (E:Env) (S:World->Prop) (r:ResultVar) (v:Value):Prop:=∀ w,S w->∀ a,Has N D a E->(resF a.tmps r).run P w=.ok v w
theorem yn {t:Nat} (b:look E t=some v):DX P N D E S (.tmp t) v:=fun w _ a c=>by simp [resF,c.h t v b]
theorem uM (i:Nat) {p b k c:Nat} {q:Value} {cs:List Value} {t:TypeId} (g:look E p=some (.pointer (some ⟨b,0,none⟩))) (o:L[i]?=some (.blk b cs t)) (m:Dh P T=true) (d:Inf P T k c q) (r:cs.length=k):DX P N D E (Mem w0 M L) (.cell p T) (.agg cs.toArray):=fun w n a l=>by
 subst r
 have f:=l.h p _ g
 have:=run_loadCells_list (P:=P) w ⟨b,0,none⟩ cs (fun j u e=>by rw [add_lit,n.cell o]; simpa using e)
 simp [resF,f,asAddr,loadVar,Ha m,Bk d,this]
theorem GX (fn:Func) (a:Array Value):results fn a=(do
  let vs <-fn.results.mapM (resF a)
  pure (if h:vs.size=1 then vs[0] else .tuple vs)):=by rfl
theorem yo {r:ResultVar} {e:Exit} (he:e=.ret∨e=.normal) (i:fn.results=#[r]) (h:DX P N [] E S r v) (g:∀ w,S w->R (.returned v) w):WE N [] (bodyPost P fn R) e E S:=fun w f a c=>by
 have b:(results fn a.tmps).run P w=.ok v w:=by
  rw [GX,i]; simp [h w f a c]
 rcases he with rfl | rfl <;> exact ⟨c.d,v,b,g w f⟩
theorem e_ret2 {k l:ResultVar} {c j:Value} {e:Exit} (he:e=.ret∨e=.normal) (n:fn.results=#[k,l]) (i:DX P N [] E S k c) (h:DX P N [] E S l j) (m:∀ w,S w->R (.returned (.tuple #[c,j])) w):WE N [] (bodyPost P fn R) e E S:=fun w g a f=>by
 have b:(results fn a.tmps).run P w=.ok (.tuple #[c,j]) w:=by
  rw [GX,n]; simp [i w g a f,h w g a f]
 rcases he with rfl | rfl <;> exact ⟨f.d,_,b,m w g⟩
theorem e_ret3 {n o m:ResultVar} {h l g:Value} {e:Exit} (he:e=.ret∨e=.normal) (q:fn.results=#[n,o,m]) (k:DX P N [] E S n h) (j:DX P N [] E S o l) (i:DX P N [] E S m g) (p:∀ w,S w->R (.returned (.tuple #[h,l,g])) w):WE N [] (bodyPost P fn R) e E S:=fun w f a c=>by
 have b:(results fn a.tmps).run P w=.ok (.tuple #[h,l,g]) w:=by
  rw [GX,q]; simp [k w f a c,j w f a c,i w f a c]
 rcases he with rfl | rfl <;> exact ⟨c.d,_,b,p w f⟩
theorem ut {e:Exit} (he:e=.ret∨e=.normal) (g:fn.results=#[]) (c:∀ w,S w->R (.returned (.tuple #[])) w):WE N [] (bodyPost P fn R) e E S:=fun w h a f=>by
 have b:(results fn a.tmps).run P w=.ok (.tuple #[]) w:=by simp [results,g]
 rcases he with rfl | rfl <;> exact ⟨f.d,_,b,c w h⟩
end
end Ex
end
section
namespace Ex
section
variable {P:Program} {ops:Array Oper} {md:Region.Mode} {C:World->Prop}
def wpAnyH (P:Program) (md:Region.Mode) (ops:Array Oper) (C:World->Prop) (n:Nat) (L:Array Bool->Act->Prop):Nat->Array Bool->Act->Prop
  | 0,listed,a=>L listed a
  | f + 1, listed, a =>
    Region.ready md ops listed≠[]∧∀ i ∈ Region.ready md ops listed,i < n∧qOp P ops C i (wpAnyH P md ops C n L f (listed.setIfInBounds i true)) a
theorem Gr {n g:Nat} {L:Array Bool->Act->Prop} {Q':Exit->Act->World->Prop} (c:∀ b a w,C w->L b a->wpAny P md ops Q' g b a w) :
  ∀ (f:Nat) (b:Array Bool) (a:Act) (w:World),C w->wpAnyH P md ops C n L f b a->wpAny P md ops Q' (f + g) b a w
 | 0,b,a,w,hw,h=>by rw [Nat.zero_add]; exact c _ _ _ hw h
 | f + 1, b, a, w, hw, h => by
  rw [show f + 1 + g=(f + g) + 1 by omega]
  exact ⟨fun h0=>absurd h0 h.1,fun i hi=>wpOp_of_qOp hw (fun a' w' hw' h'=>Gr c f _ a' w' hw' h') (h.2 i hi).2⟩
theorem wpAnyH_first {n i:Nat} {z:Oper} {v:Value} {L:Array Bool->Act->Prop} (hi:ops[i]?=some z) (t:∀ (j:Nat) (o:Oper) cs b,ops[j]?=some o->o.op≠.select cs b)
  (M:Region.sinkB md ops n=true) (Q:Region.chainB md ops n=true) (O:n < ops.size) (D:i < n)
  (u:∀ c a,L c a->∀ j ∈ Region.ready md ops c,n<=j) :
  ∀ (f:Nat) (c:Array Bool) (a:Act),HeadInv md ops n c ->
   (∀ j x,ops[j]?=some x->j≠i->c.getD j true=false->(∀ e ∈ x.after,Region.binds md e=true->e.on≠i)->z.apart ops x=true) ->
   i ∈ Region.ready md ops c->YieldsIn P ops C z v a ->
   wpAnyH P md ops C n L f (c.setIfInBounds i true) (a.put z.dst v)->wpAnyH P md ops C n L (f + 1) c a:=by
 intro f
 induction f with
 | zero =>
  intro c a q _ s G H
  have g:=(mem_ready.1 s).1
  refine ⟨fun h=>(by rw [h] at s; cases s),fun j y=>?_⟩
  have p:j < n:=by
   rcases Nat.lt_or_ge j n with h | h
   ·exact h
   ·exact absurd y (tail_waits M Q O q _ i rfl D g j h)
  refine ⟨p,?_⟩
  by_cases d:j=i
  ·subst d; exact G.qOp hi H
  ·have:=u _ _ H j (ready_mono y d)
   omega
 | succ f ih =>
  intro c a q l s G H
  have g:=(mem_ready.1 s).1
  refine ⟨fun h=>(by rw [h] at s; cases s),fun j y=>?_⟩
  have p:j < n:=by
   rcases Nat.lt_or_ge j n with h | h
   ·exact h
   ·exact absurd y (tail_waits M Q O q _ i rfl D g j h)
  refine ⟨p,?_⟩
  by_cases d:j=i
  ·subst d; exact G.qOp hi H
  ·have F:=(H.2 j (ready_mono y d)).2
   obtain ⟨r,x,w,B⟩:=mem_ready.1 y
   have A:∀ e ∈ x.after,Region.binds md e=true->e.on≠i:=fun e he U J=>by
    have F:=B e he U
    rw [J,getD_both g] at F
    cases F
   have R:=qOp_put w (l j x w d r A) (fun cs b=>t i z cs b hi) (fun cs b=>t j x cs b w) G F
   have m:∀ k ok,ops[k]?=some ok->k≠i->(c.setIfInBounds j true).getD k true=false ->
     (∀ e ∈ ok.after,Region.binds md e=true->e.on≠i)->z.apart ops ok=true:=fun k ok T K g I=>by
    refine l k ok T K ?_ I
    by_cases E:j=k
    ·subst E; exact r
    ·rw [getD_set_ne true E] at g; exact g
   refine qOp_mono (fun S N=>ih (c.setIfInBounds j true) S (q.set y p) m (ready_mono s (Ne.symm d)) N.1 ?_) R
   rw [Array.setIfInBounds_comm _ _ d]
   exact N.2
theorem Ly {n g:Nat} {p:Act->Prop} (d:Region.noSelect ops=true) (r:Region.sinkB md ops n=true) (u:Region.chainB md ops n=true) (t:n < ops.size) :
  ∀ (l:List Oper) (k:Nat) (b:Array Bool) (a:Act),(∀ j,j < l.length->l[j]?=ops[k + j]?)->k + l.length=n->HeadInv md ops n b ->
  Region.lexHead md ops g l.length k b=true->wpQuiet P ops C p l a ->
  wpAnyH P md ops C n (fun c s=>Region.seqB md ops g n c=true∧p s) l.length b a
 | [], k, b, a, _, hk, _, hB, h => by
  have:k=n:=by simpa using hk
  subst this
  exact ⟨by simpa [Region.lexHead] using hB,h⟩
 | o :: l, k, b, a, hl, hk, inv, hB, h => by
  have i:ops[k]?=some o:=by simpa using (hl 0 qS).symm
  simp only [gP,Region.lexHead,Bool.and_eq_true] at hB
  obtain ⟨⟨z,y⟩,m⟩:=hB
  have f:k < n:=by simp only [gP] at hk; omega
  have e:k ∈ Region.ready md ops b:=by simpa using z
  have q:qOp P ops C k (wpQuiet P ops C p l) a:=by unfold qOp; simp only [i]; exact h
  obtain ⟨v,x,w⟩:=yieldsIn_of_qOp i q
  exact wpAnyH_first i (Region.noSelect_spec d) r u t f (fun c s A=>seqB_ready A.1) l.length b a inv (Region.free_spec i y) e x
   (Ly d r u t l (k + 1) _ _ (fun j B=>by have:=hl (j + 1) (by simp; omega); simpa [Nat.add_assoc,Nat.add_comm 1 j] using this) (by simp only [gP] at hk; omega) (inv.set e f) m w)
theorem Gw {id:Nat} {Q:Exit->Act->World->Prop} {a:Act} {w:World} {l:List Oper} (n:Nat) (A:P.follows .mixedOrders=true) (p:Region.lexTailB .any l.toArray n=true) (y:C { w with drawn:=w.drawn + 1 })
  (h:wpQuiet P l.toArray C (fun k=>∀ w',C w'->wpList P l.toArray Q (l.drop n) k w') (l.take n) a):(Code.region id l.toArray true).wp P Q a w:=by
 simp only [Region.lexTailB,Bool.and_eq_true,ud] at p
 obtain ⟨⟨⟨⟨f,r⟩,x⟩,B⟩,d⟩:=p
 have v:n < l.length:=by simpa using r
 have b:(l.take n).length=n:=by simp; omega
 have e:(l.drop n).length=l.toArray.size - n:=qS
 have i:HeadInv .any l.toArray n (Array.replicate l.toArray.size false) :=
  ⟨qS,fun j D _ q=>(by rw [getD_replicate_false] at q; cases q),fun t _ z=>getD_in (by simpa using z) (getD_replicate_false _ _)⟩
 have H:=Ly (md:=.any) (g:=l.toArray.size - n) f x B r (l.take n) 0 _ a (fun j s=>by
  have o:j < n:=by rw [b] at s; exact s
  simp [o]) (by simpa using b) i (by rw [b]; exact d) h
 refine wp_region_any A ?_
 have:=Gr (Q':=Q) (g:=l.toArray.size - n) (fun c k w' m u=>by
  have:=wpAny_of_seq (md:=.any) (Q':=Q) (l.drop n) n c k w' (fun j=>by simp [List.getElem?_drop]) (by rw [e]; exact u.1) (u.2 w' m)
  rwa [e] at this) _ _ _ _ y H
 rw [b,show n + (l.toArray.size - n)=l.toArray.size by omega] at this
 exact this
end
section
variable {P:Program} {N:Nat} {D:List Deferred} {E:Env} {S:World->Prop} {Q:Exit->Act->World->Prop} {w0:World} {M:Fp} {c:Code} {α β γ δ:Type}
def LQ1 (N:Nat) (D:List Deferred) (w0:World) (M:Fp) (env:α->Env) (Lf:α->List Own) (inv:α->Prop) (μ:α->Nat) (m:Nat) (Q:Exit->Act->World->Prop):Exit->Act->World->Prop :=
  Exit.then (fun a' w'=>∃ s',Has N D a' (env s')∧(inv s'∧Mem w0 M (Lf s') w')∧μ s' < m) Q
theorem vu (b:α->Env) (g:α->List Own) (d:α->Prop) (μ:α->Nat) (f:α) (he:BZ E (b f)) (i:∀ w,S w->Mem w0 M (g f) w) (hi:d f)
  (e:∀ a,d a->WC P N D c (LQ1 N D w0 M b g d μ (μ a) Q) (b a) (Mem w0 M (g a))):WC P N D (.loop c) Q E S :=
 c_loop b (fun s w=>d s∧Mem w0 M (g s) w) μ f he (fun w h=>⟨hi,i w h⟩) fun s w h=>e s h.1 w h.2
theorem uB {a:α->Env} {c:α->List Own} {b:α->Prop} {μ:α->Nat} {m:Nat} (s':α) (he:BZ E (a s')) (e:∀ w,S w->Mem w0 M (c s') w) (hi:b s') (hμ:μ s' < m) :
  WE N D (LQ1 N D w0 M a c b μ m Q) .normal E S:=fun w f _ d=>⟨s',d.less he.all,⟨hi,e w f⟩,hμ⟩
theorem ye {b:α->Env} {c:α->List Own} {a:α->Prop} {μ:α->Nat} {m id:Nat} (h:WE N D Q (.exit id) E S):WE N D (LQ1 N D w0 M b c a μ m Q) (.exit id) E S:=h
theorem um {b:α->Env} {c:α->List Own} {a:α->Prop} {μ:α->Nat} {m:Nat} (h:WE N D Q .ret E S):WE N D (LQ1 N D w0 M b c a μ m Q) .ret E S:=h
def LQ2 (N:Nat) (D:List Deferred) (w0:World) (M:Fp) (env:α->β->Env) (Lf:α->β->List Own) (inv:α->β->Prop) (μ:α->β->Nat) (m:Nat) (Q:Exit->Act->World->Prop):Exit->Act->World->Prop :=
  LQ1 N D w0 M (fun s:α × β=>env s.1 s.2) (fun s=>Lf s.1 s.2) (fun s=>inv s.1 s.2) (fun s=>μ s.1 s.2) m Q
theorem u5 (d:α->β->Env) (h:α->β->List Own) (e:α->β->Prop) (μ:α->β->Nat) (g:α) (i:β) (he:BZ E (d g i)) (k:∀ w,S w->Mem w0 M (h g i) w) (hi:e g i)
  (f:∀ a b,e a b->WC P N D c (LQ2 N D w0 M d h e μ (μ a b) Q) (d a b) (Mem w0 M (h a b))):WC P N D (.loop c) Q E S :=
 vu (fun s:α × β=>d s.1 s.2) (fun s=>h s.1 s.2) (fun s=>e s.1 s.2) (fun s=>μ s.1 s.2) (g,i) he k hi fun s j=>f s.1 s.2 j
theorem jF {b:α->β->Env} {e:α->β->List Own} {c:α->β->Prop} {μ:α->β->Nat} {m:Nat} (d:α) (a:β) (he:BZ E (b d a)) (i:∀ w,S w->Mem w0 M (e d a) w) (hi:c d a) (hμ:μ d a < m) :
  WE N D (LQ2 N D w0 M b e c μ m Q) .normal E S:=fun w g _ f=>⟨(d,a),f.less he.all,⟨hi,i w g⟩,hμ⟩
theorem uR {b:α->β->Env} {c:α->β->List Own} {a:α->β->Prop} {μ:α->β->Nat} {m id:Nat} (h:WE N D Q (.exit id) E S):WE N D (LQ2 N D w0 M b c a μ m Q) (.exit id) E S:=h
theorem Mo {b:α->β->Env} {c:α->β->List Own} {a:α->β->Prop} {μ:α->β->Nat} {m:Nat} (h:WE N D Q .ret E S):WE N D (LQ2 N D w0 M b c a μ m Q) .ret E S:=h
def LQ3 (N:Nat) (D:List Deferred) (w0:World) (M:Fp) (env:α->β->γ->Env) (Lf:α->β->γ->List Own) (inv:α->β->γ->Prop) (μ:α->β->γ->Nat) (m:Nat) (Q:Exit->Act->World->Prop):Exit->Act->World->Prop :=
  LQ1 N D w0 M (fun s:α × β × γ=>env s.1 s.2.1 s.2.2) (fun s=>Lf s.1 s.2.1 s.2.2) (fun s=>inv s.1 s.2.1 s.2.2) (fun s=>μ s.1 s.2.1 s.2.2) m Q
theorem jk (d:α->β->γ->Env) (j:α->β->γ->List Own) (e:α->β->γ->Prop) (μ:α->β->γ->Nat) (i:α) (k:β) (h:γ) (he:BZ E (d i k h)) (m:∀ w,S w->Mem w0 M (j i k h) w) (hi:e i k h)
  (f:∀ a b g,e a b g->WC P N D c (LQ3 N D w0 M d j e μ (μ a b g) Q) (d a b g) (Mem w0 M (j a b g))):WC P N D (.loop c) Q E S :=
 vu (fun s:α × β × γ=>d s.1 s.2.1 s.2.2) (fun s=>j s.1 s.2.1 s.2.2) (fun s=>e s.1 s.2.1 s.2.2) (fun s=>μ s.1 s.2.1 s.2.2) (i,k,h) he m hi fun s l=>f s.1 s.2.1 s.2.2 l
theorem uY {b:α->β->γ->Env} {f:α->β->γ->List Own} {c:α->β->γ->Prop} {μ:α->β->γ->Nat} {m:Nat} (e:α) (a:β) (d:γ) (he:BZ E (b e a d)) (j:∀ w,S w->Mem w0 M (f e a d) w) (hi:c e a d) (hμ:μ e a d < m) :
  WE N D (LQ3 N D w0 M b f c μ m Q) .normal E S:=fun w i _ g=>⟨(e,a,d),g.less he.all,⟨hi,j w i⟩,hμ⟩
def LQ4 (N:Nat) (D:List Deferred) (w0:World) (M:Fp) (env:α->β->γ->δ->Env) (Lf:α->β->γ->δ->List Own) (inv:α->β->γ->δ->Prop) (μ:α->β->γ->δ->Nat) (m:Nat) (Q:Exit->Act->World->Prop):Exit->Act->World->Prop :=
  LQ1 N D w0 M (fun s:α × β × γ × δ=>env s.1 s.2.1 s.2.2.1 s.2.2.2) (fun s=>Lf s.1 s.2.1 s.2.2.1 s.2.2.2) (fun s=>inv s.1 s.2.1 s.2.2.1 s.2.2.2) (fun s=>μ s.1 s.2.1 s.2.2.1 s.2.2.2) m Q
theorem gn (e:α->β->γ->δ->Env) (k:α->β->γ->δ->List Own) (f:α->β->γ->δ->Prop) (μ:α->β->γ->δ->Nat) (j:α) (m:β) (i:γ) (l:δ) (he:BZ E (e j m i l)) (o:∀ w,S w->Mem w0 M (k j m i l) w) (hi:f j m i l)
  (h:∀ a b g d,f a b g d->WC P N D c (LQ4 N D w0 M e k f μ (μ a b g d) Q) (e a b g d) (Mem w0 M (k a b g d))):WC P N D (.loop c) Q E S :=
 vu (fun s:α × β × γ × δ=>e s.1 s.2.1 s.2.2.1 s.2.2.2) (fun s=>k s.1 s.2.1 s.2.2.1 s.2.2.2) (fun s=>f s.1 s.2.1 s.2.2.1 s.2.2.2) (fun s=>μ s.1 s.2.1 s.2.2.1 s.2.2.2) (j,m,i,l) he o hi fun s n=>h s.1 s.2.1 s.2.2.1 s.2.2.2 n
theorem jG {b:α->β->γ->δ->Env} {g:α->β->γ->δ->List Own} {c:α->β->γ->δ->Prop} {μ:α->β->γ->δ->Nat} {m:Nat} (f:α) (a:β) (e:γ) (d:δ) (he:BZ E (b f a e d)) (k:∀ w,S w->Mem w0 M (g f a e d) w) (hi:c f a e d) (hμ:μ f a e d < m) :
  WE N D (LQ4 N D w0 M b g c μ m Q) .normal E S:=fun w j _ i=>⟨(f,a,e,d),i.less he.all,⟨hi,k w j⟩,hμ⟩
def LQ5 {α β γ δ ε:Type} (N:Nat) (D:List Deferred) (w0:World) (M:Fp) (env:α->β->γ->δ->ε->Env) (Lf:α->β->γ->δ->ε->List Own) (inv:α->β->γ->δ->ε->Prop) (μ:α->β->γ->δ->ε->Nat) (m:Nat) (Q:Exit->Act->World->Prop):Exit->Act->World->Prop :=
  LQ1 N D w0 M (fun s:α × β × γ × δ × ε=>env s.1 s.2.1 s.2.2.1 s.2.2.2.1 s.2.2.2.2) (fun s=>Lf s.1 s.2.1 s.2.2.1 s.2.2.2.1 s.2.2.2.2) (fun s=>inv s.1 s.2.1 s.2.2.1 s.2.2.2.1 s.2.2.2.2) (fun s=>μ s.1 s.2.1 s.2.2.1 s.2.2.2.1 s.2.2.2.2) m Q
theorem c_loop5 {α β γ δ ε:Type} (f:α->β->γ->δ->ε->Env) (m:α->β->γ->δ->ε->List Own) (h:α->β->γ->δ->ε->Prop) (μ:α->β->γ->δ->ε->Nat) (k:α) (o:β) (l:γ) (n:δ) (j:ε) (he:BZ E (f k o l n j)) (q:∀ w,S w->Mem w0 M (m k o l n j) w) (hi:h k o l n j)
  (i:∀ a b g d e,h a b g d e->WC P N D c (LQ5 N D w0 M f m h μ (μ a b g d e) Q) (f a b g d e) (Mem w0 M (m a b g d e))):WC P N D (.loop c) Q E S :=
 vu (fun s:α × β × γ × δ × ε=>f s.1 s.2.1 s.2.2.1 s.2.2.2.1 s.2.2.2.2) (fun s=>m s.1 s.2.1 s.2.2.1 s.2.2.2.1 s.2.2.2.2) (fun s=>h s.1 s.2.1 s.2.2.1 s.2.2.2.1 s.2.2.2.2) (fun s=>μ s.1 s.2.1 s.2.2.1 s.2.2.2.1 s.2.2.2.2) (k,o,l,n,j) he q hi fun s p=>i s.1 s.2.1 s.2.2.1 s.2.2.2.1 s.2.2.2.2 p
theorem Wp {α β γ δ ε:Type} {c:α->β->γ->δ->ε->Env} {i:α->β->γ->δ->ε->List Own} {d:α->β->γ->δ->ε->Prop} {μ:α->β->γ->δ->ε->Nat} {m:Nat} (g:α) (b:β) (f:γ) (e:δ) (a:ε) (he:BZ E (c g b f e a)) (l:∀ w,S w->Mem w0 M (i g b f e a) w) (hi:d g b f e a) (hμ:μ g b f e a < m) :
  WE N D (LQ5 N D w0 M c i d μ m Q) .normal E S:=fun w k _ j=>⟨(g,b,f,e,a),j.less he.all,⟨hi,l w k⟩,hμ⟩
def LQ6 {α β γ δ ε ζ:Type} (N:Nat) (D:List Deferred) (w0:World) (M:Fp) (env:α->β->γ->δ->ε->ζ->Env) (Lf:α->β->γ->δ->ε->ζ->List Own) (inv:α->β->γ->δ->ε->ζ->Prop) (μ:α->β->γ->δ->ε->ζ->Nat) (m:Nat) (Q:Exit->Act->World->Prop):Exit->Act->World->Prop :=
  LQ1 N D w0 M (fun s:α × β × γ × δ × ε × ζ=>env s.1 s.2.1 s.2.2.1 s.2.2.2.1 s.2.2.2.2.1 s.2.2.2.2.2) (fun s=>Lf s.1 s.2.1 s.2.2.1 s.2.2.2.1 s.2.2.2.2.1 s.2.2.2.2.2) (fun s=>inv s.1 s.2.1 s.2.2.1 s.2.2.2.1 s.2.2.2.2.1 s.2.2.2.2.2) (fun s=>μ s.1 s.2.1 s.2.2.1 s.2.2.2.1 s.2.2.2.2.1 s.2.2.2.2.2) m Q
theorem c_loop6 {α β γ δ ε ζ:Type} (h:α->β->γ->δ->ε->ζ->Env) (o:α->β->γ->δ->ε->ζ->List Own) (i:α->β->γ->δ->ε->ζ->Prop) (μ:α->β->γ->δ->ε->ζ->Nat) (l:α) (q:β) (m:γ) (p:δ) (k:ε) (n:ζ) (he:BZ E (h l q m p k n)) (t:∀ w,S w->Mem w0 M (o l q m p k n) w) (hi:i l q m p k n)
  (j:∀ a b g d e f,i a b g d e f->WC P N D c (LQ6 N D w0 M h o i μ (μ a b g d e f) Q) (h a b g d e f) (Mem w0 M (o a b g d e f))):WC P N D (.loop c) Q E S :=
 vu (fun s:α × β × γ × δ × ε × ζ=>h s.1 s.2.1 s.2.2.1 s.2.2.2.1 s.2.2.2.2.1 s.2.2.2.2.2) (fun s=>o s.1 s.2.1 s.2.2.1 s.2.2.2.1 s.2.2.2.2.1 s.2.2.2.2.2) (fun s=>i s.1 s.2.1 s.2.2.1 s.2.2.2.1 s.2.2.2.2.1 s.2.2.2.2.2) (fun s=>μ s.1 s.2.1 s.2.2.1 s.2.2.2.1 s.2.2.2.2.1 s.2.2.2.2.2) (l,q,m,p,k,n) he t hi fun s r=>j s.1 s.2.1 s.2.2.1 s.2.2.2.1 s.2.2.2.2.1 s.2.2.2.2.2 r
theorem WV {α β γ δ ε ζ:Type} {c:α->β->γ->δ->ε->ζ->Env} {j:α->β->γ->δ->ε->ζ->List Own} {d:α->β->γ->δ->ε->ζ->Prop} {μ:α->β->γ->δ->ε->ζ->Nat} {m:Nat} (g:α) (b:β) (f:γ) (e:δ) (a:ε) (i:ζ) (he:BZ E (c g b f e a i)) (n:∀ w,S w->Mem w0 M (j g b f e a i) w) (hi:d g b f e a i) (hμ:μ g b f e a i < m) :
  WE N D (LQ6 N D w0 M c j d μ m Q) .normal E S:=fun w l _ k=>⟨(g,b,f,e,a,i),k.less he.all,⟨hi,n w l⟩,hμ⟩
theorem va {α β γ δ ε ζ:Type} {b:α->β->γ->δ->ε->ζ->Env} {c:α->β->γ->δ->ε->ζ->List Own} {a:α->β->γ->δ->ε->ζ->Prop} {μ:α->β->γ->δ->ε->ζ->Nat} {m id:Nat} (h:WE N D Q (.exit id) E S):WE N D (LQ6 N D w0 M b c a μ m Q) (.exit id) E S:=h
def LQ7 {α β γ δ ε ζ η:Type} (N:Nat) (D:List Deferred) (w0:World) (M:Fp) (env:α->β->γ->δ->ε->ζ->η->Env) (Lf:α->β->γ->δ->ε->ζ->η->List Own) (inv:α->β->γ->δ->ε->ζ->η->Prop) (μ:α->β->γ->δ->ε->ζ->η->Nat) (m:Nat) (Q:Exit->Act->World->Prop):Exit->Act->World->Prop :=
  LQ1 N D w0 M (fun s:α × β × γ × δ × ε × ζ × η=>env s.1 s.2.1 s.2.2.1 s.2.2.2.1 s.2.2.2.2.1 s.2.2.2.2.2.1 s.2.2.2.2.2.2) (fun s=>Lf s.1 s.2.1 s.2.2.1 s.2.2.2.1 s.2.2.2.2.1 s.2.2.2.2.2.1 s.2.2.2.2.2.2) (fun s=>inv s.1 s.2.1 s.2.2.1 s.2.2.2.1 s.2.2.2.2.1 s.2.2.2.2.2.1 s.2.2.2.2.2.2) (fun s=>μ s.1 s.2.1 s.2.2.1 s.2.2.2.1 s.2.2.2.2.1 s.2.2.2.2.2.1 s.2.2.2.2.2.2) m Q
theorem c_loop7 {α β γ δ ε ζ η:Type} (i:α->β->γ->δ->ε->ζ->η->Env) (q:α->β->γ->δ->ε->ζ->η->List Own) (j:α->β->γ->δ->ε->ζ->η->Prop) (μ:α->β->γ->δ->ε->ζ->η->Nat) (n:α) (t:β) (o:γ) (r:δ) (l:ε) (p:ζ) (m:η) (he:BZ E (i n t o r l p m)) (v:∀ w,S w->Mem w0 M (q n t o r l p m) w) (hi:j n t o r l p m)
  (k:∀ a b g d e f h,j a b g d e f h->WC P N D c (LQ7 N D w0 M i q j μ (μ a b g d e f h) Q) (i a b g d e f h) (Mem w0 M (q a b g d e f h))):WC P N D (.loop c) Q E S :=
 vu (fun s:α × β × γ × δ × ε × ζ × η=>i s.1 s.2.1 s.2.2.1 s.2.2.2.1 s.2.2.2.2.1 s.2.2.2.2.2.1 s.2.2.2.2.2.2) (fun s=>q s.1 s.2.1 s.2.2.1 s.2.2.2.1 s.2.2.2.2.1 s.2.2.2.2.2.1 s.2.2.2.2.2.2) (fun s=>j s.1 s.2.1 s.2.2.1 s.2.2.2.1 s.2.2.2.2.1 s.2.2.2.2.2.1 s.2.2.2.2.2.2) (fun s=>μ s.1 s.2.1 s.2.2.1 s.2.2.2.1 s.2.2.2.2.1 s.2.2.2.2.2.1 s.2.2.2.2.2.2) (n,t,o,r,l,p,m) he v hi fun s u=>k s.1 s.2.1 s.2.2.1 s.2.2.2.1 s.2.2.2.2.1 s.2.2.2.2.2.1 s.2.2.2.2.2.2 u
theorem Wm {α β γ δ ε ζ η:Type} {d:α->β->γ->δ->ε->ζ->η->Env} {k:α->β->γ->δ->ε->ζ->η->List Own} {e:α->β->γ->δ->ε->ζ->η->Prop} {μ:α->β->γ->δ->ε->ζ->η->Nat} {m:Nat} (i:α) (b:β) (g:γ) (f:δ) (a:ε) (j:ζ) (c:η) (he:BZ E (d i b g f a j c)) (o:∀ w,S w->Mem w0 M (k i b g f a j c) w) (hi:e i b g f a j c) (hμ:μ i b g f a j c < m) :
  WE N D (LQ7 N D w0 M d k e μ m Q) .normal E S:=fun w n _ l=>⟨(i,b,g,f,a,j,c),l.less he.all,⟨hi,o w n⟩,hμ⟩
end
theorem jt {p:Prop} [Decidable p] (h:p):some (Value.bool true)=some (Value.bool (decide p)):=by simp [h]
theorem jf {p:Prop} [Decidable p] (h:¬ p):some (Value.bool false)=some (Value.bool (decide p)):=by simp [h]
theorem jp {p q:Prop} [Decidable p] [Decidable q] (h:p↔q):some (Value.bool (decide p))=some (Value.bool (decide q)):=by simp [h]
theorem jv {u v:Value} (h:u=v):some u=some v:=by rw [h]
theorem ji {k:IntKind} {m n:Int} (h:m=n):some (Value.int k m)=some (Value.int k n):=by rw [h]
end Ex
end
section
structure LJ where (err at_:Int) deriving DecidableEq
structure AA where (time value:Int) deriving DecidableEq
structure Sum where (count total min max first last Ap:Int) deriving DecidableEq
structure AB where (at_:Int) (sum:Sum) deriving DecidableEq
structure Label where (key val:ByteArray) deriving DecidableEq
structure Match where (kind:Int) (key val:ByteArray) deriving DecidableEq
structure Part where (AG frm to:Int) deriving DecidableEq
structure It where (fst snd:ByteArray) deriving DecidableEq
namespace Ex
@[reducible] def OO (f:LJ):List Value:=[.int .i64 f.err,.int .i64 f.at_]
@[reducible] def zX (s:AA):List Value:=[.int .i64 s.time,.int .i64 s.value]
@[reducible] def CK (s:Sum):List Value:=[.int .i64 s.count,.int .i64 s.total,.int .i64 s.min,.int .i64 s.max,.int .i64 s.first,.int .i64 s.last,.int .i64 s.Ap]
@[reducible] def zO (b:AB):List Value:=[.int .i64 b.at_,.int .i64 b.sum.count,.int .i64 b.sum.total,.int .i64 b.sum.min,.int .i64 b.sum.max,.int .i64 b.sum.first,.int .i64 b.sum.last,.int .i64 b.sum.Ap]
@[reducible] def zb (l:Label):List Value:=[.string l.key,.string l.val]
@[reducible] def yF (m:Match):List Value:=[.int .i64 m.kind,.string m.key,.string m.val]
@[reducible] def vB (p:Part):List Value:=[.int .i64 p.AG,.int .i64 p.frm,.int .i64 p.to]
@[reducible] def pair2E (p:It):List Value:=[.string p.fst,.string p.snd]
@[reducible] def Ac (s:ByteArray):List Value:=[.string s]
@[reducible] def GD (n:Int):List Value:=[.int .i64 n]
@[reducible] def byteE (b:UInt8):List Value:=[.int .u8 b.toNat]
def zH {α:Type} (Sb:Nat->Prop) (k:Nat) (enc:α->List Value) (v:Value) (l:List α) (w:World):Prop :=
  ∃ A c,v=.slice A l.length c∧l.length<=c∧c<=maxLen∧(l≠[]->∃ ad,A=some ad∧Sb ad.block ∧
    ∀ (i:Nat) (x:α),l[i]?=some x->∀ (j:Nat) (u:Value),(enc x)[j]?=some u->w.cell? ((ad.add (i * k)).add j)=some u)
section
variable {α:Type} {Sb Sb':Nat->Prop} {k:Nat} {enc:α->List Value} {v:Value} {l:List α} {w w' w0:World} {A:Option Addr} {c len:Nat} {ad:Addr} {M:Fp} {L:List Own}
theorem zH.Cl (h:zH Sb k enc v l w) (f:∀ b,Sb b->w'.heap[b]?=w.heap[b]?):zH Sb k enc v l w':=by
 obtain ⟨A,c,m,p,n,o⟩:=h;refine ⟨A,c,m,p,n,fun a=>?_⟩;obtain ⟨ad,e,d,q⟩:=o a;exact ⟨ad,e,d,fun i x hi j u g=>(World.cell?_of_block (by rw [Ck,Ck]; exact f _ d)).trans (q i x hi j u g)⟩
theorem zH.mono (h:zH Sb k enc v l w) (d:∀ b,Sb b->Sb' b):zH Sb' k enc v l w:=by
 obtain ⟨A,c,f,m,g,i⟩:=h;exact ⟨A,c,f,m,g,fun a=>by obtain ⟨ad,e,j,n⟩:=i a; exact ⟨ad,e,d _ j,n⟩⟩
theorem zH.vh (a:Nat->Prop) (k:Nat) (enc:α->List Value) (w:World):zH a k enc (.slice none 0 0) [] w:=⟨none,0,rfl,vY _,Nat.zero_le _,fun h=>absurd rfl h⟩
theorem zH.form (h:zH Sb k enc v l w):∃ A c,v=.slice A l.length c∧l.length<=c∧c<=9223372036854775807∧(l≠[]->∃ ad,A=some ad):=by
 obtain ⟨A,c,b,g,d,f⟩:=h;exact ⟨A,c,b,g,by simpa [maxLen] using d,fun a=>by obtain ⟨ad,e,_⟩:=f a; exact ⟨ad,e⟩⟩
theorem zH.cell (h:zH Sb k enc (.slice A len c) l w) (g:A=some ad) {i j:Nat} {x:α} {u:Value} (hi:l[i]?=some x) (m:(enc x)[j]?=some u):w.cell? ((ad.add (i * k)).add j)=some u:=by
 obtain ⟨A',n,b,_,_,d⟩:=h;injection b with e1 _ _;subst e1;obtain ⟨a,e,_,f⟩:=d (by rintro rfl; simp at hi);obtain rfl:ad=a:=Option.some.inj (g.symm.trans e);exact f i x hi j u m
theorem zH.loc (k:Nat) (enc:α->List Value) (v:Value) (l:List α):Loc (fun S=>zH S k enc v l):=fun _ _ _ _ a b h=>(h.Cl b).mono a
theorem ne_nil {i:Nat} (h:i < l.length):l≠[]:=by grind
def slO (Sb:Nat->Prop) (k:Nat) (enc:α->List Value) (v:Value) (l:List α):Own:=.dat Sb (zH Sb k enc v l)
def slP (k:Nat) (enc:α->List Value) (v:Value) (l:List α):Own:=.pub (fun S=>zH S k enc v l)
theorem slO.holds_ (h:zH Sb k enc v l w):(slO Sb k enc v l).holds w:=⟨h,fun _ _ b a=>a.Cl b⟩
theorem Mem.args {w:World} {P0:Nat->Prop} (e:∀ b,P0 b->b < w.heap.size) (h:∀ (i:Nat) (o:Own),L[i]?=some o->o.mut=false∧o.holds w∧(∀ b,o.fp b->b < w.heap.size)∧∀ F,o=.pub F->F P0 w):Mem w ⟨no,P0⟩ L w :=
 ⟨Fr.refl _ _,fun i o hi=>⟨(h i o hi).2.1,(h i o hi).2.2.1,fun a=>(by rw [(h i o hi).1] at a; cases a)⟩,fun i j o o' hi d _ a=>(by rw [(h i o hi).1,(h j o' d).1] at a; rcases a with a | a <;> cases a),
  P0,fun _ c=>.inl c,e,fun i o hi a=>(by rw [(h i o hi).1] at a; cases a),fun i F hi=>(h i _ hi).2.2.2 F rfl⟩
abbrev In (w:World):Nat->Prop:=fun b=>b < w.heap.size
theorem Mem.sl {w:World} {b:Nat->Prop} (h:Mem w0 M L w) (i:Nat) (a:L[i]?=some (slO b k enc v l)):zH (In w) k enc v l w:=(h.dat a).mono (h.ok i _ a).2.1
theorem Mem.slp {w:World} (h:Mem w0 M L w) (i:Nat) (a:L[i]?=some (slP k enc v l)):zH (In w) k enc v l w:=h.yU a
theorem DP.sl {w:World} {a:Nat->Prop} (h:DP w0 M L w a) (i:Nat) (b:L[i]?=some (slP k enc v l)):zH a k enc v l w:=h.at_ i _ b
variable {P:Program} {N:Nat} {D:List Deferred} {E:Env} {x:Operand} {T ty:TypeId} {u:Value}
theorem r_el (q:Nat) {i j:Nat} {e:α} (g:ev E x=some (.pointer (some ((ad.add (i * k)).add j)))) (f:L[q]?=some (slO Sb k enc (.slice A len c) l)) (b:A=some ad) (hi:l[i]?=some e) (d:(enc e)[j]?=some u) (a:Cv P T=true):AR P N D E (Mem w0 M L) (.load T x) ty u :=
 jh g a fun _ h=>(h.dat f).cell b hi d
theorem r_eln (q:Nat) {i j b d:Nat} {r:Value} {e:α} (vs:List Value) (t:ev E x=some (.pointer (some ((ad.add (i * k)).add j)))) (s:L[q]?=some (slO Sb k enc (.slice A len c) l)) (o:A=some ad) (hi:l[i]?=some e) (g:((enc e).drop j).take b=vs) (m:vs.length=b) (n:Dh P T=true) (f:Inf P T b d r) :
  AR P N D E (Mem w0 M L) (.load T x) ty (.agg vs.toArray) :=
 jj vs t n f m fun _ h p u a=>by
  rw [add_add,add_add,<-add_add]
  rw [<-g,List.getElem?_take] at a
  split at a
  ·exact (h.dat s).cell o hi (by simpa using a)
  ·cases a
theorem r_pl (q:Nat) {i j:Nat} {e:α} (g:ev E x=some (.pointer (some ((ad.add (i * k)).add j)))) (f:L[q]?=some (slP k enc (.slice A len c) l)) (b:A=some ad) (hi:l[i]?=some e) (d:(enc e)[j]?=some u) (a:Cv P T=true):AR P N D E (Mem w0 M L) (.load T x) ty u :=
 jh g a fun _ h=>(h.slp q f).cell b hi d
theorem js (q:Nat) {i j b d:Nat} {r:Value} {e:α} (vs:List Value) (t:ev E x=some (.pointer (some ((ad.add (i * k)).add j)))) (s:L[q]?=some (slP k enc (.slice A len c) l)) (o:A=some ad) (hi:l[i]?=some e) (g:((enc e).drop j).take b=vs) (m:vs.length=b) (n:Dh P T=true) (f:Inf P T b d r) :
  AR P N D E (Mem w0 M L) (.load T x) ty (.agg vs.toArray) :=
 jj vs t n f m fun _ h p u a=>by
  rw [add_add,add_add,<-add_add]
  rw [<-g,List.getElem?_take] at a
  split at a
  ·exact (h.slp q s).cell o hi (by simpa using a)
  ·cases a
end
end Ex
end
section
namespace Ex
variable {P:Program} {N:Nat} {D:List Deferred} {E E':Env} {S:World->Prop} {Q:Exit->Act->World->Prop} {K:Act->World->Prop}
  {w0:World} {M:Fp} {L:List Own}
  {ops:Array Oper} {rest l:List Oper} {d t:Nat} {dst:Option Tmp} {op:Op} {ty T T':TypeId} {pos:String} {aft:Array Edge} {g:Option (Nat × Bool)} {v u:Value} {x y z:Operand} {p q:Prop} {b:Bool}
theorem jpb {b:Bool} {q:Prop} [Decidable q] (h:b=true↔q):some (Value.bool b)=some (Value.bool (decide q)):=by grind
theorem sn:BZ E []:=trivial
theorem sc (h:look E t=some v) (r:BZ E E'):BZ E ((t,v)::E'):=⟨h,r⟩
theorem gF (h:WE N D Q .normal E S):WQ P N D ops (Q .normal) [] E S:=fun a c=>wpQuiet_nil (fun w' b=>h w' b a c)
theorem over (f:look E t=some v) (g:v=u) {a:Act} (c:Has N D a E):Has N D a ((t,u)::E):=⟨c.d,c.n,fun s r b=>by
 rw [Cp] at b
 by_cases e:t=s
 ·rw [zP e] at b; rw [<-e,c.h t _ f,g]; simpa using b
 ·rw [zI e] at b; exact c.h s r b⟩
section
variable [Decidable p]
theorem jz (b:look E t=some (.bool (decide p))) (e:p) (h:WL P N D ops Q l ((t,.bool true)::E) S):WL P N D ops Q l E S:=fun w d a c=>h w d a (over b (by simp [e]) c)
theorem jN (b:look E t=some (.bool (decide p))) (e:¬ p) (h:WL P N D ops Q l ((t,.bool false)::E) S):WL P N D ops Q l E S:=fun w d a c=>h w d a (over b (by simp [e]) c)
end
theorem Sq (c:look E t=some (.bool b)) (d:b=true) (h:WL P N D ops Q l ((t,.bool true)::E) S):WL P N D ops Q l E S:=fun w f a e=>h w f a (over c (by simp [d]) e)
theorem Ss (c:look E t=some (.bool b)) (d:¬ b=true) (h:WL P N D ops Q l ((t,.bool false)::E) S):WL P N D ops Q l E S:=fun w f a e=>h w f a (over c (by simp [d]) e)
theorem q_littb (c:look E t=some (.bool b)) (d:b=true) (h:WQ P N D ops K l ((t,.bool true)::E) S):WQ P N D ops K l E S:=fun a e=>h a (over c (by simp [d]) e)
theorem q_litfb (c:look E t=some (.bool b)) (d:¬ b=true) (h:WQ P N D ops K l ((t,.bool false)::E) S):WQ P N D ops K l E S:=fun a e=>h a (over c (by simp [d]) e)
theorem TM (c:look E t=some (.bool b)) (e:b=true->WL P N D ops Q l ((t,.bool true)::E) S) (d:¬ b=true->WL P N D ops Q l ((t,.bool false)::E) S):WL P N D ops Q l E S:=by
 by_cases a:b=true;exact Sq c a (e a);exact Ss c a (d a)
theorem q_caseb (c:look E t=some (.bool b)) (e:b=true->WQ P N D ops K l ((t,.bool true)::E) S) (d:¬ b=true->WQ P N D ops K l ((t,.bool false)::E) S):WQ P N D ops K l E S:=by
 by_cases a:b=true;exact q_littb c a (e a);exact q_litfb c a (d a)
theorem AI {q:Prop} {a b:Prop} (h:¬ a) (e:q↔b):q↔a∨b:=by grind
theorem AH {q:Prop} {a b:Prop} (h:a) (e:q↔b):q↔a∧b:=by grind
theorem CD {q:Prop} {a b c:Prop} (h:a) (e:q↔b):q↔(a∧b)∨(¬ a∧c):=by grind
theorem Br {q:Prop} {a b c:Prop} (h:¬ a) (e:q↔c):q↔(a∧b)∨(¬ a∧c):=by grind
def dOk (P0:Nat->Prop) (o:Own) (w:World):Prop:=o.mut=false∧o.holds w∧(∀ b,o.fp b->b < w.heap.size)∧∀ F,o=.pub F->F P0 w
def Hc (P0:Nat->Prop):List Own->World->Prop
  | [],_=>True
  | o::r,w=>dOk P0 o w∧Hc P0 r w
theorem dn {P0:Nat->Prop} {w:World}:Hc P0 [] w:=trivial
theorem dc {P0:Nat->Prop} {w:World} {o:Own} (h:dOk P0 o w) (r:Hc P0 L w):Hc P0 (o::L) w:=⟨h,r⟩
theorem dl {P0:Nat->Prop} {w:World} {α:Type} {k:Nat} {enc:α->List Value} {l:List α} (h:zH (In w) k enc v l w):dOk P0 (slO (In w) k enc v l) w:=⟨rfl,slO.holds_ h,fun _ a=>a,fun F b=>by cases b⟩
theorem dp {P0:Nat->Prop} {w:World} {F:(Nat->Prop)->World->Prop} (c:Loc F) (h:F P0 w):dOk P0 (.pub F) w:=⟨rfl,c,fun _ b=>b.elim,fun G a=>by cases a; exact h⟩
theorem dlp {P0:Nat->Prop} {w:World} {α:Type} {k:Nat} {enc:α->List Value} {l:List α} (h:zH P0 k enc v l w):dOk P0 (slP k enc v l) w:=dp (zH.loc _ _ _ _) h
theorem Hc.at {P0:Nat->Prop} {w:World}:∀ {L:List Own},Hc P0 L w->∀ (i:Nat) (o:Own),L[i]?=some o->dOk P0 o w
  | [],_,i,o,hi=>by simp at hi
  | p :: r, h, i, o, hi => by
    cases i with
    | zero => obtain rfl : p = o := by simpa using hi
              exact h.1
    | succ i=>exact Hc.at h.2 i o (by simpa using hi)
theorem Mem.AT {P0:Nat->Prop} {w:World} (a:∀ b,P0 b->b < w.heap.size) (h:Hc P0 L w):Mem w ⟨no,P0⟩ L w:=Mem.args a fun i o hi=>h.at i o hi
theorem Mem.AQ {w:World} (h:Hc (fun _=>False) L w):Mem w no L w:=Mem.AT (fun _ h=>h.elim) h
theorem zL {p:Nat->Prop} {w a:World} (h:u=v) (b:Mem w ⟨no,p⟩ L a):Ret w v (.returned u) a:=⟨by rw [h],b.fr⟩
theorem yd {p:Nat->Prop} {w a:World} {l1 b:List Value} (h:l1=b) (c:Mem w ⟨no,p⟩ L a):Ret w (.agg b.toArray) (.returned (.agg l1.toArray)) a:=⟨by rw [h],c.fr⟩
def EqV (P:Program) (T:TypeId) (α:Type) (enc:α->List Value) [DecidableEq α]:Prop :=
  (∀ (a b:α) (w:World),(Op.equalIn 10000 T (.agg (enc a).toArray) (.agg (enc b).toArray)).run P w=.ok (decide (a=b)) w)∧P.eqGuardType P.depth T=false
theorem qM {α:Type} [DecidableEq α] {enc:α->List Value} {a b:α} (f:ev E x=some (.agg (enc a).toArray)) (d:ev E y=some (.agg (enc b).toArray)) (h:EqV P T α enc):AR P N D E S (.binOp .neq T x y T') ty (.bool (decide (a≠b))):=fun o e _ g w c _=>by
 unfold execOp; rw [e]
 simp only [c.eval f,c.eval d,Sem.run_bind,run_eqGuard_agg w .neq T x y _ _ h.2,run_neq_struct,h.1,Result.andThen_ok,Sem.run_pure]
 simp
def CH (s t:ByteArray):Bool:=Op.bytesLess s.toList t.toList
theorem ET {s:ByteArray} {i:Nat} (h:i < s.size):s[i]?=some s[i]:=by simp [h]
theorem PZ:∀ (a b:List UInt8),(!(Op.bytesLess a b || decide (a=b)))=Op.bytesLess b a
 | [],[]=>by simp [Op.bytesLess]
 | [],_::_=>by simp [Op.bytesLess]
 | _::_,[]=>by simp [Op.bytesLess]
 | x :: a, y :: b => by
  have ih:=PZ a b
  simp only [Op.bytesLess]
  rcases Nat.lt_trichotomy x.toNat y.toNat with h | h | h
  ·have c:x < y:=UInt8.lt_iff_toNat_lt.2 h
   have e:¬ y < x:=fun k=>by have:=UInt8.lt_iff_toNat_lt.1 k; omega
   have d:¬ y=x:=fun k=>by subst k; omega
   simp [c,e,d]
  ·obtain rfl:x=y:=UInt8.toNat_inj.1 h
   have c:¬ x < x:=fun k=>by have:=UInt8.lt_iff_toNat_lt.1 k; omega
   simp only [c,decide_false,Bool.false_or,beq_self_eq_true,Bool.true_and]
   rw [<-ih]
   simp
  ·have c:y < x:=UInt8.lt_iff_toNat_lt.2 h
   have e:¬ x < y:=fun k=>by have:=UInt8.lt_iff_toNat_lt.1 k; omega
   have d:¬ x=y:=fun k=>by subst k; omega
   simp [c,e,d]
theorem toList_inj {s t:ByteArray}:s.toList=t.toList↔s=t:=⟨fun e=>by
 rw [ByteArray.toList_eq,ByteArray.toList_eq] at e
 obtain ⟨⟨x⟩⟩:=s
 obtain ⟨⟨y⟩⟩:=t
 simp at e
 rw [e],fun e=>by rw [e]⟩
theorem Ke (s t:ByteArray):(!(Op.bytesLess s.toList t.toList || decide (s=t)))=CH t s:=by
 rw [CH,<-PZ s.toList t.toList];simp only [toList_inj]
theorem r_sgtr' {s t:ByteArray} (a:ev E x=some (.string s)) (b:ev E y=some (.string t)):AR P N D E S (.binOp .gtr T x y T') ty (.bool (CH t s)):=by
 have:=r_sgtr (P:=P) (N:=N) (D:=D) (S:=S) (T:=T) (T':=T') (ty:=ty) a b
 rwa [Ke] at this
theorem r_sleq' {s t:ByteArray} (a:ev E x=some (.string s)) (b:ev E y=some (.string t)):AR P N D E S (.binOp .leq T x y T') ty (.bool (!(CH t s))):=by
 have:=r_sleq (P:=P) (N:=N) (D:=D) (S:=S) (T:=T) (T':=T') (ty:=ty) a b;rw [<-Ke];simpa using this
theorem r_slss' {s t:ByteArray} (a:ev E x=some (.string s)) (b:ev E y=some (.string t)):AR P N D E S (.binOp .lss T x y T') ty (.bool (CH s t)):=r_slss a b
theorem r_sgeq' {s t:ByteArray} (a:ev E x=some (.string s)) (b:ev E y=some (.string t)):AR P N D E S (.binOp .geq T x y T') ty (.bool (!(CH s t))):=r_sgeq a b
theorem vR {f:Fn} {b cap:Array Operand} {c:List Value} (e:b=#[]) (i:evs E cap.toList=some c):AR P N D E S (.makeFunc f b cap) ty (.func f #[] c.toArray):=fun o h _ a w g _=>by
 subst e
 have d:cap.map a.eval=c.toArray:=by
  apply Array.toList_inj.1
  rw [Array.toList_map]
  exact KU g i
 unfold execOp; rw [h]; simp [Instr.makeFunc,d]
theorem WX {m:Int} (b:ev E x=some (.int .u8 m)) (a:(P.underlying T).isSome=true) (c:P.underlying T'=some (.int .i64)) (h:-9223372036854775808<=m∧m<=9223372036854775807):AR P N D E S (.convert T T' x) ty (.int .i64 m):=by
 have:=qi (P:=P) (N:=N) (D:=D) (S:=S) (ty:=ty) b a c
 rwa [Fx h] at this
def Ga (k:Nat):Nat->List (Nat × Value)->Option (List Value)
  | _,[]=>some []
  | i, p :: r => match Nat.beq p.1 i, Nat.beq p.2.cells.toList.length k, Ga k (i + 1) r with
    | true,true,some cs=>some (p.2.cells.toList++cs)
    | _,_,_=>none
theorem Mr {k:Nat}:∀ (a:List (Nat × Value)) (i:Nat) (cs:List Value),Ga k i a=some cs->cs.length=a.length * k
 | [],_,cs,h=>by simp [Ga] at h; simp [h]
 | p :: r, i, cs, h => by
  unfold Ga at h
  cases h1:Nat.beq p.1 i with
  | false=>rw [h1] at h; cases h
  | true =>
   cases h2:Nat.beq p.2.cells.toList.length k with
   | false=>rw [h1,h2] at h; cases h
   | true =>
    cases h3:Ga k (i + 1) r with
    | none=>rw [h1,h2,h3] at h; cases h
    | some c =>
     rw [h1,h2,h3] at h
     have e2:=Nat.eq_of_beq_eq_true h2
     have b:=Mr r (i + 1) c h3
     simp only [Option.some.injEq] at h
     rw [<-h,uF,e2,b,gP,Nat.succ_mul]; omega
theorem Ho {k:Nat}:∀ (d:List (Nat × Value)) (i:Nat) (cs b a:List Value),Ga k i d=some cs->b.length=i * k->a.length=d.length * k ->
  Instr.fill (fun j=>some (j * k,k)) (b++a).toArray d=some (b++cs).toArray
 | [], i, cs, b, a, h, _, hp => by
  simp [Ga] at h
  have:a=[]:=jb (by simpa using hp)
  simp [Instr.fill,h,this]
 | p :: r, i, cs, b, a, h, hpre, hp => by
  obtain ⟨j,v⟩:=p
  unfold Ga at h
  dsimp only at h
  cases h1:Nat.beq j i with
  | false=>rw [h1] at h; cases h
  | true =>
   cases h2:Nat.beq v.cells.toList.length k with
   | false=>rw [h1,h2] at h; cases h
   | true =>
    cases h3:Ga k (i + 1) r with
    | none=>rw [h1,h2,h3] at h; cases h
    | some c =>
     rw [h1,h2,h3] at h
     have l:=Nat.eq_of_beq_eq_true h1
     have e:v.cells.size=k:=by simpa using Nat.eq_of_beq_eq_true h2
     subst l
     simp only [Option.some.injEq] at h
     simp only [gP,Nat.succ_mul] at hp
     unfold Instr.fill
     dsimp only
     have o:¬ ((decide (v.cells.size≠k) || decide (j * k + v.cells.size > (b++a).toArray.size))=true):=by
      simp only [List.size_toArray,uF,Bool.or_eq_true,ud,not_or]
      refine ⟨qO,qO⟩
     rw [zI o]
     have m:=GJ (j * k) v.cells.toList 0 (b++a) (by simp; omega)
     have g:Array.foldl (fun (cs:Array Value) (x:Value × Nat)=>cs.setIfInBounds (j * k + x.2) x.1) (b++a).toArray v.cells.zipIdx=(BP (b++a) (j * k) v.cells.toList).toArray:=by
      rw [<-Array.foldl_toList]; simpa using m
     have n:BP (b++a) (j * k) v.cells.toList=(b++v.cells.toList)++a.drop k:=by
      unfold BP
      rw [<-hpre]
      simp [e]
     have f:=Ho r (j + 1) c (b++v.cells.toList) (a.drop k) h3 (by simp [hpre,e,Nat.succ_mul]) (by simp; omega)
     rw [<-h,<-ub,<-f,<-n,<-g]
theorem l_bs {e k s n:Nat} {p:Value} {c:Array (Nat × Operand)} {q:List (Nat × Value)} (cs:List Value) (y:Want N D ops E g true) (H:P.underlying T=some (.slice e)) (z:Inf P e k s p) (he:evp E c.toList=some q) (t:Ga k 0 q=some cs) (u:q.length=n)
  (F:0 < n * k) (v:n * k<=16777216) (J:Nat.blt d N=true)
  (h:∀ b,WL P N D ops Q rest ((d,.slice (some ⟨b,0,none⟩) n n)::E) (Mem w0 M (.row (.slice (some ⟨b,0,none⟩) n n) e k n cs::L))):WL P N D ops Q (⟨some d,.buildSlice T n c,ty,pos,aft,g⟩::rest) E (Mem w0 M L):=by
 refine jc y J fun o O G a w B R=>?_
 obtain ⟨i,hi,C,m,_⟩:=z.get
 have A:(c.map fun (i,x)=>(i,a.eval x)).toList=q:=by rw [Array.toList_map]; exact KI B he
 have f:=Mr q 0 cs t
 rw [u] at f
 have l:Instr.fill (fun j=>some (j * i.size,i.size)) ((Array.range (n * i.size)).map (p.cells[· % p.cells.size]!)) (c.map fun (i,x)=>(i,a.eval x)).toList=some cs.toArray:=by
  rw [A,m]
  have:=Ho q 0 cs [] ((Array.range (n * k)).map (p.cells[· % p.cells.size]!)).toList t qS (by simp [u])
  simpa only [List.nil_append,Array.toArray_toList] using this
 have I:=run_buildSlice (P:=P) w T e n _ cs.toArray i p H hi C (by rw [m]; omega) (by rw [m]; omega) l
 refine ⟨.slice (some ⟨w.heap.size,0,none⟩) n n,w.alloc (.cells cs.toArray e),?_,_,?_,h w.heap.size⟩
 ·unfold execOp; rw [O]; simp [I]
 ·refine R.add (Fr.alloc _ _ _) ?_ (fun b K=>?_)
  ·have:=World.ownsRow_lit (size:=k) (e:=e) (base:=0) w cs.toArray n (Nat.zero_le _) (by simp only [maxLen]; have:n<=n * k:=Nat.le_mul_of_pos_right n (Nat.pos_of_ne_zero (by rintro rfl; simp at F)); omega) (by simpa using f)
   show World.ownsRow _ _ _ _ _ _ _
   simpa using this
  ·have r:w.heap.size=b:=by simpa [Own.fp,Value.ownBlock] using K
   subst r; simp
theorem l_bs0 {e k f:Nat} {s:Value} (r:Want N D ops E g true) (l:P.underlying T=some (.slice e)) (j:Inf P e k f s) (m:Nat.blt d N=true)
  (h:∀ b,WL P N D ops Q rest ((d,.slice (some ⟨b,0,none⟩) 0 0)::E) (Mem w0 M (.row (.slice (some ⟨b,0,none⟩) 0 0) e k 0 []::L))):WL P N D ops Q (⟨some d,.buildSlice T 0 #[],ty,pos,aft,g⟩::rest) E (Mem w0 M L):=by
 refine jc r m fun o p i a w t q=>⟨.slice (some ⟨w.heap.size,0,none⟩) 0 0,w.alloc (.cells #[] e),?_,_,?_,h w.heap.size⟩
 ·unfold execOp; rw [p]
  simp [Instr.buildSlice,run_underlying l,Bk j,Instr.fill,newRow,Array.range_zero']
 ·refine q.add (Fr.alloc _ _ _) ?_ (fun b n=>?_)
  ·have:=World.ownsRow_lit (size:=k) (e:=e) (base:=0) w #[] 0 (Nat.zero_le _) (Nat.zero_le _) qS
   show World.ownsRow _ _ _ _ _ _ _
   simpa using this
  ·have c:w.heap.size=b:=by simpa [Own.fp,Value.ownBlock] using n
   subst c; simp
theorem LB {w:World} {base e k n:Nat} {d:List Value} (h:w.ownsRow base e k v n d):∃ A c,v=.slice A n c∧n<=c∧c<=maxLen∧(0 < n->∃ ad,A=some ad∧v.ownBlock=some ad.block∧∀ (j:Nat) (u:Value),d[j]?=some u->w.cell? (ad.add j)=some u):=by
 have f:=h;rcases h.2 with ⟨rfl,rfl⟩ | ⟨g,cap,cur,rfl,_,_,a,b,_⟩
 exact ⟨none,0,rfl,vY _,Nat.zero_le _,fun i=>absurd i qO⟩;exact ⟨some ⟨g,0,none⟩,cap,rfl,a,b,fun _=>⟨_,rfl,rfl,f.cells (g:=g) rfl⟩⟩
theorem flat_get {α:Type} {k:Nat} {enc:α->List Value} (he:∀ a,(enc a).length=k):∀ (l:List α) (i:Nat) (x:α) (j:Nat) (u:Value),l[i]?=some x->(enc x)[j]?=some u->(l.flatMap enc)[i * k + j]?=some u
 | [],i,x,j,u,hi,_=>by simp at hi
 | a :: l, i, x, j, u, hi, hj => by
  rw [List.flatMap_cons]
  cases i with
  | zero =>
   obtain rfl:a=x:=by simpa using hi
   have:j < (enc a).length:=(yb.1 hj).1
   rw [Nat.zero_mul,Nat.zero_add,uX this]; exact hj
  | succ i =>
   have b:=flat_get he l i x j u (by simpa using hi) hj
   rw [jU (by rw [he,Nat.succ_mul]; omega),he,show (i + 1) * k + j - k=i * k + j by rw [Nat.succ_mul]; omega]
   exact b
theorem rowSl {w:World} {α:Type} {k e n:Nat} {enc:α->List Value} {d:List Value} (l:List α) (h:Mem w0 M L w) (i:Nat) (f:L[i]?=some (.row v e k n d)) (t:d=l.flatMap enc) (q:n=l.length) (he:∀ a,(enc a).length=k):zH (In w) k enc v l w:=by
 subst t q;obtain ⟨A,c,rfl,g,p,m⟩:=LB (h.row f);refine ⟨A,c,rfl,g,p,fun b=>?_⟩;obtain ⟨ad,rfl,o,r⟩:=m (List.length_pos_iff.2 b);refine ⟨ad,rfl,(h.ok i _ f).2.1 _ o,fun i x hi j u s=>?_⟩;rw [add_add];exact r _ u (flat_get he l i x j u hi s)
def Lw (w:World) (e k n:Nat) (xs:List Value):Ending->World->Prop:=fun en w'=>∃ v,en=.returned v∧Fr no w w'∧w'.ownsRow w.heap.size e k v n xs
theorem Mem.RP {w w':World} {e k n:Nat} {c:List Value} (h:Mem w0 M L w) (i:Fr no w w') (a:w'.ownsRow w.heap.size e k v n c):Mem w0 M (.row v e k n c::L) w':=by
 refine h.add i ⟨a.1,?_⟩ (fun b f=>a.lt b f);rcases a.2 with j | ⟨g,cap,cur,d,_,r⟩
 exact .inl j;exact .inr ⟨g,cap,cur,d,Nat.zero_le _,r⟩
theorem Tz {f e k n:Nat} {args:Array Operand} {ts:Array TypeId} {vs c:List Value} (m:Want N D ops E g true) (a:evs E args.toList=some vs)
  (b:∀ vs w,(callFunc f vs).run P w=.ok (.enter f vs) w) (j:Nat.blt d N=true)
  (l:∀ w,Mem w0 M L w->Calls P f vs.toArray w (Lw w e k n c)) (h:∀ v,WL P N D ops Q rest ((d,v)::E) (Mem w0 M (.row v e k n c::L))) :
  WL P N D ops Q (⟨some d,.call { callee:=.value (.func f),args:=args,argTypes:=ts },ty,pos,aft,g⟩::rest) E (Mem w0 M L) :=
 qK (Φ:=fun v w'=>Mem w0 M (.row v e k n c::L) w') m a b j (fun w i=>(l w i).mono fun _ _ ⟨v,he,hf,ho⟩=>⟨v,he,i.RP hf ho⟩) h
theorem Mem.retRow {p:Nat->Prop} {w a:World} {e k n:Nat} {b:List Value} (h:Mem w ⟨no,p⟩ L a) (i:Nat) (d:L[i]?=some (.row v e k n b)):Lw w e k n b (.returned v) a:=by
 refine ⟨v,rfl,h.fr,?_⟩;have c:=h.row d;have f:=(h.ok i _ d).2.2 rfl;refine ⟨c.1,?_⟩;rcases c.2 with j | ⟨g,cap,cur,rfl,_,r⟩
 exact .inl j;exact .inr ⟨g,cap,cur,rfl,(f g rfl).resolve_right id,r⟩
end Ex
end
section
namespace Ex
theorem wu {N:Nat} {D:List Deferred} {E:Env} {ops:Array Oper} {j d:Nat} {b:Bool} (i:(ops[j]?).bind (·.dst)=some d) (e:look E d=some undef):Want N D ops E (some (j,b)) false:=fun o g a f=>by
 have c:=f.h d _ e
 simp [Region.wanted,g,yielded,i,c,undef]
structure Enc {α:Type} (enc:α->List Value) (k:Nat):Prop where
  len:∀ a,(enc a).length=k
  one:∀ a,∀ u ∈ enc a,u.oneCell'=true
  pos:0 < k
theorem Enc.of {α:Type} {enc:α->List Value} {k:Nat} (c:∀ a,(enc a).length=k) (d:∀ a,(enc a).all (·.oneCell')=true) (b:Nat.blt 0 k=true):Enc enc k :=
 ⟨c,fun a u e=>List.all_eq_true.1 (d a) u e,by simpa using b⟩
theorem AK:Enc zX 2:=.of (fun _=>rfl) (fun _=>rfl) rfl
theorem Cw:Enc CK 7:=.of (fun _=>rfl) (fun _=>rfl) rfl
theorem AN:Enc zO 8:=.of (fun _=>rfl) (fun _=>rfl) rfl
theorem BB:Enc zb 2:=.of (fun _=>rfl) (fun _=>rfl) rfl
theorem Ag:Enc yF 3:=.of (fun _=>rfl) (fun _=>rfl) rfl
theorem Af:Enc vB 3:=.of (fun _=>rfl) (fun _=>rfl) rfl
theorem VT:Enc pair2E 2:=.of (fun _=>rfl) (fun _=>rfl) rfl
theorem AL:Enc Ac 1:=.of (fun _=>rfl) (fun _=>rfl) rfl
theorem MB:Enc GD 1:=.of (fun _=>rfl) (fun _=>rfl) rfl
@[reducible] def Row {α:Type} (v:Value) (e k:Nat) (enc:α->List Value) (l:List α):Own:=.row v e k l.length (l.flatMap enc)
section
variable {P:Program} {N:Nat} {D:List Deferred} {E:Env} {S:World->Prop} {Q:Exit->Act->World->Prop} {K:Act->World->Prop}
  {w0 w:World} {M:Fp} {L:List Own} {α:Type} {enc:α->List Value} {k e:Nat} {l l2:List α} {A:Option Addr} {c n:Nat} {ad:Addr}
  {ops:Array Oper} {rest:List Oper} {d:Nat} {dst:Option Tmp} {op:Op} {ty T T':TypeId} {pos:String} {aft:Array Edge} {g:Option (Nat × Bool)} {v u:Value} {x y z:Operand} {cd:Code}
theorem AM (he:Enc enc k) (h:Mem w0 M L w) (i:Nat) (a:L[i]?=some (Row v e k enc l)):zH (In w) k enc v l w:=rowSl l h i a rfl rfl he.len
theorem Ay {v:Value} (h:w.ownsRow 0 e k v l.length (l.flatMap enc)):∃ A c,v=.slice A l.length c∧l.length<=c∧c<=9223372036854775807∧(l≠[]->∃ ad,A=some ad):=by
 obtain ⟨A,c,b,g,d,f⟩:=LB h;exact ⟨A,c,b,g,by simpa [maxLen] using d,fun a=>by obtain ⟨ad,e,_⟩:=f (List.length_pos_iff.2 a); exact ⟨ad,e⟩⟩
theorem yP (i:Nat) (j:L[i]?=some (Row v e k enc l)) (h:∀ A c,v=.slice A l.length c->l.length<=c->c<=9223372036854775807->(l≠[]->∃ ad,A=some ad)->WC P N D cd Q E (Mem w0 M L)):WC P N D cd Q E (Mem w0 M L) :=
 fun w a=>by obtain ⟨A,c,b,g,d,f⟩:=Ay (a.row j); exact h A c b g d f w a
theorem gT (i:Nat) (j:L[i]?=some (Row v e k enc l)) (h:∀ A c,v=.slice A l.length c->l.length<=c->c<=9223372036854775807->(l≠[]->∃ ad,A=some ad)->WL P N D ops Q rest E (Mem w0 M L)):WL P N D ops Q rest E (Mem w0 M L) :=
 fun w a=>by obtain ⟨A,c,b,g,d,f⟩:=Ay (a.row j); exact h A c b g d f w a
theorem Mem.uG (h:Mem w0 M L w) (α:Type) (e k:Nat) (enc:α->List Value):Mem w0 M (Row (.slice none 0 0) e k enc []::L) w :=
 h.add (Fr.refl _ _) (World.ownsRow_nil _ _ _ _) fun b a=>by simp [Own.fp,Value.ownBlock] at a
theorem uu {S':World->Prop} (b:∀ w,S w->S' w) (h:WC P N D cd Q E S'):WC P N D cd Q E S:=fun w a=>h w (b w a)
theorem vc {S':World->Prop} (b:∀ w,S w->S' w) (h:WL P N D ops Q rest E S'):WL P N D ops Q rest E S:=fun w a=>h w (b w a)
theorem zr (enc:α->List Value) (e k:Nat) (h:WL P N D ops Q rest E (Mem w0 M (Row (.slice none 0 0) e k enc []::L))):WL P N D ops Q rest E (Mem w0 M L):=vc (fun _ a=>a.uG α e k enc) h
theorem Mem.grow {w w':World} {n n':Nat} {j a:List Value} {d:Value} (h:Mem w0 M L w) {i:Nat} (m:L[i]?=some (.row v e k n j)) (g:Fr (fun b=>v.ownBlock=some b) w w') (f:w'.ownsRow 0 e k d n' a) (l:∀ b,d.ownBlock=some b->v.ownBlock=some b∨w.heap.size<=b) :
  Mem w0 M (L.set i (.row d e k n' a)) w' :=
 h.upd m rfl g f fun b c=>⟨l b c,(f.lt b c).2⟩
theorem HX {i:TypeInfo} (c:P.underlying T=some (.slice e)) (hi:P.info? e=some i) (w:World) (ty:TypeId) {v:Value} {n:Nat} {d:List Value} (f:Nat) (a:w.ownsRow 0 e i.size v n d) :
  (Builtin.append_ #[T,T] ty #[v,.slice none 0 f]).run P w=.ok v w:=by
 rcases a.2 with ⟨rfl,rfl⟩ | ⟨g,cap,cur,rfl,_,_,b,_⟩
 ·simp [Builtin.append_,run_underlying c,sizeOf,typeInfo,hi,Builtin.lenOf,Builtin.firstCells]
 ·simp [Builtin.append_,run_underlying c,sizeOf,typeInfo,hi,Builtin.lenOf,Builtin.firstCells,b,storeCells]
theorem UP {v:Value} {n:Nat} {d:List Value} (h:w.ownsRow 0 e k v n d):n<=maxLen:=by
 obtain ⟨A,c,_,b,a,_⟩:=LB h;exact vN b a
theorem BT (h:∀ a,(enc a).length=k):∀ (l:List α),(l.flatMap enc).length=l.length * k
 | []=>by simp
 | a::l=>by rw [List.flatMap_cons,List.length_append,h,BT h l,List.length_cons,Nat.succ_mul,Nat.add_comm]
theorem SY (he:∀ a,(enc a).length=k):∀ (l:List α) (j:Nat) (u:Value),(l.flatMap enc)[j]?=some u->∃ (i:Nat) (x:α) (p:Nat),l[i]?=some x∧(enc x)[p]?=some u∧j=i * k + p
 | [],j,u,h=>by simp at h
 | a :: l, j, u, h => by
  rw [List.flatMap_cons] at h
  by_cases hj:j < k
  ·rw [List.getElem?_append_left (by rw [he]; exact hj)] at h
   exact ⟨0,a,j,rfl,h,qS⟩
  ·rw [List.getElem?_append_right (by rw [he]; omega),he] at h
   obtain ⟨i,x,p,h1,h2,h3⟩:=SY he l _ u h
   exact ⟨i + 1,x,p,by simpa using h1,h2,by rw [Nat.succ_mul]; omega⟩
theorem Qu (he:∀ a,(enc a).length=k) {ad:Addr} (d:∀ (i:Nat) (x:α),l[i]?=some x->∀ (j:Nat) (u:Value),(enc x)[j]?=some u->w.cell? ((ad.add (i * k)).add j)=some u) :
  ∀ (j:Nat) (u:Value),(l.flatMap enc)[j]?=some u->w.cell? (ad.add j)=some u:=fun j u h=>by
 obtain ⟨i,x,p,b,c,rfl⟩:=SY he l j u h
 rw [<-add_add]; exact d i x b p u c
theorem at_or {v a:Value} {s b:Nat} (c:a.ownBlock=v.ownBlock∨a.ownBlock=some s) (d:a.ownBlock=some b):v.ownBlock=some b∨s<=b:=by grind
theorem zh (i:Nat) {m:Nat} {K:Value} (l j:List α) (he:Enc enc k) (hw:Want N D ops E g true) (hs:ev E x=some v) (hx:ev E y=some u) (hL:L[i]?=some (Row v e k enc l)) (J:∀ w,Mem w0 M L w->zH (In w) k enc u j w)
  (H:P.underlying T=some (.slice e)) (hi:Inf P e k m K) (Z:K.cells.size=k) (hp:Nat.blt 0 m=true) (r:(l.length + j.length) * m<=140737488355328) (hd:Nat.blt d N=true)
  (h:∀ A c,(l++j).length<=c->c<=9223372036854775807->(l++j≠[]->∃ ad,A=some ad)->WL P N D ops Q rest ((d,.slice A (l++j).length c)::E) (Mem w0 M (L.set i (Row (.slice A (l++j).length c) e k enc (l++j))))) :
  WL P N D ops Q (⟨some d,.call { callee:=.builtin .append,args:=#[x,y],argTypes:=#[T,T] },T,pos,aft,g⟩::rest) E (Mem w0 M L):=by
 refine jc hw hd fun o ho a1 a w O V=>?_
 obtain ⟨ti,F,U,X,Y⟩:=hi.get
 have f:=V.row hL
 have C:(l++j).length=l.length + j.length:=uF
 have p:∀ (w':World) (q:Value),(Builtin.append_ #[T,T] o.type #[v,u]).run P w=.ok q w'->w'.ownsRow 0 e k q (l.length + j.length) (l.flatMap enc++j.flatMap enc)->Fr (fun b=>v.ownBlock=some b) w w'->(∀ b,q.ownBlock=some b->v.ownBlock=some b∨w.heap.size<=b) ->
   ∃ v w',(execOp a.eval o).run P w=.ok (.value v) w'∧∃ S':World->Prop,S' w'∧WL P N D ops Q rest ((d,v)::E) S':=by
  intro w' q I s W R
  have n:w'.ownsRow 0 e k q (l++j).length ((l++j).flatMap enc):=by rw [C,List.flatMap_append]; exact s
  have hm:=V.grow hL W n R
  obtain ⟨A,c,rfl,e2,e3,e4⟩:=Ay n
  refine ⟨_,w',?_,_,hm,h A c e2 e3 e4⟩
  unfold execOp; rw [ho]; simp [resolve,invoke,builtin,O.eval hs,O.eval hx,I]
 obtain ⟨A2,S,rfl,g2,g3,g4⟩:=J w V
 by_cases G:j=[]
 ·subst G
  cases A2 with
  | none =>
   refine p w v ?_ (by simpa using f) (Fr.refl _ _) (fun b r=>.inl r)
   exact HX H F w o.type S (by rw [X]; exact f)
  | some ad =>
   obtain ⟨q,w',I,t,B,_,z⟩:=run_append_own_at (P:=P) w 0 T o.type e ti K k m H F U X Y Z he.pos v l.length _ f ad 0 S [] qS qS qS (by simpa [maxLen] using UP f) (by simpa using r) (Nat.zero_le _)
   exact p w' q I (by simpa using t) (Fr.Pf B) (fun b r=>at_or z r)
 ·obtain ⟨ad,rfl,a0,hc⟩:=g4 G
  obtain ⟨q,w',I,t,B,_,z⟩:=run_append_own_at (P:=P) w 0 T o.type e ti K k m H F U X Y Z he.pos v l.length _ f ad j.length S (j.flatMap enc)
   (by rw [BT he.len]) (Qu he.len hc) (fun u H=>by obtain ⟨a,_,O⟩:=List.mem_flatMap.1 H; exact he.one a u O) (by
     have F:0 < m:=by simpa using hp
     have U:=Nat.le_mul_of_pos_right (l.length + j.length) F
     simp only [maxLen]; omega) r (Nat.zero_le _)
  exact p w' q I t (Fr.Pf B) (fun b r=>at_or z r)
theorem zf {n i:Nat} {t:Value} {a:Array (Nat × Operand)} {c:List (Nat × Value)} (enc:α->List Value) (l:List α) (s:Want N D ops E g true) (m:P.underlying T=some (.slice e)) (j:Inf P e k i t) (he:evp E a.toList=some c) (p:Ga k 0 c=some (l.flatMap enc)) (r:c.length=n) (q:l.length=n)
  (u:0 < n * k) (f:n * k<=16777216) (o:Nat.blt d N=true)
  (h:∀ b,WL P N D ops Q rest ((d,.slice (some ⟨b,0,none⟩) n n)::E) (Mem w0 M (Row (.slice (some ⟨b,0,none⟩) n n) e k enc l::L))):WL P N D ops Q (⟨some d,.buildSlice T n a,ty,pos,aft,g⟩::rest) E (Mem w0 M L):=by
 subst q
 exact l_bs (l.flatMap enc) s m j he p r u f o h
theorem uS {a:Nat} {l:Value} (enc:α->List Value) (j:Want N D ops E g true) (f:P.underlying T=some (.slice e)) (c:Inf P e k a l) (i:Nat.blt d N=true)
  (h:∀ b,WL P N D ops Q rest ((d,.slice (some ⟨b,0,none⟩) 0 0)::E) (Mem w0 M (Row (.slice (some ⟨b,0,none⟩) 0 0) e k enc []::L))):WL P N D ops Q (⟨some d,.buildSlice T 0 #[],ty,pos,aft,g⟩::rest) E (Mem w0 M L) :=
 l_bs0 j f c i h
theorem uK (q:Nat) {i j:Nat} {a:α} (he:Enc enc k) (m:ev E x=some (.pointer (some ((ad.add (i * k)).add j)))) (g:L[q]?=some (Row (.slice A n c) e k enc l)) (d:A=some ad) (hi:l[i]?=some a) (f:(enc a)[j]?=some u) (b:Cv P T=true):AR P N D E (Mem w0 M L) (.load T x) ty u :=
 jh m b fun _ h=>(AM he h q g).cell d hi f
theorem ju (q:Nat) {i j d f:Nat} {t:Value} {a:α} (vs:List Value) (he:Enc enc k) (w:ev E x=some (.pointer (some ((ad.add (i * k)).add j)))) (v:L[q]?=some (Row (.slice A n c) e k enc l)) (s:A=some ad) (hi:l[i]?=some a) (m:((enc a).drop j).take d=vs) (o:vs.length=d) (r:Dh P T=true) (g:Inf P T d f t) :
  AR P N D E (Mem w0 M L) (.load T x) ty (.agg vs.toArray) :=
 jj vs w r g o fun _ h p u b=>by
  rw [add_add,add_add,<-add_add]
  rw [<-m,List.getElem?_take] at b
  split at b
  ·exact (AM he h q v).cell s hi (by simpa using b)
  ·cases b
theorem Ki {cs vs:List Value} {o:Nat} (h:o + vs.length<=cs.length):(BP cs o vs).length=cs.length:=by
 simp [BP]; omega
theorem RY {a b vs:List Value} {o:Nat} (h:o + vs.length<=a.length):BP (a++b) o vs=BP a o vs++b:=by
 simp only [BP];rw [List.take_append_of_le_length qO,List.drop_append_of_le_length h];simp
theorem Jo {cs vs:List Value} {o m:Nat} (h:o + vs.length<=m) (d:m<=cs.length):(BP cs o vs).take m=BP (cs.take m) o vs:=by
 have a:(cs.take m).length=m:=by simp; omega
 have b:BP cs o vs=BP (cs.take m) o vs++cs.drop m:=by rw [<-RY (by rw [a]; exact h),List.take_append_drop]
 have c:(BP (cs.take m) o vs).length=m:=by rw [Ki (by rw [a]; exact h),a]
 rw [b];exact List.take_left' c
theorem Og (he:∀ a,(enc a).length=k) {vs:List Value} {c:Nat} {a e:α} (d:BP (enc a) c vs=enc e) (g:c + vs.length<=k):∀ (l:List α) (i:Nat),l[i]?=some a->BP (l.flatMap enc) (i * k + c) vs=(l.set i e).flatMap enc
 | [],i,h=>by simp at h
 | b :: l, 0, h => by
  obtain rfl:b=a:=by simpa using h
  rw [List.set_cons_zero,List.flatMap_cons,List.flatMap_cons,<-d]
  have:=he b
  simp only [BP,Nat.zero_mul,Nat.zero_add]
  rw [List.take_append_of_le_length qO,List.drop_append_of_le_length qO]
  simp
 | b :: l, i + 1, h => by
  have f:=Og he d g l i (by simpa using h)
  rw [List.set_cons_succ,List.flatMap_cons,List.flatMap_cons,<-f]
  have:=he b
  simp only [BP]
  rw [List.take_append,List.drop_append]
  rw [vg (by rw [Nat.succ_mul]; omega),vw (by rw [Nat.succ_mul]; omega)]
  rw [show (i + 1) * k + c - (enc b).length=i * k + c by rw [Nat.succ_mul]; omega,show (i + 1) * k + c + vs.length - (enc b).length=i * k + c + vs.length by rw [Nat.succ_mul]; omega]
  simp
theorem uv (q:Nat) {i j r z:Nat} {Z:Value} {vs:List Value} {a:α} (U:α) (he:Enc enc k) (Y:Want N D ops E g true) (hx:ev E x=some (.pointer (some ((ad.add (i * k)).add j)))) (hy:ev E y=some v) (hv:v.cells=vs.toArray)
  (s:L[q]?=some (Row (.slice A l.length c) e k enc l)) (X:A=some ad) (hi:l[i]?=some a) (hs:Inf P T r z Z) (hl:vs.length=r) (h1:vs.all (·.oneCell')=true) (hj:Nat.ble (j + r) k=true) (u:BP (enc a) j vs=enc U)
  (h:WL P N D ops Q rest E (Mem w0 M (L.set q (Row (.slice A l.length c) e k enc (l.set i U))))):WL P N D ops Q (⟨none,.store T x y,ty,pos,aft,g⟩::rest) E (Mem w0 M L) :=
 qu Y (fun o ho _ ac w R K=>by
  have a0:j + r<=k:=Nat.le_of_ble_eq_true hj
  have B:i < l.length:=(yb.1 hi).1
  have n:=K.row s
  subst X
  rcases n.2 with ⟨F,_⟩ | ⟨d,cap,cur,F,I,S,m,J,H,G⟩
  ·cases F
  injection F with e1 e2 e3
  injection e1 with e1
  subst e1 e3
  have p:(i + 1) * k<=l.length * k:=Nat.mul_le_mul_right k B
  rw [Nat.succ_mul] at p
  have W:l.length * k<=c * k:=Nat.mul_le_mul_right k m
  have O:cur.toList.length=c * k:=by simpa using H
  have f:(((⟨d,0,none⟩:Addr).add (i * k)).add j)=⟨d,i * k + j,none⟩:=by rw [add_add,add_lit]; simp
  have C:=FW (P:=P) (T:=T) hs (v:=v) (vs:=vs) hv hl h1 (b:=d) (j:=i * k + j) (cur:=cur.toList) (t:=e) (w:=w) (by simpa using S) qO
  refine ⟨w.setRow d (BP cur.toList (i * k + j) vs).toArray,?_,?_⟩
  ·unfold execOp; rw [ho]
   simp only [R.eval hx,R.eval hy,f]
   simp [Instr.storeAt,Instr.sureAddr,C]
  ·refine K.upd s rfl ⟨rfl,rfl,rfl,qS,fun b _ hk=>setRow_other w d b _ (fun e=>hk (by simp [Own.fp,Value.ownBlock,e]))⟩ ?_ (fun b V=>⟨.inl V,?_⟩)
   ·refine ⟨?_,.inr ⟨d,c,_,by rw [List.length_set],I,setRow_heap w d _ _ e _ S,by rw [List.length_set]; exact m,J,?_,?_⟩⟩
    ·rw [BT he.len]
    ·simp only [List.size_toArray]; rw [Ki qO]; exact O
    ·rw [<-Og he.len u qO l i hi,<-G,List.length_set]
     exact Jo qO qO
   ·have:=(K.ok q _ s).2.1 b V
    simpa using this) h
def IG (w:World) (e k:Nat) {α:Type} (enc:α->List Value) (l:List α):Ending->World->Prop:=Lw w e k l.length (l.flatMap enc)
theorem vo {f:Nat} {args:Array Operand} {ts:Array TypeId} {vs:List Value} (l:List α) (r:Want N D ops E g true) (a:evs E args.toList=some vs)
  (b:∀ vs w,(callFunc f vs).run P w=.ok (.enter f vs) w) (m:Nat.blt d N=true)
  (q:∀ w,Mem w0 M L w->Calls P f vs.toArray w (IG w e k enc l))
  (h:∀ A c,l.length<=c->c<=9223372036854775807->(l≠[]->∃ ad,A=some ad)->WL P N D ops Q rest ((d,.slice A l.length c)::E) (Mem w0 M (Row (.slice A l.length c) e k enc l::L))) :
  WL P N D ops Q (⟨some d,.call { callee:=.value (.func f),args:=args,argTypes:=ts },ty,pos,aft,g⟩::rest) E (Mem w0 M L) :=
 Tz r a b m q fun v=>by
  intro w j
  obtain ⟨A,c,rfl,p,n,o⟩:=Ay (j.row (i:=0) rfl)
  exact h A c p n o w j
def Tk (w:World) (e k:Nat) {α:Type} (enc:α->List Value) (l:List α) (mk:Value->Value):Ending->World->Prop:=fun en w'=>∃ r,en=.returned (mk r)∧Fr no w w'∧w'.ownsRow w.heap.size e k r l.length (l.flatMap enc)
theorem Qc {f:Nat} {args:Array Operand} {ts:Array TypeId} {vs:List Value} (l:List α) (mk:Value->Value) (n:Want N D ops E g true) (q:ev E x=some (.func (.func f) #[] #[])) (j:evs E args.toList=some vs)
  (b:∀ vs w,(callFunc f vs).run P w=.ok (.enter f vs) w) (t:Nat.blt d N=true)
  (y:∀ w,Mem w0 M L w->Calls P f vs.toArray w (Tk w e k enc l mk))
  (h:∀ A c,l.length<=c->c<=9223372036854775807->(l≠[]->∃ ad,A=some ad)->WL P N D ops Q rest ((d,mk (.slice A l.length c))::E) (Mem w0 M (Row (.slice A l.length c) e k enc l::L))) :
  WL P N D ops Q (⟨some d,.call { callee:=.value x,args:=args,argTypes:=ts },ty,pos,aft,g⟩::rest) E (Mem w0 M L) :=
 u6 (Φ:=fun v w'=>∃ r,v=mk r∧Mem w0 M (Row r e k enc l::L) w') n q j b t (fun w m=>by
  have:=y w m
  simp only [Array.append_empty]
  exact this.mono fun en w' ⟨r,he,hf,ho⟩=>⟨mk r,he,r,rfl,m.RP hf ho⟩) fun v w n a s=>by
  obtain ⟨r,rfl,m⟩:=n
  obtain ⟨A,c,rfl,o,u,p⟩:=Ay (m.row (i:=0) rfl)
  exact h A c o u p w m a s
theorem Mem.gi {p:Nat->Prop} {l':List α} {a:Value->Value} {b:Value} (h:Mem w ⟨no,p⟩ L w0) (i:Nat) (m:L[i]?=some (Row v e k enc l)) (g:l=l') (f:b=a v):Tk w e k enc l' a (.returned b) w0:=by
 obtain ⟨u,c,d,j⟩:=h.retRow i m;subst g f;cases c;exact ⟨v,rfl,d,j⟩
theorem Mem.ue {p:Nat->Prop} {l':List α} (h:Mem w ⟨no,p⟩ L w0) (i:Nat) (a:L[i]?=some (Row v e k enc l)) (b:l=l'):IG w e k enc l' (.returned v) w0:=b ▸ h.retRow i a
def RetU (w:World) (v:Value) (e k:Nat) {α:Type} (enc:α->List Value) (l:List α):Ending->World->Prop:=fun en w'=>∃ v',en=.returned v'∧Fr (fun b=>v.ownBlock=some b) w w'∧w'.ownsRow 0 e k v' l.length (l.flatMap enc)∧∀ b,v'.ownBlock=some b->v.ownBlock=some b∨w.heap.size<=b
theorem uj (i:Nat) {f:Nat} {args:Array Operand} {ts:Array TypeId} {vs:List Value} {l:List α} (l':List α) (m:L[i]?=some (Row v e k enc l)) (s:Want N D ops E g true) (a:evs E args.toList=some vs)
  (b:∀ vs w,(callFunc f vs).run P w=.ok (.enter f vs) w) (n:Nat.blt d N=true)
  (r:∀ w,Mem w0 M L w->Calls P f vs.toArray w (RetU w v e k enc l'))
  (h:∀ A c,l'.length<=c->c<=9223372036854775807->(l'≠[]->∃ ad,A=some ad)->WL P N D ops Q rest ((d,.slice A l'.length c)::E) (Mem w0 M (L.set i (Row (.slice A l'.length c) e k enc l')))) :
  WL P N D ops Q (⟨some d,.call { callee:=.value (.func f),args:=args,argTypes:=ts },ty,pos,aft,g⟩::rest) E (Mem w0 M L) :=
 qK (Φ:=fun v w'=>Mem w0 M (L.set i (Row v e k enc l')) w') s a b n (fun w j=>(r w j).mono fun _ _ ⟨v',he,hf,ho,hb⟩=>⟨v',he,j.grow m hf ho hb⟩) fun v=>by
  intro w j
  have hi:i < L.length:=(yb.1 m).1
  obtain ⟨A,c,rfl,q,o,p⟩:=Ay (j.row (i:=i) (by rw [List.getElem?_set_self hi]))
  exact h A c q o p w j
theorem Mem.ownArg {n:Nat} {a:List Value} (d:w.ownsRow 0 e k v n a):Mem w (fun b=>v.ownBlock=some b) [.row v e k n a] w:=by
  refine ⟨Fr.refl _ _,fun i o hi=>?_,fun i j o o' hi g f=>?_,fun _=>False,qS,qS,qS,fun i F hi=>?_⟩
  · cases i with
    | zero => obtain rfl : Own.row v e k n a = o := by simpa using hi
              exact ⟨d,fun b c=>(d.lt b c).2,fun _ b c=>.inr c⟩
    | succ i=>simp at hi
  · have h:i < 1:=by have:=(yb.1 hi).1; simpa using this
    have l:j < 1:=by have:=(yb.1 g).1; simpa using this
    omega
  · cases i <;> simp at hi
theorem Mem.retU {d:World} {a:Value} (h:Mem w (fun b=>v.ownBlock=some b) L d) (i:Nat) (c:L[i]?=some (Row a e k enc l)):RetU w v e k enc l (.returned a) d :=
 ⟨a,rfl,h.fr,h.row c,fun b f=>((h.ok i _ c).2.2 rfl b f).symm.imp id id⟩
theorem Mem.gu {c:World} {a:Value} {l':List α} (h:Mem w (fun b=>v.ownBlock=some b) L c) (i:Nat) (d:L[i]?=some (Row a e k enc l)) (f:l=l'):RetU w v e k enc l' (.returned a) c:=f ▸ h.retU i d
end
end Ex
end
section
namespace Ex
def mk (n:Nat):List Nat->Array Bool
  | []=>Array.replicate n false
  | i::is=>(mk n is).setIfInBounds i true
def NQ (Q:Exit->Act->World->Prop):Exit->Act->World->Prop:=fun e a w=>(e=.normal∧Q .normal a w)∨∃ c,e=.panic c∧∀ a':Act,a'.defers=a.defers->a'.tmps.size=a.tmps.size->Q (.panic c) a' w
theorem NQ.use {Q:Exit->Act->World->Prop} (e:Exit) (a:Act) (w:World) (h:NQ Q e a w):Q e a w:=by
 rcases h with ⟨rfl,h⟩ | ⟨c,rfl,h⟩
 exact h;exact h a rfl rfl
theorem NQ.put {Q:Exit->Act->World->Prop} {d:Option Tmp} {v:Value} (c:List PanicEntry) (a:Act) (w:World) (h:NQ Q (.panic c) (a.put d v) w):NQ Q (.panic c) a w:=by
 rcases h with ⟨h,_⟩ | ⟨g,h,k⟩
 cases h;refine .inr ⟨g,h,fun f b e=>k f (b.trans ?_) (e.trans ?_)⟩ <;> cases d <;> simp [Act.put]
section
variable {P:Program} {ops:Array Oper} {Q Q':Exit->Act->World->Prop} {S0:World->Prop}
theorem Hs (h:∀ e a w,Q e a w->Q' e a w) {o:Oper} {a:Act} {K:Act->World->Prop} {r:Result Next} (b:o.upon P a K Q r):o.upon P a K Q' r:=by
 cases r with
 | ok n w' =>
  cases n <;> simp only [Oper.upon] at b ⊢ <;>
   first
    | exact b
    | exact Calls.mono b (fun e d he=>by cases e <;> first | exact he | exact h _ _ _ he | exact (by obtain ⟨a,w,c⟩:=he; exact ⟨a,w,h _ _ _ c⟩))
 | halt x w'=>cases x <;> simp only [Oper.upon] at b ⊢ <;> first | exact b | exact h _ _ _ b
theorem LK {d:Exit->Act->World->Prop} {o:Oper} {a:Act} {K:Act->World->Prop} {r:Result Next} (c:∀ e a w,d e a w->e=.normal) (b:o.upon P a K d r):o.upon P a K (fun _ _ _=>False) r:=by
 cases r with
 | ok n w' =>
  cases n <;> simp only [Oper.upon] at b ⊢ <;>
   first
    | exact b
    | exact Calls.mono b (fun e g he=>by cases e <;> first | exact he | (exact absurd (c _ _ _ he) qS) | exact (by obtain ⟨a,w,f⟩:=he; exact absurd (c _ _ _ f) qS))
 | halt x w'=>cases x <;> simp only [Oper.upon] at b ⊢ <;> first | exact b | exact absurd (c _ _ _ b) qS
theorem Rt (h:∀ e a w,Q e a w->Q' e a w) {i:Nat} {a:Act} {w:World} {K:Act->World->Prop} (b:wpOp P ops Q i K a w):wpOp P ops Q' i K a w:=by
 unfold wpOp at *;split;simpa [*] using b;rename_i o g;simp only [g] at b;split;rename_i c;simp only [c,if_true] at b;rcases b with b | ⟨f,a,w,d⟩
 exact .inl (Hs h b);exact .inr ⟨f,a,w,h _ _ _ d⟩;rename_i c; simp only [c] at b; exact b
theorem Jk {md:Region.Mode} (h:∀ e a w,Q e a w->Q' e a w):∀ (f:Nat) (b:Array Bool) (a:Act) (w:World),wpAny P md ops Q f b a w->wpAny P md ops Q' f b a w
 | 0,_,_,_,hh=>⟨hh.1,h _ _ _ hh.2⟩
 | f + 1,_,_,_,hh=>⟨fun h0=>h _ _ _ (hh.1 h0),fun i hi=>wpOp_mono (fun a' w' h'=>Jk h f _ a' w' h') (Rt h (hh.2 i hi))⟩
def KK (P:Program) (ops:Array Oper) (S0:World->Prop) (K:Act->Prop):List Oper->Act->Prop
  | [],a=>K a
  | o::r,a=>∃ v,YieldsIf P ops S0 o v a∧KK P ops S0 K r (a.put o.dst v)
def Kf (ops:Array Oper) (n:Nat):List Nat->List Nat->Bool
  | _,[]=>true
  | is,i::r=>(Region.ready .any ops (mk n is)).contains i && Region.free .any ops (mk n is) i && Kf ops n (i::is) r
theorem Qo {n:Nat} (e:Region.noSelect ops=true) {f:Nat} {w:World} (d:S0 w):∀ (b is:List Nat) (l:List Oper) (a:Act),Kf ops n is b=true->b.map (fun i=>ops[i]?)=l.map some ->
  KK P ops S0 (fun a'=>Go.wpAnyH P .any ops (NQ Q) S0 f (mk n (b.reverse++is)) a' w) l a->Go.wpAnyH P .any ops (NQ Q) S0 (f + b.length) (mk n is) a w
 | [],is,[],a,_,_,h=>by simpa [KK] using h
 | [],is,o::l,a,_,he,_=>by simp at he
 | i::b,is,[],a,_,he,_=>by simp at he
 | i :: b, is, o :: l, a, hB, he, h => by
  simp only [Kf,Bool.and_eq_true] at hB
  simp only [List.map_cons,List.cons.injEq] at he
  obtain ⟨v,hy,hK⟩:=h
  refine Go.wpAnyH_take (fuel:=f + b.length) he.1 e hB.1.2 hB.1.1 (fun c a w g=>NQ.put c a w g) hy d (Qo e d b (i::is) l _ hB.2 he.2 ?_)
  simpa [List.reverse_cons,ub] using hK
end
def MJ:List Oper->Nat->Option Oper
  | [],_=>none
  | o::_,0=>some o
  | _::r,i + 1=>MJ r i
theorem KP:∀ (l:List Oper) (i:Nat),MJ l i=l[i]?
 | [],i=>by simp [MJ]
 | o::r,0=>by simp [MJ]
 | o::r,i + 1=>by simp [MJ,KP r i]
def Gj (l0:List Oper):List Nat->Option (List Oper)
  | []=>some []
  | i :: r => match MJ l0 i, Gj l0 r with
    | some o,some t=>some (o::t)
    | _,_=>none
theorem NB (b:List Oper):∀ (a:List Nat) (l:List Oper),Gj b a=some l->a.map (fun i=>b.toArray[i]?)=l.map some
 | [],l,h=>by simp [Gj] at h; subst h; rfl
 | i :: r, l, h => by
  unfold Gj at h
  split at h
  ·rename_i o t h1 h2
   obtain rfl:o::t=l:=by simpa using h
   rw [KP] at h1
   simp only [vl,NB b r t h2]
   simp [h1]
  ·cases h
def WN (P:Program) (N:Nat) (D:List Deferred) (ops:Array Oper) (n:Nat) (Q:Exit->Act->World->Prop) (S0:World->Prop) (f:Nat) (is:List Nat) (E:Env) (S:World->Prop):Prop :=
  ∀ w,S w->∀ a,Has N D a E->Go.wpAnyH P .any ops (NQ Q) S0 f (mk n is) a w
def WS (P:Program) (N:Nat) (D:List Deferred) (ops:Array Oper) (S0:World->Prop) (K:Act->Prop) (l:List Oper) (E:Env):Prop:=∀ a,Has N D a E->KK P ops S0 K l a
section
variable {P:Program} {N n:Nat} {D:List Deferred} {E:Env} {S S0:World->Prop} {Q:Exit->Act->World->Prop} {ops:Array Oper} {K:Act->Prop} {f F:Nat} {is:List Nat}
  {rest:List Oper} {d:Nat} {dst:Option Tmp} {op:Op} {ty:TypeId} {pos:String} {aft:Array Edge} {g:Option (Nat × Bool)} {v u:Value}
theorem jO {id:Nat} {l:List Oper} (b:World->Prop) (g:P.follows .mixedOrders=true) (c:∀ w,S w->S w.drew) (e:l.length=n)
  (h:WN P N D l.toArray n Q b n [] E S):WC P N D (.region id l.toArray true) Q E S:=fun w f a d=>by
 subst e
 refine wp_region_any g (Jk (Q:=NQ Q) NQ.use _ _ _ _ (wpAny_of_held (S:=b) _ _ _ _ ?_))
 have:=h _ (c w f) a d
 simpa [mk] using this
theorem qC {c l:List Oper} (b:List Nat) (k:Gj c b=some l) (m:F=f + b.length) (i:Region.noSelect c.toArray=true) (p:Kf c.toArray n is b=true) (e:∀ w,S w->S0 w)
  (h:∀ K:Act->Prop,(∀ E',WN P N D c.toArray n Q S0 f (b.reverse++is) E' S->∀ a,Has N D a E'->K a)->WS P N D c.toArray S0 K l E):WN P N D c.toArray n Q S0 F is E S:=fun w g a o=>by
 subst m
 exact Qo i (e w g) b is l a p (NB c b l k) (h _ (fun E' j q d=>j w g q d) a o)
theorem zc (c:∀ E',WN P N D ops n Q S0 f is E' S->∀ a,Has N D a E'->K a) (h:WN P N D ops n Q S0 f is E S):WS P N D ops S0 K [] E:=fun a b=>c E h a b
theorem s_val (f:Want N D ops E g true) (e:AR P N D E S0 op ty v) (c:Nat.blt d N=true) (h:WS P N D ops S0 K rest ((d,v)::E)):WS P N D ops S0 K (⟨some d,op,ty,pos,aft,g⟩::rest) E:=fun a b =>
 ⟨v,.inl ⟨f _ rfl a b,fun w i=>e _ rfl rfl a w b i⟩,h _ (b.put v c)⟩
theorem s_skip (e:Want N D ops E g false) (c:Nat.blt d N=true) (h:WS P N D ops S0 K rest ((d,undef)::E)):WS P N D ops S0 K (⟨some d,op,ty,pos,aft,g⟩::rest) E:=fun a b =>
 ⟨undef,.inr ⟨e _ rfl a b,rfl⟩,h _ (b.put undef c)⟩
section
variable {t:Nat} {p:Prop} [Decidable p] {l:List Oper} {b:Bool}
theorem s_litt (b:look E t=some (.bool (decide p))) (d:p) (h:WS P N D ops S0 K l ((t,.bool true)::E)):WS P N D ops S0 K l E:=fun a c=>h a (over b (by simp [d]) c)
theorem s_litf (b:look E t=some (.bool (decide p))) (d:¬ p) (h:WS P N D ops S0 K l ((t,.bool false)::E)):WS P N D ops S0 K l E:=fun a c=>h a (over b (by simp [d]) c)
theorem qj (b:look E t=some (.bool (decide p))) (c:p->WS P N D ops S0 K l ((t,.bool true)::E)) (d:¬ p->WS P N D ops S0 K l ((t,.bool false)::E)):WS P N D ops S0 K l E:=by
 by_cases a:p;exact s_litt b a (c a);exact s_litf b a (d a)
end
def W1 (P:Program) (N:Nat) (D:List Deferred) (ops:Array Oper) (n:Nat) (Q:Exit->Act->World->Prop) (S0:World->Prop) (f:Nat) (is:List Nat) (i:Nat) (E:Env) (S:World->Prop):Prop :=
  ∀ w,S w->∀ a,Has N D a E->wpOp P ops (NQ Q) i (fun a' w'=>S0 w'∧Go.wpAnyH P .any ops (NQ Q) S0 f (mk n (i::is)) a' w') a w
theorem yI {d:List Oper} {o:Oper} {i:Nat} (hi:MJ d i=some o) (h:∀ K:Exit->Act->World->Prop,(∀ E' S',(∀ w,S' w->S0 w)->WN P N D d.toArray n Q S0 f (i::is) E' S'->WE N D K .normal E' S')->WL P N D d.toArray K [o] E S):W1 P N D d.toArray n Q S0 f is i E S:=fun w j a k=>by
 have hi:d.toArray[i]?=some o:=by rw [KP] at hi; simpa using hi
 have c:=h (fun e a w=>e=.normal∧S0 w∧Go.wpAnyH P .any d.toArray (NQ Q) S0 f (mk n (i::is)) a w) (fun E' S' q l w j a k=>⟨rfl,q w j,l w j a k⟩) w j a k
 unfold wpList at c
 unfold wpOp
 simp only [hi]
 split at c
 ·rename_i b
  rw [zP b]
  rcases c with c | ⟨c,a,w,g⟩
  ·refine .inl (Hs (Q:=fun _ _ _=>False) (fun _ _ _ g=>g.elim) ?_)
   have p:=Oper.wp_mono (K':=fun r w'=>S0 w'∧Go.wpAnyH P .any d.toArray (NQ Q) S0 f (mk n (i::is)) r w') (fun a w m=>(show _∧_ from m).2) c
   exact LK (fun _ _ _ g=>g.1) p
  ·exact absurd g.1 qS
 ·rename_i b
  rw [zI b]
  exact c.2
theorem vL {l:List Oper} {o:Oper} {i:Nat} (hi:MJ l i=some o) (h:∀ K:Exit->Act->World->Prop,(∀ E' S',(∀ w,S' w->S0 w)->WN P N D l.toArray n Q S0 f (i::is) E' S'->WE N D K .normal E' S')->(∀ c S',WE N D Q (.panic c) [] S'->∀ E',WE N D K (.panic c) E' S')->WL P N D l.toArray K [o] E S):W1 P N D l.toArray n Q S0 f is i E S:=fun w p a m=>by
 have hi:l.toArray[i]?=some o:=by rw [KP] at hi; simpa using hi
 have g:=h (fun e a w=>(e=.normal∧S0 w∧Go.wpAnyH P .any l.toArray (NQ Q) S0 f (mk n (i::is)) a w)∨∃ c,e=.panic c∧∀ j:Act,j.defers=a.defers->j.tmps.size=a.tmps.size->Q (.panic c) j w) (fun E' S' z s w p a m=>.inl ⟨rfl,z w p,s w p a m⟩)
  (fun c S' s E' w p a m=>.inr ⟨c,rfl,fun j g b=>s w p j ⟨g.trans m.d,b.trans m.n,fun t v y=>by simp [look] at y⟩⟩) w p a m
 unfold wpList at g
 unfold wpOp
 simp only [hi]
 split at g
 ·rename_i k
  rw [zP k]
  rcases g with g | ⟨g,a,w,q⟩
  ·refine .inl (Hs (Q:=fun e a w=>∃ c,e=.panic c∧∀ j:Act,j.defers=a.defers->j.tmps.size=a.tmps.size->Q (.panic c) j w) (fun _ _ _ q=>.inr q) ?_)
   have b:=Oper.wp_mono (K':=fun j w'=>S0 w'∧Go.wpAnyH P .any l.toArray (NQ Q) S0 f (mk n (i::is)) j w') (fun a w u=>by rcases (show (_∨_) from u) with u | ⟨c,e,_⟩; exact u.2; cases e) g
   unfold Oper.wp at b
   generalize (execOp a.eval o).run P w=r at b
   cases r with
   | ok n w' =>
    cases n <;> simp only [Oper.upon] at b ⊢ <;>
     first
      | exact b
      | exact Calls.mono b (fun e A he => by
        cases e with
        | returned v=>exact he
        | panicked c=>rcases he with ⟨e,_⟩ | he; cases e; exact he
        | outgrown=>obtain ⟨a,w,q⟩:=he; rcases q with ⟨e,_⟩ | ⟨c,e,_⟩ <;> cases e)
   | halt x w' =>
    cases x <;> simp only [Oper.upon] at b ⊢ <;> first | exact b | (rcases b with ⟨e,_⟩ | b; cases e; exact b)
  ·rcases q with ⟨e,_⟩ | ⟨c,e,_⟩ <;> cases e
 ·rename_i k
  rw [zI k]
  rcases g with g | ⟨c,e,_⟩
  ·exact g.2
  ·cases e
theorem qN {i:Nat} (b:F=f + 1) (d:Region.ready .any ops (mk n is)=[i]) (h:W1 P N D ops n Q S0 f is i E S):WN P N D ops n Q S0 F is E S:=fun w e a c=>by
 subst b
 exact Go.wpAnyH_all d qS (fun x g=>by obtain rfl:=yf.1 g; exact h w e a c)
theorem yR {i j:Nat} (g:F=f + 1) (k:Region.ready .any ops (mk n is)=[i,j]) (e:W1 P N D ops n Q S0 f is i E S) (h:W1 P N D ops n Q S0 f is j E S):WN P N D ops n Q S0 F is E S:=fun w d a c=>by
 subst g
 exact Go.wpAnyH_all k qS (fun x b=>by
  rcases ya.1 b with rfl | b
  ·exact e w d a c
  obtain rfl:=yf.1 b; exact h w d a c)
theorem n_step3 {i j k:Nat} (g:F=f + 1) (m:Region.ready .any ops (mk n is)=[i,j,k]) (e:W1 P N D ops n Q S0 f is i E S) (l:W1 P N D ops n Q S0 f is j E S) (h:W1 P N D ops n Q S0 f is k E S):WN P N D ops n Q S0 F is E S:=fun w d a c=>by
 subst g
 exact Go.wpAnyH_all m qS (fun x b=>by
  rcases ya.1 b with rfl | b
  ·exact e w d a c
  rcases ya.1 b with rfl | b
  ·exact l w d a c
  obtain rfl:=yf.1 b; exact h w d a c)
theorem zg (c:Region.ready .any ops (mk n is)=[]) (h:WE N D Q .normal E S):WN P N D ops n Q S0 f is E S:=fun w d a b=>Go.wpAnyH_done c (.inl ⟨rfl,h w d a b⟩) _
end
end Ex
end
section
namespace Ex
theorem lgc:(∀ (α:Type) (h:Decidable True) (a b:α),@ite α True h a b=a)∧(∀ (α:Type) (h:Decidable False) (a b:α),@ite α False h a b=b)∧((false=true)=False)∧((true=false)=False)∧((¬ True)=False)∧((¬ False)=True)∧(∀ (α:Type) (a b:α),(a≠b)=¬ (a=b))∧(∀ p:Prop,(p∧True)=p)∧(∀ p:Prop,(True∧p)=p)∧(∀ p:Prop,(p∧False)=False)∧(∀ p:Prop,(False∧p)=False)∧(∀ p:Prop,(p∧p)=p)∧(∀ p q:Prop,(¬ (p∧q))=(p->¬ q)) :=
 ⟨fun _ _ _ _=>zP trivial,fun _ _ _ _=>zI (fun h=>h),qS,qS,qS,qS,fun _ _ _=>rfl,qS,qS,qS,qS,qS,qS⟩
section
variable {P:Program} {N:Nat} {D:List Deferred} {E:Env} {S S0:World->Prop} {Q:Exit->Act->World->Prop} {K:Act->Prop} {K2:Act->World->Prop} {w0:World} {M:Fp} {L L':List Own}
  {ops:Array Oper} {rest:List Oper} {d:Nat} {ty:TypeId} {pos:String} {aft:Array Edge} {v:Value} {x:Operand} {op:Op}
theorem S9 (is:List Nat) (hn:is.Nodup:=by decide) (he:L'.map some=is.map (fun i=>L[i]?):=by rfl):∀ w,Mem w0 M L w->Mem w0 M L' w:=fun _ h=>h.sel is hn he
theorem yt (hx:ev E x=some v) (h:WL P N D ops Q rest ((d,v)::E) S) (hd:Nat.blt d N=true:=by rfl):WL P N D ops Q (⟨some d,.move x,ty,pos,aft,none⟩::rest) E S:=qr wn (jy hx) hd h
theorem y8 (hx:ev E x=some v) (h:WL P N D ops Q rest ((d,v)::E) S) (hd:Nat.blt d N=true:=by rfl):WL P N D ops Q (⟨some d,.assign x,ty,pos,aft,none⟩::rest) E S:=qr wn (PO hx) hd h
theorem zV (hr:AR P N D E S op ty v) (h:WL P N D ops Q rest ((d,v)::E) S) (hd:Nat.blt d N=true:=by rfl):WL P N D ops Q (⟨some d,op,ty,pos,aft,none⟩::rest) E S:=qr wn hr hd h
theorem yY {j d':Nat} {b:Bool} (hr:AR P N D E S op ty v) (h:WL P N D ops Q rest ((d,v)::E) S) (hj:(ops[j]?).bind (·.dst)=some d':=by rfl) (hl:look E d'=some (.bool b):=by rfl) (hd:Nat.blt d N=true:=by rfl):WL P N D ops Q (⟨some d,op,ty,pos,aft,some (j,b)⟩::rest) E S:=qr (wg hj hl (by cases b <;> rfl)) hr hd h
theorem vS (hr:AR P N D E S op ty v) (h:WQ P N D ops K2 rest ((d,v)::E) S) (hd:Nat.blt d N=true:=by rfl):WQ P N D ops K2 (⟨some d,op,ty,pos,aft,none⟩::rest) E S:=q_val wn hr hd h
theorem q_mv (hx:ev E x=some v) (h:WQ P N D ops K2 rest ((d,v)::E) S) (hd:Nat.blt d N=true:=by rfl):WQ P N D ops K2 (⟨some d,.move x,ty,pos,aft,none⟩::rest) E S:=q_val wn (jy hx) hd h
theorem uD {j d':Nat} {b:Bool} (hr:AR P N D E S op ty v) (h:WQ P N D ops K2 rest ((d,v)::E) S) (hj:(ops[j]?).bind (·.dst)=some d':=by rfl) (hl:look E d'=some (.bool b):=by rfl) (hd:Nat.blt d N=true:=by rfl):WQ P N D ops K2 (⟨some d,op,ty,pos,aft,some (j,b)⟩::rest) E S:=q_val (wg hj hl (by cases b <;> rfl)) hr hd h
theorem vy (hr:AR P N D E S0 op ty v) (h:WS P N D ops S0 K rest ((d,v)::E)) (hd:Nat.blt d N=true:=by rfl):WS P N D ops S0 K (⟨some d,op,ty,pos,aft,none⟩::rest) E:=s_val wn hr hd h
theorem yu {j d':Nat} {b:Bool} (h:WL P N D ops Q rest ((d,undef)::E) S) (hj:(ops[j]?).bind (·.dst)=some d':=by rfl) (hl:look E d'=some (.bool !b):=by rfl) (hd:Nat.blt d N=true:=by rfl):WL P N D ops Q (⟨some d,op,ty,pos,aft,some (j,b)⟩::rest) E S:=gQ (wg hj hl (by cases b <;> rfl)) hd h
theorem q_sk {j d':Nat} {b:Bool} (h:WQ P N D ops K2 rest ((d,undef)::E) S) (hj:(ops[j]?).bind (·.dst)=some d':=by rfl) (hl:look E d'=some (.bool !b):=by rfl) (hd:Nat.blt d N=true:=by rfl):WQ P N D ops K2 (⟨some d,op,ty,pos,aft,some (j,b)⟩::rest) E S:=q_skip (wg hj hl (by cases b <;> rfl)) hd h
theorem c_sr {id:Nat} {l:List Oper} {y:Code} (h:∀ K:Act->World->Prop,(∀ E S,WC P N D y Q E S->∀ w,S w->∀ a,Has N D a E->K a w)->WL P N D l.toArray (Exit.then K Q) l E S):WC P N D (.seq (.region id l.toArray false) y) Q E S:=ze fun K hK=>zU (h K hK)
theorem yQ {y:Code} {K:Act->World->Prop} (hK:∀ E S,WC P N D y Q E S->∀ w,S w->∀ a,Has N D a E->K a w) (h:WC P N D y Q E S):WL P N D ops (Exit.then K Q) [] E S:=zK (uo hK h)
theorem uw {y:Code} {K:Act->World->Prop} (hK:∀ E S,WC P N D y Q E S->∀ w,S w->∀ a,Has N D a E->K a w) (h:WC P N D y Q E S):WC P N D .skip (Exit.then K Q) E S:=yW (uo hK h)
section
variable {n f F i:Nat} {is:List Nat} {l0 l:List Oper}
theorem qP (f:Nat) (seq sl:List Nat) (hl:Gj l0 seq=some l) (h:∀ K:Act->Prop,(∀ E',WN P N D l0.toArray n Q (Mem w0 M L') f (seq.reverse++is) E' (Mem w0 M L)->∀ a,Has N D a E'->K a)->WS P N D l0.toArray (Mem w0 M L') K l E)
  (hf:F=f + seq.length:=by rfl) (hs:Region.noSelect l0.toArray=true:=by kernel_rfl) (hB:Kf l0.toArray n is seq=true:=by kernel_rfl) (hn:sl.Nodup:=by decide) (he:L'.map some=sl.map (fun i=>L[i]?):=by rfl):WN P N D l0.toArray n Q (Mem w0 M L') F is E (Mem w0 M L) :=
 qC (f:=f) seq hl hf hs hB (S9 sl hn he) h
theorem gG (f i:Nat) (h:W1 P N D ops n Q S0 f is i E S) (hf:F=f + 1:=by rfl) (hr:Region.ready .any ops (mk n is)=[i]:=by kernel_rfl):WN P N D ops n Q S0 F is E S:=qN hf hr h
theorem q4 {X:List (Nat × Value)->(World->Prop)->Prop} {K:Exit->Act->World->Prop} (hK:∀ E' S',(∀ w,S' w->Mem w0 M L' w)->X E' S'->WE N D K .normal E' S') (sl:List Nat) (h:X E (Mem w0 M L)) (hn:sl.Nodup:=by decide) (he:L'.map some=sl.map (fun i=>L[i]?):=by rfl):WL P N D ops K [] E (Mem w0 M L):=zK (hK _ _ (S9 sl hn he) h)
end
end
end Ex
end
section
namespace Ex
open Go.ChangeMaps
theorem TY (n:Nat):∀ is:List Nat,(mk n is).size=n
 | []=>by simp [mk]
 | i::is=>by simp [mk,TY n is]
theorem SV (n j:Nat):∀ is:List Nat,(mk n is)[j]?=if j < n then some (decide (j ∈ is)) else none
 | [] => by
  simp only [mk,Array.getElem?_replicate]; split <;> simp
 | i :: is => by
  simp only [mk,Array.getElem?_setIfInBounds,TY,SV n j is]
  by_cases h:i=j
  ·subst h
   by_cases h2:i < n <;> simp [h2]
  ·rw [if_neg h]
   by_cases h2:j < n
   ·rw [if_pos h2,if_pos h2]
    have:(j ∈ i::is)↔j ∈ is:=by simp [Ne.symm h]
    simp [this]
   ·rw [zI h2,zI h2]
theorem Tm (n j:Nat) (d:Bool) (is:List Nat):(mk n is).getD j d=if j < n then decide (j ∈ is) else d:=by
 rw [Array.getD_eq_getD_getElem?,SV]; split <;> rfl
theorem mk_congr {n:Nat} {is is':List Nat} (h:∀ j,j ∈ is↔j ∈ is'):mk n is=mk n is':=by
 apply Array.ext_getElem?;intro j;rw [SV,SV];simp [h j]
section
variable {P:Program} {N n:Nat} {D:List Deferred} {E:Env} {S S0:World->Prop} {Q:Exit->Act->World->Prop} {ops:Array Oper} {f F:Nat} {is:List Nat} {X:Type}
def starB (ops:Array Oper) (n:Nat) (is R:List Nat):Bool :=
  (List.range n).all (fun j=>is.contains j || R.contains j || match ops[j]? with
    | none=>true
    | some o=>o.after.toList.any (fun e=>Region.binds .any e && !is.contains e.on && !R.contains e.on) || R.all (fun r=>o.after.toList.any (fun e=>Region.binds .any e && Nat.beq e.on r))) &&
  R.all (fun r=>Nat.blt r n && !is.contains r && match ops[r]? with
    | none=>false
    | some o=>o.after.toList.all (fun e=>!Region.binds .any e || (is.contains e.on && Nat.blt e.on n)))
theorem OM:∀ {T:List (Nat × X)},(T.map (·.1)).Nodup->∀ {x y:Nat × X},y ∈ T->x ∈ T->y.1=x.1->y=x
 | [],_,_,_,h,_,_=>by cases h
 | z :: T, hp, x, y, hy, hx, e => by
  rw [List.map_cons,List.nodup_cons] at hp
  rcases List.mem_cons.1 hy with rfl | hy'
  ·rcases List.mem_cons.1 hx with rfl | hx'
   ·rfl
   ·exact absurd (List.mem_map.2 ⟨x,hx',e.symm⟩) hp.1
  ·rcases List.mem_cons.1 hx with rfl | hx'
   ·exact absurd (List.mem_map.2 ⟨y,hy',e⟩) hp.1
   ·exact OM hp.2 hy' hx' e
theorem n_star (T:List (Nat × X)) (I:List (Nat × X)->World->Prop) (a6:ops.size=n) (hB:starB ops n is (T.map (·.1))=true) (O:(T.map (·.1)).Nodup) (hF:F=f + T.length) (Z:∀ w,S w->I [] w) (a2:∀ b w,I b w->S0 w)
  (Y:∀ (b:List (Nat × X)) (x:Nat × X),x ∈ T->(∀ y ∈ b,y ∈ T∧y.1≠x.1)->∀ w,I b w->∀ a,Has N D a E->wpOp P ops (NQ Q) x.1 (fun a' w'=>Has N D a' E∧I (b++[x]) w') a w)
  (h:∀ b:List (Nat × X),(∀ x,x ∈ b↔x ∈ T)->WN P N D ops n Q S0 f (T.map (·.1)++is) E (I b)):WN P N D ops n Q S0 F is E S:=by
 simp only [starB,Bool.and_eq_true,List.all_eq_true,List.mem_range] at hB
 obtain ⟨a3,a5⟩:=hB
 have hR:∀ r ∈ T.map (·.1),r < n∧r ∉ is∧∃ o,ops[r]?=some o∧∀ e ∈ o.after,Region.binds .any e=true->e.on ∈ is∧e.on < n:=by
  intro r q
  have:=a5 r q
  cases K:ops[r]? with
  | none=>rw [K] at this; simp at this
  | some o =>
   rw [K] at this
   simp only [Bool.and_eq_true,Nat.blt_eq,Bool.not_eq_true',List.contains_eq_mem,decide_eq_false_iff_not,List.all_eq_true,Array.mem_toList_iff,Bool.or_eq_true,ud] at this
   refine ⟨this.1.1,this.1.2,o,rfl,fun e he l=>?_⟩
   rcases this.2 e he with A | A
   ·rw [l] at A; cases A
   ·exact A
 have a7:∀ (m:Nat) (b:List (Nat × X)) (p:List Nat) (a:Act) (w:World),p.length=m->p.Nodup->(∀ x ∈ T,x ∈ b∨x.1 ∈ p)->(∀ x ∈ b,x ∈ T∧x.1 ∉ p)->(∀ r ∈ p,∃ x ∈ T,x.1=r)->Has N D a E->I b w ->
   Go.wpAnyH P .any ops (NQ Q) S0 (f + m) (mk n (b.map (·.1)++is)) a w:=by
  intro m
  induction m with
  | zero =>
   intro b p a w V _ hT u _ R hI
   obtain rfl:p=[]:=jb V
   have B:∀ x,x ∈ b↔x ∈ T:=fun x=>⟨fun g=>(u x g).1,fun g=>(hT x g).resolve_right qS⟩
   rw [mk_congr (is':=T.map (·.1)++is) (fun j=>by simp only [yl,yr]; simp only [B])]
   exact h b B w hI a R
  | succ m ih =>
   intro b p a w V s hT u z R hI
   have k:∀ (j:Nat) (d:Bool),(mk n (b.map (·.1)++is)).getD j d=if j < n then decide (j ∈ b.map (·.1)++is) else d:=fun j d=>Tm ..
   have t:∀ i,i ∈ Region.ready .any ops (mk n (b.map (·.1)++is))->i ∈ p:=by
    intro i hi
    obtain ⟨A,o,K,M⟩:=mem_ready.1 hi
    have U:i < n:=by rw [<-a6]; exact (Array.getElem?_eq_some_iff.1 K).1
    rw [k,zP U,decide_eq_false_iff_not,yl,not_or] at A
    have C:∀ e ∈ o.after,Region.binds .any e=true->e.on ∈ b.map (·.1)++is:=fun e he l=>by
     have:=M e he l
     rw [k] at this
     split at this
     ·simpa using this
     ·cases this
    have L:∀ r,r ∈ b.map (·.1)->r ∈ T.map (·.1)∧r ∉ p:=fun r q=>by
     obtain ⟨x,g,rfl⟩:=yr.1 q
     exact ⟨yr.2 ⟨x,(u x g).1,rfl⟩,(u x g).2⟩
    have a4:i ∈ T.map (·.1):=by
     have l:=a3 i U
     rw [K] at l
     simp only [Bool.or_eq_true,List.contains_eq_mem,ud,List.any_eq_true,Array.mem_toList_iff,Bool.and_eq_true,Bool.not_eq_true',decide_eq_false_iff_not,List.all_eq_true] at l
     rcases l with (l | l) | l
     ·exact absurd l A.2
     ·exact l
     ·exfalso
      rcases l with ⟨e,he,⟨J,H⟩,a0⟩ | l
      ·rcases yl.1 (C e he J) with c | c
       ·exact a0 (L _ c).1
       ·exact H c
      ·obtain ⟨r,q⟩:∃ r,r ∈ p:=by
        cases p with
        | nil=>simp at V
        | cons r _=>exact ⟨r,uW ..⟩
       obtain ⟨x,g,rfl⟩:=z r q
       have W:x.1 ∈ T.map (·.1):=yr.2 ⟨x,g,rfl⟩
       obtain ⟨e,he,J,H⟩:=l x.1 W
       have e2:=Nat.eq_of_beq_eq_true H
       rcases yl.1 (C e he J) with c | c
       ·rw [e2] at c; exact (L _ c).2 q
       ·rw [e2] at c; exact (hR _ W).2.1 c
    obtain ⟨x,g,rfl⟩:=yr.1 a4
    rcases hT x g with c | c
    ·exact absurd (yr.2 ⟨x,c,rfl⟩) A.1
    ·exact c
   have a1:Region.ready .any ops (mk n (b.map (·.1)++is))≠[]:=by
    obtain ⟨r,q⟩:∃ r,r ∈ p:=by
     cases p with
     | nil=>simp at V
     | cons r _=>exact ⟨r,uW ..⟩
    obtain ⟨x,g,rfl⟩:=z r q
    obtain ⟨g1,g2,o,K,g3⟩:=hR x.1 (yr.2 ⟨x,g,rfl⟩)
    have:x.1 ∈ Region.ready .any ops (mk n (b.map (·.1)++is)):=mem_ready.2 ⟨by
     rw [k,zP g1,decide_eq_false_iff_not,yl,not_or]
     refine ⟨fun c=>?_,g2⟩
     obtain ⟨y,v,he⟩:=yr.1 c
     exact (u y v).2 (he ▸ q),o,K,fun e he l=>by
     rw [k,zP (g3 e he l).2]
     simp [(g3 e he l).1]⟩
    intro Z; rw [Z] at this; cases this
   refine ⟨fun Z=>absurd Z a1,fun i hi=>?_⟩
   have G:=t i hi
   obtain ⟨x,g,rfl⟩:=z i G
   refine wpOp_mono (fun a' w' ⟨ha',hI'⟩=>?_) (Y b x g (fun y v=>⟨(u y v).1,fun e=>(u y v).2 (e ▸ G)⟩) w hI a R)
   refine ⟨a2 _ _ hI',?_⟩
   have:=ih (b++[x]) (p.erase x.1) a' w' (by rw [List.length_erase_of_mem G,V]; rfl) (s.erase _) (fun y v=>?_) (fun y v=>?_) (fun r q=>z r (List.mem_of_mem_erase q)) ha' hI'
   ·have e:(mk n (b.map (·.1)++is)).setIfInBounds x.1 true=mk n (x.1::(b.map (·.1)++is)):=rfl
    show Go.wpAnyH P .any ops (NQ Q) S0 (f + m) ((mk n (b.map (·.1)++is)).setIfInBounds x.1 true) a' w'
    rw [e,mk_congr (is':=(b++[x]).map (·.1)++is) (fun j=>by simp only [yi,vl,List.map_nil,yl,ya,List.not_mem_nil,or_false]; rw [<-or_assoc,or_comm (a:=j=x.1),or_assoc])]
    exact this
   ·rcases hT y v with c | c
    ·exact .inl (List.mem_append_left _ c)
    ·by_cases e:y.1=x.1
     ·left
      have:y=x:=OM O v g e
      subst this; simp
     ·exact .inr ((List.Nodup.mem_erase_iff s).2 ⟨e,c⟩)
   ·rcases yl.1 v with c | c
    ·exact ⟨(u y c).1,fun h4=>(u y c).2 (List.mem_of_mem_erase h4)⟩
    ·obtain rfl:y=x:=by simpa using c
     exact ⟨g,fun h4=>((List.Nodup.mem_erase_iff s).1 h4).1 rfl⟩
 intro w hS a R
 rw [hF]
 have:=a7 T.length [] (T.map (·.1)) a w qS O (fun x g=>.inr (yr.2 ⟨x,g,rfl⟩)) qS (fun r q=>by obtain ⟨x,g,rfl⟩:=yr.1 q; exact ⟨x,g,rfl⟩) R (Z w hS)
 simpa using this
end
theorem nd {α:Type} {l':List α} (l:List α) (h:l'=l) (a:l.Nodup):l'.Nodup:=h ▸ a
structure Fg (P:Program) (kt:TypeId) (kd:TypeDesc) {α:Type} [DecidableEq α] (ek:α->Value):Prop where
  und:P.underlying kt=some kd
  same:∀ a b,Instr.sameNow kd (ek a) (ek b)=some (decide (a=b))
  chk:∀ e a w,(Instr.checkKey e 10000 kt (ek a)).run P w=.ok () w
def CL {α:Type} (ek:α->Value):Nat->List (Nat × α × Int)->List MapEntry
  | _,[]=>[]
  | i,x::r=>⟨ek x.2.1,.int .i64 x.2.2,i⟩::CL ek (i + 1) r
section
variable {α:Type} [DecidableEq α] {ek:α->Value} {P:Program} {kt et t:TypeId} {kd:TypeDesc}
theorem Fg.str {c:TypeId} (h:P.underlying c=some .string):Fg P c .string Value.string:=⟨h,fun a b=>by
 have:(a == b)=decide (a=b):=by
  have h:=MapKept.bytes_beq a b
  by_cases e:a=b
  ·rw [h.2 e,vM e]
  ·have:(a == b)=false:=by
    cases hb:a == b with
    | false=>rfl
    | true=>exact absurd (h.1 hb) e
   simp [this,e]
 simp [Instr.sameNow,this],fun e a w=>by unfold Instr.checkKey; simp [run_underlying h]⟩
theorem Fg.int {c:TypeId} (h:P.underlying c=some (.int .i64)):Fg P c (.int .i64) (Value.int .i64):=⟨h,fun a b=>by
 simp [Instr.sameNow,ibeq],fun e a w=>by unfold Instr.checkKey; simp [run_underlying h]⟩
theorem JI (x:Nat × α × Int):∀ (D:List (Nat × α × Int)) (i:Nat),CL ek i (D++[x])=CL ek i D++[⟨ek x.2.1,.int .i64 x.2.2,i + D.length⟩]
 | [],i=>by simp [CL]
 | y::D,i=>by simp [CL,JI x D (i + 1)]; omega
theorem EU (K:Fg P kt kd ek) (a:α):∀ (D:List (Nat × α × Int)) (i j:Nat),(Instr.findNow kd (ek a) (CL ek i D) j=some none∧∀ x ∈ D,x.2.1≠a)∨∃ q x,x ∈ D∧x.2.1=a∧Instr.findNow kd (ek a) (CL ek i D) j=some (some (q,.int .i64 x.2.2))
 | [],i,j=>.inl ⟨rfl,qS⟩
 | y :: D, i, j => by
  by_cases e:a=y.2.1
  ·exact .inr ⟨j,y,List.mem_cons_self ..,e.symm,by simp [CL,Instr.findNow,K.same,e]⟩
  ·have h:Instr.findNow kd (ek a) (CL ek i (y::D)) j=Instr.findNow kd (ek a) (CL ek (i + 1) D) (j + 1):=by simp [CL,Instr.findNow,K.same,e]
   rw [h]
   rcases EU K a D (i + 1) (j + 1) with ⟨c,d⟩ | ⟨q,x,b,c,d⟩
   ·exact .inl ⟨c,fun x b=>by
     rcases ya.1 b with rfl | b
     ·exact fun h=>e h.symm
     ·exact d x b⟩
   ·exact .inr ⟨q,x,List.mem_cons_of_mem _ b,c,d⟩
theorem key_inj:∀ {T:List (Nat × α × Int)},(T.map (·.2.1)).Nodup->∀ {x y:Nat × α × Int},y ∈ T->x ∈ T->y.2.1=x.2.1->y=x
 | [],_,_,_,h,_,_=>by cases h
 | z :: T, hp, x, y, hy, hx, e => by
  rw [List.map_cons,List.nodup_cons] at hp
  rcases List.mem_cons.1 hy with rfl | hy'
  ·rcases List.mem_cons.1 hx with rfl | hx'
   ·rfl
   ·exact absurd (List.mem_map.2 ⟨x,hx',e.symm⟩) hp.1
  ·rcases List.mem_cons.1 hx with rfl | hx'
   ·exact absurd (List.mem_map.2 ⟨y,hy',e⟩) hp.1
   ·exact key_inj hp.2 hy' hx' e
def assoc:List (Nat × α × Int)->α->Option Int
  | [],_=>none
  | x::r,a=>if a=x.2.1 then some x.2.2 else assoc r a
theorem Kl (a:α):∀ (T:List (Nat × α × Int)),(∀ x ∈ T,x.2.1≠a)->assoc T a=none
 | [],_=>rfl
 | y :: T, h => by
  rw [assoc,if_neg (fun e=>h y (List.mem_cons_self ..) e.symm)]
  exact Kl a T fun x hx=>h x (List.mem_cons_of_mem _ hx)
theorem Lo:∀ (T:List (Nat × α × Int)),(T.map (·.2.1)).Nodup->∀ x ∈ T,assoc T x.2.1=some x.2.2
 | [],_,x,hx=>by cases hx
 | y :: T, hn, x, hx => by
  rw [List.map_cons,List.nodup_cons] at hn
  rw [assoc]
  rcases List.mem_cons.1 hx with rfl | hx
  ·rw [if_pos rfl]
  ·rw [if_neg (fun e=>hn.1 (List.mem_map.2 ⟨x,hx,e⟩))]
   exact Lo T hn.2 x hx
theorem Lu (K:Fg P kt kd ek) {T D:List (Nat × α × Int)} (f:(T.map (·.2.1)).Nodup) (d:∀ x,x ∈ D↔x ∈ T) (a:α):(Instr.findNow kd (ek a) (CL ek 0 D) 0=some none∧assoc T a=none)∨∃ q v,Instr.findNow kd (ek a) (CL ek 0 D) 0=some (some (q,.int .i64 v))∧assoc T a=some v:=by
 rcases EU K a D 0 0 with ⟨e,b⟩ | ⟨q,x,c,rfl,b⟩
 exact .inl ⟨e,Kl a T fun x c=>b x ((d x).2 c)⟩;exact .inr ⟨q,_,b,Lo T f x ((d x).1 c)⟩
section
variable {N n:Nat} {D:List Deferred} {E:Env} {S S0:World->Prop} {Q:Exit->Act->World->Prop} {ops:Array Oper} {f F:Nat} {is:List Nat} {w0:World} {M:Fp} {L:List Own}
  {rest:List Oper} {d:Nat} {op:Op} {ty:TypeId} {pos:String} {aft:Array Edge} {g:Option (Nat × Bool)} {v u:Value} {x y m:Operand} {b:Nat}
theorem gU (j:Want N D ops E g true) (e:Nat.blt d N=true) (h:∀ b,WL P N D ops Q rest ((d,.map (some b))::E) (Mem w0 M (.map b [] 0::L))):WL P N D ops Q (⟨some d,.makeMap t none,ty,pos,aft,g⟩::rest) E (Mem w0 M L) :=
 jc j e fun o i c a w l k=>⟨.map (some w.heap.size),w.alloc (.map #[] 0),by unfold execOp; rw [i]; simp [Instr.makeMap],_,k.add (o:=.map w.heap.size [] 0) (Fr.alloc _ _ _) (by exact heap_alloc_new w _) (fun b (f:b=w.heap.size)=>by subst f; simp),h w.heap.size⟩
def insAt (ops:Array Oper) (t:TypeId) (m:Operand) (E:Env) (ek:α->Value) (x:Nat × α × Int):Prop :=
  ∃ (k v:Operand) (ty:TypeId) (pos:String) (aft:Array Edge),ops[x.1]?=some ⟨none,.insert t m k v,ty,pos,aft,none⟩∧ev E k=some (ek x.2.1)∧ev E v=some (.int .i64 x.2.2)
def Ks (ops:Array Oper) (t:TypeId) (m:Operand) (E:Env) (ek:α->Value):List (Nat × α × Int)->Prop
  | []=>True
  | x::r=>insAt ops t m E ek x∧Ks ops t m E ek r
theorem im {i:Nat} {kk:α} {a:Int} {k v:Operand} (h:ops[i]?=some ⟨none,.insert t m k v,ty,pos,aft,none⟩) (c:ev E k=some (ek kk)) (b:ev E v=some (.int .i64 a)):insAt ops t m E ek (i,kk,a):=⟨k,v,ty,pos,aft,h,c,b⟩
theorem Ks.at:∀ {T:List (Nat × α × Int)},Ks ops t m E ek T->∀ x ∈ T,insAt ops t m E ek x
 | [],_,x,hx=>by cases hx
 | y :: T, h, x, hx => by
  rcases List.mem_cons.1 hx with rfl | hx
  ·exact h.1
  ·exact Ks.at h.2 x hx
theorem n_lit (q:Nat) (K:Fg P kt kd ek) (T:List (Nat × α × Int)) (V:L[q]?=some (.map b [] 0)) (hm:ev E m=some (.map (some b))) (hu:P.underlying t=some (.map kt et)) (S:ops.size=n) (hB:starB ops n is (T.map (·.1))=true) (J:(T.map (·.1)).Nodup) (C:(T.map (·.2.1)).Nodup) (X:F=f + T.length)
  (Y:Ks ops t m E ek T) (R:∀ es c w,Mem w0 M (L.set q (.map b es c)) w->S0 w)
  (h:∀ d:List (Nat × α × Int),(∀ x,x ∈ d↔x ∈ T)->WN P N D ops n Q S0 f (T.map (·.1)++is) E (Mem w0 M (L.set q (.map b (CL ek 0 d) d.length)))):WN P N D ops n Q S0 F is E (Mem w0 M L):=by
 have Z:q < L.length:=(yb.1 V).1
 refine n_star T (fun d w=>Mem w0 M (L.set q (.map b (CL ek 0 d) d.length)) w) S hB J X (fun w H=>?_) (fun d w H=>R _ _ w H) (fun d x W l w u a z=>?_) h
 ·have e:L.set q (.map b (CL ek 0 ([]:List (Nat × α × Int))) 0)=L:=by
   apply List.ext_getElem?
   intro i
   rw [List.getElem?_set]
   split
   ·rename_i e; subst e; simpa [CL] using V.symm
   ·rfl
  show Mem w0 M (L.set q (.map b (CL ek 0 ([]:List (Nat × α × Int))) 0)) w
  rw [e]; exact H
 ·obtain ⟨k,v,ty,p,r,ho,O,hv⟩:=Y.at x W
  have I:∀ y ∈ d,y.2.1≠x.2.1:=fun y A e=>(l y A).2 (by rw [key_inj C (l y A).1 W e])
  have g:(L.set q (.map b (CL ek 0 d) d.length))[q]?=some (.map b (CL ek 0 d) d.length):=by rw [List.getElem?_set_self Z]
  have B:=u.map g
  have hf:Instr.findNow kd (ek x.2.1) (CL ek 0 d) 0=some none:=by
   rcases EU K x.2.1 d 0 0 with ⟨h1,_⟩ | ⟨_,y,A,e,_⟩
   ·exact h1
   ·exact absurd e (I y A)
  have s:(Instr.mapUpdate t (.map (some b)) (ek x.2.1) (.int .i64 x.2.2)).run P w=.ok () (setBlock w b (.map (CL ek 0 (d++[x])).toArray (d++[x]).length)):=by
   simp only [Instr.mapUpdate,Sem.run_bind,run_underlying hu,Result.andThen_ok,MapKept.run_getObj_map B,K.chk,Instr.findKey,run_underlying K.und,hf,Sem.run_pure,MapKept.run_setObj_map _ B]
   simp [setBlock,JI]
  unfold wpOp
  simp only [ho]
  have U:Region.wanted (⟨none,.insert t m k v,ty,p,r,none⟩:Oper) (yielded ops a.tmps)=true:=rfl
  rw [zP U]
  left
  unfold Oper.wp
  have G:(execOp a.eval (⟨none,.insert t m k v,ty,p,r,none⟩:Oper)).run P w=.ok .skip (setBlock w b (.map (CL ek 0 (d++[x])).toArray (d++[x]).length)):=by
   unfold execOp
   simp [z.eval hm,z.eval O,z.eval hv,s]
  rw [G]
  refine ⟨z,?_⟩
  have := u.upd (w' := setBlock w b (.map (CL ek 0 (d ++ [x])).toArray (d ++ [x]).length)) (o' := .map b (CL ek 0 (d ++ [x])) (d ++ [x]).length) g rfl ⟨rfl, rfl, rfl, by simp [setBlock], fun k _ O => by
    simp only [setBlock]
    rw [Array.getElem?_setIfInBounds_ne (fun e=>O e.symm)]⟩ (by
    show (setBlock w b _).heap[b]?=_
    have j:b < w.heap.size:=(Array.getElem?_eq_some_iff.1 B).1
    simp [setBlock,j]) (fun b' o=>⟨.inl o,by
    have j:b < w.heap.size:=(Array.getElem?_eq_some_iff.1 B).1
    have e:b'=b:=o
    subst e; simpa [setBlock] using j⟩)
  simpa [List.set_set] using this
theorem WY (q:Nat) (K:Fg P kt kd ek) {T k:List (Nat × α × Int)} {h c:Nat} {a:α} (u:∀ x,x ∈ k↔x ∈ T) (f:(T.map (·.2.1)).Nodup) (l:L[q]?=some (.map b (CL ek 0 k) c)) (n:ev E x=some (.map (some b))) (i:ev E y=some (ek a)) (j:P.underlying t=some (.map kt et)) (s:Inf P et 1 h (.int .i64 0)) :
  AR P N D E (Mem w0 M L) (.lookup t x y false) ty (.int .i64 ((assoc T a).getD 0)):=fun o r _ z w d m=>by
 unfold execOp; rw [r]
 rcases Lu K f u a with ⟨e,g⟩ | ⟨p,v,e,g⟩
 ·simp [d.eval n,d.eval i,Instr.lookup,run_underlying j,MapKept.run_getObj_map (m.map l),K.chk,Instr.findKey,run_underlying K.und,e,g,Cg s]
 ·simp [d.eval n,d.eval i,Instr.lookup,run_underlying j,MapKept.run_getObj_map (m.map l),K.chk,Instr.findKey,run_underlying K.und,e,g]
theorem NF (q:Nat) (K:Fg P kt kd ek) {T k:List (Nat × α × Int)} {h c:Nat} {a:α} (u:∀ x,x ∈ k↔x ∈ T) (f:(T.map (·.2.1)).Nodup) (l:L[q]?=some (.map b (CL ek 0 k) c)) (n:ev E x=some (.map (some b))) (i:ev E y=some (ek a)) (j:P.underlying t=some (.map kt et)) (s:Inf P et 1 h (.int .i64 0)) :
  AR P N D E (Mem w0 M L) (.lookup t x y true) ty (.tuple [.int .i64 ((assoc T a).getD 0),.bool (assoc T a).isSome].toArray):=fun o r _ z w d m=>by
 unfold execOp; rw [r]
 rcases Lu K f u a with ⟨e,g⟩ | ⟨p,v,e,g⟩
 ·simp [d.eval n,d.eval i,Instr.lookup,run_underlying j,MapKept.run_getObj_map (m.map l),K.chk,Instr.findKey,run_underlying K.und,e,g,Cg s]
 ·simp [d.eval n,d.eval i,Instr.lookup,run_underlying j,MapKept.run_getObj_map (m.map l),K.chk,Instr.findKey,run_underlying K.und,e,g]
end
end
section
variable {P:Program} {N:Nat} {D:List Deferred} {E:Env} {S:World->Prop} {Q:Exit->Act->World->Prop} {w0:World} {M:Fp} {L:List Own}
  {ops:Array Oper} {rest:List Oper} {d:Nat} {ty T T':TypeId} {pos:String} {aft:Array Edge} {g:Option (Nat × Bool)} {v u:Value} {x y:Operand}
theorem Qs {n e k f h d:Nat} {z:Value} {b:Array (Nat × Operand)} {c:List (Nat × Value)} {g:List Value} (cs:List Value) (u:P.underlying T=some (.array n e)) (hi:Inf P T h d (.agg g.toArray)) (p:Inf P e k f z) (he:evp E b.toList=some c) (v:Ga k 0 c=some cs) (y:g.length=c.length * k) :
  AR P N D E S (.build T b) ty (.agg cs.toArray):=fun o B _ a w s _=>by
 unfold execOp; rw [B]
 have q:(b.map fun (i,x)=>(i,a.eval x)).toList=c:=by rw [Array.toList_map]; exact KI s he
 have t:P.built T c=some cs.toArray:=by
  obtain ⟨i,r,m,F,_⟩:=hi.get
  obtain ⟨j,A,C,l,_⟩:=p.get
  unfold Program.built
  simp only [r,u,m,A,l]
  have:=Ho c 0 cs [] g v qS y
  simpa [Value.cells] using this
 simp only [Sem.run_bind,run_build w T _ _ (by rw [q]; exact t),Result.andThen_ok,Sem.run_pure]
theorem r_ib {b o i n e k c:Nat} {z:Value} {l:IntKind} {m:Int} (r:ev E x=some (.pointer (some ⟨b,o,none⟩))) (g:ev E y=some (.int l m)) (q:m=(i:Int)) (hi:i < n) (j:P.underlying T=some (.array n e)) (f:Inf P e k c z) :
  AR P N D E S (.indexAddr T x y) ty (.pointer (some ⟨b,o + i * k,none⟩)):=fun p h _ a w d _=>by
 unfold execOp; rw [h]; subst q
 simp [d.eval r,d.eval g,Instr.indexAt,asIntOf,run_underlying j,hi,Bk f,Instr.sureAddr,add_lit]
theorem Qx {s:ByteArray} {e:TypeId} {B:TypeDesc} (G:Want N D ops E g true) (Y:ev E x=some (.string s)) (H:P.underlying T=some B) (U:P.underlying T'=some (.slice e)) (he:P.underlying e=some (.int .u8)) (y:s.size<=9223372036854775807) (C:Nat.blt d N=true)
  (h:∀ b c,s.data.toList.length<=c->c<=9223372036854775807->WL P N D ops Q rest ((d,.slice (some ⟨b,0,none⟩) s.data.toList.length c)::E) (Mem w0 M (slP 1 byteE (.slice (some ⟨b,0,none⟩) s.data.toList.length c) s.data.toList::L))) :
  WL P N D ops Q (⟨some d,.convert T T' x,ty,pos,aft,g⟩::rest) E (Mem w0 M L):=by
 refine jc G C fun o W K a w J X=>?_
 have n:=Go.Lib.run_convert_string_bytes (P:=P) w T T' e s H U he
 have k:s.data.toList.length=s.size:=qS
 have m:s.size<=grownCap w s.size 0 e:=by have:=grownCap_ge w s.size 0 e; omega
 have p:=grownCap_le_maxLen w s.size 0 e (by simpa [maxLen] using y)
 refine ⟨.slice (some ⟨w.heap.size,0,none⟩) s.size (grownCap w s.size 0 e),Go.Lib.bytesWorld w e s,by unfold execOp; rw [W]; simp [J.eval Y,n],_,?_,by have:=h w.heap.size (grownCap w s.size 0 e) (by rw [k]; exact m) (by simpa [maxLen] using p); rwa [k] at this⟩
 have R:∀ (a:Array Obj) (x:Obj) (f:Obj->Obj),(a.push x).modify a.size f=a.push (f x):=by
  intro a x f
  apply Array.ext
  ·simp
  ·intro i I z
   simp only [Array.getElem_modify,Array.getElem_push]
   by_cases h:a.size=i
   ·subst h; simp
   ·have hi:i < a.size:=by simp at I; omega
    simp [h,hi]
 have t:Go.Lib.bytesWorld w e s=w.drew.alloc (.cells (Go.Lib.bytesCells w e s) e ((Go.Lib.bytesCells w e s).size,(Go.Lib.bytesCells w e s).size + 1)):=by
  unfold Go.Lib.bytesWorld World.freeze
  rw [zI qD]
  show ({ w.drew.alloc (.cells (Go.Lib.bytesCells w e s) e) with heap:=(w.heap.push (.cells (Go.Lib.bytesCells w e s) e)).modify w.heap.size _ }:World)=_
  rw [R]
  rfl
 rw [t]
 have l:(w.drew.alloc (.cells (Go.Lib.bytesCells w e s) e ((Go.Lib.bytesCells w e s).size,(Go.Lib.bytesCells w e s).size + 1))).heap[w.heap.size]?=some (.cells (Go.Lib.bytesCells w e s) e ((Go.Lib.bytesCells w e s).size,(Go.Lib.bytesCells w e s).size + 1)):=heap_alloc_new w.drew _
 have O:Fr no w (w.drew.alloc (.cells (Go.Lib.bytesCells w e s) e ((Go.Lib.bytesCells w e s).size,(Go.Lib.bytesCells w e s).size + 1))):=(Fr.drew no w).trans (Fr.alloc no w.drew _) (fun _ _ h=>h)
 have:=X.lay (F:=fun S=>zH S 1 byteE (.slice (some ⟨w.heap.size,0,none⟩) s.data.toList.length (grownCap w s.size 0 e)) s.data.toList) (zH.loc _ _ _ _) O (fun Z _=>⟨(·=w.heap.size),fun b V=>by
   have q:b=w.heap.size:=V
   subst q
   exact ⟨.inr (vY _),(Array.getElem?_eq_some_iff.1 l).1⟩,⟨some ⟨w.heap.size,0,none⟩,grownCap w s.size 0 e,rfl,by rw [k]; exact m,p,fun _=>⟨⟨w.heap.size,0,none⟩,rfl,rfl,fun i c hi j u A=>?_⟩⟩⟩)
 ·rw [k] at this; exact this
 ·have v:i < s.size:=by have:=(yb.1 hi).1; simpa using this
  cases j with
  | succ j=>simp at A
  | zero =>
   have r:u=.int .u8 c.toNat:=by simpa using A.symm
   subst r
   rw [add_add,add_lit,cell_of_row _ _ _ _ _ _ l]
   have z:s.data[i]?=some c:=by simpa using hi
   unfold Go.Lib.bytesCells
   rw [Array.getElem?_append_left (by simpa using v)]
   simp [z]
end
end Ex
end
section
namespace Ex
def lob (E:Env):Option Operand->Nat->Prop
  | none,lo=>lo=0
  | some y,lo=>∃ k m,ev E y=some (.int k m)∧m=(lo:Int)
def hib (E:Env) (len:Nat):Option Operand->Nat->Prop
  | none,hi=>hi=len
  | some y,hi=>∃ k m,ev E y=some (.int k m)∧m=(hi:Int)
theorem lo0 {E:Env}:lob E none 0:=rfl
theorem lo1 {E:Env} {y:Operand} {k:IntKind} {m:Int} {lo:Nat} (h:ev E y=some (.int k m)) (a:m=(lo:Int)):lob E (some y) lo:=⟨k,m,h,a⟩
theorem hi0 {E:Env} {n:Nat}:hib E n none n:=rfl
theorem hi1 {E:Env} {y:Operand} {k:IntKind} {m:Int} {n hi:Nat} (h:ev E y=some (.int k m)) (a:m=(hi:Int)):hib E n (some y) hi:=⟨k,m,h,a⟩
def Gm (A:Option Addr) (k c lo:Nat):Option Addr:=if c=lo then A else A.map (·.add (lo * k))
section
variable {P:Program} {N:Nat} {D:List Deferred} {E:Env} {S:World->Prop} {Q:Exit->Act->World->Prop} {w0 w:World} {M:Fp} {L:List Own} {α:Type} {enc:α->List Value} {k:Nat} {l:List α} {A:Option Addr} {c lo hi:Nat} {Sb:Nat->Prop}
  {ops:Array Oper} {rest:List Oper} {d:Nat} {e ty T T':TypeId} {pos:String} {aft:Array Edge} {g:Option (Nat × Bool)} {v u:Value} {x:Operand} {y z:Option Operand}
theorem jw {b j:Nat} {q:Value} (B:ev E x=some (.slice A b c)) (l:lob E y lo) (i:hib E b z hi) (C:lo<=hi) (F:hi<=b) (H:b<=c) (m:P.underlying T=some (.slice e)) (r:Inf P e k j q):AR P N D E S (.slice T x y z none) ty (.slice (Gm A k c lo) (hi - lo) (c - lo)):=fun o v s a w g _=>by
 have u:(Instr.sliceBounds true b c (y.map a.eval) (z.map a.eval) none).run P w=.ok (lo,hi,c) w:=by
  cases y with
  | none =>
   obtain rfl:lo=0:=l
   cases z with
   | none =>
    obtain rfl:hi=b:=i
    simp [Instr.sliceBounds]
   | some z =>
    obtain ⟨n,t,d,rfl⟩:=i
    have f:hi<=c:=qO
    simp [Instr.sliceBounds,g.eval d,Instr.sliceBound,asIntOf,f]
  | some y =>
   obtain ⟨G,I,h,rfl⟩:=l
   cases z with
   | none =>
    obtain rfl:hi=b:=i
    have f:lo<=hi:=qO
    simp [Instr.sliceBounds,g.eval h,Instr.sliceBound,asIntOf,f]
   | some z =>
    obtain ⟨n,t,d,rfl⟩:=i
    have f:hi<=c:=qO
    have p:lo<=hi:=qO
    simp [Instr.sliceBounds,g.eval h,g.eval d,Instr.sliceBound,asIntOf,f,p]
 unfold execOp; rw [v]
 simp only [g.eval B,Option.map_none,Sem.run_bind,Instr.sliceAt,run_underlying m,Result.andThen_ok]
 simp only [Instr.slice,Sem.run_bind,run_underlying m,Result.andThen_ok,u,Bk r,Sem.run_pure,Gm]
theorem OA (a:hi<=l.length):((l.take hi).drop lo).length=hi - lo:=by simp; omega
theorem zH.sub (h:zH Sb k enc (.slice A l.length c) l w) (s:lo<=hi) (b:hi<=l.length):zH Sb k enc (.slice (Gm A k c lo) (hi - lo) (c - lo)) ((l.take hi).drop lo) w:=by
 obtain ⟨A',t,m,q,r,n⟩:=h
 injection m with f1 _ f3
 subst f1 f3
 refine ⟨Gm A k c lo,c - lo,by rw [OA b],by rw [OA b]; omega,qO,fun d=>?_⟩
 have f:lo < hi:=by
  rcases Nat.lt_or_ge lo hi with h | h
  ·exact h
  ·exact absurd (jb (by rw [OA b]; omega)) d
 obtain ⟨ad,rfl,o,p⟩:=n (by rintro rfl; simp at b; omega)
 refine ⟨ad.add (lo * k),by unfold Gm; rw [zI qO]; rfl,by rw [Ck]; exact o,fun i x a j u g=>?_⟩
 have:l[lo + i]?=some x:=by
  rw [List.getElem?_drop,List.getElem?_take] at a
  split at a
  ·exact a
  ·cases a
 have e:=p (lo + i) x this j u g
 rw [add_add,add_add] at *
 rw [Nat.add_mul,Nat.add_assoc] at e
 exact e
theorem zH.Jq {v:Value} {a:List α} (h:zH Sb k enc (.slice A l.length c) l w) (d:lo<=hi) (f:hi<=l.length) (b:(l.take hi).drop lo=a) (e:v=.slice (Gm A k c lo) (hi - lo) (c - lo)):zH Sb k enc v a w:=by
 subst b e; exact h.sub d f
theorem l_dslP (q:Nat) {m:Nat} {G:Value} (b:List α) (F:Want N D ops E g true) (Y:ev E x=some (.slice A l.length c)) (v:L[q]?=some (slP k enc (.slice A l.length c) l)) (J:lob E y lo) (I:hib E l.length z hi) (i:lo<=hi) (j:hi<=l.length) (O:l.length<=c) (r:(l.take hi).drop lo=b) (K:P.underlying T=some (.slice e)) (p:Inf P e k m G) (W:Nat.blt d N=true)
  (h:∀ A' f,b.length<=f->f<=9223372036854775807->(b≠[]->∃ ad,A'=some ad)->WL P N D ops Q rest ((d,.slice A' b.length f)::E) (Mem w0 M (slP k enc (.slice A' b.length f) b::L))) :
  WL P N D ops Q (⟨some d,.slice T x y z none,ty,pos,aft,g⟩::rest) E (Mem w0 M L):=by
 refine jc F W fun o X n a w H t=>?_
 have R:=jw (P:=P) (N:=N) (D:=D) (S:=fun _=>True) (ty:=ty) Y J I i j O K p o X n a w H trivial
 have u:=(t.slp q v).sub (lo:=lo) i j
 rw [r] at u
 obtain ⟨A',f,s,V,B,C⟩:=u.form
 refine ⟨_,w,R,_,?_,by rw [s]; exact h A' f V B C⟩
 refine t.yO (zH.loc _ _ _ _) fun Z U=>?_
 have:=(U.sl q v).sub (lo:=lo) i j
 rw [r,s] at this
 exact this
end
theorem gv {P:Program} {N:Nat} {D:List Deferred} {E:Env} {S:World->Prop} {a:Op} {ty:TypeId} {k:IntKind} {m n:Int} (h:m=n) (r:AR P N D E S a ty (.int k m)):AR P N D E S a ty (.int k n):=h ▸ r
section
variable {α:Type} [DecidableEq α] {ek:α->Value} {P:Program} {kt et t:TypeId} {kd:TypeDesc} {N:Nat} {D:List Deferred} {E:Env} {Q:Exit->Act->World->Prop} {ops:Array Oper} {w0:World} {M:Fp} {L:List Own}
  {rest:List Oper} {ty:TypeId} {pos:String} {aft:Array Edge} {g:Option (Nat × Bool)} {m x y:Operand} {b:Nat}
theorem jH (q:Nat) (K:Fg P kt kd ek) (c:List (Nat × α × Int)) (i:Nat) (a:α) (n:Int) (A:Want N D ops E g true) (v:L[q]?=some (.map b (CL ek 0 c) c.length)) (I:ev E m=some (.map (some b))) (r:ev E x=some (ek a)) (C:ev E y=some (.int .i64 n)) (G:P.underlying t=some (.map kt et)) (l:∀ z ∈ c,z.2.1≠a)
  (h:WL P N D ops Q rest E (Mem w0 M (L.set q (.map b (CL ek 0 (c++[(i,a,n)])) (c++[(i,a,n)]).length)))):WL P N D ops Q (⟨none,.insert t m x y,ty,pos,aft,g⟩::rest) E (Mem w0 M L):=by
 refine qu A (fun o O _ R w p u=>?_) h
 have s:=u.map v
 have H:Instr.findNow kd (ek a) (CL ek 0 c) 0=some none:=by
  rcases EU K a c 0 0 with ⟨B,_⟩ | ⟨_,y,F,e,_⟩
  ·exact B
  ·exact absurd e (l y F)
 have f:(Instr.mapUpdate t (.map (some b)) (ek a) (.int .i64 n)).run P w=.ok () (Go.ChangeMaps.setBlock w b (.map (CL ek 0 (c++[(i,a,n)])).toArray (c++[(i,a,n)]).length)):=by
  simp only [Instr.mapUpdate,Sem.run_bind,run_underlying G,Result.andThen_ok,MapKept.run_getObj_map s,K.chk,Instr.findKey,run_underlying K.und,H,Sem.run_pure,MapKept.run_setObj_map _ s]
  simp [Go.ChangeMaps.setBlock,JI]
 refine ⟨_,by unfold execOp; rw [O]; simp only [p.eval I,p.eval r,p.eval C]; simp [f]; rfl,?_⟩
 have j:b < w.heap.size:=(Array.getElem?_eq_some_iff.1 s).1
 exact u.upd (o' := .map b (CL ek 0 (c ++ [(i, a, n)])) (c ++ [(i, a, n)]).length) v rfl ⟨rfl, rfl, rfl, by simp [Go.ChangeMaps.setBlock], fun k _ r => by
   simp only [Go.ChangeMaps.setBlock]
   rw [Array.getElem?_setIfInBounds_ne (fun e=>r e.symm)]⟩ (by
   show (Go.ChangeMaps.setBlock w b _).heap[b]?=_
   simp [Go.ChangeMaps.setBlock,j]) (fun J d=>⟨.inl d,by
   have e:J=b:=d
   subst e; simpa [Go.ChangeMaps.setBlock] using j⟩)
end
end Ex
end
section
namespace Ex
section
variable {P:Program} {N:Nat} {D:List Deferred} {E:Env} {S:World->Prop} {T T' ty:TypeId} {x y:Operand} {m n:Int} {k:IntKind}
theorem wrap_u64 (m:Int):IntKind.u64.wrap m=m % 18446744073709551616:=by rfl
theorem wrap_u8 (m:Int):IntKind.u8.wrap m=m % 256:=by rfl
theorem Ug {a:Nat} (h:a < 18446744073709551616):IntKind.u64.wrap (a:Int)=(a:Int):=by rw [wrap_u64]; omega
theorem r_shr {j u:Nat} {k':IntKind} (g:ev E x=some (.int .u64 (u:Int))) (c:ev E y=some (.int k' n)) (f:n=(j:Int)) (h:j < 64):AR P N D E S (.binOp .shr T x y T') ty (.int .u64 ((u / 2 ^ j:Nat):Int)):=fun o e _ a w b _=>by
 subst f
 have d:min j 64=j:=qO
 unfold execOp; rw [e]; simp [b.eval g,b.eval c,binOp_shr,Op.shift,eqGuard_at_int,IntKind.bits,d]
theorem SB {a:Nat} (c:ev E x=some (.int .u64 (a:Int))) (h:a<=9223372036854775807) (b:(P.underlying T).isSome=true) (d:P.underlying T'=some (.int .i64)):AR P N D E S (.convert T T' x) ty (.int .i64 ((a:Nat):Int)):=by
 have:=qi (P:=P) (N:=N) (D:=D) (S:=S) (ty:=ty) c b d
 rwa [Fx qO] at this
theorem QA {a:Nat} (c:ev E x=some (.int .i64 m)) (d:m=(a:Int)) (h:a<=9223372036854775807) (b:(P.underlying T).isSome=true) (e:P.underlying T'=some (.int .u64)):AR P N D E S (.convert T T' x) ty (.int .u64 ((a:Nat):Int)):=by
 have:=qi (P:=P) (N:=N) (D:=D) (S:=S) (ty:=ty) c b e
 subst d
 rwa [Ug qO] at this
end
end Ex
end
section
namespace Ex
section
variable {P:Program} {N:Nat} {D:List Deferred} {E:Env} {S:World->Prop} {Q:Exit->Act->World->Prop} {w0 w w':World} {M:Fp} {L:List Own}
  {ops:Array Oper} {rest:List Oper} {d:Nat} {ty T:TypeId} {pos:String} {aft:Array Edge} {g:Option (Nat × Bool)} {v u:Value} {x:Operand}
theorem Mem.lay' (h:Mem w0 M L w) {F:(Nat->Prop)->World->Prop} (s:Loc F) (n:Nat) (u:w0.heap.size<=n) (x:∀ (i:Nat) (o:Own),L[i]?=some o->o.mut=true->∀ b,o.fp b->b < n)
    {l e:Nat->Prop} (g:DP w0 M L w l) (m:∀ b,e b->(l b∨n<=b)∧b < w.heap.size) (r:F e w):Mem w0 M (.pub F::L) w:=by
  refine ⟨h.fr,fun i p hi=>?_,?_,?_⟩
  · cases i with
    | zero => obtain rfl : Own.pub F = p := by simpa using hi
              exact ⟨s,fun b a=>a.elim,fun f=>by cases f⟩
    | succ i=>exact h.ok i p (by simpa using hi)
  · intro i j p q hi t v f b a c
    cases i with
    | zero =>
      obtain rfl:Own.pub F=p:=by simpa using hi
      exact a
    | succ i =>
      cases j with
      | zero => obtain rfl : Own.pub F = q := by simpa using t
                exact c
      | succ j=>exact h.dj i j p q (by simpa using hi) (by simpa using t) qO f b a c
  · refine ⟨fun b=>l b∨e b,?_,?_,?_,?_⟩
    · rintro b (a | a)
      · exact g.sub b a
      · rcases (m b a).1 with k | k
        · exact g.sub b k
        · right; omega
    · rintro b (a | a)
      · exact g.lt b a
      · exact (m b a).2
    · intro i p hi f b a c
      cases i with
      | zero => obtain rfl : Own.pub F = p := by simpa using hi
                cases f
      | succ i =>
        have d:L[i]?=some p:=by simpa using hi
        rcases a with a | a
        · exact g.dj i p d f b a c
        · rcases (m b a).1 with k | k
          · exact g.dj i p d f b k c
          · have:=x i p d f b c; omega
    · intro i G hi
      cases i with
      | zero => obtain rfl : F = G := by simpa using hi
                exact s e _ w w (fun b a=>.inr a) (fun _ _=>rfl) r
      | succ i =>
        have d:L[i]?=some (.pub G):=by simpa using hi
        exact ((h.ok i _ d).1:Loc G) l _ w w (fun b a=>.inl a) (fun _ _=>rfl) (g.at_ i G d)
section
variable {α:Type} {enc:α->List Value} {k:Nat} {l l':List α}
theorem DP.sub' {w:World} {d:Nat->Prop} (a:DP w0 M L w d) {i p:Nat} {cs:List Value} (f:L[i]?=some (.blk p cs T)):∀ b,d b->b < w.heap.size∧b≠p:=fun b c=>⟨a.lt b c,fun e=>a.dj i _ f rfl b c e⟩
end
end
end Ex
end
section
structure Shelf where (zM:List Label) (raw:List AA) (AD coarse:List AB) (zS zN zG zJ zE:Int) deriving DecidableEq
structure Tri where (a b c:Int) deriving DecidableEq
namespace Ex
@[reducible] def triE (t:Tri):List Value:=[.int .i64 t.a,.int .i64 t.b,.int .i64 t.c]
theorem encTri:Enc triE 3:=⟨fun _=>rfl,fun _ v a=>by simp [triE] at a; rcases a with rfl | rfl | rfl <;> rfl,by decide⟩
@[reducible] def En (v0 v1 v2 v3:Value) (s:Shelf):List Value:=[v0,v1,v2,v3,.int .i64 s.zS,.int .i64 s.zN,.int .i64 s.zG,.int .i64 s.zJ,.int .i64 s.zE]
def Db (S:Nat->Prop) (v:Value) (s:Shelf) (w:World):Prop :=
  ∃ v0 v1 v2 v3,v=.agg (En v0 v1 v2 v3 s).toArray∧zH S 2 zb v0 s.zM w∧zH S 2 zX v1 s.raw w∧zH S 8 zO v2 s.AD w∧zH S 8 zO v3 s.coarse w
theorem Db.loc (v:Value) (s:Shelf):Loc (fun S=>Db S v s):=fun S S' u u' hs hk ⟨v0,v1,v2,v3,e,h0,h1,h2,h3⟩ =>
 ⟨v0,v1,v2,v3,e,zH.loc _ _ _ _ S S' u u' hs hk h0,zH.loc _ _ _ _ S S' u u' hs hk h1,zH.loc _ _ _ _ S S' u u' hs hk h2,zH.loc _ _ _ _ S S' u u' hs hk h3⟩
theorem Db.open {S:Nat->Prop} {c b d a:Value} {s t:Shelf} {w:World} (h:Db S (.agg (En c b d a t).toArray) s w):zH S 2 zb c s.zM w∧zH S 2 zX b s.raw w∧zH S 8 zO d s.AD w∧zH S 8 zO a s.coarse w:=by
 obtain ⟨k,l,m,n,e,f,g,j,i⟩:=h;simp [En] at e;obtain ⟨rfl,rfl,rfl,rfl,_⟩:=e;exact ⟨f,g,j,i⟩
section
variable {P:Program} {N:Nat} {D:List Deferred} {E:Env} {S:World->Prop} {Q:Exit->Act->World->Prop} {K:Act->World->Prop} {w0 w w':World} {M:Fp} {L:List Own}
  {ops:Array Oper} {rest:List Oper} {d:Nat} {ty T:TypeId} {pos:String} {aft:Array Edge} {g:Option (Nat × Bool)} {v u:Value} {x y:Operand}
theorem Mem.emb {L':List Own} (h:Mem w0 M L w) (f:Nat->Nat) (g:∀ i j,f i=f j->i=j) (he:∀ j o,L'[j]?=some o->L[f j]?=some o):Mem w0 M L' w:=by
 refine ⟨h.fr,fun j o a=>h.ok _ o (he j o a),fun j k o o' a m c l=>h.dj _ _ o o' (he j o a) (he k o' m) (fun e=>c (g _ _ e)) l,?_⟩;obtain ⟨d,b⟩:=h.pb;exact ⟨d,b.sub,b.lt,fun j o a=>b.dj _ o (he j o a),fun j F a=>b.at_ _ F (he j _ a)⟩
theorem Mem.drop4 {a b c d e:Own} (h:Mem w0 M (a::b::c::d::e::L) w):Mem w0 M (a::b::c::d::L) w :=
 h.emb (fun j=>if j < 4 then j else j + 1) (fun i j e=>by split at e <;> split at e <;> omega) fun j o f=>by
  match j,f with
  | 0,f=>simpa using f
  | 1,f=>simpa using f
  | 2,f=>simpa using f
  | 3,f=>simpa using f
  | j + 4, f =>
   rw [zI qO]
   simpa using f
theorem Mem.keepP {d:Nat->Prop} (h:Mem w0 M L w) (a:DP w0 M L w d) (e:Fr no w w'):DP w0 M L w' d :=
 ⟨a.sub,fun b c=>uP (a.lt b c) e.size,a.dj,fun _ _ hi=>a.stay (fun i o hi=>(h.ok i o hi).1) (fun b c=>e.block b (a.lt b c) id) hi⟩
def RetP (w:World) (P0:Nat->Prop) (mk:Value->Value) (F:Value->(Nat->Prop)->World->Prop):Ending->World->Prop:=fun e w' =>
  ∃ u Pb,e=.returned (mk u)∧Fr no w w'∧(∀ b,Pb b->(P0 b∨w.heap.size<=b)∧b < w'.heap.size)∧F u Pb w'
theorem l_callP {f:Nat} {args:Array Operand} {ts:Array TypeId} {vs:List Value} (m:Value->Value) (F:Value->(Nat->Prop)->World->Prop) (t:∀ u,Loc (F u)) (n:Want N D ops E g true) (c:evs E args.toList=some vs)
  (i:∀ vs w,(callFunc f vs).run P w=.ok (.enter f vs) w) (s:Nat.blt d N=true)
  (z:∀ w l,Mem w0 M L w->DP w0 M L w l->Calls P f vs.toArray w (RetP w l m F))
  (h:∀ u,WL P N D ops Q rest ((d,m u)::E) (Mem w0 M (.pub (F u)::L))) :
  WL P N D ops Q (⟨some d,.call { callee:=.value (.func f),args:=args,argTypes:=ts },ty,pos,aft,g⟩::rest) E (Mem w0 M L) :=
 u6 (Φ:=fun v w'=>∃ u,v=m u∧Mem w0 M (.pub (F u)::L) w') n (by rfl) c i s (fun w k=>by
  obtain ⟨l,q⟩:=k.pb
  have p:=z w l k q
  simp only [Array.append_empty]
  refine p.mono fun e w' ⟨u,Pb',he,hf,hPb,hF⟩=>⟨m u,he,u,rfl,?_⟩
  exact (k.Cl hf).lay' (t u) w.heap.size k.fr.size (fun j o A r b x=>(k.ok j o A).2.1 b x) (k.keepP q hf) hPb hF) (fun v w n a y=>by obtain ⟨u,rfl,r⟩:=n; exact h u w r a y)
theorem Mem.retP {c:World} {P0:Nat->Prop} (h:Mem w ⟨no,P0⟩ L c) (e:Value->Value) (F:Value->(Nat->Prop)->World->Prop) (u:Value) (i:v=e u) (g:∀ a,DP w ⟨no,P0⟩ L c a->F u a c):RetP w P0 e F (.returned v) c:=by
 obtain ⟨a,d⟩:=h.pb;exact ⟨u,a,by rw [i],h.fr,fun b f=>⟨d.sub b f,d.lt b f⟩,g a d⟩
theorem Mem.zo {α:Type} {enc:α->List Value} {k:Nat} {e:TypeId} {l:List α} (he:Enc enc k) (h:Mem w0 M L w) {i:Nat} (hi:L[i]?=some (Row v e k enc l)) (q:M.m=no):Mem w0 M (L.set i (slP k enc v l)) w:=by
 refine h.q3 hi rfl (fun b g=>?_) (zH.loc _ _ _ _) fun t B=>?_
 ·rcases (h.ok i _ hi).2.2 rfl b g with a | a
  ·exact .inl a
  ·rw [q] at a; exact a.elim
 ·have d:=h.row hi
  obtain ⟨A,c,rfl,n,p,r⟩:=Ay d
  refine ⟨A,c,rfl,n,by simpa [maxLen] using p,fun f=>?_⟩
  obtain ⟨ad,rfl⟩:=r f
  have g:(Value.slice (some ad) l.length c).ownBlock=some ad.block:=by
   rcases d.2 with ⟨a,C⟩ | ⟨z,cap,cur,a,_⟩
   ·cases a
   ·injection a with a _ _; injection a with a; subst a; rfl
  refine ⟨ad,rfl,.inr g,fun y x s j u o=>?_⟩
  exact (AM he h i hi).cell rfl s o
theorem l_seal {α:Type} {enc:α->List Value} {k:Nat} {e:TypeId} {l:List α} (i:Nat) (he:Enc enc k) (hi:L[i]?=some (Row v e k enc l)) (b:M.m=no) (h:WL P N D ops Q rest E (Mem w0 M (L.set i (slP k enc v l)))):WL P N D ops Q rest E (Mem w0 M L) :=
 fun w a=>h w (a.zo he hi b)
def Gb (w:World) (P0:Nat->Prop) (mk:Value->Value) (s:Shelf):Ending->World->Prop:=RetP w P0 mk (fun u Pb w=>Db Pb u s w)
theorem VE (q:Nat) {s:Shelf} {n:Value->Value} (m:L[q]?=some (.pub (fun i=>Db i u s)))
  (h:∀ j b l f k e g c,u=.agg (En (.slice j s.zM.length b) (.slice l s.raw.length f) (.slice k s.AD.length e) (.slice g s.coarse.length c) s).toArray ->
   s.zM.length<=b∧b<=9223372036854775807∧s.raw.length<=f∧f<=9223372036854775807∧s.AD.length<=e∧e<=9223372036854775807∧s.coarse.length<=c∧c<=9223372036854775807 ->
   (s.zM≠[]->∃ ad,j=some ad)->(s.raw≠[]->∃ ad,l=some ad)->(s.AD≠[]->∃ ad,k=some ad)->(s.coarse≠[]->∃ ad,g=some ad) ->
   WL P N D ops Q rest ((d,n u)::E) (Mem w0 M (slP 2 zb (.slice j s.zM.length b) s.zM::slP 2 zX (.slice l s.raw.length f) s.raw::slP 8 zO (.slice k s.AD.length e) s.AD::slP 8 zO (.slice g s.coarse.length c) s.coarse::L))) :
  WL P N D ops Q rest ((d,n u)::E) (Mem w0 M L):=fun w o=>by
 obtain ⟨i,a⟩:=o.pb
 obtain ⟨Y,V,X,W,rfl,K,x,y,G⟩:=a.at_ q _ m
 obtain ⟨j,b,rfl,p,T,O⟩:=K.form
 obtain ⟨l,f,rfl,R,t,z⟩:=x.form
 obtain ⟨k,e,rfl,A,U,v⟩:=y.form
 obtain ⟨g,c,rfl,J,I,r⟩:=G.form
 refine h j b l f k e g c rfl ⟨p,T,R,t,A,U,J,I⟩ O z v r w ?_
 have H:=o.yO (F:=fun S=>zH S 8 zO (.slice g s.coarse.length c) s.coarse) (zH.loc _ _ _ _) fun i a=>(Db.open (a.at_ q _ m)).2.2.2
 have C:=H.yO (F:=fun S=>zH S 8 zO (.slice k s.AD.length e) s.AD) (zH.loc _ _ _ _) fun i a=>(Db.open (a.at_ (q + 1) _ m)).2.2.1
 have B:=C.yO (F:=fun S=>zH S 2 zX (.slice l s.raw.length f) s.raw) (zH.loc _ _ _ _) fun i a=>(Db.open (a.at_ (q + 2) _ m)).2.1
 exact B.yO (F:=fun S=>zH S 2 zb (.slice j s.zM.length b) s.zM) (zH.loc _ _ _ _) fun i a=>(Db.open (a.at_ (q + 3) _ m)).1
theorem Qh {f:Nat} {args:Array Operand} {ts:Array TypeId} {vs:List Value} (p:Value->Value) (s:Shelf) (q:Want N D ops E g true) (b:evs E args.toList=some vs)
  (a:∀ vs w,(callFunc f vs).run P w=.ok (.enter f vs) w) (y:Nat.blt d N=true)
  (A:∀ w Pb,Mem w0 M L w->DP w0 M L w Pb->Calls P f vs.toArray w (Gb w Pb p s))
  (h:∀ m c o k n j l i,
   s.zM.length<=c∧c<=9223372036854775807∧s.raw.length<=k∧k<=9223372036854775807∧s.AD.length<=j∧j<=9223372036854775807∧s.coarse.length<=i∧i<=9223372036854775807 ->
   (s.zM≠[]->∃ ad,m=some ad)->(s.raw≠[]->∃ ad,o=some ad)->(s.AD≠[]->∃ ad,n=some ad)->(s.coarse≠[]->∃ ad,l=some ad) ->
   WL P N D ops Q rest ((d,p (.agg (En (.slice m s.zM.length c) (.slice o s.raw.length k) (.slice n s.AD.length j) (.slice l s.coarse.length i) s).toArray))::E) (Mem w0 M (slP 2 zb (.slice m s.zM.length c) s.zM::slP 2 zX (.slice o s.raw.length k) s.raw::slP 8 zO (.slice n s.AD.length j) s.AD::slP 8 zO (.slice l s.coarse.length i) s.coarse::L))) :
  WL P N D ops Q (⟨some d,.call { callee:=.value (.func f),args:=args,argTypes:=ts },ty,pos,aft,g⟩::rest) E (Mem w0 M L) :=
 l_callP p _ (fun u=>Db.loc u s) q b a y A fun u=>VE 0 rfl fun m c o k n j l i e z t v r x=>by
  subst e
  intro w B
  exact h m c o k n j l i z t v r x w B.drop4
theorem Mem.vm {b:World} {P0:Nat->Prop} {g e i f:Value} {s s':Shelf} (h:Mem w ⟨no,P0⟩ L b) (d:Value->Value) (m:v=d (.agg (En g e i f s').toArray)) (j:s'=s)
  (k:∀ a,DP w ⟨no,P0⟩ L b a->zH a 2 zb g s'.zM b) (l:∀ a,DP w ⟨no,P0⟩ L b a->zH a 2 zX e s'.raw b)
  (o:∀ a,DP w ⟨no,P0⟩ L b a->zH a 8 zO i s'.AD b) (n:∀ a,DP w ⟨no,P0⟩ L b a->zH a 8 zO f s'.coarse b):Gb w P0 d s (.returned v) b :=
 h.retP d _ _ m fun a c=>j ▸ ⟨g,e,i,f,rfl,k a c,l a c,o a c,n a c⟩
theorem Mem.join {L2:List Own} (h:Mem w0 M L w) (k:Mem w no L2 w') (t:L2.all Own.mut=true):Mem w0 M (L2++L) w':=by
 have r:=h.Cl k.fr
 have y:=h.fr.size
 have g:∀ (i:Nat) (o:Own),(L2++L)[i]?=some o->(i < L2.length∧L2[i]?=some o)∨(L2.length<=i∧L[i - L2.length]?=some o):=fun i o hi=>by
  rcases Nat.lt_or_ge i L2.length with a | a
  ·rw [uX a] at hi; exact .inl ⟨a,hi⟩
  ·rw [jU a] at hi; exact .inr ⟨a,hi⟩
 have c:∀ (i:Nat) (o:Own),L2[i]?=some o->o.mut=true∧∀ b,o.fp b->w.heap.size<=b:=fun i o hi=>by
  have l:o.mut=true:=List.all_eq_true.1 t o (vQ hi)
  exact ⟨l,fun b f=>((k.ok i o hi).2.2 l b f).resolve_right fun e=>e⟩
 refine ⟨r.fr,fun i o hi=>?_,fun i j o o' hi u q p b f d=>?_,?_⟩
 ·rcases g i o hi with ⟨_,a⟩ | ⟨_,a⟩
  ·exact ⟨(k.ok i o a).1,(k.ok i o a).2.1,fun _ b f=>.inl (by have:=(c i o a).2 b f; omega)⟩
  ·exact r.ok _ o a
 ·rcases g i o hi with ⟨v,a⟩ | ⟨v,a⟩ <;> rcases g j o' u with ⟨x,n⟩ | ⟨x,n⟩
  ·exact k.dj i j o o' a n q p b f d
  ·have:=(c i o a).2 b f; have:=(h.ok _ o' n).2.1 b d; omega
  ·have:=(c j o' n).2 b d; have:=(h.ok _ o a).2.1 b f; omega
  ·exact h.dj _ _ o o' a n qO p b f d
 ·obtain ⟨s,m⟩:=h.pb
  refine ⟨s,m.sub,fun b f=>uP (m.lt b f) k.fr.size,fun i o hi l b f d=>?_,fun i F hi=>?_⟩
  ·rcases g i o hi with ⟨_,a⟩ | ⟨_,a⟩
   ·have:=(c i o a).2 b d; have:=m.lt b f; omega
   ·exact m.dj _ o a l b f d
  ·rcases g i _ hi with ⟨_,a⟩ | ⟨_,a⟩
   ·have:=(c i _ a).1; cases this
   ·exact m.stay (fun i o hi=>(h.ok i o hi).1) (fun b f=>k.fr.block b (m.lt b f) id) a
theorem Mem.noPub {p:Nat->Prop} (h:Mem w ⟨no,p⟩ L w') (a:L.all Own.mut=true):Mem w no L w' :=
 ⟨h.fr,h.ok,h.dj,fun _=>False,qS,qS,qS,fun i F hi=>by have:Own.mut (.pub F)=true:=List.all_eq_true.1 a _ (vQ hi); cases this⟩
def RW (w:World) (e0 e1 e2 e3:TypeId) (s:Shelf):Ending->World->Prop:=fun e w'=>∃ v0 v1 v2 v3,e=.returned (.agg (En v0 v1 v2 v3 s).toArray) ∧
  Mem w no [Row v0 e0 2 zb s.zM,Row v1 e1 2 zX s.raw,Row v2 e2 8 zO s.AD,Row v3 e3 8 zO s.coarse] w'
theorem jl {f:Nat} {args:Array Operand} {ts:Array TypeId} {vs:List Value} {A B z C:TypeId} (s:Shelf) (y:Want N D ops E g true) (e:evs E args.toList=some vs)
  (c:∀ vs w,(callFunc f vs).run P w=.ok (.enter f vs) w) (T:Nat.blt d N=true)
  (V:∀ w,Mem w0 M L w->Calls P f vs.toArray w (RW w A B z C s))
  (h:∀ p j u m r l n k,
   s.zM.length<=j∧j<=9223372036854775807∧s.raw.length<=m∧m<=9223372036854775807∧s.AD.length<=l∧l<=9223372036854775807∧s.coarse.length<=k∧k<=9223372036854775807 ->
   (s.zM≠[]->∃ ad,p=some ad)->(s.raw≠[]->∃ ad,u=some ad)->(s.AD≠[]->∃ ad,r=some ad)->(s.coarse≠[]->∃ ad,n=some ad) ->
   WL P N D ops Q rest ((d,(.agg (En (.slice p s.zM.length j) (.slice u s.raw.length m) (.slice r s.AD.length l) (.slice n s.coarse.length k) s).toArray))::E) (Mem w0 M (Row (.slice p s.zM.length j) A 2 zb s.zM::Row (.slice u s.raw.length m) B 2 zX s.raw::Row (.slice r s.AD.length l) z 8 zO s.AD::Row (.slice n s.coarse.length k) C 8 zO s.coarse::L))) :
  WL P N D ops Q (⟨some d,.call { callee:=.value (.func f),args:=args,argTypes:=ts },ty,pos,aft,g⟩::rest) E (Mem w0 M L) :=
 qK (Φ:=fun v w'=>∃ x o t q,v=.agg (En x o t q s).toArray∧Mem w0 M (Row x A 2 zb s.zM::Row o B 2 zX s.raw::Row t z 8 zO s.AD::Row q C 8 zO s.coarse::L) w') y e c T
  (fun w b=>(V w b).mono fun _ _ ⟨x,o,t,q,he,hk⟩=>⟨_,he,x,o,t,q,rfl,b.join hk rfl⟩) fun v w y a J=>by
  obtain ⟨x,o,t,q,rfl,b⟩:=y
  obtain ⟨p,j,rfl,F,X,U⟩:=Ay (b.row (i:=0) rfl)
  obtain ⟨u,m,rfl,W,H,O⟩:=Ay (b.row (i:=1) rfl)
  obtain ⟨r,l,rfl,K,Y,I⟩:=Ay (b.row (i:=2) rfl)
  obtain ⟨n,k,rfl,S,R,G⟩:=Ay (b.row (i:=3) rfl)
  exact h p j u m r l n k ⟨F,X,W,H,K,Y,S,R⟩ U O I G w b a J
theorem Mem.retOwn {p:Nat->Prop} {i:World} {c a d b:Value} {f j e g:TypeId} {s:Shelf} (h:Mem w ⟨no,p⟩ [Row c f 2 zb s.zM,Row a j 2 zX s.raw,Row d e 8 zO s.AD,Row b g 8 zO s.coarse] i):RW w f j e g s (.returned (.agg (En c a d b s).toArray)) i :=
 ⟨c,a,d,b,rfl,h.noPub rfl⟩
def RetMk (w:World) (mk:Nat->Value) (o:Nat->Own):Ending->World->Prop:=fun e w'=>∃ b,e=.returned (mk b)∧Mem w no [o b] w'
theorem jI {f:Nat} {args:Array Operand} {ts:Array TypeId} {vs:List Value} (k:Nat->Value) (o:Nat->Own) (p:∀ b,(o b).mut=true) (l:Want N D ops E g true) (r:ev E x=some (.func (.func f) #[] #[])) (c:evs E args.toList=some vs)
  (i:∀ vs w,(callFunc f vs).run P w=.ok (.enter f vs) w) (m:Nat.blt d N=true)
  (q:∀ w,Mem w0 M L w->Calls P f vs.toArray w (RetMk w k o)) (h:∀ b,WL P N D ops Q rest ((d,k b)::E) (Mem w0 M (o b::L))) :
  WL P N D ops Q (⟨some d,.call { callee:=.value x,args:=args,argTypes:=ts },ty,pos,aft,g⟩::rest) E (Mem w0 M L) :=
 u6 (Φ:=fun v w'=>∃ b,v=k b∧Mem w0 M (o b::L) w') l r c i m (fun w j=>by
  have:=q w j
  simp only [Array.append_empty]
  exact this.mono fun e w' ⟨b,he,hk⟩=>⟨_,he,b,rfl,j.join (L2:=[o b]) hk (by simp [p b])⟩) fun v w l a n=>by
  obtain ⟨b,rfl,j⟩:=l
  exact h b w j a n
theorem Mem.TC {i b:Nat} {cs:List Value} {t:TypeId} (h:Mem w0 M L w) (hi:L[i]?=some (.blk b cs t)) (a:Fr no w w'):w'.heap[b]?=some (.cells cs.toArray t (0,0)):=(h.Cl a).blk hi
theorem Mem.GH {i j b k n:Nat} {cs:List Value} {t e:TypeId} {c:List Value} (h:Mem w0 M L w) (hi:L[i]?=some (.blk b cs t)) (a:L[j]?=some (.row v e k n c)) (f:Fr (fun b=>v.ownBlock=some b) w w'):w'.heap[b]?=some (.cells cs.toArray t (0,0)) :=
 (f.block b ((h.ok i _ hi).2.1 b rfl) (fun d=>h.dj i j _ _ hi a (fun e=>by subst e; rw [hi] at a; cases a) (.inl rfl) b rfl d)).trans (h.blk hi)
def MH (b:Nat) (cs:List Value) (t:TypeId):Own:=.dat (·=b) (fun w=>w.heap[b]?=some (.cells cs.toArray t (0,0)))
theorem Mem.datb {i b:Nat} {cs:List Value} {t:TypeId} (h:Mem w0 M L w) (hi:L[i]?=some (MH b cs t)):w.heap[b]?=some (.cells cs.toArray t (0,0)):=h.dat hi
theorem Mem.Ry {i b j:Nat} {cs:List Value} {t:TypeId} (h:Mem w0 M L w) (hi:L[i]?=some (MH b cs t)) (a:cs[j]?=some u):w.cell? ⟨b,j,none⟩=some u:=by
 have:=h.datb hi;simp [World.cell?,this,a]
theorem r_ldb (i:Nat) {b j:Nat} {cs:List Value} {t:TypeId} (c:ev E x=some (.pointer (some ⟨b,j,none⟩))) (d:L[i]?=some (MH b cs t)) (e:cs[j]?=some u) (a:Cv P T=true):AR P N D E (Mem w0 M L) (.load T x) ty u :=
 jh c a fun _ h=>h.Ry d e
theorem r_ldbn (i:Nat) {b j c d:Nat} {l:Value} {cs:List Value} {t:TypeId} (vs:List Value) (n:ev E x=some (.pointer (some ⟨b,j,none⟩))) (m:L[i]?=some (MH b cs t)) (f:(cs.drop j).take c=vs) (g:vs.length=c) (k:Dh P T=true) (e:Inf P T c d l):AR P N D E (Mem w0 M L) (.load T x) ty (.agg vs.toArray) :=
 jj vs n k e g fun _ h p u a=>by
  rw [add_lit]
  rw [<-f,List.getElem?_take] at a
  split at a
  ·exact h.Ry m (by simpa using a)
  ·cases a
theorem ddb {P0:Nat->Prop} {b:Nat} {cs:List Value} {t:TypeId} (h:w.heap[b]?=some (.cells cs.toArray t (0,0))):dOk P0 (MH b cs t) w :=
 ⟨rfl,⟨h,fun _ _ c f=>(c b rfl).trans f⟩,fun d g=>by have a:d=b:=g; subst a; exact (Array.getElem?_eq_some_iff.1 h).1,fun F e=>by cases e⟩
theorem qR {A:Option Addr} {b c:Nat} {t e j:TypeId} (k:ev E x=some (.slice A b c)) (g:ev E y=some (.slice none 0 0)) (h:P.underlying t=some (.slice e)):AR P N D E S (.binOp .eql t x y j) ty (.bool A.isNone):=fun o i f a w d _=>by
 unfold execOp; rw [i]
 simp [d.eval k,d.eval g,binOp,eqGuard,run_equal_slice_nil w t e A b c h]
end
section
variable {P:Program} {N:Nat} {D:List Deferred} {E:Env} {Q:Exit->Act->World->Prop} {w0:World} {M:Fp} {L:List Own} {α:Type} {enc:α->List Value} {k e:Nat} {l:List α} {A:Option Addr} {c:Nat}
  {ops:Array Oper} {rest:List Oper} {d:Nat} {T ty:TypeId} {pos:String} {aft:Array Edge} {g:Option (Nat × Bool)} {v u:Value} {x y:Operand} {ad:Addr}
theorem l_actV {c:Op} {S S':World->Prop} (f:Want N D ops E g true)
  (h:∀ o:Oper,o.op=c->o.type=ty->∀ a w,Has N D a E->S w->∃ v w',(execOp a.eval o).run P w=.ok (.value v) w'∧S' w')
  (j:WL P N D ops Q rest E S'):WL P N D ops Q (⟨none,c,ty,pos,aft,g⟩::rest) E S:=fun w i a d=>by
 unfold wpList
 rw [zP (f _ rfl a d)]
 left
 obtain ⟨v,w',e,b⟩:=h ⟨none,c,ty,pos,aft,g⟩ rfl rfl a w d i
 unfold Oper.wp
 rw [e]
 exact j w' b _ d
theorem MG {z:Array Value} {n:Nat} (c:∀ v ∈ z.toList,v.oneCell'=true):∀ v ∈ (Builtin.zeroCells z n).toList,v.oneCell'=true:=by
 intro v a
 simp only [Builtin.zeroCells,Array.toList_map,yr] at a
 obtain ⟨i,hi,rfl⟩:=a
 have d:0 < z.size:=by
  rcases Nat.eq_zero_or_pos z.size with h | h
  ·simp [h] at hi
  ·exact h
 have b:=Nat.mod_lt i d
 rw [getElem!_pos z _ b]
 exact c _ qS
theorem TQ (q:Nat) {lo v:Nat} {s:Value} (he:Enc enc k) (V:Want N D ops E g true) (S:ev E x=some (.slice (Gm A k c lo) (l.length - lo) (c - lo))) (H:L[q]?=some (Row (.slice A l.length c) e k enc l)) (W:A=some ad) (hu:P.underlying T=some (.slice e)) (Y:Inf P e k v s) (hz:s.cells.size=k) (C:s.cells.toList.all (·.oneCell')=true) (a1:lo < l.length)
  (h:WL P N D ops Q rest E (Mem w0 M (L.set q (Row (.slice A (l.take lo).length c) e k enc (l.take lo))))):WL P N D ops Q (⟨none,.call { callee:=.builtin .clear,args:=#[x],argTypes:=#[T] },ty,pos,aft,g⟩::rest) E (Mem w0 M L):=by
 refine l_actV V (fun o ho a0 ac w Z u=>?_) h
 have r:=u.row H
 subst W
 rcases r.2 with ⟨y,_⟩ | ⟨a,cap,cur,y,F,J,t,G,p,B⟩
 ·cases y
 injection y with e1 X e3
 injection e1 with e1
 subst e1 e3
 have a2:cur.toList.length=c * k:=by simpa using p
 have U:l.length * k<=c * k:=Nat.mul_le_mul_right k t
 have X:lo * k + (l.length - lo) * k=l.length * k:=by rw [<-Nat.add_mul]; congr 1; omega
 have i:Gm (some ⟨a,0,none⟩) k c lo=some ⟨a,lo * k,none⟩:=by
  unfold Gm; rw [zI qO]; simp [add_lit]
 rw [i] at S
 obtain ⟨m,O⟩:∃ m,l.length - lo=m + 1:=⟨l.length - lo - 1,qO⟩
 obtain ⟨f,d⟩:∃ f,f=(Builtin.zeroCells s.cells (m + 1)).toList:=⟨_,rfl⟩
 have z:f.length=(l.length - lo) * k:=by rw [d,O]; simp [size_zeroCells,hz]
 have n:=run_storeCells_at P a (lo * k) e f 0 cur w (by simpa using J) (by
  rw [z]; have:cur.size=c * k:=p
  omega) (by rw [d]; exact MG (List.all_eq_true.1 C))
 simp only [Nat.add_zero] at n
 refine ⟨.tuple #[],w.setRow a (cur.toList.take (lo * k)++f++cur.toList.drop (lo * k + f.length)).toArray,?_,?_⟩
 ·unfold execOp; rw [ho]
  simp [resolve,invoke,builtin,Z.eval S,O,Builtin.clear_,run_underlying hu,Cg Y,<-d,n]
 ·refine u.upd H rfl ⟨rfl,rfl,rfl,qS,fun b _ hk=>setRow_other w a b _ (fun e=>hk (by simp [Own.fp,Value.ownBlock,e]))⟩ ?_ (fun b R=>⟨.inl R,?_⟩)
  ·have j:(l.take lo).length=lo:=by rw [List.length_take]; omega
   refine ⟨by rw [BT he.len],.inr ⟨a,c,_,rfl,F,setRow_heap w a _ _ e _ J,qO,G,?_,?_⟩⟩
   ·simp only [List.size_toArray,uF,List.length_take,List.length_drop]; omega
   ·rw [j]
    rw [ub,List.take_append_of_le_length (by rw [List.length_take]; omega),vg (by rw [List.length_take]; omega)]
    have I:(List.take lo l++List.drop lo l).flatMap enc=cur.toList.take (l.length * k):=by rw [List.take_append_drop]; exact B.symm
    rw [List.flatMap_append] at I
    have h2:((List.take lo l).flatMap enc).length=lo * k:=by rw [BT he.len,j]
    have K:=congrArg (List.take (lo * k)) I
    rw [List.take_left' h2,List.take_take,Nat.min_eq_left qO] at K
    exact K.symm
  ·have:=(u.ok q _ H).2.1 b R
   simpa using this
theorem r_take {b hi d:Nat} {q:Value} {z:Operand} (l:List α) (o:ev E x=some (.slice A b c)) (p:hib E b (some z) hi) (n:hi<=b) (j:b<=c) (m:l.length=hi) (g:P.underlying T=some (.slice e)) (f:Inf P e k d q) {S:World->Prop}:AR P N D E S (.slice T x none (some z) none) ty (.slice A l.length c):=by
 have h:=jw (P:=P) (N:=N) (D:=D) (S:=S) (ty:=ty) (lo:=0) o lo0 p (Nat.zero_le _) n j g f
 have i:Gm A k c 0=A:=by
  unfold Gm; split
  ·rfl
  ·cases A with
   | none=>rfl
   | some a=>simp [Addr.add]
 rw [i] at h
 rw [m]
 exact h
end
end Ex
end
section
structure Oj where (kind:Int) (zW:AA) (AG to:Int) deriving DecidableEq
namespace Ex
def FG (ops:Array Oper) (i:Nat):List Nat:=match ops[i]? with
  | none=>[]
  | some o=>(o.after.toList.filter (Region.binds .any)).map (·.on)
def up1 (ops:Array Oper) (R S:List Nat):List Nat:=S++(((S.filter R.contains).flatMap (FG ops)).filter (fun e=>!S.contains e)).eraseDups
def upN (ops:Array Oper) (R:List Nat):Nat->List Nat->List Nat
  | 0,S=>S
  | k + 1,S=>upN ops R k (up1 ops R S)
def dagB (ops:Array Oper) (n:Nat) (is R:List Nat):Bool :=
  (List.range n).all (fun j=>is.contains j || R.contains j || (FG ops j).any (fun e=>!is.contains e && !R.contains e) || R.all (fun r=>(upN ops R R.length (FG ops j)).contains r)) &&
  R.all (fun r=>Nat.blt r n && !is.contains r && (ops[r]?).isSome && (FG ops r).all (fun e=>(is.contains e || (R.contains e && Nat.blt e r)) && Nat.blt e n))
section
variable {P:Program} {N n:Nat} {D:List Deferred} {E:Env} {S S0:World->Prop} {Q:Exit->Act->World->Prop} {ops:Array Oper} {f F:Nat} {is:List Nat} {X:Type}
theorem Si {R:List Nat} {Z:Nat->Prop} (a:∀ r ∈ R,Z r->∀ e ∈ FG ops r,Z e):∀ (k:Nat) (S:List Nat),(∀ e ∈ S,Z e)->∀ e ∈ upN ops R k S,Z e
 | 0,_,h=>h
 | k + 1, S, h => Si a k _ fun e he => by
  rcases List.mem_append.1 he with h1 | h1
  ·exact h e h1
  ·rw [List.mem_eraseDups] at h1
   obtain ⟨r,hr,h2⟩:=List.mem_flatMap.1 (List.mem_filter.1 h1).1
   obtain ⟨b,c⟩:=List.mem_filter.1 hr
   exact a r (by simpa using c) (h r b) e h2
theorem NR {i:Nat} {o:Oper} (a:ops[i]?=some o) {j:Nat}:j ∈ FG ops i↔∃ e ∈ o.after,Region.binds .any e=true∧e.on=j:=by
 unfold FG; rw [a];simp only [yr,List.mem_filter,Array.mem_toList_iff,and_assoc]
theorem JA:∀ (l:List Nat),l≠[]->∃ r ∈ l,∀ x ∈ l,r<=x
 | [],h=>absurd rfl h
 | [x],_=>⟨x,qS,qS⟩
 | x :: y :: l, _ => by
  obtain ⟨r,hr,h⟩:=JA (y::l) qS
  by_cases b:x<=r
  ·refine ⟨x,qS,fun z a=>?_⟩
   rcases ya.1 a with rfl | a
   ·omega
   ·have:=h z a; omega
  ·refine ⟨r,List.mem_cons_of_mem _ hr,fun z a=>?_⟩
   rcases ya.1 a with rfl | a
   ·omega
   ·exact h z a
theorem n_dag (T:List (Nat × X)) (J:List (Nat × X)->Act->World->Prop) (b3:ops.size=n) (hB:dagB ops n is (T.map (·.1))=true) (V:(T.map (·.1)).Nodup) (hF:F=f + T.length) (h0:∀ w,S w->∀ a,Has N D a E->J [] a w) (a9:∀ b a w,J b a w->S0 w)
  (a3:∀ (b:List (Nat × X)) (x:Nat × X),x ∈ T->(∀ y ∈ b,y ∈ T∧y.1≠x.1)->(∀ e ∈ FG ops x.1,e ∈ T.map (·.1)->e ∈ b.map (·.1))->∀ w a,J b a w->wpOp P ops (NQ Q) x.1 (fun a' w'=>J (b++[x]) a' w') a w)
  (h:∀ b:List (Nat × X),(∀ x,x ∈ b↔x ∈ T)->∀ a w,J b a w->Go.wpAnyH P .any ops (NQ Q) S0 f (mk n (T.map (·.1)++is)) a w):WN P N D ops n Q S0 F is E S:=by
 simp only [dagB,Bool.and_eq_true,List.all_eq_true,List.mem_range] at hB
 obtain ⟨b1,b2⟩:=hB
 have Y:∀ r ∈ T.map (·.1),r < n∧r ∉ is∧∃ o,ops[r]?=some o∧∀ e ∈ FG ops r,(e ∈ is∨(e ∈ T.map (·.1)∧e < r))∧e < n:=by
  intro r l
  have:=b2 r l
  simp only [Bool.and_eq_true,Nat.blt_eq,Bool.not_eq_true',List.contains_eq_mem,decide_eq_false_iff_not,Bool.or_eq_true,ud,Option.isSome_iff_exists] at this
  exact ⟨this.1.1.1,this.1.1.2,this.1.2.elim fun o L=>⟨o,L,fun e he=>this.2 e he⟩⟩
 have b5:∀ (m:Nat) (b:List (Nat × X)) (p:List Nat) (a:Act) (w:World),p.length=m->p.Nodup->(∀ x ∈ T,x ∈ b∨x.1 ∈ p)->(∀ x ∈ b,x ∈ T∧x.1 ∉ p)->(∀ r ∈ p,∃ x ∈ T,x.1=r)->(∀ r ∈ b.map (·.1),∀ e ∈ FG ops r,e ∈ T.map (·.1)->e ∈ b.map (·.1))->J b a w ->
   Go.wpAnyH P .any ops (NQ Q) S0 (f + m) (mk n (b.map (·.1)++is)) a w:=by
  intro m
  induction m with
  | zero =>
   intro b p a w hl _ hT G _ _ hI
   obtain rfl:p=[]:=jb hl
   have C:∀ x,x ∈ b↔x ∈ T:=fun x=>⟨fun g=>(G x g).1,fun g=>(hT x g).resolve_right qS⟩
   rw [mk_congr (is':=T.map (·.1)++is) (fun j=>by simp only [yl,yr]; simp only [C])]
   exact h b C a w hI
  | succ m ih =>
   intro b p a w hl u hT G A U hI
   have k:∀ (j:Nat) (d:Bool),(mk n (b.map (·.1)++is)).getD j d=if j < n then decide (j ∈ b.map (·.1)++is) else d:=fun j d=>Tm ..
   have H:∀ r,r ∈ b.map (·.1)->r ∈ T.map (·.1)∧r ∉ p:=fun r l=>by
    obtain ⟨x,g,rfl⟩:=yr.1 l
    exact ⟨yr.2 ⟨x,(G x g).1,rfl⟩,(G x g).2⟩
   have M:∀ r,r ∈ T.map (·.1)->r ∉ p->r ∈ b.map (·.1):=fun r l hn=>by
    obtain ⟨x,g,rfl⟩:=yr.1 l
    exact yr.2 ⟨x,(hT x g).resolve_right hn,rfl⟩
   have B:p≠[]:=fun e=>by rw [e] at hl; cases hl
   have z:∀ i,i ∈ Region.ready .any ops (mk n (b.map (·.1)++is))->i ∈ p∧∀ e ∈ FG ops i,e ∈ b.map (·.1)++is:=by
    intro i hi
    obtain ⟨h1,o,L,O⟩:=mem_ready.1 hi
    have W:i < n:=by rw [<-b3]; exact (Array.getElem?_eq_some_iff.1 L).1
    rw [k,zP W,decide_eq_false_iff_not,yl,not_or] at h1
    have t:∀ e ∈ FG ops i,e ∈ b.map (·.1)++is:=fun j hj=>by
     obtain ⟨e,he,q,rfl⟩:=(NR L).1 hj
     have:=O e he q
     rw [k] at this
     split at this
     ·simpa using this
     ·cases this
    refine ⟨?_,t⟩
    have b4:i ∈ T.map (·.1):=by
     have q:=b1 i W
     simp only [Bool.or_eq_true,List.contains_eq_mem,ud,List.any_eq_true,Bool.and_eq_true,Bool.not_eq_true',decide_eq_false_iff_not,List.all_eq_true] at q
     rcases q with ((q | q) | q) | q
     ·exact absurd q h1.2
     ·exact q
     ·exfalso
      obtain ⟨e,he,a8,a6⟩:=q
      rcases yl.1 (t e he) with c | c
      ·exact a6 (H _ c).1
      ·exact a8 c
     ·exfalso
      obtain ⟨r,l,_⟩:=JA p B
      obtain ⟨x,g,rfl⟩:=A r l
      have a1:x.1 ∈ T.map (·.1):=yr.2 ⟨x,g,rfl⟩
      have:=Si (ops:=ops) (R:=T.map (·.1)) (Z:=fun e=>e ∈ b.map (·.1)++is) (fun r a4 hz e he=>by
       rcases yl.1 hz with c | c
       ·obtain ⟨_,_,o',_,g3⟩:=Y r a4
        rcases (g3 e he).1 with s | s
        ·exact List.mem_append_right _ s
        ·exact List.mem_append_left _ (U r c e he s.1)
       ·exact absurd c (Y r a4).2.1) _ _ t x.1 (q x.1 a1)
      rcases yl.1 this with c | c
      ·exact (H _ c).2 l
      ·exact (Y _ a1).2.1 c
    exact Classical.byContradiction fun hn=>h1.1 (M i b4 hn)
   have a7:Region.ready .any ops (mk n (b.map (·.1)++is))≠[]:=by
    obtain ⟨r,l,a0⟩:=JA p B
    obtain ⟨x,g,rfl⟩:=A r l
    obtain ⟨g1,g2,o,L,g3⟩:=Y x.1 (yr.2 ⟨x,g,rfl⟩)
    have:x.1 ∈ Region.ready .any ops (mk n (b.map (·.1)++is)):=mem_ready.2 ⟨by
     rw [k,zP g1,decide_eq_false_iff_not,yl,not_or]
     exact ⟨fun c=>(H _ c).2 l,g2⟩,o,L,fun e he q=>by
     have hd:=g3 e.on ((NR L).2 ⟨e,he,q,rfl⟩)
     rw [k,zP hd.2,ud,yl]
     rcases hd.1 with s | s
     ·exact .inr s
     ·exact .inl (M _ s.1 fun h5=>by have:=a0 _ h5; omega)⟩
    intro h0; rw [h0] at this; cases this
   refine ⟨fun h0=>absurd h0 a7,fun i hi=>?_⟩
   obtain ⟨I,b0⟩:=z i hi
   obtain ⟨x,g,rfl⟩:=A i I
   have a5:∀ e ∈ FG ops x.1,e ∈ T.map (·.1)->e ∈ b.map (·.1):=fun e he v=>by
    rcases yl.1 (b0 e he) with c | c
    ·exact c
    ·exact absurd c (Y e v).2.1
   refine wpOp_mono (fun a' w' a2=>?_) (a3 b x g (fun y K=>⟨(G y K).1,fun e=>(G y K).2 (e ▸ I)⟩) a5 w a hI)
   refine ⟨a9 _ _ _ a2,?_⟩
   have:=ih (b++[x]) (p.erase x.1) a' w' (by rw [List.length_erase_of_mem I,hl]; rfl) (u.erase _) (fun y K=>?_) (fun y K=>?_) (fun r l=>A r (List.mem_of_mem_erase l)) (fun r l e he v=>?_) a2
   ·show Go.wpAnyH P .any ops (NQ Q) S0 (f + m) ((mk n (b.map (·.1)++is)).setIfInBounds x.1 true) a' w'
    have e:(mk n (b.map (·.1)++is)).setIfInBounds x.1 true=mk n (x.1::(b.map (·.1)++is)):=rfl
    rw [e,mk_congr (is':=(b++[x]).map (·.1)++is) (fun j=>by simp only [yi,vl,List.map_nil,yl,ya,List.not_mem_nil,or_false]; rw [<-or_assoc,or_comm (a:=j=x.1),or_assoc])]
    exact this
   ·rcases hT y K with c | c
    ·exact .inl (List.mem_append_left _ c)
    ·by_cases e:y.1=x.1
     ·left
      have:y=x:=OM V K g e
      subst this; simp
     ·exact .inr ((List.Nodup.mem_erase_iff u).2 ⟨e,c⟩)
   ·rcases yl.1 K with c | c
    ·exact ⟨(G y c).1,fun s=>(G y c).2 (List.mem_of_mem_erase s)⟩
    ·obtain rfl:y=x:=by simpa using c
     exact ⟨g,fun s=>((List.Nodup.mem_erase_iff u).1 s).1 rfl⟩
   ·rw [yi] at l ⊢
    rcases yl.1 l with c | c
    ·exact List.mem_append_left _ (U r c e he v)
    ·obtain rfl:r=x.1:=by simpa using c
     exact List.mem_append_left _ (a5 e he v)
 intro w hS a ha
 rw [hF]
 have:=b5 T.length [] (T.map (·.1)) a w qS V (fun x g=>.inr (yr.2 ⟨x,g,rfl⟩)) qS (fun r l=>by obtain ⟨x,g,rfl⟩:=yr.1 l; exact ⟨x,g,rfl⟩) qS (h0 w hS a ha)
 simpa using this
end
inductive Job where
  | val (d:Nat) (v:Value)
  | row (d e k n:Nat) (xs:List Value)
def Job.d:Job->Nat
  | .val d _=>d
  | .row d ..=>d
def Job.is (u:Value):Job->Value
  | .val _ v=>v
  | .row ..=>u
def Job.own (u:Value):Job->List Own
  | .val ..=>[]
  | .row _ e k n xs=>[.row u e k n xs]
section
variable {P:Program} {N n:Nat} {D:List Deferred} {E:Env} {S0:World->Prop} {Q:Exit->Act->World->Prop} {w0:World} {M:Fp} {L:List Own} {ops:Array Oper} {f F:Nat} {is:List Nat} {T:List (Nat × Job)}
theorem JD {α β:Type} {g:α->β}:∀ {T:List α},(T.map g).Nodup->∀ {x y:α},y ∈ T->x ∈ T->g y=g x->y=x
 | [],_,_,_,h,_,_=>by cases h
 | z :: T, hp, x, y, hy, hx, e => by
  rw [List.map_cons,List.nodup_cons] at hp
  rcases List.mem_cons.1 hy with rfl | hy'
  ·rcases List.mem_cons.1 hx with rfl | hx'
   ·rfl
   ·exact absurd (List.mem_map.2 ⟨x,hx',e.symm⟩) hp.1
  ·rcases List.mem_cons.1 hx with rfl | hx'
   ·exact absurd (List.mem_map.2 ⟨y,hy',e⟩) hp.1
   ·exact JD hp.2 hy' hx' e
theorem Ny {α β:Type} {g:α->β} {T:List α} (h:(T.map g).Nodup):T.Nodup:=by
 induction T with
 | nil=>simp
 | cons x T ih =>
  rw [vl,List.nodup_cons] at h
  exact List.nodup_cons.2 ⟨fun a=>h.1 (List.mem_map_of_mem a),ih h.2⟩
theorem Mem.swap {w:World} (A:List Own) {x y:Own} (h:Mem w0 M (A++x::y::L) w):Mem w0 M (A++y::x::L) w :=
 h.emb (fun i=>if i=A.length then A.length + 1 else if i=A.length + 1 then A.length else i) (fun i j e=>by split at e <;> split at e <;> (try split at e) <;> (try split at e) <;> omega) fun j o a=>by
  by_cases b:j=A.length
  ·rw [zP b]; subst b
   rw [jU qO] at a ⊢
   simp at a ⊢; exact a
  ·rw [zI b]
   by_cases d:j=A.length + 1
   ·rw [zP d]; subst d
    rw [jU qO] at a ⊢
    simp at a ⊢; exact a
   ·rw [zI d]
    rcases Nat.lt_or_ge j A.length with c | c
    ·rw [uX c] at a ⊢; exact a
    ·rw [jU c] at a ⊢
     obtain ⟨k,f⟩:∃ k,j - A.length=k + 2:=⟨j - A.length - 2,qO⟩
     rw [f] at a ⊢
     simpa using a
theorem Mem.perm {w:World} {B C:List Own} (a:B.Perm C):∀ (A:List Own),Mem w0 M (A++B) w->Mem w0 M (A++C) w:=by
 induction a with
 | nil=>exact fun _ h=>h
 | cons x _ ih=>intro A h; have:=ih (A++[x]) (by simpa using h); simpa using this
 | swap x y l=>exact fun A h=>h.swap A
 | trans _ _ ih1 ih2=>exact fun A h=>ih2 A (ih1 A h)
theorem Mem.tail {w:World} {A:List Own} (h:Mem w0 M (A++L) w):Mem w0 M L w :=
 h.emb (fun i=>A.length + i) (fun i j e=>by omega) fun j o a=>by rw [jU qO]; simpa using a
theorem Has.same {a:Act} (h:Has N D a E) {d:Nat} (f:look E d=none) (v:Value):Has N D (a.put (some d) v) E:=by
 refine ⟨h.d,by simp [Act.put,h.n],fun t u c=>?_⟩;have b:d≠t:=fun e=>by subst e; rw [f] at c; cases c
 simp only [Act.put];rw [Array.getElem?_setIfInBounds_ne b];exact h.h t u c
theorem Has.all {a:Act}:∀ {E1:Env},Has N D a E->(∀ p ∈ E1,a.tmps[p.1]?=some p.2)->Has N D a (E1++E)
 | [],h,_=>h
 | p :: r, h, h1 => by
  have ih:=Has.all (E1:=r) h fun q c=>h1 q (List.mem_cons_of_mem _ c)
  refine ⟨ih.d,ih.n,fun t v b=>?_⟩
  rw [List.cons_append,Cp] at b
  by_cases e:p.1=t
  ·rw [zP e] at b; rw [<-e,h1 p (uW ..)]; exact b
  ·rw [zI e] at b; exact ih.h t v b
def QD (ops:Array Oper) (T:List (Nat × Job)) (i:Nat):List (Nat × Nat × Value)->Prop
  | []=>True
  | y::r=>(∃ j:Nat,T[j]?=some (y.1,.val y.2.1 y.2.2))∧(FG ops i).contains y.1=true∧QD ops T i r
def envP (pre:List (Nat × Nat × Value)):Env:=pre.map (·.2)
def SS (P:Program) (N:Nat) (D:List Deferred) (ops:Array Oper) (E:Env) (w0:World) (M:Fp) (L:List Own) (T:List (Nat × Job)) (x:Nat × Job):Prop :=
  look E x.2.d=none∧Nat.blt x.2.d N=true∧∃ pre,QD ops T x.1 pre∧match x.2 with
  | .val d v=>∃ op ty pos aft,ops[x.1]?=some ⟨some d,op,ty,pos,aft,none⟩∧AR P N D (envP pre++E) (Mem w0 M L) op ty v
  | .row d e k n xs => ∃ c args ts vs ty pos aft, ops[x.1]? = some ⟨some d, .call { callee := .value (.func c), args := args, argTypes := ts }, ty, pos, aft, none⟩ ∧ evs (envP pre ++ E) args.toList = some vs ∧ (∀ vs w, (callFunc c vs).run P w = .ok (.enter c vs) w) ∧
    ∀ w,Mem w0 M L w->Calls P c vs.toArray w (Lw w e k n xs)
def LM (P:Program) (N:Nat) (D:List Deferred) (ops:Array Oper) (E:Env) (w0:World) (M:Fp) (L:List Own) (T:List (Nat × Job)):List (Nat × Job)->Prop
  | []=>True
  | x::r=>SS P N D ops E w0 M L T x∧LM P N D ops E w0 M L T r
theorem jv_ {i d:Nat} {v:Value} {e:Op} {ty:TypeId} {c:String} {b:Array Edge} (a:List (Nat × Nat × Value)) (f:QD ops T i a) (j:look E d=none) (g:Nat.blt d N=true) (h:ops[i]?=some ⟨some d,e,ty,c,b,none⟩) (k:AR P N D (envP a++E) (Mem w0 M L) e ty v):SS P N D ops E w0 M L T (i,.val d v) :=
 ⟨j,g,a,f,e,ty,c,b,h,k⟩
theorem jr_ {i c d e k n:Nat} {j:List Value} {args:Array Operand} {ts:Array TypeId} {vs:List Value} {ty:TypeId} {g:String} {f:Array Edge} (a:List (Nat × Nat × Value)) (l:QD ops T i a) (o:look E d=none) (m:Nat.blt d N=true) (h:ops[i]?=some ⟨some d,.call { callee:=.value (.func c),args:=args,argTypes:=ts },ty,g,f,none⟩) (p:evs (envP a++E) args.toList=some vs) (b:∀ vs w,(callFunc c vs).run P w=.ok (.enter c vs) w)
  (q:∀ w,Mem w0 M L w->Calls P c vs.toArray w (Lw w e k n j)):SS P N D ops E w0 M L T (i,.row d e k n j):=⟨o,m,a,l,c,args,ts,vs,ty,g,f,h,p,b,q⟩
theorem LM.at:∀ {T':List (Nat × Job)},LM P N D ops E w0 M L T T'->∀ x ∈ T',SS P N D ops E w0 M L T x
 | [],_,x,hx=>by cases hx
 | y :: T', h, x, hx => by
  rcases List.mem_cons.1 hx with rfl | hx
  ·exact h.1
  ·exact LM.at h.2 x hx
theorem n_mix (T:List (Nat × Job)) (a6:ops.size=n) (hB:dagB ops n is (T.map (·.1))=true) (O:(T.map (·.1)).Nodup) (a5:(T.map (·.2.d)).Nodup) (hF:F=f + T.length)
  (hI:LM P N D ops E w0 M L T T) (a3:∀ w,Mem w0 M L w->S0 w)
  (h:∀ b:Nat->Value,WN P N D ops n Q S0 f (T.map (·.1)++is) (T.map (fun x=>(x.2.d,x.2.is (b x.1)))++E) (Mem w0 M (T.flatMap (fun x=>x.2.own (b x.1))++L))):WN P N D ops n Q S0 F is E (Mem w0 M L):=by
 refine n_dag T (fun m a w=>m.Nodup∧∃ b:Nat->Value,Has N D a E∧(∀ x ∈ m,a.tmps[x.2.d]?=some (x.2.is (b x.1)))∧Mem w0 M (m.flatMap (fun x=>x.2.own (b x.1))++L) w) a6 hB O hF (fun w hw a K=>⟨qS,fun _=>undef,K,qS,hw⟩) (fun m a w hw=>by obtain ⟨_,b,_,_,t⟩:=hw; exact a3 w t.tail) (fun m x hx g a0 w a hJ=>?_) fun m g a w hJ=>?_
 ·obtain ⟨I,b,K,hv,t⟩:=hJ
  obtain ⟨hl,hd,U,W,o⟩:=hI.at x hx
  have a2:x.2.d < N:=by simpa [Nat.blt_eq] using hd
  have a1:x ∉ m:=fun H=>(g x H).2 rfl
  have Y:∀ y ∈ m,y.2.d≠x.2.d:=fun y s e=>by
   have:=JD a5 (g y s).1 hx e
   exact (g y s).2 (by rw [this])
  have V : (m ++ [x]).Nodup := List.nodup_append.2 ⟨I, by simp, fun y s z hz => by
   obtain rfl:z=x:=by simpa using hz
   exact fun e=>a1 (e ▸ s)⟩
  have X:Has N D a (envP U++E):=by
   refine K.all fun p hp=>?_
   have a7:∀ l,QD ops T x.1 l->∀ y ∈ l,a.tmps[y.2.1]?=some y.2.2:=by
    intro l
    induction l with
    | nil=>intro _ y s; cases s
    | cons z r ih =>
     intro hz y s
     rcases ya.1 s with rfl | s
     ·obtain ⟨⟨j,hj⟩,hc,_⟩:=hz
      have S:(y.1,Job.val y.2.1 y.2.2) ∈ T:=vQ hj
      have h3:=a0 y.1 (by simpa using hc) (yr.2 ⟨_,S,rfl⟩)
      obtain ⟨q,hq,a4⟩:=yr.1 h3
      have:q=(y.1,Job.val y.2.1 y.2.2):=JD O (g q hq).1 S a4
      subst this
      exact hv _ hq
     ·exact ih hz.2.2 y s
   obtain ⟨y,s,rfl⟩:=yr.1 hp
   exact a7 U W y s
  have Z:∀ (u:Value) (w':World),Mem w0 M (x.2.own u++(m.flatMap (fun y=>y.2.own (b y.1))++L)) w'->(m++[x]).Nodup∧∃ b:Nat->Value,Has N D (a.put (some x.2.d) (x.2.is u)) E∧(∀ y ∈ m++[x],(a.put (some x.2.d) (x.2.is u)).tmps[y.2.d]?=some (y.2.is (b y.1)))∧Mem w0 M ((m++[x]).flatMap (fun y=>y.2.own (b y.1))++L) w':=fun u w' h2=>by
   refine ⟨V,fun i=>if i=x.1 then u else b i,K.same hl _,fun y s=>?_,?_⟩
   ·show _=some (y.2.is (if y.1=x.1 then u else b y.1))
    rcases yl.1 s with H | H
    ·rw [zI (g y H).2]
     simp only [Act.put]
     rw [Array.getElem?_setIfInBounds_ne (fun e=>Y y H e.symm)]
     exact hv y H
    ·obtain rfl:y=x:=by simpa using H
     rw [zP rfl]
     simp only [Act.put]
     rw [Array.getElem?_setIfInBounds_self_of_lt (by rw [K.n]; exact a2)]
   ·have e1:(m++[x]).flatMap (fun y=>y.2.own (if y.1=x.1 then u else b y.1))=m.flatMap (fun y=>y.2.own (b y.1))++x.2.own u:=by
     rw [List.flatMap_append]
     congr 1
     ·rw [List.flatMap_def,List.flatMap_def]
      congr 1
      exact List.map_congr_left fun y s=>by rw [zI (g y s).2]
     ·simp
    rw [e1]
    refine Mem.perm (B:=x.2.own u++(m.flatMap (fun y=>y.2.own (b y.1))++L)) ?_ [] (by simpa using h2)
    rw [<-ub]
    exact List.Perm.append_right L List.perm_append_comm
  unfold wpOp
  match hxx:x.2,o with
  | .val d v, o =>
   obtain ⟨op,ty,C,G,ho,hr⟩:=o
   simp only [ho]
   have R:Region.wanted (⟨some d,op,ty,C,G,none⟩:Oper) (yielded ops a.tmps)=true:=rfl
   rw [zP R]
   left
   unfold Oper.wp
   rw [hr _ rfl rfl a w X t.tail]
   have:=Z undef w (by rw [hxx]; exact t)
   rw [hxx] at this
   exact this
  | .row d e k n' xs, o =>
   obtain ⟨c,args,ts,vs,ty,C,G,ho,J,A,hc⟩:=o
   simp only [ho]
   have R:Region.wanted (⟨some d,.call { callee:=.value (.func c),args:=args,argTypes:=ts },ty,C,G,none⟩:Oper) (yielded ops a.tmps)=true:=rfl
   rw [zP R]
   left
   unfold Oper.wp
   rw [IY X (by rfl) J A rfl,Oper.upon_enter,Array.append_empty]
   refine (hc w t.tail).mono ?_
   rintro e' w' ⟨v,rfl,hf,hr⟩
   have:=Z v w' (by rw [hxx]; exact t.RP hf hr)
   rw [hxx] at this
   exact this
 ·obtain ⟨I,b,K,hv,t⟩:=hJ
  have hp:m.Perm T:=(List.perm_ext_iff_of_nodup I (Ny O)).2 g
  refine h b w (Mem.perm (B:=m.flatMap (fun x=>x.2.own (b x.1))++L) (List.Perm.append_right L (hp.flatMap_right _)) [] t) a (K.all fun p a8=>?_)
  obtain ⟨x,hx,rfl⟩:=yr.1 a8
  exact hv x ((g x).2 hx)
theorem qk {S S':World->Prop} {E':Env} (c:BZ E E') (b:∀ w,S w->S' w) (h:WN P N D ops n Q S0 f is E' S'):WN P N D ops n Q S0 f is E S:=fun w e a d=>h w (b w e) a (d.less c.all)
theorem gV {α:Type} {enc:α->List Value} {e k:Nat} {v:Value} {l:List α} (i:Nat) (m:L[i]?=some (Row v e k enc l)) (h:∀ A c,v=.slice A l.length c->l.length<=c->c<=9223372036854775807->(l≠[]->∃ ad,A=some ad)->WN P N D ops n Q S0 f is E (Mem w0 M L)):WN P N D ops n Q S0 f is E (Mem w0 M L) :=
 fun w a=>by obtain ⟨A,c,b,j,d,g⟩:=Ay (a.row m); exact h A c b j d g w a
end
def WLp (P:Program) (N:Nat) (D:List Deferred) (c:Code) (Q:Exit->Act->World->Prop) (E:Env) (S:World->Prop):Prop :=
  ∀ w,S w->∀ a,Has N D a E->∀ b k cs,∃ e a' w',Q e a' w'∧Arrives P (lone (b.at a (.code c::.inLoop c::k)) cs w) b k cs e a' w'
section
variable {P:Program} {N:Nat} {D:List Deferred} {E:Env} {S:World->Prop} {Q:Exit->Act->World->Prop} {K:Act->World->Prop} {c:Code}
theorem qT (h:WLp P N D c Q E S):WC P N D (.loop c) Q E S:=fun w i a g b k cs=>by
 obtain ⟨f,j,w',e,d⟩:=h w i a g b k cs
 exact ⟨f,j,w',e,.of_steps (.one step_loop) d⟩
theorem vz (h:∀ K:Act->World->Prop,(∀ E S,WLp P N D c Q E S->∀ w,S w->∀ a,Has N D a E->K a w)->WC P N D c (Exit.then K Q) E S):WLp P N D c Q E S:=by
 intro w v a u b k cs
 obtain ⟨e,j,m,i,d⟩:=h (fun a w=>∀ b k cs,∃ e g w',Q e g w'∧Arrives P (lone (b.at a (.code c::.inLoop c::k)) cs w) b k cs e g w') (fun _ _ q w' p g o=>q w' p g o) w v a u b (.inLoop c::k) cs
 cases e with
 | normal =>
  obtain ⟨t,r,s,n,f⟩:=(show ∀ b k cs,∃ e g w',Q e g w'∧Arrives P (lone (b.at j (.code c::.inLoop c::k)) cs m) b k cs e g w' from i) b k cs
  exact ⟨t,r,s,n,.of_steps (Steps.trans d (.one step_inLoop)) f⟩
 | exit id=>exact ⟨_,j,m,i,.pass (x:=.inLoop c) rfl (fun _ _=>.inl qS) d⟩
 | goto l=>exact ⟨_,j,m,i,.pass (x:=.inLoop c) rfl (fun _ _=>.inl qS) d⟩
 | ret=>exact ⟨_,j,m,i,.pass (x:=.inLoop c) rfl (fun _ _=>.inl qS) d⟩
 | panic ch=>exact ⟨_,j,m,i,.pass (x:=.inLoop c) rfl (fun _ _=>.inl qS) d⟩
 | outgrown=>exact ⟨_,j,m,i,.pass (x:=.inLoop c) rfl (fun _ _=>.inl qS) d⟩
theorem jx (b:∀ E S,WLp P N D c Q E S->∀ w,S w->∀ a,Has N D a E->K a w) (h:WLp P N D c Q E S):WE N D (Exit.then K Q) .normal E S:=fun w e a d=>b E S h w e a d
end
end Ex
end
section
structure SlX (α:Type) where (A:Option Addr) (c:Nat) (l:List α)
structure yx where (sr:SlX Label) (sm:SlX AA)
structure zC where (sr:SlX Label) (value:Int)
structure yX where (sr:SlX Label)
structure zt where (vec:Bool) (n:Int) (cells:SlX zC)
inductive zD where
  | mk (kind n range:Int) (word:ByteArray) (ms:SlX Match) (by_:SlX ByteArray) (kids:SlX zD)
namespace zD
def kind:zD->Int | .mk k _ _ _ _ _ _=>k
def n:zD->Int | .mk _ n _ _ _ _ _=>n
def range:zD->Int | .mk _ _ r _ _ _ _=>r
def word:zD->ByteArray | .mk _ _ _ w _ _ _=>w
def ms:zD->SlX Match | .mk _ _ _ _ m _ _=>m
def by_:zD->SlX ByteArray | .mk _ _ _ _ _ b _=>b
def kids:zD->SlX zD | .mk _ _ _ _ _ _ k=>k
theorem Ek {e k:zD} (h:k ∈ e.kids.l):SizeOf.sizeOf k < SizeOf.sizeOf e:=by
 cases e with
 | mk a b c d f g ks =>
  have j:SizeOf.sizeOf k < SizeOf.sizeOf ks.l:=List.sizeOf_lt_of_mem h
  have m:SizeOf.sizeOf ks.l < SizeOf.sizeOf ks:=by cases ks; simp; omega
  have i:SizeOf.sizeOf ks < SizeOf.sizeOf (zD.mk a b c d f g ks):=by simp; omega
  omega
end zD
structure Line where (sr:List Label) (sm:List AA)
structure Cell where (sr:List Label) (value:Int) deriving DecidableEq
inductive Expr where
  | mk (kind n range:Int) (word:ByteArray) (ms:List Match) (by_:List ByteArray) (kids:List Expr)
namespace Expr
def kind:Expr->Int | .mk k _ _ _ _ _ _=>k
def n:Expr->Int | .mk _ n _ _ _ _ _=>n
def range:Expr->Int | .mk _ _ r _ _ _ _=>r
def word:Expr->ByteArray | .mk _ _ _ w _ _ _=>w
def ms:Expr->List Match | .mk _ _ _ _ m _ _=>m
def by_:Expr->List ByteArray | .mk _ _ _ _ _ b _=>b
def kids:Expr->List Expr | .mk _ _ _ _ _ _ k=>k
end Expr
def yx.e (x:yx):Line:=⟨x.sr.l,x.sm.l⟩
def zC.e (x:zC):Cell:=⟨x.sr.l,x.value⟩
structure Val where (vec:Bool) (n:Int) (cells:List Cell) deriving DecidableEq
def zt.e (x:zt):Val:=⟨x.vec,x.n,x.cells.l.map zC.e⟩
mutual
def zD.e:zD->Expr
  | .mk k n r w ms bs ks=>.mk k n r w ms.l bs.l (zD.es ks.l)
def zD.es:List zD->List Expr
  | []=>[]
  | x::xs=>zD.e x::zD.es xs
end
theorem zD.es_map:∀ l,zD.es l=l.map zD.e
 | []=>rfl
 | x::xs=>by rw [zD.es,List.map_cons,zD.es_map xs]
theorem zD.gz:∀ (x:zD),x.e=.mk x.kind x.n x.range x.word x.ms.l x.by_.l (x.kids.l.map zD.e)
 | .mk ..=>by rw [zD.e,zD.es_map]; rfl
@[reducible] def SlX.v {α:Type} (s:SlX α):Value:=.slice s.A s.l.length s.c
namespace Ex
@[reducible] def zu (x:zC):List Value:=[.slice x.sr.A x.sr.l.length x.sr.c,.int .i64 x.value]
@[reducible] def KB (x:yX):List Value:=[.slice x.sr.A x.sr.l.length x.sr.c]
@[reducible] def yD (x:zD):List Value:=[.int .i64 x.kind,.int .i64 x.n,.int .i64 x.range,.string x.word,.slice x.ms.A x.ms.l.length x.ms.c,.slice x.by_.A x.by_.l.length x.by_.c,.slice x.kids.A x.kids.l.length x.kids.c]
@[reducible] def jg (x:zt):List Value:=[.bool x.vec,.int .i64 x.n,.slice x.cells.A x.cells.l.length x.cells.c]
theorem Hx:Enc jg 3:=.of (fun _=>rfl) (fun _=>rfl) rfl
theorem AJ:Enc zu 2:=.of (fun _=>rfl) (fun _=>rfl) rfl
theorem Ea:Enc KB 1:=.of (fun _=>rfl) (fun _=>rfl) rfl
theorem Ch:Enc yD 7:=.of (fun _=>rfl) (fun _=>rfl) rfl
structure Wf {α:Type} (s:SlX α):Prop where
  le:s.l.length<=s.c
  max:s.c<=9223372036854775807
  ad:s.l≠[]->∃ ad,s.A=some ad
theorem zH.wf {α:Type} {S:Nat->Prop} {k:Nat} {enc:α->List Value} {s:SlX α} {w:World} (h:zH S k enc (.slice s.A s.l.length s.c) s.l w):Wf s:=by
 obtain ⟨A,c,e,b,d,a⟩:=h.form;injection e with e1 e2 e3;subst e1 e3;exact ⟨b,d,a⟩
theorem zH.x {α:Type} {S:Nat->Prop} {k:Nat} {enc:α->List Value} {v:Value} {l:List α} {w:World} (h:zH S k enc v l w):∃ s:SlX α,s.l=l∧v=.slice s.A s.l.length s.c:=by
 obtain ⟨A,c,e,b,d,a⟩:=h.form;exact ⟨⟨A,c,l⟩,rfl,e⟩
def DA (l:List Label):Prop:=∀ x ∈ l,x.key.size<=9223372036854775807∧x.val.size<=9223372036854775807
structure zD.Str (e:zD):Prop where
  word:e.word.size<=9223372036854775807
  ms:∀ x ∈ e.ms.l,x.key.size<=9223372036854775807∧x.val.size<=9223372036854775807
  by_:∀ x ∈ e.by_.l,x.size<=9223372036854775807
structure zC.Ok (S:Nat->Prop) (x:zC) (w:World):Prop where
  sr:zH S 2 zb (.slice x.sr.A x.sr.l.length x.sr.c) x.sr.l w
structure zt.Ok (S:Nat->Prop) (x:zt) (w:World):Prop where
  cells:zH S 2 zu (.slice x.cells.A x.cells.l.length x.cells.c) x.cells.l w
  all:∀ c ∈ x.cells.l,zC.Ok S c w
structure yX.Ok (S:Nat->Prop) (x:yX) (w:World):Prop where
  sr:zH S 2 zb (.slice x.sr.A x.sr.l.length x.sr.c) x.sr.l w
inductive zD.Ok (S:Nat->Prop):zD->World->Prop where
  | mk {e : zD} {w : World} (ms : zH S 3 yF (.slice e.ms.A e.ms.l.length e.ms.c) e.ms.l w) (by_ : zH S 1 Ac (.slice e.by_.A e.by_.l.length e.by_.c) e.by_.l w)
    (kids:zH S 7 yD (.slice e.kids.A e.kids.l.length e.kids.c) e.kids.l w) (all:∀ k ∈ e.kids.l,zD.Ok S k w) (str:zD.Str e):zD.Ok S e w
inductive zD.Wf:zD->Prop where
  | mk {e:zD} (ms:Ex.Wf e.ms) (by_:Ex.Wf e.by_) (kids:Ex.Wf e.kids) (all:∀ k ∈ e.kids.l,zD.Wf k) (str:zD.Str e):zD.Wf e
theorem zC.Ok.loc (x:zC):Loc (fun S=>zC.Ok S x):=fun S S' u u' a b h=>⟨zH.loc _ _ _ _ S S' u u' a b h.sr⟩
theorem yX.Ok.loc (x:yX):Loc (fun S=>yX.Ok S x):=fun S S' u u' a b h=>⟨zH.loc _ _ _ _ S S' u u' a b h.sr⟩
theorem zt.Ok.loc (x:zt):Loc (fun S=>zt.Ok S x):=fun S S' u u' a b h=>⟨zH.loc _ _ _ _ S S' u u' a b h.cells,fun c d=>zC.Ok.loc c S S' u u' a b (h.all c d)⟩
theorem zD.Ok.loc (x:zD):Loc (fun S=>zD.Ok S x):=fun S S' u u' b a h=>by
 induction h with
 | mk ms bs kids _ str ih=>exact .mk (zH.loc _ _ _ _ S S' _ u' b a ms) (zH.loc _ _ _ _ S S' _ u' b a bs) (zH.loc _ _ _ _ S S' _ u' b a kids) (fun k c=>ih k c a) str
theorem zD.Ok.wf {S:Nat->Prop} {x:zD} {w:World} (h:zD.Ok S x w):zD.Wf x:=by
 induction h with
 | mk ms bs kids _ str ih=>exact .mk (zH.wf ms) (zH.wf bs) (zH.wf kids) ih str
theorem zD.Wf.ms {e:zD} (h:zD.Wf e):Ex.Wf e.ms:=by cases h; assumption
theorem zD.Wf.by_ {e:zD} (h:zD.Wf e):Ex.Wf e.by_:=by cases h; assumption
theorem zD.Wf.kids {e:zD} (h:zD.Wf e):Ex.Wf e.kids:=by cases h; assumption
theorem zD.Wf.all {e:zD} (h:zD.Wf e):∀ k ∈ e.kids.l,zD.Wf k:=by cases h; assumption
theorem zD.Wf.str {e:zD} (h:zD.Wf e):zD.Str e:=by cases h; assumption
theorem zD.Ok.ms {S:Nat->Prop} {e:zD} {w:World} (h:zD.Ok S e w):zH S 3 yF (.slice e.ms.A e.ms.l.length e.ms.c) e.ms.l w:=by cases h; assumption
theorem zD.Ok.by_ {S:Nat->Prop} {e:zD} {w:World} (h:zD.Ok S e w):zH S 1 Ac (.slice e.by_.A e.by_.l.length e.by_.c) e.by_.l w:=by cases h; assumption
theorem zD.Ok.kids {S:Nat->Prop} {e:zD} {w:World} (h:zD.Ok S e w):zH S 7 yD (.slice e.kids.A e.kids.l.length e.kids.c) e.kids.l w:=by cases h; assumption
theorem zD.Ok.all {S:Nat->Prop} {e:zD} {w:World} (h:zD.Ok S e w):∀ k ∈ e.kids.l,zD.Ok S k w:=by cases h; assumption
theorem NU {C:zD->Prop} (h:∀ e,(∀ k:zD,SizeOf.sizeOf k < SizeOf.sizeOf e->C k)->C e) (e:zD):C e:=by
 suffices ∀ n (e:zD),SizeOf.sizeOf e < n->C e from this _ e (Nat.lt_succ_self _)
 intro n
 induction n with
 | zero=>intro e he; omega
 | succ n ih=>intro e he; exact h e fun k a=>ih k qO
structure yx.Wf (x:yx):Prop where
  str:DA x.sr.l
  sr:Ex.Wf x.sr
  sm:Ex.Wf x.sm
structure zC.Wf (x:zC):Prop where
  sr:Ex.Wf x.sr
structure zt.Wf (x:zt):Prop where
  cells:Ex.Wf x.cells
  all:∀ c ∈ x.cells.l,zC.Wf c
structure yX.Wf (x:yX):Prop where
  sr:Ex.Wf x.sr
theorem zC.Ok.wf {S:Nat->Prop} {x:zC} {w:World} (h:zC.Ok S x w):zC.Wf x:=⟨zH.wf h.sr⟩
theorem zt.Ok.wf {S:Nat->Prop} {x:zt} {w:World} (h:zt.Ok S x w):zt.Wf x:=⟨zH.wf h.cells,fun c a=>(h.all c a).wf⟩
theorem yX.Ok.wf {S:Nat->Prop} {x:yX} {w:World} (h:yX.Ok S x w):yX.Wf x:=⟨zH.wf h.sr⟩
def okP {α:Type} (ok:(Nat->Prop)->α->World->Prop) (x:α):Own:=.pub (fun S=>ok S x)
def AS {α:Type} (ok:(Nat->Prop)->α->World->Prop) (l:List α):Own:=.pub (fun S w=>∀ x ∈ l,ok S x w)
theorem Av {α:Type} {ok:(Nat->Prop)->α->World->Prop} (a:∀ x,Loc (fun S=>ok S x)) (l:List α):Loc (fun S w=>∀ x ∈ l,ok S x w):=fun S S' u u' b d h x c=>a x S S' u u' b d (h x c)
def ve (S:Nat->Prop) (ad:Addr) (cs:List Value) (w:World):Prop:=S ad.block∧∀ (j:Nat) (u:Value),cs[j]?=some u->w.cell? (ad.add j)=some u
def BE (ad:Addr) (cs:List Value):Own:=.pub (fun S=>ve S ad cs)
theorem Ty {ad:Addr} {w w':World} (h:w'.heap[ad.block]?=w.heap[ad.block]?):w'.cell? ad=w.cell? ad:=by
 unfold World.cell?; rw [h]
theorem ve.loc (ad:Addr) (cs:List Value):Loc (fun S=>ve S ad cs):=fun S S' u u' a c h=>⟨a _ h.1,fun j v b=>by
 have:u'.heap[(ad.add j).block]?=u.heap[(ad.add j).block]?:=by rw [Ck]; exact c _ h.1
 rw [Ty this]; exact h.2 j v b⟩
section
variable {P:Program} {N:Nat} {D:List Deferred} {E:Env} {S S':World->Prop} {Q:Exit->Act->World->Prop} {K:Act->World->Prop} {w0 w w':World} {M:Fp} {L L':List Own}
  {ops:Array Oper} {rest:List Oper} {d:Nat} {ty T:TypeId} {pos:String} {aft:Array Edge} {g:Option (Nat × Bool)} {v u:Value} {x y:Operand} {α:Type} {ok:(Nat->Prop)->α->World->Prop} {F G:(Nat->Prop)->World->Prop}
theorem Mem.Bl {o:Own} (h:Mem w0 M (o::L) w):Mem w0 M L w:=h.emb (· + 1) (fun i j e=>by omega) fun j o a=>by simpa using a
theorem Mem.imp (h:Mem w0 M L w) (q:Nat) (hi:L[q]?=some (.pub F)) (b:Loc G) (f:∀ S,F S w->G S w):Mem w0 M (.pub G::L) w:=h.yO b fun _ a=>f _ (a.at_ q _ hi)
theorem qE {a:Code} (f:∀ w,S w->S' w) (h:WC P N D a Q E S'):WC P N D a Q E S:=fun w b=>h w (f w b)
theorem zZ (f:∀ w,S w->S' w) (h:WL P N D ops Q rest E S'):WL P N D ops Q rest E S:=fun w a=>h w (f w a)
theorem uf (f:∀ w,S w->S' w) (a:∀ w,S' w->S w) (h:WQ P N D ops K rest E S'):WQ P N D ops K rest E S:=by
 have:S=S':=funext fun w=>propext ⟨f w,a w⟩;rw [this]; exact h
theorem Mem.one (h:Mem w0 M L w) (q:Nat) {l:List α} {i:Nat} {a:α} (b:∀ x,Loc (fun S=>ok S x)) (hi:L[q]?=some (AS ok l)) (c:l[i]?=some a):Mem w0 M (okP ok a::L) w :=
 h.imp q hi (b a) fun _ d=>d a (vQ c)
theorem Mem.DK (h:Mem w0 M L w) (q:Nat) {e:zD} (hi:L[q]?=some (okP zD.Ok e)) :
  Mem w0 M (slP 3 yF (.slice e.ms.A e.ms.l.length e.ms.c) e.ms.l::slP 1 Ac (.slice e.by_.A e.by_.l.length e.by_.c) e.by_.l::slP 7 yD (.slice e.kids.A e.kids.l.length e.kids.c) e.kids.l::AS zD.Ok e.kids.l::L) w:=by
 have d:=h.imp q hi (Av zD.Ok.loc e.kids.l) fun _ a=>zD.Ok.all a
 have f:=d.imp (q + 1) hi (zH.loc 7 yD _ e.kids.l) fun _ a=>zD.Ok.kids a
 have b:=f.imp (q + 2) hi (zH.loc 1 Ac _ e.by_.l) fun _ a=>zD.Ok.by_ a
 exact b.imp (q + 3) hi (zH.loc 3 yF _ e.ms.l) fun _ a=>zD.Ok.ms a
theorem Mem.ED (h:Mem w0 M L w) (q:Nat) {e:zC} (hi:L[q]?=some (okP zC.Ok e)):Mem w0 M (slP 2 zb (.slice e.sr.A e.sr.l.length e.sr.c) e.sr.l::L) w :=
 h.imp q hi (zH.loc 2 zb _ e.sr.l) fun _ a=>zC.Ok.sr a
theorem Mem.valX (h:Mem w0 M L w) (q:Nat) {e:zt} (hi:L[q]?=some (okP zt.Ok e)):Mem w0 M (slP 2 zu (.slice e.cells.A e.cells.l.length e.cells.c) e.cells.l::AS zC.Ok e.cells.l::L) w:=by
 have b:=h.imp q hi (Av zC.Ok.loc e.cells.l) fun _ a=>zt.Ok.all a;exact b.imp (q + 1) hi (zH.loc 2 zu _ e.cells.l) fun _ a=>zt.Ok.cells a
theorem Mem.serX (h:Mem w0 M L w) (q:Nat) {e:yX} (hi:L[q]?=some (okP yX.Ok e)):Mem w0 M (slP 2 zb (.slice e.sr.A e.sr.l.length e.sr.c) e.sr.l::L) w :=
 h.imp q hi (zH.loc 2 zb _ e.sr.l) fun _ a=>yX.Ok.sr a
theorem gj (q:Nat) {ad:Addr} {j:Nat} {cs:List Value} (b:ev E x=some (.pointer (some ((ad.add 0).add j)))) (c:L[q]?=some (BE ad cs)) (d:cs[j]?=some u) (a:Cv P T=true):AR P N D E (Mem w0 M L) (.load T x) ty u :=
 jh b a fun _ h=>(h.yU c).2 j u d
theorem Mem.fact {F:Prop} (a:F) (h:Mem w0 M L w):Mem w0 M (.pub (fun _ _=>F)::L) w:=h.yO (F:=fun _ _=>F) (fun _ _ _ _ _ _ h=>h) fun _ _=>a
theorem gW {F:Prop} {b:Code} (h:F->WC P N D b Q E (Mem w0 M L)):WC P N D b Q E (Mem w0 M (.pub (fun _ _=>F)::L)):=fun w a=>by
 obtain ⟨d,c⟩:=a.pb
 exact h (c.at_ 0 _ rfl) w a.Bl
theorem rv_v {a:Op} (h:u=v) (r:AR P N D E S a ty u):AR P N D E S a ty v:=h ▸ r
theorem rv_b {a:Op} {b c:Bool} (h:b=c) (r:AR P N D E S a ty (.bool b)):AR P N D E S a ty (.bool c):=h ▸ r
theorem cel_of {d:Nat->Prop} {k b c:Nat} {enc:α->List Value} {A:Option Addr} {l:List α} {ad:Addr} {i:Nat} {a:α} (h:zH d k enc (.slice A b c) l w) (p:A=some ad) (hi:l[i]?=some a):ve d (ad.add (i * k)) (enc a) w:=by
 obtain ⟨A',r,e,q,s,m⟩:=h;injection e with e1 e2 e3;subst e1;obtain ⟨f,e,n,o⟩:=m (by intro e; subst e; cases hi);rw [p] at e; injection e with e; subst e;exact ⟨by rw [Ck]; exact n,fun j u g=>o i a hi j u g⟩
theorem Mem.SR {P0:Nat->Prop} {p:Nat} {cs:List Value} (m:w.heap[p]?=some (.cells cs.toArray T (0,0))) (f:∀ b,P0 b->b < w.heap.size∧b≠p) (h:Hc P0 L w) (n:L.all Own.Cu=true:=by rfl):Mem w ⟨(·=p),P0⟩ (.blk p cs T::L) w:=by
 have t:=Mem.args (w:=w) (P0:=P0) (fun b a=>(f b a).1) fun i o hi=>h.at i o hi
 have c:∀ (i:Nat) (o:Own),L[i]?=some o->∃ F,o=.pub F:=fun i o hi=>by
  have:=List.all_eq_true.1 n o (vQ hi)
  cases o <;> first | exact ⟨_,rfl⟩ | cases this
 refine ⟨Fr.refl _ _,fun i o hi=>?_,fun i j o o' hi l k u b a g=>?_,P0,fun b a=>.inl a,fun b a=>(f b a).1,fun i o hi d b a r=>?_,fun i F hi=>?_⟩
 ·cases i with
  | zero =>
   obtain rfl:Own.blk p cs T=o:=by simpa using hi
   exact ⟨m,fun b a=>by have a:b=p:=a; subst a; exact (Array.getElem?_eq_some_iff.1 m).1,fun _ b a=>.inr a⟩
  | succ i =>
   have hi:L[i]?=some o:=by simpa using hi
   obtain ⟨q,s,v⟩:=t.ok i o hi
   obtain ⟨F,rfl⟩:=c i o hi
   exact ⟨q,s,fun e=>by cases e⟩
 ·cases i with
  | zero =>
   cases j with
   | zero=>exact k rfl
   | succ j =>
    have l:L[j]?=some o':=by simpa using l
    obtain ⟨F,rfl⟩:=c j o' l
    exact g
  | succ i =>
   have hi:L[i]?=some o:=by simpa using hi
   obtain ⟨F,rfl⟩:=c i o hi
   exact a
 ·cases i with
  | zero =>
   obtain rfl:Own.blk p cs T=o:=by simpa using hi
   exact (f b a).2 r
  | succ i =>
   have hi:L[i]?=some o:=by simpa using hi
   obtain ⟨F,rfl⟩:=c i o hi
   cases d
 ·cases i with
  | zero=>simp at hi
  | succ i =>
   have hi:L[i]?=some (.pub F):=by simpa using hi
   exact (h.at i _ hi).2.2.2 F rfl
def RetM (w:World) (p:Nat) (T:TypeId) (v:Value) (cs:List Value):Ending->World->Prop:=fun e w'=>e=.returned v∧Fr (·=p) w w'∧w'.heap[p]?=some (.cells cs.toArray T (0,0))
theorem gH (i:Nat) {f p:Nat} {args:Array Operand} {ts:Array TypeId} {vs k cs':List Value} (q:Want N D ops E g true) (s:L[i]?=some (.blk p k T)) (c:evs E args.toList=some vs)
  (j:∀ vs w,(callFunc f vs).run P w=.ok (.enter f vs) w) (y:Nat.blt d N=true)
  (B:∀ w m,Mem w0 M L w->DP w0 M L w m->Calls P f vs.toArray w (RetM w p T v cs'))
  (h:WL P N D ops Q rest ((d,v)::E) (Mem w0 M (L.set i (.blk p cs' T)))) :
  WL P N D ops Q (⟨some d,.call { callee:=.value (.func f),args:=args,argTypes:=ts },ty,pos,aft,g⟩::rest) E (Mem w0 M L) :=
 u6 (Φ:=fun u w'=>u=v∧Mem w0 M (L.set i (.blk p cs' T)) w') q (by rfl) c j y (fun w l=>by
  obtain ⟨m,z⟩:=l.pb
  have r:=B w m l z
  simp only [Array.append_empty]
  refine r.mono fun e w' ⟨he,hf,hh⟩=>⟨v,he,rfl,?_⟩
  have x:p < w.heap.size:=(l.ok i _ s).2.1 p rfl
  exact l.upd (o:=.blk p k T) (o':=.blk p cs' T) s rfl hf hh fun b t=>⟨.inl t,by have n:b=p:=t; subst n; exact uP x hf.size⟩) (fun u w q a A=>by obtain ⟨rfl,C⟩:=q; exact h w C a A)
theorem Mem.u7 {a:World} {p:Nat} {P0:Nat->Prop} {cs cs':List Value} (h:Mem w ⟨(·=p),P0⟩ L a) (i:Nat) (b:L[i]?=some (.blk p cs T)) (d:u=v) (c:cs=cs'):RetM w p T v cs' (.returned u) a:=by
 subst d c;exact ⟨rfl,h.fr,h.blk b⟩
theorem Mem.sealB {i b:Nat} {cs:List Value} (h:Mem w0 M L w) (hi:L[i]?=some (.blk b cs T)) (f:M.m=no):Mem w0 M (L.set i (BE ⟨b,0,none⟩ cs)) w:=by
 refine h.q3 hi rfl (fun c e=>?_) (ve.loc _ _) fun g k=>⟨.inr rfl,fun j u d=>?_⟩;rcases (h.ok i _ hi).2.2 rfl c e with a | a
 exact .inl a;rw [f] at a; exact a.elim;rw [add_lit];have:=h.cell (j:=0 + j) hi;rw [this]; simpa using d
theorem SX (i:Nat) {b:Nat} {cs:List Value} (hi:L[i]?=some (.blk b cs T)) (c:M.m=no) (h:WL P N D ops Q rest E (Mem w0 M (L.set i (BE ⟨b,0,none⟩ cs)))):WL P N D ops Q rest E (Mem w0 M L) :=
 fun w a=>h w (a.sealB hi c)
end
end Ex
end
section
namespace Ex
def AX (A:List Own):Nat->Prop:=fun b=>∃ o ∈ A,o.mut=true∧o.fp b
section
variable {P:Program} {N:Nat} {D:List Deferred} {E:Env} {S S':World->Prop} {Q:Exit->Act->World->Prop} {K:Act->World->Prop} {w0 w w':World} {M:Fp} {L A A' R:List Own} {Pb:Nat->Prop}
  {ops:Array Oper} {rest:List Oper} {d:Nat} {ty T:TypeId} {pos:String} {aft:Array Edge} {g:Option (Nat × Bool)} {v u:Value} {x y:Operand}
theorem Mem.give (h:Mem w0 M (A++R) w) (c:DP w0 M (A++R) w Pb):Mem w ⟨AX A,Pb⟩ A w:=by
 have a:∀ (i:Nat) (o:Own),A[i]?=some o->(A++R)[i]?=some o:=fun i o hi=>by rw [uX (yb.1 hi).1]; exact hi
 refine ⟨Fr.refl _ _,fun i o hi=>?_,fun i j o o' hi l e f=>h.dj i j o o' (a i o hi) (a j o' l) e f,Pb,fun b d=>.inl d,c.lt,fun i o hi=>c.dj i o (a i o hi),fun i F hi=>c.at_ i F (a i _ hi)⟩;obtain ⟨g,k,_⟩:=h.ok i o (a i o hi);exact ⟨g,k,fun f b d=>.inr ⟨o,vQ hi,f,d⟩⟩
theorem Mem.take (h:Mem w0 M (A++R) w) (t:DP w0 M (A++R) w Pb) (k:Mem w ⟨AX A,Pb⟩ A' w') (K:A'.all (fun o=>o.mut || o.Cu)=true):Mem w0 M (A'++R) w':=by
 have J:∀ (o:Own),o ∈ A->∃ i,(A++R)[i]?=some o∧i < A.length:=fun o H=>by
  obtain ⟨i,hi,rfl⟩:=List.mem_iff_getElem.1 H
  exact ⟨i,by rw [uX hi]; exact vA hi,hi⟩
 have n:∀ (j:Nat) (o:Own),R[j]?=some o->(A++R)[A.length + j]?=some o:=fun j o q=>by rw [jU qO]; simpa using q
 have l:∀ b,AX A b->b < w.heap.size∧(w0.heap.size<=b∨M.m b)∧¬ Pb b∧∀ (j:Nat) (o:Own),R[j]?=some o->¬ o.fp b:=by
  rintro b ⟨o,H,s,a⟩
  obtain ⟨i,hi,L⟩:=J o H
  obtain ⟨_,g,N⟩:=h.ok i o hi
  exact ⟨g b a,N s b a,fun O=>t.dj i o hi s b O a,fun j o' q d=>h.dj i (A.length + j) o o' hi (n j o' q) qO (.inl s) b a d⟩
 have D:∀ (j:Nat) (o:Own),R[j]?=some o->∀ b,o.fp b->w'.heap[b]?=w.heap[b]?:=fun j o q b a=>k.fr.block b ((h.ok _ o (n j o q)).2.1 b a) fun p=>(l b p).2.2.2 j o q a
 have y:=k.fr.size
 have I:=h.fr.size
 have r:∀ (i:Nat) (o:Own),(A'++R)[i]?=some o->(i < A'.length∧A'[i]?=some o)∨(A'.length<=i∧R[i - A'.length]?=some o):=fun i o hi=>by
  rcases Nat.lt_or_ge i A'.length with c | c
  ·rw [uX c] at hi; exact .inl ⟨c,hi⟩
  ·rw [jU c] at hi; exact .inr ⟨c,hi⟩
 have C:∀ (i:Nat) (o:Own),A'[i]?=some o->∀ b,o.fp b->o.mut=true:=fun i o hi b a=>by
  have:=List.all_eq_true.1 K o (vQ hi)
  simp only [Bool.or_eq_true] at this
  rcases this with c | c
  ·exact c
  ·cases o <;> first | exact (show False from a).elim | cases c
 have f:∀ (i j:Nat) (o o':Own),A'[i]?=some o->R[j]?=some o'->∀ b,o.fp b->¬ o'.fp b:=fun i j o o' hi q b a d=>by
  rcases (k.ok i o hi).2.2 (C i o hi b a) b a with c | c
  ·have:=(h.ok _ o' (n j o' q)).2.1 b d; omega
  ·exact (l b c).2.2.2 j o' q d
 refine ⟨h.fr.trans k.fr fun b a p=>(l b p).2.1.resolve_left qO,fun i o hi=>?_,fun i j o o' hi q E u b a d=>?_,?_⟩
 ·rcases r i o hi with ⟨_,c⟩ | ⟨_,c⟩
  ·obtain ⟨z,x,G⟩:=k.ok i o c
   exact ⟨z,x,fun s b a=>(G s b a).elim (fun e=>.inl qO) fun e=>(l b e).2.1⟩
  ·obtain ⟨z,x,G⟩:=h.ok _ o (n _ o c)
   exact ⟨Own.GC z (D _ o c),fun b a=>uP (x b a) y,G⟩
 ·rcases r i o hi with ⟨z,c⟩ | ⟨z,c⟩ <;> rcases r j o' q with ⟨x,g⟩ | ⟨x,g⟩
  ·exact k.dj i j o o' c g E u b a d
  ·exact f _ _ o o' c g b a d
  ·exact f _ _ o' o g c b d a
  ·exact h.dj _ _ o o' (n _ o c) (n _ o' g) qO u b a d
 ·obtain ⟨v,B⟩:=k.pb
  refine ⟨fun b=>Pb b∨v b,fun b a=>?_,fun b a=>?_,fun i o hi s b a p=>?_,fun i F hi=>?_⟩
  ·rcases a with a | a
   ·exact t.sub b a
   ·rcases B.sub b a with c | c
    ·exact t.sub b c
    ·exact .inr qO
  ·rcases a with a | a
   ·exact uP (t.lt b a) y
   ·exact B.lt b a
  ·rcases r i o hi with ⟨_,c⟩ | ⟨_,c⟩
   ·rcases a with a | a
    ·rcases (k.ok i o c).2.2 s b p with g | g
     ·have:=t.lt b a; omega
     ·exact (l b g).2.2.1 a
    ·exact B.dj i o c s b a p
   ·rcases a with a | a
    ·exact t.dj _ o (n _ o c) s b a p
    ·rcases B.sub b a with g | g
     ·exact t.dj _ o (n _ o c) s b g p
     ·have:=(h.ok _ o (n _ o c)).2.1 b p; omega
  ·rcases r i _ hi with ⟨_,c⟩ | ⟨_,c⟩
   ·exact (k.ok i _ c).1 v _ w' w' (fun b a=>.inr a) (fun _ _=>rfl) (B.at_ i F c)
   ·exact (h.ok _ _ (n _ _ c)).1 Pb _ w w' (fun b a=>.inl a) (fun b a=>k.fr.block b (t.lt b a) fun p=>(l b p).2.2.1 a) (t.at_ _ F (n _ _ c))
def Be {α:Type} (w:World) (A:List Own) (Pb:Nat->Prop) (mk:α->Value) (pure:α->Prop) (A':α->List Own):Ending->World->Prop:=fun e w'=>∃ z,e=.returned (mk z)∧pure z∧Mem w ⟨AX A,Pb⟩ (A' z) w'
theorem qU {α:Type} {f:Nat} {args:Array Operand} {ts:Array TypeId} {vs:List Value} {cap:Array Value} (A R:List Own) (l:α->Value) (b:α->Prop) (A':α->List Own) (y:∀ w,Mem w0 M L w->Mem w0 M (A++R) w) (q:∀ z,(A' z).all (fun o=>o.mut || o.Cu)=true)
  (m:Want N D ops E g true) (B:ev E x=some (.func (.func f) #[] cap)) (c:evs E args.toList=some vs)
  (i:∀ vs w,(callFunc f vs).run P w=.ok (.enter f vs) w) (r:Nat.blt d N=true)
  (t:∀ w k,Mem w ⟨AX A,k⟩ A w->Calls P f (vs.toArray++cap) w (Be w A k l b A'))
  (h:∀ z,b z->WL P N D ops Q rest ((d,l z)::E) (Mem w0 M (A' z++R))) :
  WL P N D ops Q (⟨some d,.call { callee:=.value x,args:=args,argTypes:=ts },ty,pos,aft,g⟩::rest) E (Mem w0 M L) :=
 u6 (Φ:=fun v w'=>∃ z,v=l z∧b z∧Mem w0 M (A' z++R) w') m B c i r (fun w j=>by
  have j:=y w j
  obtain ⟨k,p⟩:=j.pb
  exact (t w k (j.give p)).mono fun e w' ⟨z,he,n,hk⟩=>⟨l z,he,z,rfl,n,j.take p hk (q z)⟩) (fun v w m a s=>by obtain ⟨z,rfl,n,u⟩:=m; exact h z n w u a s)
theorem j0 {α:Type} {f:Nat} {args:Array Operand} {ts:Array TypeId} {vs cap:List Value} (A R:List Own) (i:α->Value) (a:α->Prop) (A' L':α->List Own) (j:∀ z,A' z++R=L' z) (p:∀ w,Mem w0 M L w->Mem w0 M (A++R) w) (l:∀ z,(A' z).all (fun o=>o.mut || o.Cu)=true)
  (q:Want N D ops E g true) (r:ev E x=some (.func (.func f) #[] cap.toArray)) (b:evs E args.toList=some vs)
  (c:∀ vs w,(callFunc f vs).run P w=.ok (.enter f vs) w) (m:Nat.blt d N=true)
  (n:∀ w e,Mem w ⟨AX A,e⟩ A w->Calls P f (vs++cap).toArray w (Be w A e i a A'))
  (h:∀ z,a z->WL P N D ops Q rest ((d,i z)::E) (Mem w0 M (L' z))) :
  WL P N D ops Q (⟨some d,.call { callee:=.value x,args:=args,argTypes:=ts },ty,pos,aft,g⟩::rest) E (Mem w0 M L) :=
 qU A R i a A' p l q r b c m (fun w e k=>by have:=n w e k; rwa [<-List.append_toArray] at this) fun z s=>by rw [j z]; exact h z s
theorem Mem.FR {α:Type} {ok:(Nat->Prop)->α->World->Prop} (a:∀ x,Loc (fun S=>ok S x)) (h:Mem w0 M L w):Mem w0 M (AS ok []::L) w:=h.yO (Av a []) fun _ _ x b=>by cases b
theorem Mem.FC {l:List zC} {d:Option Addr} {b:Nat} {a:List Label} {n:Int} (h:Mem w0 M L w) (q g:Nat) (hi:L[q]?=some (AS zC.Ok l)) (e:L[g]?=some (slP 2 zb (.slice d a.length b) a)):Mem w0 M (AS zC.Ok (l++[zC.mk ⟨d,b,a⟩ n])::L) w :=
 h.yO (Av zC.Ok.loc _) fun j f x i=>by
  rcases yl.1 i with c | c
  ·exact f.at_ q _ hi x c
  ·obtain rfl:x=zC.mk ⟨d,b,a⟩ n:=by simpa using c
   exact ⟨f.at_ g _ e⟩
theorem Mem.yz {α:Type} {L:List Own} {b:α->Value} {a:α->Prop} {A':α->List Own} (h:Mem w ⟨AX A,Pb⟩ L w') (z:α) (d:v=b z) (e:a z) (c:Mem w ⟨AX A,Pb⟩ L w'->Mem w ⟨AX A,Pb⟩ (A' z) w'):Be w A Pb b a A' (.returned v) w':=⟨z,by rw [d],e,c h⟩
theorem ql (q:Nat) {ad:Addr} {j b c:Nat} {k:Value} {cs:List Value} (vs:List Value) (m:ev E x=some (.pointer (some ((ad.add 0).add j)))) (l:L[q]?=some (BE ad cs)) (f:(cs.drop j).take b=vs) (g:vs.length=b) (i:Dh P T=true) (d:Inf P T b c k) :
  AR P N D E (Mem w0 M L) (.load T x) ty (.agg vs.toArray) :=
 jj vs m i d g fun _ h p u a=>by
  have e:((ad.add 0).add j).add p=ad.add (j + p):=by rw [add_add,add_add]; congr 1; omega
  rw [e]
  rw [<-f,List.getElem?_take] at a
  split at a
  ·exact (h.yU l).2 (j + p) u (by simpa using a)
  ·cases a
def FU {β:Type} (w:World) (P0:Nat->Prop) (mk:β->Value) (pure:β->Prop) (F:β->(Nat->Prop)->World->Prop):Ending->World->Prop:=fun e w' =>
  ∃ z Pb,e=.returned (mk z)∧pure z∧Fr no w w'∧(∀ b,Pb b->(P0 b∨w.heap.size<=b)∧b < w'.heap.size)∧F z Pb w'
theorem Tq {β:Type} {f:Nat} {args:Array Operand} {ts:Array TypeId} {vs:List Value} {cap:Array Value} (n:β->Value) (c:β->Prop) (F:β->(Nat->Prop)->World->Prop) (u:∀ z,Loc (F z)) (p:Want N D ops E g true) (G:ev E x=some (.func (.func f) #[] cap)) (i:evs E args.toList=some vs)
  (k:∀ vs w,(callFunc f vs).run P w=.ok (.enter f vs) w) (t:Nat.blt d N=true)
  (B:∀ w m,Mem w0 M L w->DP w0 M L w m->Calls P f (vs.toArray++cap) w (FU w m n c F))
  (h:∀ z,c z->WL P N D ops Q rest ((d,n z)::E) (Mem w0 M (.pub (F z)::L))) :
  WL P N D ops Q (⟨some d,.call { callee:=.value x,args:=args,argTypes:=ts },ty,pos,aft,g⟩::rest) E (Mem w0 M L) :=
 u6 (Φ:=fun v w'=>∃ z,v=n z∧c z∧Mem w0 M (.pub (F z)::L) w') p G i k t (fun w l=>by
  obtain ⟨m,r⟩:=l.pb
  refine (B w m l r).mono fun e w' ⟨z,Pb',he,q,hf,hPb,hF⟩=>⟨n z,he,z,rfl,q,?_⟩
  exact (l.Cl hf).lay' (u z) w.heap.size l.fr.size (fun j o C s b y=>(l.ok j o C).2.1 b y) (l.keepP r hf) hPb hF) (fun v w p a A=>by obtain ⟨z,rfl,q,s⟩:=p; exact h z q w s a A)
theorem Mem.uL {β:Type} {d:World} {P0:Nat->Prop} {f:β->Value} {a:β->Prop} {F:β->(Nat->Prop)->World->Prop} (h:Mem w ⟨no,P0⟩ L d) (z:β) (j:v=f z) (k:a z) (i:∀ c,DP w ⟨no,P0⟩ L d c->F z c d):FU w P0 f a F (.returned v) d:=by
 obtain ⟨c,e⟩:=h.pb;exact ⟨z,c,by rw [j],k,h.fr,fun b g=>⟨e.sub b g,e.lt b g⟩,i c e⟩
end
end Ex
end
section
structure vv where (sr:SlX yX) (sm:SlX Sum)
namespace Ex
structure vv.Ok (S:Nat->Prop) (z:vv) (w:World):Prop where
  sr:zH S 1 KB (z.sr.v) z.sr.l w
  all:∀ x ∈ z.sr.l,yX.Ok S x w
  sm:zH S 7 CK (z.sm.v) z.sm.l w
theorem vv.Ok.loc (x:vv):Loc (fun S=>vv.Ok S x):=fun S S' u u' a b h=>⟨zH.loc _ _ _ _ S S' u u' a b h.sr,fun c d=>yX.Ok.loc c S S' u u' a b (h.all c d),zH.loc _ _ _ _ S S' u u' a b h.sm⟩
structure vv.Wf (x:vv):Prop where
  sr:Ex.Wf x.sr
  sm:Ex.Wf x.sm
  all:∀ c ∈ x.sr.l,yX.Wf c
theorem vv.Ok.wf {S:Nat->Prop} {x:vv} {w:World} (h:vv.Ok S x w):vv.Wf x:=⟨zH.wf h.sr,zH.wf h.sm,fun c a=>(h.all c a).wf⟩
@[reducible] def winV (err:Int) (z:vv):Value:=.tuple #[z.sr.v,z.sm.v,.int .i64 err]
abbrev CQ:=List Match->Int->Int->List (List Label × Sum) × Int
def vv.is (z:vv) (r:List (List Label × Sum)):Prop:=z.sr.l.map (fun x=>x.sr.l)=r.map (·.1)∧z.sm.l=r.map (·.2)
structure Cx where (cs:SlX zC) (sm:SlX Sum)
structure Cx.Ok (S:Nat->Prop) (z:Cx) (w:World):Prop where
  cs:zH S 2 zu (z.cs.v) z.cs.l w
  all:∀ x ∈ z.cs.l,zC.Ok S x w
  sm:zH S 7 CK (z.sm.v) z.sm.l w
theorem Cx.Ok.loc (x:Cx):Loc (fun S=>Cx.Ok S x):=fun S S' u u' a b h=>⟨zH.loc _ _ _ _ S S' u u' a b h.cs,fun c d=>zC.Ok.loc c S S' u u' a b (h.all c d),zH.loc _ _ _ _ S S' u u' a b h.sm⟩
structure Cx.Wf (x:Cx):Prop where
  cs:Ex.Wf x.cs
  sm:Ex.Wf x.sm
  all:∀ c ∈ x.cs.l,zC.Wf c
theorem Cx.Ok.wf {S:Nat->Prop} {x:Cx} {w:World} (h:Cx.Ok S x w):Cx.Wf x:=⟨zH.wf h.cs,zH.wf h.sm,fun c a=>(h.all c a).wf⟩
@[reducible] def refV (err:Int) (z:Cx):Value:=.tuple #[z.cs.v,z.sm.v,.int .i64 err]
def Cx.is (z:Cx) (r:List (List Label × Sum)):Prop:=z.cs.l.map (fun x=>x.sr.l)=r.map (·.1)∧z.sm.l=r.map (·.2)
section
variable {P:Program} {N:Nat} {D:List Deferred} {E:Env} {S S':World->Prop} {Q:Exit->Act->World->Prop} {K:Act->World->Prop} {w0 w w':World} {M:Fp} {L L':List Own}
  {ops:Array Oper} {rest:List Oper} {d:Nat} {ty T:TypeId} {pos:String} {aft:Array Edge} {g:Option (Nat × Bool)} {v u:Value} {x y:Operand} {α:Type} {ok:(Nat->Prop)->α->World->Prop} {F G:(Nat->Prop)->World->Prop}
theorem vd {p:Prop} (q:Nat) (b:L[q]?=some (.pub F)) (c:∀ S w,F S w->p) (h:p->WL P N D ops Q rest E (Mem w0 M L)):WL P N D ops Q rest E (Mem w0 M L):=fun w a=>h (c _ _ (a.yU b)) w a
theorem qx {b:Code} {p:Prop} (q:Nat) (c:L[q]?=some (.pub F)) (d:∀ S w,F S w->p) (h:p->WC P N D b Q E (Mem w0 M L)):WC P N D b Q E (Mem w0 M L):=fun w a=>h (d _ _ (a.yU c)) w a
theorem vP {β:Type} {f:Nat} {args:Array Operand} {ts:Array TypeId} {vs:List Value} (i:β->Value) (a:β->Prop) (F:β->(Nat->Prop)->World->Prop) (m:∀ z,Loc (F z)) (o:Want N D ops E g true) (b:evs E args.toList=some vs)
  (c:∀ vs w,(callFunc f vs).run P w=.ok (.enter f vs) w) (j:Nat.blt d N=true)
  (n:∀ w e,Mem w0 M L w->DP w0 M L w e->Calls P f vs.toArray w (FU w e i a F))
  (h:∀ z,a z->WL P N D ops Q rest ((d,i z)::E) (Mem w0 M (.pub (F z)::L))) :
  WL P N D ops Q (⟨some d,.call { callee:=.value (.func f),args:=args,argTypes:=ts },ty,pos,aft,g⟩::rest) E (Mem w0 M L) :=
 Tq i a F m o (cap:=#[]) (by rfl) b c j (fun w e k l=>by simpa only [Array.append_empty] using n w e k l) h
theorem Mem.winX (h:Mem w0 M L w) (q:Nat) {e:vv} (hi:L[q]?=some (.pub (fun S=>vv.Ok S e))):Mem w0 M (slP 1 KB (e.sr.v) e.sr.l::AS yX.Ok e.sr.l::slP 7 CK (e.sm.v) e.sm.l::L) w:=by
 have b:=h.imp q hi (zH.loc 7 CK _ e.sm.l) fun _ a=>vv.Ok.sm a;have c:=b.imp (q + 1) hi (Av yX.Ok.loc e.sr.l) fun _ a=>vv.Ok.all a;exact c.imp (q + 2) hi (zH.loc 1 KB _ e.sr.l) fun _ a=>vv.Ok.sr a
theorem Mem.refX (h:Mem w0 M L w) (q:Nat) {e:Cx} (hi:L[q]?=some (.pub (fun S=>Cx.Ok S e))):Mem w0 M (slP 2 zu (e.cs.v) e.cs.l::AS zC.Ok e.cs.l::slP 7 CK (e.sm.v) e.sm.l::L) w:=by
 have b:=h.imp q hi (zH.loc 7 CK _ e.sm.l) fun _ a=>Cx.Ok.sm a;have c:=b.imp (q + 1) hi (Av zC.Ok.loc e.cs.l) fun _ a=>Cx.Ok.all a;exact c.imp (q + 2) hi (zH.loc 2 zu _ e.cs.l) fun _ a=>Cx.Ok.cs a
theorem Mem.Fw {l:List α} {a:α} (h:Mem w0 M L w) (q e:Nat) (f:∀ x,Loc (fun S=>ok S x)) (hi:L[q]?=some (AS ok l)) (c:L[e]?=some (okP ok a)):Mem w0 M (AS ok (l++[a])::L) w :=
 h.yO (Av f _) fun i d x g=>by
  rcases yl.1 g with b | b
  ·exact d.at_ q _ hi x b
  ·rw [yf.1 b]; exact d.at_ e _ c
theorem Mem.No {l:List yX} {d:Option Addr} {b:Nat} {a:List Label} (h:Mem w0 M L w) (q g:Nat) (hi:L[q]?=some (AS yX.Ok l)) (e:L[g]?=some (slP 2 zb (.slice d a.length b) a)):Mem w0 M (AS yX.Ok (l++[yX.mk ⟨d,b,a⟩])::L) w :=
 h.yO (Av yX.Ok.loc _) fun j f x i=>by
  rcases yl.1 i with c | c
  ·exact f.at_ q _ hi x c
  ·obtain rfl:x=yX.mk ⟨d,b,a⟩:=by simpa using c
   exact ⟨f.at_ g _ e⟩
end
theorem Mem.celAt {α:Type} {d w:World} {M:Fp} {L:List Own} {k b c i:Nat} {enc:α->List Value} {l:List α} {A:Option Addr} {ad:Addr} {a:α} (h:Mem d M L w) (q:Nat) (g:L[q]?=some (slP k enc (.slice A b c) l)) (f:A=some ad) (hi:l[i]?=some a):Mem d M (BE (ad.add (i * k)) (enc a)::L) w :=
 h.yO (ve.loc _ _) fun _ e=>cel_of (e.at_ q _ g) f hi
end Ex
end
section
abbrev wr (n:Int):Int:=IntKind.wrap .i64 n
instance:Inhabited Sum:=⟨⟨0,0,0,0,0,0,0⟩⟩
def Sum.zero:Sum:=⟨0,0,0,0,0,0,0⟩
theorem PA (n:Int):wr n=if n % 18446744073709551616 ≥ 9223372036854775808 then n % 18446744073709551616 - 18446744073709551616 else n % 18446744073709551616:=by
 simp [wr,IntKind.wrap,IntKind.bits,IntKind.signed]
theorem Ei {n:Int} (h1:-9223372036854775808<=n) (h2:n<=9223372036854775807):wr n=n:=by
 rw [PA]; split <;> omega
theorem wr_mod (n:Int):∃ q:Int,wr n=n + 18446744073709551616 * q:=by
 rw [PA];have:=Int.emod_add_mul_ediv n 18446744073709551616;split;exact ⟨-(n / 18446744073709551616) - 1,by omega⟩;exact ⟨-(n / 18446744073709551616),by omega⟩
theorem Of (n:Int):-9223372036854775808<=wr n∧wr n<=9223372036854775807:=by
 rw [PA]; split <;> omega
theorem Pc {m n q:Int} (h:m=n + 18446744073709551616 * q):wr m=wr n:=by
 rw [PA,PA];have:m % 18446744073709551616=n % 18446744073709551616:=by rw [h]; exact Int.add_mul_emod_self_left ..
 rw [this]
theorem wr_l (a b:Int):wr (wr a + b)=wr (a + b):=by
 obtain ⟨q,h⟩:=wr_mod a;exact Pc (q:=q) qO
theorem wr_r (a b:Int):wr (a + wr b)=wr (a + b):=by
 obtain ⟨q,h⟩:=wr_mod b;exact Pc (q:=q) qO
theorem List.AY {α:Type} {motive:List α->Prop} (l:List α) (nil:motive []) (snoc:∀ l x,motive l->motive (l++[x])):motive l:=by
  have:∀ n,∀ l:List α,l.length=n->motive l:=by
    intro n
    induction n with
    | zero=>intro l h; rw [List.eq_nil_of_length_eq_zero h]; exact nil
    | succ n ih =>
      intro l h
      have hne:l≠[]:=by rintro rfl; simp at h
      rw [<-List.dropLast_concat_getLast hne]
      exact snoc _ _ (ih _ (by simp; omega))
  exact this _ l rfl
namespace Agg
def Ap (a b:Int):Int:=if b < a then b else wr (b - a)
def one (v:Int):Sum:=⟨1,v,v,v,v,v,0⟩
def join (a b:Sum):Sum :=
  if a.count=0 then b else if b.count=0 then a else
  ⟨wr (a.count + b.count),wr (a.total + b.total),if b.min < a.min then b.min else a.min,if a.max < b.max then b.max else a.max,a.first,b.last,wr (wr (a.Ap + Ap a.last b.first) + b.Ap)⟩
def of (l:List AA):Sum:=l.foldl (fun s x=>join s (one x.value)) Sum.zero
theorem OG (l:List AA) (k:Nat) (x:AA) (h:l[k]?=some x):of (l.take (k + 1))=join (of (l.take k)) (one x.value):=by
 unfold of;rw [List.take_add_one,h];simp
def words:List ByteArray:=[⟨#[97,118,103]⟩,⟨#[99,111,117,110,116]⟩,⟨#[102,105,114,115,116]⟩,⟨#[108,97,115,116]⟩,⟨#[109,97,120]⟩,⟨#[109,105,110]⟩,⟨#[114,105,115,101]⟩,⟨#[115,117,109]⟩]
def value (word:ByteArray) (s:Sum):Int × Bool :=
  if s.count < 1 then (0,false) else
  if word=⟨#[97,118,103]⟩ then (wr (Int.tdiv s.total s.count),true) else
  if word=⟨#[99,111,117,110,116]⟩ then (s.count,true) else
  if word=⟨#[102,105,114,115,116]⟩ then (s.first,true) else
  if word=⟨#[108,97,115,116]⟩ then (s.last,true) else
  if word=⟨#[109,97,120]⟩ then (s.max,true) else
  if word=⟨#[109,105,110]⟩ then (s.min,true) else
  if word=⟨#[114,105,115,101]⟩ then (s.Ap,true) else
  if word=⟨#[115,117,109]⟩ then (s.total,true) else
  (0,false)
theorem join_none (a:Sum):join a ⟨0,0,0,0,0,0,0⟩=if a.count=0 then ⟨0,0,0,0,0,0,0⟩ else a:=by rfl
theorem Un (a:Sum):join ⟨0,0,0,0,0,0,0⟩ a=a:=by simp [join]
theorem Dt {a b:Sum} (ha:0<=a.count) (hb:0<=b.count) (h:a.count + b.count<=9223372036854775807):(join a b).count=a.count + b.count:=by
 unfold join;split;omega;split;omega;exact Ei qO qO
theorem min_assoc (a b c:Int):(if (if c < b then c else b) < a then (if c < b then c else b) else a)=(if c < (if b < a then b else a) then c else (if b < a then b else a)):=by omega
theorem max_assoc (a b c:Int):(if a < (if b < c then c else b) then (if b < c then c else b) else a)=(if (if a < b then b else a) < c then c else (if a < b then b else a)):=by omega
theorem join_assoc {a b c:Sum} (ha:0<=a.count) (hb:0<=b.count) (hc:0<=c.count) (h:a.count + b.count + c.count<=9223372036854775807):join a (join b c)=join (join a b) c:=by
  by_cases a0:a.count=0
  · have h1:∀ x,join a x=x:=fun x=>by unfold join; rw [if_pos a0]
    rw [h1,h1]
  by_cases b0:b.count=0
  · have h1:join b c=c:=by unfold join; rw [if_pos b0]
    have h2:join a b=a:=by unfold join; rw [if_neg a0,if_pos b0]
    rw [h1,h2]
  by_cases c0:c.count=0
  · have h1:∀ x,x.count≠0->join x c=x:=fun x hx=>by unfold join; rw [if_neg hx,if_pos c0]
    rw [h1 b b0,h1 (join a b) (by rw [Dt ha hb qO]; omega)]
  have e1:join b c=⟨wr (b.count + c.count),wr (b.total + c.total),if c.min < b.min then c.min else b.min,if b.max < c.max then c.max else b.max,b.first,c.last,wr (wr (b.Ap + Ap b.last c.first) + c.Ap)⟩:=by
    unfold join; rw [if_neg b0,if_neg c0]
  have e2:join a b=⟨wr (a.count + b.count),wr (a.total + b.total),if b.min < a.min then b.min else a.min,if a.max < b.max then b.max else a.max,a.first,b.last,wr (wr (a.Ap + Ap a.last b.first) + b.Ap)⟩:=by
    unfold join; rw [if_neg a0,if_neg b0]
  have n1:wr (b.count + c.count)≠0:=by rw [Ei qO qO]; omega
  have n2:wr (a.count + b.count)≠0:=by rw [Ei qO qO]; omega
  rw [e1,e2]
  unfold join
  rw [if_neg a0,if_neg n1,if_neg n2,if_neg c0]
  simp only [Sum.mk.injEq,wr_l,wr_r,min_assoc,max_assoc,true_and]
  refine ⟨by rw [Int.add_assoc],by rw [Int.add_assoc],?_⟩
  congr 1
  omega
theorem of_nil:of []=⟨0,0,0,0,0,0,0⟩:=rfl
theorem EY (l:List AA) (x:AA):of (l++[x])=join (of l) (one x.value):=by simp [of]
theorem Fe:∀ (l:List AA),l.length<=9223372036854775807->(of l).count=l.length:=by
  intro l
  induction l using List.AY with
  | nil=>intro _; rfl
  | snoc l x ih =>
    intro h
    have hl:(l++[x]).length=l.length + 1:=qS
    rw [hl] at h
    have h1:=ih qO
    rw [EY,Dt qO (by simp [one]) (by simp [one]; omega),h1,hl]
    simp [one]
theorem Tw (a b:List AA) (h:a.length + b.length<=9223372036854775807):of (a++b)=join (of a) (of b):=by
  induction b using List.AY with
  | nil =>
    rw [List.append_nil,of_nil,join_none]
    split
    · have:=Fe a (by simpa using h)
      have:a=[]:=List.eq_nil_of_length_eq_zero qO
      subst this; rfl
    · rfl
  | snoc b x ih =>
    have hl:(b++[x]).length=b.length + 1:=qS
    rw [hl] at h
    have h1:=Fe a qO
    have h2:=Fe b qO
    rw [<-List.append_assoc,EY,EY,ih qO,join_assoc qO qO (by simp [one]) (by simp [one]; omega)]
def rst (l:List AA) (a z:Int) (k:Nat):Sum:=if k=0 then ⟨l.length,0,a,a,a,z,0⟩ else ⟨l.length,(of (l.take k)).total,(of (l.take k)).min,(of (l.take k)).max,a,z,(of (l.take k)).Ap⟩
theorem Nz (x:AA):of [x]=one x.value:=by rfl
theorem Oi:∀ (l:List AA) (a z:AA),l.length<=9223372036854775807->l[0]?=some a->l[l.length - 1]?=some z->(of l).first=a.value∧(of l).last=z.value:=by
  intro l
  induction l using List.AY with
  | nil=>intro a z _ h _; simp at h
  | snoc l x ih =>
    intro a z hl h0 h1
    have hlen:(l++[x]).length=l.length + 1:=qS
    rw [hlen] at hl
    have hx:x=z:=by simpa using h1
    subst hx
    by_cases hne:l=[]
    · subst hne
      have:x=a:=by simpa using h0
      subst this
      rw [List.nil_append,Nz]; exact ⟨rfl,rfl⟩
    · have hp:=List.length_pos_iff.2 hne
      rw [List.getElem?_append_left hp] at h0
      obtain ⟨y,hy⟩:∃ y,l[l.length - 1]?=some y:=⟨_,List.getElem?_eq_getElem qO⟩
      have h2:=(ih a y qO h0 hy).1
      have hc:=Fe l qO
      rw [EY]; unfold join; rw [if_neg qO,if_neg (by simp [one])]
      exact ⟨h2,rfl⟩
theorem UN {l:List AA} {z:Int} {x:AA} (hx:l[0]?=some x) (ho:-9223372036854775808<=x.value∧x.value<=9223372036854775807):rst l x.value z (0 + 1)=⟨(rst l x.value z 0).count,wr ((rst l x.value z 0).total + x.value),if x.value < (rst l x.value z 0).min then x.value else (rst l x.value z 0).min,if (rst l x.value z 0).max < x.value then x.value else (rst l x.value z 0).max,(rst l x.value z 0).first,(rst l x.value z 0).last,(rst l x.value z 0).Ap⟩:=by
 have e:l.take (0 + 1)=[x]:=by rw [List.take_add_one,hx]; rfl
 unfold rst;rw [if_neg qO,e,Nz,if_pos rfl];have:=Ei ho.1 ho.2;simp [one,this]
theorem WB {l:List AA} {z:Int} {a x:AA} {k:Nat} (hk:k=0) (ha:l[0]?=some a) (hx:l[k]?=some x) (ho:∀ x ∈ l,-9223372036854775808<=x.value∧x.value<=9223372036854775807):rst l a.value z (k + 1)=⟨(rst l a.value z k).count,wr ((rst l a.value z k).total + x.value),if x.value < (rst l a.value z k).min then x.value else (rst l a.value z k).min,if (rst l a.value z k).max < x.value then x.value else (rst l a.value z k).max,(rst l a.value z k).first,(rst l a.value z k).last,(rst l a.value z k).Ap⟩:=by
 subst hk;obtain rfl:a=x:=Option.some.inj (ha.symm.trans hx);exact UN ha (ho _ (List.mem_of_getElem? ha))
theorem WM {l:List AA} {a z:Int} {k:Nat} {p x:AA} (hk:0 < k) (hl:l.length<=9223372036854775807) (hp:l[k - 1]?=some p) (hx:l[k]?=some x):rst l a z (k + 1)=⟨(rst l a z k).count,wr ((rst l a z k).total + x.value),if x.value < (rst l a z k).min then x.value else (rst l a z k).min,if (rst l a z k).max < x.value then x.value else (rst l a z k).max,(rst l a z k).first,(rst l a z k).last,wr ((rst l a z k).Ap + Ap p.value x.value)⟩:=by
 have hk2:k < l.length:=(List.getElem?_eq_some_iff.1 hx).1;have hlen:(l.take k).length=k:=by simp; omega
 have hc:=Fe (l.take k) qO;obtain ⟨y,hy⟩:∃ y,(l.take k)[0]?=some y:=⟨_,List.getElem?_eq_getElem qO⟩;have hz:(l.take k)[(l.take k).length - 1]?=some p:=by rw [hlen,List.getElem?_take,if_pos qO]; exact hp
 have hf:=(Oi (l.take k) y p qO hy hz).2;unfold rst;rw [if_neg qO,if_neg qO,OG l k x hx];unfold join;rw [if_neg qO,if_neg (by simp [one])];simp only [one,hf,Int.add_zero,Sum.mk.injEq,true_and];exact ⟨by congr,by congr,Ei (Of _).1 (Of _).2⟩
theorem Wo {l:List AA} {a z:AA} (hl:l.length<=9223372036854775807) (ha:l[0]?=some a) (hz:l[l.length - 1]?=some z):rst l a.value z.value l.length=of l:=by
 have hk:0 < l.length:=(List.getElem?_eq_some_iff.1 ha).1;have h:=Oi l a z hl ha hz;have hc:=Fe l hl;unfold rst;rw [if_neg qO,List.take_length,<-h.1,<-h.2,<-hc]
theorem rst_end {l:List AA} {a z:AA} {k:Nat} (h1:k<=l.length) (h2:l.length<=k) (hl:l.length<=9223372036854775807) (ha:l[0]?=some a) (hz:l[l.length - 1]?=some z):rst l a.value z.value k=of l:=by
 rw [show k=l.length by omega,Wo hl ha hz]
end Agg
namespace Codec
def DW (s:AA):Prop:=s.time < 0∨1000000 < s.time∨s.value < -1000000000∨1000000000 < s.value
instance (s:AA):Decidable (DW s):=by unfold DW; infer_instance
def Da (prev:Option AA) (s:AA):Bool:=match prev with
  | some p=>decide (s.time<=p.time)
  | none=>false
def AP:Nat->Option AA->List AA->LJ
  | _,_,[]=>⟨0,0⟩
  | k,prev,s::r=>if DW s then ⟨3,k⟩ else if Da prev s then ⟨2,k⟩ else AP (k + 1) (some s) r
def AE (l:List AA):LJ:=if 500 < l.length then ⟨5,0⟩ else AP 0 none l
end Codec
end
section
namespace Roll
def step (AG:Int):Int:=if AG=1 then 10 else if AG=2 then 60 else 0
def at' (t step:Int):Int:=wr (t - Int.tmod t step)
def add (l:List AB) (t step:Int) (s:Sum):List AB:=match l.getLast? with
  | some b=>if b.at_=at' t step then l.set (l.length - 1) ⟨b.at_,Agg.join b.sum s⟩ else l++[⟨at' t step,s⟩]
  | none=>l++[⟨at' t step,s⟩]
def ups (l:List AA) (step:Int):List AB:=l.foldl (fun b s=>add b s.time step (Agg.one s.value)) []
def up (l:List AA) (AG:Int):List AB:=if step AG=0 then [] else ups l (step AG)
def AU (l:List AB):List AB:=l.foldl (fun b x=>add b x.at_ 60 x.sum) []
def of (l:List AB) (frm to:Int):Sum:=l.foldl (fun s b=>if frm<=b.at_∧b.at_ < to then Agg.join s b.sum else s) Sum.zero
theorem Vz (l:List AA) (st:Int) (k:Nat) (x:AA) (h:l[k]?=some x):ups (l.take (k + 1)) st=add (ups (l.take k) st) x.time st (Agg.one x.value):=by
 unfold ups; rw [vE,h]; simp
theorem NX (l:List AB) (k:Nat) (x:AB) (h:l[k]?=some x):AU (l.take (k + 1))=add (AU (l.take k)) x.at_ 60 x.sum:=by
 unfold AU; rw [vE,h]; simp
theorem of_succ (l:List AB) (f t:Int) (k:Nat) (x:AB) (h:l[k]?=some x):of (l.take (k + 1)) f t=if f<=x.at_∧x.at_ < t then Agg.join (of (l.take k) f t) x.sum else of (l.take k) f t:=by
 unfold of; rw [vE,h]; simp
theorem SJ (l:List AB) (t st:Int) (s:Sum):(add l t st s).length<=l.length + 1:=by
 unfold add; split;split <;> simp;simp
theorem SW (l:List AA) (st:Int):(ups l st).length<=l.length:=by
 induction l using List.AY with
 | nil=>simp [ups]
 | snoc l x ih =>
  have e:ups (l++[x]) st=add (ups l st) x.time st (Agg.one x.value):=by simp [ups]
  have:=SJ (ups l st) x.time st (Agg.one x.value)
  rw [e,uF]; simp only [gP,List.length_nil]; omega
theorem Gp (l:List AB):(AU l).length<=l.length:=by
 induction l using List.AY with
 | nil=>simp [AU]
 | snoc l x ih =>
  have e:AU (l++[x])=add (AU l) x.at_ 60 x.sum:=by simp [AU]
  have:=SJ (AU l) x.at_ 60 x.sum
  rw [e,uF]; simp only [gP,List.length_nil]; omega
theorem JW (l:List AA) (t:Int):(up l t).length<=l.length:=by
 unfold up; split;simp;exact SW _ _
theorem Vs {l:List AB} {b:AB} {t st:Int} {s:Sum} (h:l[l.length - 1]?=some b) (he:b.at_=at' t st):l.set (l.length - 1) ⟨b.at_,Agg.join b.sum s⟩=add l t st s:=by
 unfold add; rw [List.getLast?_eq_getElem?,h]; simp [he]
theorem add_new {l:List AB} {b:AB} {t st:Int} {s:Sum} (h:l[l.length - 1]?=some b) (he:¬ b.at_=at' t st):l++[⟨at' t st,s⟩]=add l t st s:=by
 unfold add; rw [List.getLast?_eq_getElem?,h]; simp [he]
theorem add_nil {l:List AB} {t st:Int} {s:Sum} (h:¬ 0<=(l.length:Int) - 1):l++[⟨at' t st,s⟩]=add l t st s:=by
 have:l=[]:=jb qO;subst this; rfl
end Roll
namespace Codec
def BC (l:List AA) (k:Nat):Option AA:=if k=0 then none else l[k - 1]?
theorem CM (l:List AA):AP 0 none l=AP 0 (BC l 0) (l.drop 0):=by rfl
theorem Aa {l:List AA} {k:Nat} {s:AA} (h:l[k]?=some s):AP k (BC l k) (l.drop k)=if DW s then ⟨3,k⟩ else if Da (BC l k) s then ⟨2,k⟩ else AP (k + 1) (BC l (k + 1)) (l.drop (k + 1)):=by
 obtain ⟨a,e⟩:=yb.1 h;rw [uI a,e];have:BC l (k + 1)=some s:=by unfold BC; rw [zI qO]; simpa using h
 rw [this]; rfl
theorem BG {l:List AA} {k:Nat} {p:Option AA} (h:l.length<=k):AP k p (l.drop k)=⟨0,0⟩:=by
 rw [vw h]; rfl
end Codec
theorem HV {α:Type} {a b:List α} {k:Nat} {x y:α} (h:a.take k=b.take k) (c:a[k]?=some x) (d:b[k]?=some y) (e:x=y):a.take (k + 1)=b.take (k + 1):=by
 rw [vE,vE,c,d,h,e]
theorem US {α:Type} {a b:List α} {k:Nat} (d:a.length<=k) (c:b.length<=k) (h:a.take k=b.take k):a=b:=by
 rwa [vg d,vg c] at h
end
section
namespace zF
structure IQ {α:Type} (f:α->α->Int):Prop where
  anti:∀ a b,f b a=-f a b
  zero:∀ a b,f a b=0↔a=b
  trans:∀ a b c,f a b < 0->f b c < 0->f a c < 0
theorem IQ.refl {α:Type} {f:α->α->Int} (h:IQ f) (a:α):f a a=0:=(h.zero a a).2 rfl
theorem IQ.lex {α β:Type} {f:α->α->Int} {g:β->β->Int} (j:IQ f) (m:IQ g):IQ (fun (a b:α × β)=>if f a.1 b.1≠0 then f a.1 b.1 else g a.2 b.2):=by
 refine ⟨fun a b=>?_,fun a b=>?_,fun a b c e d=>?_⟩;have e:=j.anti a.1 b.1;have d:=m.anti a.2 b.2;split <;> split <;> omega;have e:=j.zero a.1 b.1;have d:=m.zero a.2 b.2;constructor;intro h;split at h;contradiction;rename_i n;exact Prod.ext (e.1 (ym.1 n)) (d.1 h);rintro rfl;rw [zI (by simp [e.2 rfl]),d.2 rfl];by_cases k:f a.1 b.1=0;have l:=(j.zero _ _).1 k;rw [zI (by simp [k])] at e;rw [l];by_cases i:f b.1 c.1=0;rw [zI (by simp [i])] at d ⊢;exact m.trans _ _ _ e d;rw [zP i] at d ⊢; exact d;rw [zP k] at e;by_cases i:f b.1 c.1=0;rw [<-(j.zero _ _).1 i,zP k]; exact e;rw [zP i] at d;have o:=j.trans _ _ _ e d;rw [zP qO]; exact o
theorem JO:∀ a:List UInt8,Op.bytesLess a a=false
 | []=>rfl
 | x :: a => by
  have h1:¬ x < x:=fun k=>by have:=UInt8.lt_iff_toNat_lt.1 k; omega
  simp [Op.bytesLess,h1,JO a]
theorem Km:∀ a b c:List UInt8,Op.bytesLess a b=true->Op.bytesLess b c=true->Op.bytesLess a c=true
 | [],_,[],_,h=>by cases ‹List UInt8› <;> simp [Op.bytesLess] at h
 | [],_,_::_,_,_=>by simp [Op.bytesLess]
 | _::_,[],_,h,_=>by simp [Op.bytesLess] at h
 | _::_,_::_,[],_,h=>by simp [Op.bytesLess] at h
 | x :: a, y :: b, z :: c, h1, h2 => by
  simp only [Op.bytesLess,Bool.or_eq_true,decide_eq_true_eq,Bool.and_eq_true,beq_iff_eq,UInt8.lt_iff_toNat_lt] at *
  rcases h1 with h1 | ⟨rfl,h1⟩
  ·rcases h2 with h2 | ⟨rfl,h2⟩
   ·left; omega
   ·left; exact h1
  ·rcases h2 with h2 | ⟨rfl,h2⟩
   ·left; exact h2
   ·right; exact ⟨rfl,Km a b c h1 h2⟩
def DQ (a b:ByteArray):Int:=if Ex.CH a b=true then -1 else if Ex.CH b a=true then 1 else 0
theorem Sg:IQ DQ:=by
 have j:∀ a b:ByteArray,Ex.CH a b=false->Ex.CH b a=false->a=b:=by
  intro a b d e
  have:=Ex.Ke a b
  have h:Op.bytesLess a.toList b.toList=false:=d
  rw [e,h] at this
  simpa using this
 have g:∀ a b:ByteArray,Ex.CH a b=true->Ex.CH b a=true->False:=by
  intro a b d e
  have:=Km _ _ _ d e
  rw [JO] at this; cases this
 have i:∀ a:ByteArray,Ex.CH a a=false:=fun a=>JO _
 refine ⟨fun a b=>?_,fun a b=>?_,fun a b c d e=>?_⟩
 ·unfold DQ
  cases d:Ex.CH a b <;> cases e:Ex.CH b a <;> simp
  exact g a b d e
 ·constructor
  ·unfold DQ
   cases d:Ex.CH a b <;> cases e:Ex.CH b a <;> simp
   exact j a b d e
  ·rintro rfl
   unfold DQ; simp [i]
 ·have f:∀ a b,DQ a b < 0->Ex.CH a b=true:=by
   intro a b
   unfold DQ
   cases d:Ex.CH a b <;> cases e:Ex.CH b a <;> simp
  have:Ex.CH a c=true:=Km _ _ _ (f _ _ d) (f _ _ e)
  unfold DQ; simp [this]
def JP (x y:Label):Int:=if DQ x.key y.key≠0 then DQ x.key y.key else DQ x.val y.val
theorem IH:IQ JP:=by
 have h:=Sg.lex Sg;exact ⟨fun a b=>h.anti (a.key,a.val) (b.key,b.val),fun a b=>(h.zero (a.key,a.val) (b.key,b.val)).trans ⟨fun e=>by cases a; cases b; simp at e; simp [e],fun e=>by rw [e]⟩,fun a b c=>h.trans (a.key,a.val) (b.key,b.val) (c.key,c.val)⟩
def orI:List Int->Int
  | []=>0
  | x::l=>if x≠0 then x else orI l
theorem Se (a b:Int):orI [a,b]=if a≠0 then a else b:=by
 simp only [orI]; split;rfl;split <;> simp_all
theorem TO {l:List Int} {k:Nat} {x:Int} (h:l[k]?=some x):orI (l.drop k)=if x≠0 then x else orI (l.drop (k + 1)):=by
 obtain ⟨a,rfl⟩:=yb.1 h;rw [uI a,orI]
theorem or_end {l:List Int} {k:Nat} (h:l.length<=k):orI (l.drop k)=0:=by
 rw [vw h,orI]
def compare:List Label->List Label->Int
  | [],[]=>0
  | [],_::_=>-1
  | _::_,[]=>1
  | x::a,y::b=>if JP x y≠0 then JP x y else compare a b
theorem Bf:IQ compare:=by
 refine ⟨?_,?_,?_⟩
 ·intro a
  induction a with
  | nil=>intro b; cases b <;> simp [compare]
  | cons x a ih =>
   intro b
   cases b with
   | nil=>simp [compare]
   | cons y b =>
    have e:=IH.anti x y
    have d:=ih b
    simp only [compare]
    split <;> split <;> omega
 ·intro a
  induction a with
  | nil=>intro b; cases b <;> simp [compare]
  | cons x a ih =>
   intro b
   cases b with
   | nil=>simp [compare]
   | cons y b =>
    have e:=IH.zero x y
    have d:=ih b
    simp only [compare,List.cons.injEq]
    constructor
    ·intro h
     split at h
     ·contradiction
     ·rename_i i
      exact ⟨e.1 (ym.1 i),d.1 h⟩
    ·rintro ⟨rfl,rfl⟩
     rw [zI (by simp [e.2 rfl]),d.2 rfl]
 ·intro a
  induction a with
  | nil=>intro b c e d; cases b <;> cases c <;> simp_all [compare]
  | cons x a ih =>
   intro b c e d
   cases b with
   | nil=>simp [compare] at e
   | cons y b =>
    cases c with
    | nil=>simp [compare] at d
    | cons z c =>
     simp only [compare] at *
     by_cases g:JP x y=0
     ·obtain rfl:=(IH.zero _ _).1 g
      rw [zI (by simp [g])] at e
      by_cases f:JP x z=0
      ·rw [zI (by simp [f])] at d ⊢
       exact ih b c e d
      ·rw [zP f] at d ⊢; exact d
     ·rw [zP g] at e
      by_cases f:JP y z=0
      ·obtain rfl:=(IH.zero _ _).1 f
       rw [zP g]; exact e
      ·rw [zP f] at d
       have j:=IH.trans _ _ _ e d
       rw [zP qO]; exact j
theorem DS {a b:List Label} {k:Nat} {x y:Label} (d:a[k]?=some x) (f:b[k]?=some y):compare (a.drop k) (b.drop k)=if JP x y≠0 then JP x y else compare (a.drop (k + 1)) (b.drop (k + 1)):=by
 obtain ⟨c,rfl⟩:=yb.1 d;obtain ⟨e,rfl⟩:=yb.1 f;rw [uI c,uI e,compare]
theorem IS {a b:List Label} {k:Nat} {x:Label} (d:a[k]?=some x) (e:b.length<=k):compare (a.drop k) (b.drop k)=1:=by
 obtain ⟨c,rfl⟩:=yb.1 d;rw [uI c,vw e,compare]
theorem FD {a b:List Label} {k:Nat} (c:a.length<=k) (d:k<=a.length):compare (a.drop k) (b.drop k)=if a.length < b.length then -1 else 0:=by
 rw [vw c];split;rw [uI qO,compare];rw [vw qO,compare]
def get:List Label->ByteArray->ByteArray × Bool
  | [],_=>(⟨#[]⟩,false)
  | x::r,key=>if x.key=key then (x.val,true) else get r key
theorem Bw {l:List Label} {k:Nat} {x:Label} {a:ByteArray} (c:l[k]?=some x):get (l.drop k) a=if x.key=a then (x.val,true) else get (l.drop (k + 1)) a:=by
 obtain ⟨b,rfl⟩:=yb.1 c;rw [uI b,get]
theorem get_end {l:List Label} {k:Nat} {a:ByteArray} (h:l.length<=k):get (l.drop k) a=(⟨#[]⟩,false):=by
 rw [vw h,get]
def Aq (s:List Label) (m:Match):Bool :=
  if m.kind=1 then (get s m.key).2 && decide ((get s m.key).1=m.val)
  else if m.kind=2 then !(get s m.key).2 || decide ((get s m.key).1≠m.val)
  else if m.kind=3 then (get s m.key).2
  else if m.kind=4 then !(get s m.key).2
  else false
def yG (s:List Label) (l:List Match):Bool:=l.all (Aq s)
theorem Am {s:List Label} {l:List Match} {k:Nat} {m:Match} (a:l[k]?=some m) (h:Aq s m=false):yG s l=false:=by
 unfold yG;rw [List.all_eq_false];exact ⟨m,vQ a,by simp [h]⟩
theorem Ah {s:List Label} {l:List Match} {k:Nat} {m:Match} (d:l[k]?=some m) (h:Aq s m=true) (b:∀ x ∈ l.take k,Aq s x=true):∀ x ∈ l.take (k + 1),Aq s x=true:=by
 rw [vE,d];intro x c;rcases yl.1 c with a | a
 exact b x a;obtain rfl:x=m:=by simpa using a
 exact h
theorem IX {s:List Label} {l:List Match} {k:Nat} (b:l.length<=k) (a:∀ x ∈ l.take k,Aq s x=true):yG s l=true:=by
 rw [vg b] at a;exact List.all_eq_true.2 a
def indexOf:List ByteArray->ByteArray->Nat->Int
  | [],_,_=>-1
  | x::l,v,i=>if v=x then i else indexOf l v (i + 1)
theorem GB {l:List ByteArray} {k:Nat} {x v:ByteArray} (h:l[k]?=some x):indexOf (l.drop k) v k=if v=x then (k:Int) else indexOf (l.drop (k + 1)) v (k + 1):=by
 obtain ⟨a,rfl⟩:=yb.1 h;rw [uI a,indexOf]
theorem Ms {l:List ByteArray} {k:Nat} {v:ByteArray} (h:l.length<=k):indexOf (l.drop k) v k=-1:=by
 rw [vw h,indexOf]
theorem Fq:∀ (l:List ByteArray) (v:ByteArray) (i:Nat),0<=indexOf l v i↔v ∈ l
 | [],v,i=>by simp [indexOf]
 | x :: l, v, i => by
  rw [indexOf]
  split
  ·rename_i h; simp [h]
  ·rename_i h; rw [Fq l v (i + 1),List.mem_cons]; exact ⟨.inr,fun g=>g.resolve_left h⟩
def only (s:List Label) (by_:List ByteArray):List Label:=s.filter (fun l=>decide (0<=indexOf by_ l.key 0))
theorem HB {l:List Label} {by_:List ByteArray} {k:Nat} {x:Label} (h:l[k]?=some x):only (l.take (k + 1)) by_=if 0<=indexOf by_ x.key 0 then only (l.take k) by_++[x] else only (l.take k) by_:=by
 unfold only;rw [vE,h,List.filter_append];split;rename_i a; simp [a];rename_i a; simp [a]
theorem IE (l:List Label) (by_:List ByteArray):(only l by_).length<=l.length:=List.length_filter_le ..
theorem Nb {l:List ByteArray} {k:Nat} {x v:ByteArray} (h:v ∉ l.take k) (hx:l[k]?=some x) (hne:¬ x=v):v ∉ l.take (k + 1):=by
 rw [vE,hx];intro hm;rcases yl.1 hm with h1 | h1
 exact h h1;exact hne (by simpa using h1:v=x).symm
theorem ON {l:List ByteArray} {k:Nat} {v:ByteArray} (h:v ∉ l.take k) (a:l.length<=k):v ∉ l:=by rwa [vg a] at h
def Bz (x y:Label):List It:=[⟨x.key,y.key⟩,⟨x.val,y.val⟩]
def GZ (x y:Label) (j:Nat):Int:=orI (((Bz x y).drop j).map fun p=>DQ p.fst p.snd)
theorem Nr (x y:Label):JP x y=GZ x y 0:=by
 show _=orI [DQ x.key y.key,DQ x.val y.val]
 rw [Se]; rfl
theorem GY {x y:Label} {j:Nat} {p:It} (h:(Bz x y)[j]?=some p):GZ x y j=if DQ p.fst p.snd≠0 then DQ p.fst p.snd else GZ x y (j + 1):=by
 obtain ⟨a,rfl⟩:=yb.1 h;unfold GZ;rw [uI a,vl,orI]
theorem QG {x y:Label} {j:Nat} (h:2<=j):GZ x y j=0:=by
 unfold GZ;rw [vw (by simpa [Bz] using h)]; rfl
theorem cmpS_lt {a b:ByteArray} (h:Ex.CH a b=true):DQ a b=-1:=by unfold DQ; rw [zP h]
theorem cmpS_gt {a b:ByteArray} (c:Ex.CH a b=false) (h:Ex.CH b a=true):DQ a b=1:=by unfold DQ; rw [zI (by simp [c]),zP h]
theorem cmpS_eq {a b:ByteArray} (c:Ex.CH a b=false) (h:Ex.CH b a=false):DQ a b=0:=by unfold DQ; rw [zI (by simp [c]),zI (by simp [h])]
def EO (i:Nat) (c:UInt8):Prop:=(97<=(c.toNat:Int)∧(c.toNat:Int)<=122)∨(i≠0∧((48<=(c.toNat:Int)∧(c.toNat:Int)<=57)∨(c.toNat:Int)=95))
instance (i:Nat) (c:UInt8):Decidable (EO i c):=by unfold EO; infer_instance
def CN:Nat->List UInt8->Bool
  | _,[]=>true
  | i,c::r=>decide (EO i c) && CN (i + 1) r
def named (s:ByteArray):Bool:=decide (1<=s.size) && decide (s.size<=12) && CN 0 s.data.toList
theorem Ng {s:ByteArray} {k:Nat} {c:UInt8} (h:s[k]?=some c):s.data.toList[k]?=some c:=by
 by_cases a:k < s.size;rw [getElem?_pos s k a] at h;rw [Array.getElem?_toList,<-h];exact Array.getElem?_eq_getElem a;rw [getElem?_neg s k a] at h; cases h
theorem LO {s:ByteArray} {k:Nat} {c:UInt8} (h:s[k]?=some c):CN k (s.data.toList.drop k)=(decide (EO k c) && CN (k + 1) (s.data.toList.drop (k + 1))):=by
 obtain ⟨a,b⟩:=yb.1 (Ng h);rw [uI a,CN,b]
theorem Ui {s:ByteArray} {k:Nat} (h:s.size<=k):CN k (s.data.toList.drop k)=true:=by
 rw [vw (by simpa using h),CN]
theorem Jx {l:List UInt8} {k:Nat} {c:UInt8} (h:l[k]?=some c):CN k (l.drop k)=(decide (EO k c) && CN (k + 1) (l.drop (k + 1))):=by
 obtain ⟨a,rfl⟩:=yb.1 h;rw [uI a,CN]
theorem Rk {l:List UInt8} {k:Nat} (h:l.length<=k):CN k (l.drop k)=true:=by
 rw [vw h,CN]
def behind:Option Label->Label->Bool
  | some y,x=>!(Ex.CH y.key x.key)
  | none,_=>false
def AP:Option Label->List Label->Int
  | _,[]=>0
  | p,x::r=>if (!named x.key)=true∨(!named x.val)=true then 7 else if behind p x=true then 2 else AP (some x) r
def AE (l:List Label):Int:=if 4 < l.length then 5 else AP none l
def BC (l:List Label) (k:Nat):Option Label:=if k=0 then none else l[k - 1]?
theorem CM (l:List Label):AP none l=AP (BC l 0) (l.drop 0):=by rfl
theorem Aa {l:List Label} {k:Nat} {x:Label} (h:l[k]?=some x):AP (BC l k) (l.drop k)=if (!named x.key)=true∨(!named x.val)=true then 7 else if behind (BC l k) x=true then 2 else AP (BC l (k + 1)) (l.drop (k + 1)):=by
 obtain ⟨a,b⟩:=yb.1 h;have:BC l (k + 1)=some x:=by unfold BC; rw [zI qO]; simpa using h
 rw [uI a,AP,b,this]
theorem BG {l:List Label} {k:Nat} {p:Option Label} (h:l.length<=k):AP p (l.drop k)=0:=by
 rw [vw h,AP]
end zF
end
section
theorem QI {α:Type} {p:α->Prop} {l:List α} {k:Nat} {s:α} (b:l[k]?=some s) (h:∀ x ∈ l.take k,p x) (c:p s):∀ x ∈ l.take (k + 1),p x:=by
 intro x a;rw [vE,b] at a;simp only [Option.toList_some,yl,yf] at a;rcases a with a | rfl
 exact h x a;exact c
namespace Agg
structure Fits (l:List AA) (s:Sum):Prop where
  count:s.count=l.length
  t1:-1000000000 * (l.length:Int)<=s.total
  t2:s.total<=1000000000 * (l.length:Int)
  f1:s.min<=s.first
  f2:s.first<=s.max
  l1:s.min<=s.last
  l2:s.last<=s.max
  m1:-1000000000<=s.min
  m2:s.max<=1000000000
  s1:s.min * s.count<=s.total
  s2:s.total<=s.max * s.count
theorem fits:∀ (l:List AA),l≠[]->l.length<=1048576->(∀ x ∈ l,-1000000000<=x.value∧x.value<=1000000000)->Fits l (of l):=by
 intro l
 induction l using List.AY with
 | nil=>intro h; exact absurd rfl h
 | snoc l x ih =>
  intro _ r g
  have A:=g x qS
  have a:(l++[x]).length=l.length + 1:=qS
  rw [a] at r
  by_cases b:l=[]
  ·subst b
   have:of ([]++[x])=one x.value:=by simp [of,join,Sum.zero]
   rw [this]
   constructor <;> simp [one] <;> omega
  ·have h:=ih b qO (fun y q=>g y (by simp [q]))
   have s:(of l).count≠0:=by
    rw [h.count]
    have:=List.length_pos_iff.2 b
    omega
   have i:=List.length_pos_iff.2 b
   have e:of (l++[x])=⟨wr ((of l).count + 1),wr ((of l).total + x.value),if x.value < (of l).min then x.value else (of l).min,if (of l).max < x.value then x.value else (of l).max,(of l).first,x.value,wr (wr ((of l).Ap + Ap (of l).last x.value) + 0)⟩:=by
    rw [EY]; unfold join; rw [zI s,zI (by simp [one])]; rfl
   have w:=h.t1
   have z:=h.t2
   have f:=h.count
   have n:wr ((of l).count + 1)=(l.length:Int) + 1:=by rw [Ei qO qO,f]
   have j:wr ((of l).total + x.value)=(of l).total + x.value:=Ei qO qO
   rw [e,n,j]
   have u:=h.f1; have v:=h.f2; have t:=h.m1; have C:=h.m2; have o:=h.s1; have k:=h.s2
   rw [f] at o k
   have d:(if x.value < (of l).min then x.value else (of l).min)<=(of l).min∧(if x.value < (of l).min then x.value else (of l).min)<=x.value∧-1000000000<=(if x.value < (of l).min then x.value else (of l).min):=by split <;> omega
   have c:(of l).max<=(if (of l).max < x.value then x.value else (of l).max)∧x.value<=(if (of l).max < x.value then x.value else (of l).max)∧(if (of l).max < x.value then x.value else (of l).max)<=1000000000:=by split <;> omega
   generalize (if x.value < (of l).min then x.value else (of l).min)=mn at d ⊢
   generalize (if (of l).max < x.value then x.value else (of l).max)=mx at c ⊢
   have B:mn * (l.length:Int)<=(of l).min * (l.length:Int):=Int.mul_le_mul_of_nonneg_right d.1 qO
   have D:(of l).max * (l.length:Int)<=mx * (l.length:Int):=Int.mul_le_mul_of_nonneg_right c.1 qO
   have p:mn * ((l.length:Int) + 1)=mn * (l.length:Int) + mn:=by rw [Int.mul_add,Int.mul_one]
   have m:mx * ((l.length:Int) + 1)=mx * (l.length:Int) + mx:=by rw [Int.mul_add,Int.mul_one]
   constructor
   ·simp
   ·simp only [a]; omega
   ·simp only [a]; omega
   all_goals dsimp only
   all_goals first | omega | (rw [p]; omega) | (rw [m]; omega)
theorem tdiv_between {t c a b:Int} (d:0 < c) (f:a * c<=t) (h:t<=b * c):a<=Int.tdiv t c∧Int.tdiv t c<=b:=by
 by_cases g:0<=t
 ·rw [Int.tdiv_eq_ediv_of_nonneg g]
  exact ⟨Int.le_ediv_of_mul_le d f,Int.le_of_lt_add_one (Int.ediv_lt_of_lt_mul d (by rw [Int.add_mul]; omega))⟩
 ·have e:Int.tdiv t c=-((-t) / c):=by
   have:Int.tdiv (-t) c=(-t) / c:=Int.tdiv_eq_ediv_of_nonneg qO
   rw [<-this,Int.neg_tdiv]; omega
  rw [e]
  have i:(-t) / c < -a + 1:=Int.ediv_lt_of_lt_mul d (by rw [Int.add_mul,Int.neg_mul]; omega)
  have j:-b<=(-t) / c:=Int.le_ediv_of_mul_le d (by rw [Int.neg_mul]; omega)
  omega
theorem Pe {i:ByteArray} {s:Sum} {a b c d e f g h:Nat} (j:¬ s.count < 1) :
  value i s=((Ex.assoc ([(a,⟨#[97,118,103]⟩,wr (Int.tdiv s.total s.count)),(b,⟨#[99,111,117,110,116]⟩,s.count),(c,⟨#[102,105,114,115,116]⟩,s.first),(d,⟨#[108,97,115,116]⟩,s.last),(e,⟨#[109,97,120]⟩,s.max),(f,⟨#[109,105,110]⟩,s.min),(g,⟨#[114,105,115,101]⟩,s.Ap),(h,⟨#[115,117,109]⟩,s.total)]:List (Nat × ByteArray × Int)) i).getD 0,
   (Ex.assoc ([(a,⟨#[97,118,103]⟩,wr (Int.tdiv s.total s.count)),(b,⟨#[99,111,117,110,116]⟩,s.count),(c,⟨#[102,105,114,115,116]⟩,s.first),(d,⟨#[108,97,115,116]⟩,s.last),(e,⟨#[109,97,120]⟩,s.max),(f,⟨#[109,105,110]⟩,s.min),(g,⟨#[114,105,115,101]⟩,s.Ap),(h,⟨#[115,117,109]⟩,s.total)]:List (Nat × ByteArray × Int)) i).isSome):=by
 unfold value
 rw [zI j]
 simp only [Ex.assoc]
 repeat' split
 all_goals first | rfl | simp_all
end Agg
end
section
namespace Sh
def idx {α:Type} (p:α->Bool) (l:List α):Int:=if l.any p=true then (l.findIdx p:Int) else -1
theorem Dq {α:Type} {p:α->Bool} {l:List α} {k:Nat} {x:α} (h:∀ y ∈ l.take k,p y=false) (c:l[k]?=some x) (d:p x=false):∀ y ∈ l.take (k + 1),p y=false:=by
 intro y b;rw [vE,c] at b;rcases yl.1 b with a | a
 exact h y a;obtain rfl:y=x:=by simpa using a
 exact d
theorem idx_at {α:Type} {p:α->Bool} {l:List α} {k:Nat} {x:α} (h:∀ y ∈ l.take k,p y=false) (e:l[k]?=some x) (a:p x=true):(k:Int)=idx p l:=by
 obtain ⟨b,rfl⟩:=yb.1 e
 have c:l.any p=true:=List.any_eq_true.2 ⟨l[k],List.getElem_mem b,a⟩
 have d:l.findIdx p=k:=(List.findIdx_eq b).2 ⟨a,fun j f=>h _ (by
  have:(l.take k)[j]'(by simp; omega)=l[j]:=qS
  rw [<-this]; exact List.getElem_mem _)⟩
 rw [idx,zP c,d]
theorem VI {α:Type} {p:α->Bool} {l:List α} {k:Nat} (h:∀ y ∈ l.take k,p y=false) (a:l.length<=k):(-1:Int)=idx p l:=by
 rw [vg a] at h;rw [idx,zI (by simpa using h)]
theorem idx_any {α:Type} {p:α->Bool} {l:List α}:(0<=idx p l)↔l.any p=true:=by
 unfold idx; split;simp_all;simp_all
theorem Ed {α:Type} (p:α->Bool) (l:List α):(idx p l=-1∧∀ y ∈ l,p y=false)∨∃ (i:Nat) (x:α),idx p l=(i:Int)∧l[i]?=some x∧p x=true∧∀ y ∈ l.take i,p y=false:=by
 by_cases h:l.any p=true;right;obtain ⟨x,g,d⟩:=List.any_eq_true.1 h;have c:=List.findIdx_lt_length_of_exists ⟨x,g,d⟩;refine ⟨l.findIdx p,l[l.findIdx p],by rw [idx,zP h],vA c,List.findIdx_getElem,fun y b=>?_⟩;obtain ⟨j,f,rfl⟩:=List.mem_iff_getElem.1 b;have a:j < l.findIdx p:=by simp at f; omega
 rw [List.getElem_take];simpa using List.not_of_lt_findIdx a;left;refine ⟨by rw [idx,zI h],fun y b=>?_⟩;simpa using fun e=>h (List.any_eq_true.2 ⟨y,b,e⟩)
end Sh
end
section
namespace Lg
open Ex
mutual
def Bj:Expr->Bool
  | .mk kind _ _ _ _ _ kids=>(decide (kind=2) || decide (kind=3)) || FH kids
def FH:List Expr->Bool
  | []=>false
  | x::xs=>Bj x || FH xs
end
theorem Gg:∀ l,FH l=l.any Bj
 | []=>rfl
 | x::xs=>by rw [FH,List.any_cons,Gg xs]
theorem Qr (x:zD):Bj x.e=((decide (x.kind=2) || decide (x.kind=3)) || x.kids.l.any fun k=>Bj k.e):=by
 rw [zD.gz,Bj,Gg,List.any_map]; rfl
theorem LZ {x:zD} (h:x.kind=2∨x.kind=3):Bj x.e=true:=by
 rw [Qr]; rcases h with h | h <;> simp [h]
theorem JG {x:zD} (h:¬ (x.kind=2∨x.kind=3)):Bj x.e=x.kids.l.any fun k=>Bj k.e:=by
 rw [Qr]; simp only [not_or] at h; simp [h.1,h.2]
mutual
def typed:Expr->Int
  | .mk kind _ _ _ _ _ kids=>if kind=3∧kids.length=1∧FH kids=false then 8 else Bq kids
def Bq:List Expr->Int
  | []=>0
  | x::xs=>if typed x≠0 then typed x else Bq xs
end
theorem NV (x:zD):typed x.e=if x.kind=3∧x.kids.l.length=1∧(x.kids.l.any fun k=>Bj k.e)=false then 8 else Bq (x.kids.l.map zD.e):=by
 rw [zD.gz,typed,Gg,List.any_map,vb]; rfl
theorem TF {x:zD} (h:x.kind=3∧((x.kids.l.length:Int)=1∧(!(x.kids.l.any fun k=>Bj k.e))=true)):typed x.e=8:=by
 rw [NV,zP ⟨h.1,qO,by simpa using h.2.2⟩]
theorem GW {x:zD} (h:¬ (x.kind=3∧((x.kids.l.length:Int)=1∧(!(x.kids.l.any fun k=>Bj k.e))=true))):typed x.e=Bq (x.kids.l.map zD.e):=by
 rw [NV,zI fun g=>h ⟨g.1,qO,by simp [g.2.2]⟩]
theorem OT {α:Type} {l:List α} {p:α->Bool} {s:α} (h:l.length=1) (b:l[0]?=some s):l.any p=p s:=by
  match l,h with
  | [a], _ => obtain rfl : a = s := by simpa using b
              simp
theorem any_none {α:Type} {l:List α} {p:α->Bool} {k:Nat} (h:∀ y ∈ l.take k,p y=false) (b:l.length<=k):l.any p=false:=by
 rw [vg b] at h;rw [List.any_eq_false];intro y a; simp [h y a]
theorem Oy {l:List Expr} {k:Nat} {x:Expr} (h:Bq (l.take k)=0) (a:l[k]?=some x):Bq (l.take (k + 1))=typed x∧(typed x≠0->Bq l=typed x):=by
 induction l generalizing k with
 | nil=>simp at a
 | cons y l ih =>
  cases k with
  | zero =>
   obtain rfl:y=x:=by simpa using a
   refine ⟨by simp only [List.take_succ_cons,List.take_zero,Bq]; split <;> simp_all,fun h=>by rw [Bq,zP h]⟩
  | succ k =>
   rw [List.take_succ_cons,Bq] at h
   have b:¬ typed y≠0:=fun e=>by rw [zP e] at h; exact e h
   rw [zI b] at h
   obtain ⟨c,d⟩:=ih h (by simpa using a)
   rw [List.take_succ_cons,Bq,zI b]
   refine ⟨c,fun e=>by rw [Bq,zI b]; exact d e⟩
theorem FL {l:List zD} {k:Nat} {x:zD} (h:Bq ((l.take k).map zD.e)=0) (a:l[k]?=some x):Bq ((l.take (k + 1)).map zD.e)=typed x.e∧(typed x.e≠0->Bq (l.map zD.e)=typed x.e):=by
 rw [List.map_take] at h ⊢;exact Oy h (by rw [yV,a]; rfl)
def CF:List ByteArray:=[⟨#[99,111,117,110,116]⟩,⟨#[109,97,120]⟩,⟨#[109,105,110]⟩,⟨#[115,117,109]⟩]
def BL:List ByteArray:=[⟨#[43]⟩,⟨#[45]⟩,⟨#[42]⟩]
def EI (m:Match):Int:=if m.kind < 1∨4 < m.kind then 1 else if zF.named m.key=false∨((m.kind=1∨m.kind=2)∧zF.named m.val=false) then 7 else 0
def Bu:List Match->Int
  | []=>0
  | m::r=>if EI m≠0 then EI m else Bu r
theorem CX {l:List Match} {k:Nat} {x:Match} (h:l[k]?=some x):Bu (l.drop k)=if EI x≠0 then EI x else Bu (l.drop (k + 1)):=by
 obtain ⟨a,rfl⟩:=yb.1 h;rw [uI a,Bu]
theorem EX {l:List Match} {k:Nat} (h:l.length<=k):Bu (l.drop k)=0:=by rw [vw h,Bu]
def BR (word:ByteArray) (ms:List Match) (range:Int):Int :=
  if ¬ 0<=zF.indexOf Agg.words word 0 then 7 else if 5 < ms.length then 5 else if Bu ms≠0 then Bu ms else if range < 1∨100000 < range then 3 else 0
def Cb (kind n range:Int) (word:ByteArray) (ms:List Match) (by_:List ByteArray):Int :=
  if kind=1 then (if n < 0∨1000000 < n then 3 else 0)
  else if kind=2 then BR word ms range
  else if kind=3 then (if ¬ 0<=zF.indexOf CF word 0 then 7 else if 4 < by_.length then 5 else if (by_.any fun k=>!zF.named k)=true then 7 else 0)
  else if ¬ 0<=zF.indexOf BL word 0 then 7 else 0
theorem Mj (v:ByteArray):0<=zF.indexOf BL v 0↔(v=⟨#[43]⟩∨v=⟨#[45]⟩∨v=⟨#[42]⟩):=by
 rw [zF.Fq]; simp [BL]
def arity (kind:Int):Int:=if kind=3 then 1 else if kind=4 then 2 else 0
theorem Wx {a x:Int} (b:1<=a) (c:a<=4) (h:([0,0,0,1,2]:List Int)[a.toNat]?=some x):x=arity a:=by
 have:a=1∨a=2∨a=3∨a=4:=qO;rcases this with rfl | rfl | rfl | rfl <;> simp [arity] at h ⊢ <;> omega
theorem QM {a b c d:Nat} (k:Int):(Value.tuple (List.toArray [.int .i64 ((assoc ([(a,1,0),(b,2,0),(c,3,1),(d,4,2)]:List (Nat × Int × Int)) k).getD 0),.bool (assoc ([(a,1,0),(b,2,0),(c,3,1),(d,4,2)]:List (Nat × Int × Int)) k).isSome]))=.tuple (List.toArray [.int .i64 (arity k),.bool (decide (1<=k∧k<=4))]):=by
 simp only [assoc,arity];by_cases g:k=1;subst g; rfl;by_cases h:k=2;subst h; rfl;by_cases e:k=3;subst e; rfl;by_cases f:k=4;subst f; rfl;rw [zI g,zI h,zI e,zI f,zI e,zI f,yq qO]; rfl
mutual
def shape:Expr->Int->Int->Int × Int
  | .mk kind n range word ms by_ kids, deep, c =>
    if 100 < c + 1∨20 < deep then (4,c + 1) else if kind < 1∨4 < kind then (1,c + 1) else if (kids.length:Int)≠arity kind then (5,c + 1)
    else if Cb kind n range word ms by_≠0 then (Cb kind n range word ms by_,c + 1) else At kids (deep + 1) (c + 1)
def At:List Expr->Int->Int->Int × Int
  | [],_,c=>(0,c)
  | x::xs,deep,c=>if (shape x deep c).1≠0 then shape x deep c else At xs deep (shape x deep c).2
end
theorem Bc (x:zD) (a c:Int):shape x.e a c=if 100 < c + 1∨20 < a then (4,c + 1) else if x.kind < 1∨4 < x.kind then (1,c + 1) else if (x.kids.l.length:Int)≠arity x.kind then (5,c + 1)
  else if Cb x.kind x.n x.range x.word x.ms.l x.by_.l≠0 then (Cb x.kind x.n x.range x.word x.ms.l x.by_.l,c + 1) else At (x.kids.l.map zD.e) (a + 1) (c + 1):=by
 rw [zD.gz,shape,vb]
mutual
theorem Lq:∀ (e:Expr) (d c:Int),0<=c->c<=100->(shape e d c).1=0->0<=(shape e d c).2∧(shape e d c).2<=100
  | .mk kind n range word ms by_ kids, d, c, h0, h1, h => by
    rw [shape] at h ⊢
    split at h
    · cases h
    split at h
    · cases h
    split at h
    · cases h
    split at h
    · rename_i h2; exact absurd h h2
    rename_i a1 a2 a3 a4
    rw [if_neg a1,if_neg a2,if_neg a3,if_neg a4]
    exact Iz kids (d + 1) (c + 1) qO qO h
theorem Iz:∀ (l:List Expr) (d c:Int),0<=c->c<=100->(At l d c).1=0->0<=(At l d c).2∧(At l d c).2<=100
  | [],d,c,h0,h1,h=>by rw [At]; exact ⟨h0,h1⟩
  | x :: xs, d, c, h0, h1, h => by
    rw [At] at h ⊢
    split at h
    · rename_i h2; exact absurd h h2
    rename_i h2
    rw [if_neg h2]
    have:=Lq x d c h0 h1 (Classical.not_not.1 h2)
    exact Iz xs d _ this.1 this.2 h
end
theorem PH {l:List Expr} {k:Nat} {x:Expr} {d c n:Int} (h:At (l.take k) d c=(0,n)) (a:l[k]?=some x) :
  ((shape x d n).1=0->At (l.take (k + 1)) d c=(0,(shape x d n).2))∧((shape x d n).1≠0->At l d c=shape x d n):=by
 induction l generalizing k c with
 | nil=>simp at a
 | cons y l ih =>
  cases k with
  | zero =>
   obtain rfl:y=x:=by simpa using a
   obtain rfl:c=n:=by rw [List.take_zero,At] at h; exact congrArg (·.2) h
   refine ⟨fun h=>?_,fun h=>by rw [At,zP h]⟩
   rw [List.take_succ_cons,List.take_zero,At,zI (by simp [h]),At]
  | succ k =>
   rw [List.take_succ_cons,At] at h
   have b:¬ (shape y d c).1≠0:=fun e=>by rw [zP e] at h; exact e (congrArg (·.1) h)
   rw [zI b] at h
   obtain ⟨f,g⟩:=ih h (by simpa using a)
   rw [List.take_succ_cons,At,zI b,At,zI b]
   exact ⟨f,g⟩
theorem FJ {l:List zD} {k:Nat} {x:zD} {d c n:Int} (h:At ((l.take k).map zD.e) d c=(0,n)) (a:l[k]?=some x) :
  ((shape x.e d n).1=0->At ((l.take (k + 1)).map zD.e) d c=(0,(shape x.e d n).2))∧((shape x.e d n).1≠0->At (l.map zD.e) d c=shape x.e d n):=by
 rw [List.map_take] at h ⊢
 exact PH h (by rw [yV,a]; rfl)
def AE (e:Expr):Int:=(shape e 1 0).1
end Lg
end
end Go.Proofs.YtgojhpocpajmlaaGreatDoor
