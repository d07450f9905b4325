/- Laws and walks for the proof of BaseTells, packed by program; each theorem bears its own conditions. -/
import Derived.Shelf.Strings.Builder1
import Derived.Shelf.Strings.Builder2
import Derived.Shelf.Strings.OnBuilder
import Derived.Shelf.Strconv.Atoi
import Derived.Shelf.Strconv.Itoa0
import Derived.Shelf.Strconv.Itoa1
import Derived.Shelf.LaysM
import Derived.Shelf.Strconv.Itoa2
import Derived.Shelf.Strconv.Itoa3
import Derived.Shelf.Strconv.AtoiErrFast
import Derived.Shelf.Strconv.ParseIntEmpty
import Derived.Shelf.Strconv.AtoiFail
import Derived.Shelf.Strconv.Clone
import Derived.Shelf.Strconv.SyntaxError
import Derived.Shelf.LaysC
import Derived.Shelf.Strconv.ToError
import Derived.Shelf.Strconv.AtoiErr
import Derived.Shelf.Strconv.ErrVar
import Derived.Shelf.Strconv.Lower
import Derived.Shelf.Strconv.ParseUint10
import Derived.Shelf.Strconv.ParseUint10Empty
import Derived.Shelf.Strconv.ParseUint10Any
import Derived.Shelf.Strconv.ParseInt10
import Derived.Shelf.Strconv.AtoiLong
import Derived.Shelf.Strconv.AtoiInnerAll
import Derived.Shelf.Strconv.RangeError
import Derived.Shelf.Strconv.ToErrorRange
import Derived.Shelf.Strconv.AtoiAll
import Derived.Shelf.Strconv.ErrVarAll
import Derived.Shelf.Strings.Prefix
import Derived.Shelf.Slices.Turned
import Derived.Test.YtgojhpocpajmlaaGreatDoorProg
import Derived.Defers
import Derived.Recover
import Derived.Test.YtgojhpocpajmlaaGreatDoorKBt2
set_option linter.unusedVariables false
set_option linter.unusedSimpArgs false
set_option maxHeartbeats 20000000
namespace Go.Proofs.YtgojhpocpajmlaaGreatDoor
section
namespace Ex
theorem sA {E E1:Env} (h:BZ E E1:=by repeat (first | exact sn | refine sc rfl ?_ | refine sc (ji (by omega)) ?_)):BZ E E1:=h
theorem mI {S:World->Prop}:∀ w,S w->S w:=fun _ h=>h
theorem mJ {p:Prop} (h:p:=by exact fun _ h=>h):p:=h
theorem qB {p:Prop} (h:p:=by dsimp only; first | omega | (intro h9; omega) | (intro h9; contradiction)):p:=h
theorem qF {p:Prop} (h:p:=by first | decide | omega):p:=h
section
variable {L L' r:List Own} {is:List Nat} {i:Nat} {a:Own} {w0:World} {M:Fp}
theorem u0:([]:List Own).map some=([]:List Nat).map (fun i=>L[i]?):=rfl
theorem u1 (h:L[i]?=some a) (k:r.map some=is.map (fun i=>L[i]?)):(a::r).map some=(i::is).map (fun i=>L[i]?):=by rw [List.map_cons,List.map_cons,h,k]
theorem S9j (he:L'.map some=is.map (fun i=>L[i]?)) (hn:is.Nodup:=by decide):∀ w,Mem w0 M L w->Mem w0 M L' w:=fun _ h=>h.sel is hn he
end
theorem Mem.rtA {Pb:Nat->Prop} {A L:List Own} {w w':World} {v:Value} {α:Type} {mk:α->Value} {pure:α->Prop} {A':α->List Own} (h:Mem w ⟨AX A,Pb⟩ L w') (z:α) (hz:pure z) (hv:v=mk z:=by rfl) (hs:∀ w1,Mem w ⟨AX A,Pb⟩ L w1->Mem w ⟨AX A,Pb⟩ (A' z) w1:=by first | exact fun _ h=>h | exact S9j (by repeat (first | exact u0 | (apply u1; · repeat (first | exact bx0 | apply bxS))))):Be w A Pb mk pure A' (.returned v) w':=h.yz z hv hz (hs _)
theorem Mem.rtX {Pb:Nat->Prop} {A L:List Own} {w w':World} {v:Value} {PT:Nat} {α:Type} {mk:α->Value} {pure:α->Prop} {A':α->List Own} {bad:Pz.F->Prop} (h:Mem w ⟨AX A,Pb⟩ L w') (z:α) (hz:pure z) (hv:v=mk z:=by rfl) (hs:∀ w1,Mem w ⟨AX A,Pb⟩ L w1->Mem w ⟨AX A,Pb⟩ (A' z) w1:=by first | exact fun _ h=>h | exact S9j (by repeat (first | exact u0 | (apply u1; · repeat (first | exact bx0 | apply bxS))))):FY w A Pb PT mk pure A' bad (.returned v) w':=h.retX z hv hz (hs _)
theorem fN {p:Prop} (h:p:=by exact fun _ _=>zH.vh _ _ _ _):p:=h
theorem mA {S S':World->Prop} (h:∀ w,S w->S' w:=by first | exact fun _ h=>h | exact S9j (by repeat (first | exact u0 | (apply u1; · repeat (first | exact bx0 | apply bxS))))):∀ w,S w->S' w:=h
inductive PE (E : Env) : List Nat -> Env -> Env -> Prop
  | n {V:Env}:PE E [] V V
  | c {t:Nat} {v:Value} {ts:List Nat} {V E1:Env}:look E t=some v->PE E ts V E1->PE E (t::ts) V ((t,v)::E1)
inductive Sp
  | s (i:Nat) (x:Own)
  | d (i:Nat)
  | i (x:Own)
inductive PS : List Own -> Nat -> List Sp -> List Own -> Prop
  | z {i:Nat}:PS [] i [] []
  | i {L:List Own} {j:Nat} {x:Own} {S:List Sp} {L1:List Own}:PS L j S L1->PS L j (.i x::S) (x::L1)
  | d {a:Own} {L:List Own} {j:Nat} {S:List Sp} {L1:List Own}:PS L (j + 1) S L1->PS (a::L) j (.d j::S) L1
  | s {a x:Own} {L:List Own} {j:Nat} {S:List Sp} {L1:List Own}:PS L (j + 1) S L1->PS (a::L) j (.s j x::S) (x::L1)
  | k {a:Own} {L:List Own} {j:Nat} {S:List Sp} {L1:List Own}:PS L (j + 1) S L1->PS (a::L) j S (a::L1)
section
variable {P:Program} {N:Nat} {D:List Deferred} {E:Env} {Q:Exit->Act->World->Prop} {w0:World} {M:Fp} {L:List Own} {c:Code} {ids:List Nat} {α β γ δ ε ζ η:Type}
theorem jE0 {E1:Env} (ids:List Nat) (V:Env) (h:PE E ids V E1:=by repeat (first | exact PE.n | apply PE.c rfl)):PE E ids V E1:=h
theorem jS0 {L1:List Own} (S:List Sp) (h:PS L 0 S L1:=by repeat (first | exact PS.z | apply PS.i | apply PS.d | apply PS.s | apply PS.k)):PS L 0 S L1:=h
theorem yM {x y:Code} {V E1:Env} {S:List Sp} {L1:List Own} (_:PE E ids V E1) (_:PS L 0 S L1) (h:∀ K:Act->World->Prop,(∀ w,Mem w0 M L1 w->∀ a,Has N D a E1->K a w)->WC P N D x (Exit.then K Q) E (Mem w0 M L)) (h':WC P N D y Q E1 (Mem w0 M L1)):WC P N D (.seq x y) Q E (Mem w0 M L):=uJ E1 _ h h'
theorem kX {E':Env} {S S':World->Prop} {K:Act->World->Prop} (hK:∀ w,S' w->∀ a,Has N D a E'->K a w) (he:BZ E E':=by repeat (first | exact sn | refine sc rfl ?_ | refine sc (ji (by omega)) ?_)) (hS:∀ w,S w->S' w:=by first | exact fun _ h=>h | exact S9j (by repeat (first | exact u0 | (apply u1; · repeat (first | exact bx0 | apply bxS))))):WE N D (Exit.then K Q) .normal E S:=yc hK he hS
theorem jE1 {E1:α->Env} (ids:List Nat) (V:α->Env) (h:∀ x0,PE E ids (V x0) (E1 x0):=by intros; repeat (first | exact PE.n | apply PE.c rfl)):∀ x0,PE E ids (V x0) (E1 x0):=h
theorem jS1 {L1:α->List Own} (S:α->List Sp) (h:∀ x0,PS L 0 (S x0) (L1 x0):=by intros; repeat (first | exact PS.z | apply PS.i | apply PS.d | apply PS.s | apply PS.k)):∀ x0,PS L 0 (S x0) (L1 x0):=h
theorem yk {V env:α->Env} {S:α->List Sp} {Lf:α->List Own} (_:∀ x0,PE E ids (V x0) (env x0)) (_:∀ x0,PS L 0 (S x0) (Lf x0)) (inv:α->Prop) (μ:α->Nat) (y0:α) (hi:inv y0) (round:∀ x0,inv x0->WC P N D c (LQ1 N D w0 M env Lf inv μ (μ x0) Q) (env x0) (Mem w0 M (Lf x0))) (he:BZ E (env y0):=by repeat (first | exact sn | refine sc rfl ?_ | refine sc (ji (by omega)) ?_)) (hm:∀ w,Mem w0 M L w->Mem w0 M (Lf y0) w:=by first | exact fun _ h=>h | exact S9j (by repeat (first | exact u0 | (apply u1; · repeat (first | exact bx0 | apply bxS))))):WC P N D (.loop c) Q E (Mem w0 M L):=vu env Lf inv μ y0 he hm hi round
theorem zy {S:World->Prop} {env:α->Env} {Lf:α->List Own} {inv:α->Prop} {μ:α->Nat} {m:Nat} (y0:α) (hi:inv y0) (hμ:μ y0 < m) (he:BZ E (env y0):=by repeat (first | exact sn | refine sc rfl ?_ | refine sc (ji (by omega)) ?_)) (hm:∀ w,S w->Mem w0 M (Lf y0) w:=by first | exact fun _ h=>h | exact S9j (by repeat (first | exact u0 | (apply u1; · repeat (first | exact bx0 | apply bxS))))):WE N D (LQ1 N D w0 M env Lf inv μ m Q) .normal E S:=uB y0 he hm hi hμ
theorem jE2 {E1:α->β->Env} (ids:List Nat) (V:α->β->Env) (h:∀ x0 x1,PE E ids (V x0 x1) (E1 x0 x1):=by intros; repeat (first | exact PE.n | apply PE.c rfl)):∀ x0 x1,PE E ids (V x0 x1) (E1 x0 x1):=h
theorem jS2 {L1:α->β->List Own} (S:α->β->List Sp) (h:∀ x0 x1,PS L 0 (S x0 x1) (L1 x0 x1):=by intros; repeat (first | exact PS.z | apply PS.i | apply PS.d | apply PS.s | apply PS.k)):∀ x0 x1,PS L 0 (S x0 x1) (L1 x0 x1):=h
theorem jY {V env:α->β->Env} {S:α->β->List Sp} {Lf:α->β->List Own} (_:∀ x0 x1,PE E ids (V x0 x1) (env x0 x1)) (_:∀ x0 x1,PS L 0 (S x0 x1) (Lf x0 x1)) (inv:α->β->Prop) (μ:α->β->Nat) (y0:α) (y1:β) (hi:inv y0 y1) (round:∀ x0 x1,inv x0 x1->WC P N D c (LQ2 N D w0 M env Lf inv μ (μ x0 x1) Q) (env x0 x1) (Mem w0 M (Lf x0 x1))) (he:BZ E (env y0 y1):=by repeat (first | exact sn | refine sc rfl ?_ | refine sc (ji (by omega)) ?_)) (hm:∀ w,Mem w0 M L w->Mem w0 M (Lf y0 y1) w:=by first | exact fun _ h=>h | exact S9j (by repeat (first | exact u0 | (apply u1; · repeat (first | exact bx0 | apply bxS))))):WC P N D (.loop c) Q E (Mem w0 M L):=u5 env Lf inv μ y0 y1 he hm hi round
theorem vU {S:World->Prop} {env:α->β->Env} {Lf:α->β->List Own} {inv:α->β->Prop} {μ:α->β->Nat} {m:Nat} (y0:α) (y1:β) (hi:inv y0 y1) (hμ:μ y0 y1 < m) (he:BZ E (env y0 y1):=by repeat (first | exact sn | refine sc rfl ?_ | refine sc (ji (by omega)) ?_)) (hm:∀ w,S w->Mem w0 M (Lf y0 y1) w:=by first | exact fun _ h=>h | exact S9j (by repeat (first | exact u0 | (apply u1; · repeat (first | exact bx0 | apply bxS))))):WE N D (LQ2 N D w0 M env Lf inv μ m Q) .normal E S:=jF y0 y1 he hm hi hμ
theorem jE3 {E1:α->β->γ->Env} (ids:List Nat) (V:α->β->γ->Env) (h:∀ x0 x1 x2,PE E ids (V x0 x1 x2) (E1 x0 x1 x2):=by intros; repeat (first | exact PE.n | apply PE.c rfl)):∀ x0 x1 x2,PE E ids (V x0 x1 x2) (E1 x0 x1 x2):=h
theorem jS3 {L1:α->β->γ->List Own} (S:α->β->γ->List Sp) (h:∀ x0 x1 x2,PS L 0 (S x0 x1 x2) (L1 x0 x1 x2):=by intros; repeat (first | exact PS.z | apply PS.i | apply PS.d | apply PS.s | apply PS.k)):∀ x0 x1 x2,PS L 0 (S x0 x1 x2) (L1 x0 x1 x2):=h
theorem qG {V env:α->β->γ->Env} {S:α->β->γ->List Sp} {Lf:α->β->γ->List Own} (_:∀ x0 x1 x2,PE E ids (V x0 x1 x2) (env x0 x1 x2)) (_:∀ x0 x1 x2,PS L 0 (S x0 x1 x2) (Lf x0 x1 x2)) (inv:α->β->γ->Prop) (μ:α->β->γ->Nat) (y0:α) (y1:β) (y2:γ) (hi:inv y0 y1 y2) (round:∀ x0 x1 x2,inv x0 x1 x2->WC P N D c (LQ3 N D w0 M env Lf inv μ (μ x0 x1 x2) Q) (env x0 x1 x2) (Mem w0 M (Lf x0 x1 x2))) (he:BZ E (env y0 y1 y2):=by repeat (first | exact sn | refine sc rfl ?_ | refine sc (ji (by omega)) ?_)) (hm:∀ w,Mem w0 M L w->Mem w0 M (Lf y0 y1 y2) w:=by first | exact fun _ h=>h | exact S9j (by repeat (first | exact u0 | (apply u1; · repeat (first | exact bx0 | apply bxS))))):WC P N D (.loop c) Q E (Mem w0 M L):=jk env Lf inv μ y0 y1 y2 he hm hi round
theorem vJ {S:World->Prop} {env:α->β->γ->Env} {Lf:α->β->γ->List Own} {inv:α->β->γ->Prop} {μ:α->β->γ->Nat} {m:Nat} (y0:α) (y1:β) (y2:γ) (hi:inv y0 y1 y2) (hμ:μ y0 y1 y2 < m) (he:BZ E (env y0 y1 y2):=by repeat (first | exact sn | refine sc rfl ?_ | refine sc (ji (by omega)) ?_)) (hm:∀ w,S w->Mem w0 M (Lf y0 y1 y2) w:=by first | exact fun _ h=>h | exact S9j (by repeat (first | exact u0 | (apply u1; · repeat (first | exact bx0 | apply bxS))))):WE N D (LQ3 N D w0 M env Lf inv μ m Q) .normal E S:=uY y0 y1 y2 he hm hi hμ
theorem jE4 {E1:α->β->γ->δ->Env} (ids:List Nat) (V:α->β->γ->δ->Env) (h:∀ x0 x1 x2 x3,PE E ids (V x0 x1 x2 x3) (E1 x0 x1 x2 x3):=by intros; repeat (first | exact PE.n | apply PE.c rfl)):∀ x0 x1 x2 x3,PE E ids (V x0 x1 x2 x3) (E1 x0 x1 x2 x3):=h
theorem jS4 {L1:α->β->γ->δ->List Own} (S:α->β->γ->δ->List Sp) (h:∀ x0 x1 x2 x3,PS L 0 (S x0 x1 x2 x3) (L1 x0 x1 x2 x3):=by intros; repeat (first | exact PS.z | apply PS.i | apply PS.d | apply PS.s | apply PS.k)):∀ x0 x1 x2 x3,PS L 0 (S x0 x1 x2 x3) (L1 x0 x1 x2 x3):=h
theorem gI {V env:α->β->γ->δ->Env} {S:α->β->γ->δ->List Sp} {Lf:α->β->γ->δ->List Own} (_:∀ x0 x1 x2 x3,PE E ids (V x0 x1 x2 x3) (env x0 x1 x2 x3)) (_:∀ x0 x1 x2 x3,PS L 0 (S x0 x1 x2 x3) (Lf x0 x1 x2 x3)) (inv:α->β->γ->δ->Prop) (μ:α->β->γ->δ->Nat) (y0:α) (y1:β) (y2:γ) (y3:δ) (hi:inv y0 y1 y2 y3) (round:∀ x0 x1 x2 x3,inv x0 x1 x2 x3->WC P N D c (LQ4 N D w0 M env Lf inv μ (μ x0 x1 x2 x3) Q) (env x0 x1 x2 x3) (Mem w0 M (Lf x0 x1 x2 x3))) (he:BZ E (env y0 y1 y2 y3):=by repeat (first | exact sn | refine sc rfl ?_ | refine sc (ji (by omega)) ?_)) (hm:∀ w,Mem w0 M L w->Mem w0 M (Lf y0 y1 y2 y3) w:=by first | exact fun _ h=>h | exact S9j (by repeat (first | exact u0 | (apply u1; · repeat (first | exact bx0 | apply bxS))))):WC P N D (.loop c) Q E (Mem w0 M L):=gn env Lf inv μ y0 y1 y2 y3 he hm hi round
theorem ug {S:World->Prop} {env:α->β->γ->δ->Env} {Lf:α->β->γ->δ->List Own} {inv:α->β->γ->δ->Prop} {μ:α->β->γ->δ->Nat} {m:Nat} (y0:α) (y1:β) (y2:γ) (y3:δ) (hi:inv y0 y1 y2 y3) (hμ:μ y0 y1 y2 y3 < m) (he:BZ E (env y0 y1 y2 y3):=by repeat (first | exact sn | refine sc rfl ?_ | refine sc (ji (by omega)) ?_)) (hm:∀ w,S w->Mem w0 M (Lf y0 y1 y2 y3) w:=by first | exact fun _ h=>h | exact S9j (by repeat (first | exact u0 | (apply u1; · repeat (first | exact bx0 | apply bxS))))):WE N D (LQ4 N D w0 M env Lf inv μ m Q) .normal E S:=jG y0 y1 y2 y3 he hm hi hμ
theorem jE5 {E1:α->β->γ->δ->ε->Env} (ids:List Nat) (V:α->β->γ->δ->ε->Env) (h:∀ x0 x1 x2 x3 x4,PE E ids (V x0 x1 x2 x3 x4) (E1 x0 x1 x2 x3 x4):=by intros; repeat (first | exact PE.n | apply PE.c rfl)):∀ x0 x1 x2 x3 x4,PE E ids (V x0 x1 x2 x3 x4) (E1 x0 x1 x2 x3 x4):=h
theorem jS5 {L1:α->β->γ->δ->ε->List Own} (S:α->β->γ->δ->ε->List Sp) (h:∀ x0 x1 x2 x3 x4,PS L 0 (S x0 x1 x2 x3 x4) (L1 x0 x1 x2 x3 x4):=by intros; repeat (first | exact PS.z | apply PS.i | apply PS.d | apply PS.s | apply PS.k)):∀ x0 x1 x2 x3 x4,PS L 0 (S x0 x1 x2 x3 x4) (L1 x0 x1 x2 x3 x4):=h
theorem qy {V env:α->β->γ->δ->ε->Env} {S:α->β->γ->δ->ε->List Sp} {Lf:α->β->γ->δ->ε->List Own} (_:∀ x0 x1 x2 x3 x4,PE E ids (V x0 x1 x2 x3 x4) (env x0 x1 x2 x3 x4)) (_:∀ x0 x1 x2 x3 x4,PS L 0 (S x0 x1 x2 x3 x4) (Lf x0 x1 x2 x3 x4)) (inv:α->β->γ->δ->ε->Prop) (μ:α->β->γ->δ->ε->Nat) (y0:α) (y1:β) (y2:γ) (y3:δ) (y4:ε) (hi:inv y0 y1 y2 y3 y4) (round:∀ x0 x1 x2 x3 x4,inv x0 x1 x2 x3 x4->WC P N D c (LQ5 N D w0 M env Lf inv μ (μ x0 x1 x2 x3 x4) Q) (env x0 x1 x2 x3 x4) (Mem w0 M (Lf x0 x1 x2 x3 x4))) (he:BZ E (env y0 y1 y2 y3 y4):=by repeat (first | exact sn | refine sc rfl ?_ | refine sc (ji (by omega)) ?_)) (hm:∀ w,Mem w0 M L w->Mem w0 M (Lf y0 y1 y2 y3 y4) w:=by first | exact fun _ h=>h | exact S9j (by repeat (first | exact u0 | (apply u1; · repeat (first | exact bx0 | apply bxS))))):WC P N D (.loop c) Q E (Mem w0 M L):=c_loop5 env Lf inv μ y0 y1 y2 y3 y4 he hm hi round
theorem ux {S:World->Prop} {env:α->β->γ->δ->ε->Env} {Lf:α->β->γ->δ->ε->List Own} {inv:α->β->γ->δ->ε->Prop} {μ:α->β->γ->δ->ε->Nat} {m:Nat} (y0:α) (y1:β) (y2:γ) (y3:δ) (y4:ε) (hi:inv y0 y1 y2 y3 y4) (hμ:μ y0 y1 y2 y3 y4 < m) (he:BZ E (env y0 y1 y2 y3 y4):=by repeat (first | exact sn | refine sc rfl ?_ | refine sc (ji (by omega)) ?_)) (hm:∀ w,S w->Mem w0 M (Lf y0 y1 y2 y3 y4) w:=by first | exact fun _ h=>h | exact S9j (by repeat (first | exact u0 | (apply u1; · repeat (first | exact bx0 | apply bxS))))):WE N D (LQ5 N D w0 M env Lf inv μ m Q) .normal E S:=Wp y0 y1 y2 y3 y4 he hm hi hμ
theorem jE6 {E1:α->β->γ->δ->ε->ζ->Env} (ids:List Nat) (V:α->β->γ->δ->ε->ζ->Env) (h:∀ x0 x1 x2 x3 x4 x5,PE E ids (V x0 x1 x2 x3 x4 x5) (E1 x0 x1 x2 x3 x4 x5):=by intros; repeat (first | exact PE.n | apply PE.c rfl)):∀ x0 x1 x2 x3 x4 x5,PE E ids (V x0 x1 x2 x3 x4 x5) (E1 x0 x1 x2 x3 x4 x5):=h
theorem jS6 {L1:α->β->γ->δ->ε->ζ->List Own} (S:α->β->γ->δ->ε->ζ->List Sp) (h:∀ x0 x1 x2 x3 x4 x5,PS L 0 (S x0 x1 x2 x3 x4 x5) (L1 x0 x1 x2 x3 x4 x5):=by intros; repeat (first | exact PS.z | apply PS.i | apply PS.d | apply PS.s | apply PS.k)):∀ x0 x1 x2 x3 x4 x5,PS L 0 (S x0 x1 x2 x3 x4 x5) (L1 x0 x1 x2 x3 x4 x5):=h
theorem qH {V env:α->β->γ->δ->ε->ζ->Env} {S:α->β->γ->δ->ε->ζ->List Sp} {Lf:α->β->γ->δ->ε->ζ->List Own} (_:∀ x0 x1 x2 x3 x4 x5,PE E ids (V x0 x1 x2 x3 x4 x5) (env x0 x1 x2 x3 x4 x5)) (_:∀ x0 x1 x2 x3 x4 x5,PS L 0 (S x0 x1 x2 x3 x4 x5) (Lf x0 x1 x2 x3 x4 x5)) (inv:α->β->γ->δ->ε->ζ->Prop) (μ:α->β->γ->δ->ε->ζ->Nat) (y0:α) (y1:β) (y2:γ) (y3:δ) (y4:ε) (y5:ζ) (hi:inv y0 y1 y2 y3 y4 y5) (round:∀ x0 x1 x2 x3 x4 x5,inv x0 x1 x2 x3 x4 x5->WC P N D c (LQ6 N D w0 M env Lf inv μ (μ x0 x1 x2 x3 x4 x5) Q) (env x0 x1 x2 x3 x4 x5) (Mem w0 M (Lf x0 x1 x2 x3 x4 x5))) (he:BZ E (env y0 y1 y2 y3 y4 y5):=by repeat (first | exact sn | refine sc rfl ?_ | refine sc (ji (by omega)) ?_)) (hm:∀ w,Mem w0 M L w->Mem w0 M (Lf y0 y1 y2 y3 y4 y5) w:=by first | exact fun _ h=>h | exact S9j (by repeat (first | exact u0 | (apply u1; · repeat (first | exact bx0 | apply bxS))))):WC P N D (.loop c) Q E (Mem w0 M L):=c_loop6 env Lf inv μ y0 y1 y2 y3 y4 y5 he hm hi round
theorem vx {S:World->Prop} {env:α->β->γ->δ->ε->ζ->Env} {Lf:α->β->γ->δ->ε->ζ->List Own} {inv:α->β->γ->δ->ε->ζ->Prop} {μ:α->β->γ->δ->ε->ζ->Nat} {m:Nat} (y0:α) (y1:β) (y2:γ) (y3:δ) (y4:ε) (y5:ζ) (hi:inv y0 y1 y2 y3 y4 y5) (hμ:μ y0 y1 y2 y3 y4 y5 < m) (he:BZ E (env y0 y1 y2 y3 y4 y5):=by repeat (first | exact sn | refine sc rfl ?_ | refine sc (ji (by omega)) ?_)) (hm:∀ w,S w->Mem w0 M (Lf y0 y1 y2 y3 y4 y5) w:=by first | exact fun _ h=>h | exact S9j (by repeat (first | exact u0 | (apply u1; · repeat (first | exact bx0 | apply bxS))))):WE N D (LQ6 N D w0 M env Lf inv μ m Q) .normal E S:=WV y0 y1 y2 y3 y4 y5 he hm hi hμ
theorem jE7 {E1:α->β->γ->δ->ε->ζ->η->Env} (ids:List Nat) (V:α->β->γ->δ->ε->ζ->η->Env) (h:∀ x0 x1 x2 x3 x4 x5 x6,PE E ids (V x0 x1 x2 x3 x4 x5 x6) (E1 x0 x1 x2 x3 x4 x5 x6):=by intros; repeat (first | exact PE.n | apply PE.c rfl)):∀ x0 x1 x2 x3 x4 x5 x6,PE E ids (V x0 x1 x2 x3 x4 x5 x6) (E1 x0 x1 x2 x3 x4 x5 x6):=h
theorem jS7 {L1:α->β->γ->δ->ε->ζ->η->List Own} (S:α->β->γ->δ->ε->ζ->η->List Sp) (h:∀ x0 x1 x2 x3 x4 x5 x6,PS L 0 (S x0 x1 x2 x3 x4 x5 x6) (L1 x0 x1 x2 x3 x4 x5 x6):=by intros; repeat (first | exact PS.z | apply PS.i | apply PS.d | apply PS.s | apply PS.k)):∀ x0 x1 x2 x3 x4 x5 x6,PS L 0 (S x0 x1 x2 x3 x4 x5 x6) (L1 x0 x1 x2 x3 x4 x5 x6):=h
theorem c_lJ7 {V env:α->β->γ->δ->ε->ζ->η->Env} {S:α->β->γ->δ->ε->ζ->η->List Sp} {Lf:α->β->γ->δ->ε->ζ->η->List Own} (_:∀ x0 x1 x2 x3 x4 x5 x6,PE E ids (V x0 x1 x2 x3 x4 x5 x6) (env x0 x1 x2 x3 x4 x5 x6)) (_:∀ x0 x1 x2 x3 x4 x5 x6,PS L 0 (S x0 x1 x2 x3 x4 x5 x6) (Lf x0 x1 x2 x3 x4 x5 x6)) (inv:α->β->γ->δ->ε->ζ->η->Prop) (μ:α->β->γ->δ->ε->ζ->η->Nat) (y0:α) (y1:β) (y2:γ) (y3:δ) (y4:ε) (y5:ζ) (y6:η) (hi:inv y0 y1 y2 y3 y4 y5 y6) (round:∀ x0 x1 x2 x3 x4 x5 x6,inv x0 x1 x2 x3 x4 x5 x6->WC P N D c (LQ7 N D w0 M env Lf inv μ (μ x0 x1 x2 x3 x4 x5 x6) Q) (env x0 x1 x2 x3 x4 x5 x6) (Mem w0 M (Lf x0 x1 x2 x3 x4 x5 x6))) (he:BZ E (env y0 y1 y2 y3 y4 y5 y6):=by repeat (first | exact sn | refine sc rfl ?_ | refine sc (ji (by omega)) ?_)) (hm:∀ w,Mem w0 M L w->Mem w0 M (Lf y0 y1 y2 y3 y4 y5 y6) w:=by first | exact fun _ h=>h | exact S9j (by repeat (first | exact u0 | (apply u1; · repeat (first | exact bx0 | apply bxS))))):WC P N D (.loop c) Q E (Mem w0 M L):=c_loop7 env Lf inv μ y0 y1 y2 y3 y4 y5 y6 he hm hi round
theorem gJ {S:World->Prop} {env:α->β->γ->δ->ε->ζ->η->Env} {Lf:α->β->γ->δ->ε->ζ->η->List Own} {inv:α->β->γ->δ->ε->ζ->η->Prop} {μ:α->β->γ->δ->ε->ζ->η->Nat} {m:Nat} (y0:α) (y1:β) (y2:γ) (y3:δ) (y4:ε) (y5:ζ) (y6:η) (hi:inv y0 y1 y2 y3 y4 y5 y6) (hμ:μ y0 y1 y2 y3 y4 y5 y6 < m) (he:BZ E (env y0 y1 y2 y3 y4 y5 y6):=by repeat (first | exact sn | refine sc rfl ?_ | refine sc (ji (by omega)) ?_)) (hm:∀ w,S w->Mem w0 M (Lf y0 y1 y2 y3 y4 y5 y6) w:=by first | exact fun _ h=>h | exact S9j (by repeat (first | exact u0 | (apply u1; · repeat (first | exact bx0 | apply bxS))))):WE N D (LQ7 N D w0 M env Lf inv μ m Q) .normal E S:=Wm y0 y1 y2 y3 y4 y5 y6 he hm hi hμ
end
end Ex
end
section
namespace Ex
section
variable {P : Program} {N n : Nat} {D : List Deferred} {E : Env} {S S0 : World -> Prop} {Q : Exit -> Act -> World -> Prop} {ops : Array Oper} {K : Act -> Prop} {f F : Nat} {is : List Nat}
  {rest:List Oper} {d:Nat} {dst:Option Tmp} {op:Op} {ty:TypeId} {pos:String} {aft:Array Edge} {g:Option (Nat × Bool)} {v u:Value} {w0:World} {M:Fp} {L L':List Own}
theorem vV {id:Nat} {l:List Oper} {S0:World->Prop} (h:WN P N D l.toArray n Q S0 n [] E S) (hm:P.follows .mixedOrders=true:=by exact MixI.h) (hd:∀ w,S w->S w.drew:=by exact fun _ h=>h.drew) (hn:l.length=n:=by rfl):WC P N D (.region id l.toArray true) Q E S:=jO S0 hm hd hn h
theorem uA {l0 l : List Oper} (f : Nat) (seq sl : List Nat) (hl : Gj l0 seq = some l) (h : ∀ K : Act -> Prop, (∀ E', WN P N D l0.toArray n Q (Mem w0 M L') f (seq.reverse ++ is) E' (Mem w0 M L) -> ∀ a, Has N D a E' -> K a) -> WS P N D l0.toArray (Mem w0 M L') K l E) (he : L'.map some = sl.map (fun i => L[i]?) := by repeat (first | exact u0 | apply u1 rfl))
  (hf:F=f + seq.length:=by rfl) (hs:Region.noSelect l0.toArray=true:=by kernel_rfl) (hB:Kf l0.toArray n is seq=true:=by kernel_rfl) (hn:sl.Nodup:=by decide):WN P N D l0.toArray n Q (Mem w0 M L') F is E (Mem w0 M L) :=
 qC (f:=f) seq hl hf hs hB (S9 sl hn he) h
theorem yH {l0 l : List Oper} (f : Nat) (seq : List Nat) (hl : Gj l0 seq = some l) (h : ∀ K : Act -> Prop, (∀ E', WN P N D l0.toArray n Q S0 f (seq.reverse ++ is) E' S -> ∀ a, Has N D a E' -> K a) -> WS P N D l0.toArray S0 K l E) (hS : ∀ w, S w -> S0 w := by first | exact fun _ h => h | exact S9j (by repeat (first | exact u0 | (apply u1; · repeat (first | exact bx0 | apply bxS)))))
  (hf:F=f + seq.length:=by rfl) (hs:Region.noSelect l0.toArray=true:=by kernel_rfl) (hB:Kf l0.toArray n is seq=true:=by kernel_rfl):WN P N D l0.toArray n Q S0 F is E S :=
 qC (f:=f) seq hl hf hs hB hS h
theorem zi {l0:List Oper} {o:Oper} (i:Nat) (hi:MJ l0 i=some o) (h:∀ K:Exit->Act->World->Prop,(∀ E' S',(∀ w,S' w->S0 w)->WN P N D l0.toArray n Q S0 f (i::is) E' S'->WE N D K .normal E' S')->WL P N D l0.toArray K [o] E S) (hf:F=f + 1:=by rfl) (hr:Region.ready .any l0.toArray (mk n is)=[i]:=by kernel_rfl):WN P N D l0.toArray n Q S0 F is E S:=qN hf hr (yI hi h)
theorem yN {l0:List Oper} {o:Oper} (i:Nat) (hi:MJ l0 i=some o) (h:∀ K:Exit->Act->World->Prop,(∀ E' S',(∀ w,S' w->S0 w)->WN P N D l0.toArray n Q S0 f (i::is) E' S'->WE N D K .normal E' S')->(∀ c S',WE N D Q (.panic c) [] S'->∀ E',WE N D K (.panic c) E' S')->WL P N D l0.toArray K [o] E S) (hf:F=f + 1:=by rfl) (hr:Region.ready .any l0.toArray (mk n is)=[i]:=by kernel_rfl):WN P N D l0.toArray n Q S0 F is E S:=qN hf hr (vL hi h)
end
end Ex
end
section
namespace Ex
abbrev sh0:Shelf:=⟨[],[],[],[],0,0,0,0,0⟩
abbrev n0 {α:Type}:SlX α:=⟨none,0,[]⟩
abbrev bz:ByteArray:=⟨#[]⟩
abbrev kC:ByteArray:=⟨#[99,111,117,110,116]⟩
abbrev uC (w:ByteArray) (v:Int):Int:=if w=⟨#[99,111,117,110,116]⟩ then 1 else v
theorem qs {p q:Prop} (h:p) (k:p->q:=by intro h; simpa using h):q:=k h
theorem nn {p:Prop} (h:¬ ¬ p):p:=Classical.not_not.1 h
theorem mo {α:Type _} {l:List α} {i:Nat} {a:α} (h:l[i]?=some a):a ∈ l:=List.mem_of_getElem? h
theorem qQ {p:Prop} (h:p:=by simp only [qL]; omega):p:=h
theorem pA {p:Prop} (h:p:=by intro _ pp; exact pp.sl _ (by repeat (first | exact bx0 | apply bxS))):p:=h
section
variable {P:Program} {N:Nat} {D:List Deferred} {E:Env} {Q:Exit->Act->World->Prop} {w0 w w1:World} {M:Fp} {L:List Own}
theorem Mem.rtS {P0 : Nat -> Prop} {s : Shelf} {v : Value} (h : Mem w ⟨no, P0⟩ L w1) (x : Value) (hv : v = .tuple (List.toArray [.agg (En Zs Zs Zs Zs sh0).toArray, x]) := by rfl) (hs : sh0 = s := by rfl) : Gb w P0 (fun u => .tuple (List.toArray [u, x])) s (.returned v) w1 :=
  h.vm (s':=sh0) (fun u=>.tuple (List.toArray [u,x])) hv hs fN fN fN fN
section
variable {ops:Array Oper} {rest:List Oper} {d:Nat} {ty:TypeId} {pos:String} {aft:Array Edge} {g:Option (Nat × Bool)} {x:Operand} {A R:List Own} {α:Type} {f:Nat} {args:Array Operand} {ts:Array TypeId} {vs cap:List Value} {mk:α->Value} {pure:α->Prop} {A':α->List Own} {PT:Nat} {bad:Pz.F->Prop}
theorem sG (is:List Nat) (h:(A++R).map some=is.map (fun i=>L[i]?):=by repeat (first | exact u0 | apply u1 rfl)):(A++R).map some=is.map (fun i=>L[i]?):=h
theorem zn {is : List Nat} (he : (A ++ R).map some = is.map (fun i => L[i]?)) (hx : ev E x = some (.func (.func f) #[] cap.toArray)) (hargs : evs E args.toList = some vs) (hcall : ∀ vs w, (callFunc f vs).run P w = .ok (.enter f vs) w)
    (hc:∀ w Pb,Mem w ⟨AX A,Pb⟩ A w->Calls P f (vs++cap).toArray w (Be w A Pb mk pure A')) (h:∀ z,pure z->WL P N D ops Q rest ((d,mk z)::E) (Mem w0 M (A' z++R)))
    (hw:Want N D ops E g true:=by first | exact wn | exact wg rfl rfl rfl) (hn:is.Nodup:=by decide) (hq:∀ z,(A' z).all (fun o=>o.mut || o.Cu)=true:=by exact fun _=>rfl) (hd:Nat.blt d N=true:=by rfl) :
    WL P N D ops Q (⟨some d,.call { callee:=.value x,args:=args,argTypes:=ts },ty,pos,aft,g⟩::rest) E (Mem w0 M L):=l_gv A R is hw hx hargs he hcall hc h hn hq hd
theorem yZ {is : List Nat} (he : (A ++ R).map some = is.map (fun i => L[i]?)) (hx : ev E x = some (.func (.func f) #[] cap.toArray)) (hargs : evs E args.toList = some vs) (hcall : ∀ vs w, (callFunc f vs).run P w = .ok (.enter f vs) w)
    (hc:∀ w Pb,Mem w ⟨AX A,Pb⟩ A w->Calls P f (vs++cap).toArray w (FY w A Pb PT mk pure A' bad)) (hb:∀ f,bad f->WE N D Q (.panic (pan PT f)) E (Mem w0 M R)) (h:∀ z,pure z->WL P N D ops Q rest ((d,mk z)::E) (Mem w0 M (A' z++R)))
    (hw:Want N D ops E g true:=by first | exact wn | exact wg rfl rfl rfl) (hn:is.Nodup:=by decide) (hq:∀ z,(A' z).all (fun o=>o.mut || o.Cu)=true:=by exact fun _=>rfl) (hd:Nat.blt d N=true:=by rfl) :
    WL P N D ops Q (⟨some d,.call { callee:=.value x,args:=args,argTypes:=ts },ty,pos,aft,g⟩::rest) E (Mem w0 M L):=l_gw A R is hw hx hargs he hcall hc hb h hn hq hd
end
section
variable {fn:Func} {R:Ending->World->Prop} {r r1 r2:ResultVar} {S:World->Prop} {v v1 v2:Value} {e:Exit}
theorem zR (hR:∀ w,S w->R (.returned v) w) (hr:fn.results=#[r]:=by rfl) (he:e=.ret∨e=.normal:=by first | exact .inl rfl | exact .inr rfl) (hv:DX P N [] E S r v:=by exact rvv):WE N [] (bodyPost P fn R) e E S:=e_rA hr hR he hv
theorem yE (hR:∀ w,S w->R (.returned (.tuple #[v1,v2])) w) (hr:fn.results=#[r1,r2]:=by rfl) (he:e=.ret∨e=.normal:=by first | exact .inl rfl | exact .inr rfl) (h1:DX P N [] E S r1 v1:=by exact rvv) (h2:DX P N [] E S r2 v2:=by exact rvv):WE N [] (bodyPost P fn R) e E S:=e_rB hr hR he h1 h2
end
theorem gg {G R:Prop} (hs:Fu 999->Wr R->G:=by exact gB):R->G:=fun h=>hs (Nat.zero_le 999) ⟨h⟩
theorem kN {N:Nat} {D:List Deferred} {E:Env} {S S0:World->Prop} {X:Env->(World->Prop)->Prop} {K:Exit->Act->World->Prop} (hK:∀ E' S',(∀ w,S' w->S0 w)->X E' S'->WE N D K .normal E' S') (h:X E S) (hS:∀ w,S w->S0 w:=by first | exact fun _ h=>h | exact S9j (by repeat (first | exact u0 | (apply u1; · repeat (first | exact bx0 | apply bxS))))):WE N D K .normal E S:=hK _ _ hS h
end
end Ex
end
section
namespace Ex
theorem q_0 {p:Prop} (h:p:=by first | omega | (simp [Roll.inT,Sh.bIn]; done) | (rw [hst2,List.length_append]; simp only [List.length_cons,List.length_nil]; omega) | (rw [hst2]; done) | (rw [hst2]; omega)):p:=h
theorem q_1 {p:Prop} (h:p:=by first | rfl | (rw [Sh.NY (by assumption),<-Bool.and_assoc]; first | exact Sh.jb_t (by assumption) | exact Sh.jb_f (by assumption)) | (rw [Sh.PR (by assumption),<-Bool.and_assoc]; first | exact Sh.jb_t2 (by assumption) (by assumption) | exact Sh.jb_f (by assumption) | exact Sh.jb_f2 (by assumption)) | (simp [Sh.within]; done) | (rw [Sh.FI,List.take_zero,List.all_nil,Bool.and_true]; exact congrArg Value.bool (decide_eq_decide.2 (by unfold Sh.times Sh.De; simp only; omega)))):p:=h
theorem q_2 {p:Prop} (h:p:=by first | (rw [hb9]; done) | (rw [hb9]; rfl)):p:=h
theorem q_3 {p:Prop} (h:p:=by kernel_rfl):p:=h
theorem q_4 {p:Prop} (h:p:=by simp only [List.length_append,List.length_take,List.length_drop,List.length_replicate,List.length_cons,List.length_nil]; omega):p:=h
theorem q_5 {p:Prop} (h:p:=by first | omega | (simp only [qL]; omega)):p:=h
theorem q_6 {p:Prop} (h:p:=by assumption):p:=h
theorem q_7 {p:Prop} (h:p:=by first | omega | (simp only [Sh.zE,Sh.zG,Sh.mx]; (repeat' split) <;> omega)):p:=h
theorem q_8 {p:Prop} (h:p:=by first | omega | (have:=Mn.SZ (a:=a) (b:=b) (by unfold Mn.tooBig; grind); omega)):p:=h
theorem q_9 {p:Prop} (h:p:=by simp only [qL,List.length_take,List.length_drop]; omega):p:=h
theorem q_10 {p:Prop} (h:p:=by first | (rw [hb9]; done) | (rw [hb9]; rfl) | (have e9:=h1; rw [hb9]; simp [zt.e] at e9 ⊢; exact e9) | (have e9:=h10; rw [hb9]; simp [zt.e] at e9 ⊢; exact e9)):p:=h
theorem q_11 {p:Prop} (h:p:=by first | (rw [hb9]; done) | (rw [hb9]; rfl) | (have e9:=h1; rw [hb9]; simp [zt.e] at e9 ⊢; exact e9) | (have e9:=h2; rw [hb9]; simp [zt.e] at e9 ⊢; exact e9)):p:=h
theorem vi {p:Prop} (h:p:=by rw [hq] <;> rfl):p:=h
theorem uT {p:Prop} (h:p:=by first | omega | decide):p:=h
theorem q_14 {p:Prop} (h:p:=by first | assumption | omega | (simp only [List.length_cons,List.length_nil]; omega) | exact Nat.le_trans (Roll.JW _ _) (by first | omega | simp)):p:=h
theorem q5 {p:Prop} (h:p:=by simp only [List.length_drop,List.length_cons,List.length_nil]; show _=min _ _; omega):p:=h
theorem qV {p:Prop} (h:p:=by have hx:=Lg.Mj e.word; unfold Lg.Cb; grind):p:=h
theorem gA {p:Prop} (h:p:=by rw [show q - 1 + 1=q by omega]):p:=h
theorem qW {p:Prop} (h:p:=by first | rfl | simp | (rw [List.take_length]; done)):p:=h
theorem gk {p:Prop} (h:p:=by rw [hw9]; exact ⟨hI1.2.1,hI1.2.2⟩):p:=h
theorem q_23 {p:Prop} (h:p:=by show _=Mn.comb e.word y9.value (uC e.word s1.value); unfold Mn.comb; rcases hw with hw | hw | hw | hw <;> grind):p:=h
theorem qe {p:Prop} (h:p:=by first | omega | rfl | (rw [hst]; simp) | (rw [hst])):p:=h
theorem q_25 {p:Prop} (h:p:=by rw [decide_eq_false (fun e=>h3 (Option.some.inj (hs1.symm.trans (by rw [e]; exact hs2))))]):p:=h
theorem g0 {p:Prop} (h:p:=by rw [hla] at h5; simpa using h5):p:=h
theorem qf {p:Prop} (h:p:=by first | omega | (rw [hw9]; exact hxc)):p:=h
theorem q_28 {p:Prop} (h:p:=by simp only [Pz.then_ok,Pz.AF,Pz.St.go,lgc,Pz.xpr,Pz.sumOf,he1,hY]):p:=h
theorem q_29 {p:Prop} (h:p:=by simp only [Pz.then_ok,Pz.AF,Pz.St.go,lgc,Pz.Ai,zD.e,zD.es,he1,he2,he3,g1,hY]):p:=h
theorem gl {p:Prop} (h:p:=by first | decide | simp):p:=h
theorem q_31 {p:Prop} (h:p:=by rw [zF.BC,if_neg qO,hs2]; simpa [zF.behind] using h6):p:=h
theorem q_32 {p:Prop} (h:p:=by rw [Bool.eq_iff_iff]; simp [Sh.eq_iff,h1,h2,h3,h4,h5,h6,h7,h8]):p:=h
theorem q_33 {p:Prop} (h:p:=by rw [Codec.BC,if_neg qO,hs2]; simp [Codec.Da]; omega):p:=h
theorem q_34 {p:Prop} (h:p:=by first | omega | (rcases hsp with e | e <;> rw [e] <;> omega)):p:=h
theorem q_36 {p:Prop} (h:p:=by rw [Roll.BC,if_neg qO,hs2]; simp [Roll.behind]; omega):p:=h
theorem qg {p:Prop} (h:p:=by unfold Codec.DW; omega):p:=h
theorem qo {p:Prop} (h:p:=by rw [List.take_of_length_le qO]):p:=h
theorem q6 {p:Prop} (h:p:=by simp only [List.length_map]; omega):p:=h
theorem q_40 {p:Prop} (h:p:=by first | (simp only [if_pos h4]; done) | (simp only [if_pos h4]; rfl)):p:=h
theorem q_41 {p:Prop} (h:p:=by first | (simp only [if_neg h4]; done) | (simp only [if_neg h4]; rfl)):p:=h
theorem q_42 {p:Prop} (h:p:=by rw [hw9,<-hI1.2.2.2.2]; exact ⟨hI1.2.1,hI1.2.2.1,hI1.2.2.2.1⟩):p:=h
theorem q_43 {p:Prop} (h:p:=by rw [decide_eq_false (fun e=>h1 (by rw [e]))]):p:=h
theorem qh {p:Prop} (h:p:=by unfold Mn.check; grind):p:=h
theorem q_45 {p:Prop} (h:p:=by rw [decide_eq_true (US qO qO hI1.2)]):p:=h
theorem q_46 {p:Prop} (h:p:=by rw [Bool.eq_iff_iff,decide_eq_true_iff]; exact Sh.idx_any):p:=h
theorem q_47 {p:Prop} (h:p:=by rw [Uj,Nat.sub_zero,Nat.sub_zero]):p:=h
theorem q_48 {p:Prop} (h:p:=by have:i=j:=qO; rw [this]; exact hI1.2.2.2):p:=h
theorem q7 {p:Prop} (h:p:=by first | assumption | omega):p:=h
theorem q8 {p:Prop} (h:p:=by first | omega | assumption):p:=h
theorem ja {p:Prop} (h:p:=by cases hx):p:=h
theorem q_52 {p:Prop} (h:p:=by rw [Sh.idx_at hI1.2 hs1 h2]):p:=h
theorem q_53 {p:Prop} (h:p:=by simp [Agg.join,CK,h1,h2]):p:=h
theorem jr {p:Prop} (h:p:=by cases hc):p:=h
theorem q_55 {p:Prop} (h:p:=by rw [Sh.VI hI1.2 qO]):p:=h
theorem q_56 {p:Prop} (h:p:=by rw [List.length_map]; omega):p:=h
theorem q_57 {p:Prop} (h:p:=by rw [<-Pz.pfx_ext]; simpa using h1):p:=h
theorem q_58 {p:Prop} (h:p:=by rw [show q - 1 + 1=q by omega]; rfl):p:=h
theorem q_59 {p:Prop} (h:p:=by rw [Bs.VV]; simp_all):p:=h
theorem q_60 {p:Prop} (h:p:=by rw [<-hz1.2]; exact hs2):p:=h
theorem gw {p:Prop} (h:p:=by exact hok):p:=h
theorem q_62 {p:Prop} (h:p:=by unfold Roll.MF; omega):p:=h
theorem q_63 {p:Prop} (h:p:=by unfold Mn.fits; grind):p:=h
theorem q_65 {p:Prop} (h:p:=by have:=h2; omega):p:=h
theorem q9 {p:Prop} (h:p:=by rw [he12,h6]):p:=h
theorem q_67 {p:Prop} (h:p:=by rw [he19,h8]):p:=h
theorem q_68 {p:Prop} (h:p:=by rw [he4,h4]):p:=h
theorem q_69 {p:Prop} (h:p:=by rw [he2,h1]):p:=h
end Ex
end
end Go.Proofs.YtgojhpocpajmlaaGreatDoor
section
namespace Go.Proofs
open Go.Shelf
open Go.RowKit in
open Go.RowKit Go.Sort Go.Lib in
def Tryz.OZ:Go.Shelf.Ren:=⟨fun | 172=>212 | 244=>224 | 245=>225 | 247=>232 | 279=>233 | 280=>234 | 281=>235 | 282=>236 | 287=>240 | 316=>241 | 171=>107 | 205=>242 | 321=>243 | 322=>244 | 243=>159 | 246=>199 | 283=>218 | 284=>219 | 285=>220 | 286=>221 | 129=>228 | 317=>227 | 318=>229 | 319=>230 | 320=>231 | 337=>238 | 338=>239 | n=>n,fun | 9=>9 | 3=>3 | 75=>183 | 76=>185 | 4=>4 | 5=>5 | 167=>279 | 37=>79 | 0=>0 | 85=>280 | 2=>2 | 168=>282 | 53=>266 | 175=>287 | 46=>228 | 210=>291 | 127=>190 | 145=>298 | 143=>296 | 21=>21 | 171=>265 | 173=>269 | 212=>275 | 51=>276 | 20=>20 | 213=>277 | 232=>293 | 233=>294 | 80=>139 | n=>n,fun | 15=>2 | 16=>3 | 17=>0 | 18=>4 | 19=>5 | n=>n⟩
theorem Tryz.Pm:Go.Proofs.LaysC.n172 Tryz.prog Tryz.OZ:={
 mixed:=by kernel_rfl
 f129:=Tryz.func228.trans (congrArg some (by kernel_rfl))
 f171:=Tryz.func107.trans (congrArg some (by kernel_rfl))
 f172:=Tryz.func212.trans (congrArg some (by kernel_rfl))
 f205:=Tryz.func242.trans (congrArg some (by kernel_rfl))
 f243:=Tryz.func159.trans (congrArg some (by kernel_rfl))
 f244:=Tryz.func224.trans (congrArg some (by kernel_rfl))
 f245:=Tryz.func225.trans (congrArg some (by kernel_rfl))
 f246:=Tryz.func199.trans (congrArg some (by kernel_rfl))
 f247:=Tryz.func232.trans (congrArg some (by kernel_rfl))
 f279:=Tryz.func233.trans (congrArg some (by kernel_rfl))
 f280:=Tryz.func234.trans (congrArg some (by kernel_rfl))
 f281:=Tryz.func235.trans (congrArg some (by kernel_rfl))
 f282:=Tryz.func236.trans (congrArg some (by kernel_rfl))
 f283:=Tryz.func218.trans (congrArg some (by kernel_rfl))
 f284:=Tryz.func219.trans (congrArg some (by kernel_rfl))
 f285:=Tryz.func220.trans (congrArg some (by kernel_rfl))
 f286:=Tryz.func221.trans (congrArg some (by kernel_rfl))
 f287:=Tryz.func240.trans (congrArg some (by kernel_rfl))
 f316:=Tryz.func241.trans (congrArg some (by kernel_rfl))
 f317:=Tryz.func227.trans (congrArg some (by kernel_rfl))
 f318:=Tryz.func229.trans (congrArg some (by kernel_rfl))
 f319:=Tryz.func230.trans (congrArg some (by kernel_rfl))
 f320:=Tryz.func231.trans (congrArg some (by kernel_rfl))
 f321:=Tryz.func243.trans (congrArg some (by kernel_rfl))
 f322:=Tryz.func244.trans (congrArg some (by kernel_rfl))
 f337:=Tryz.func238.trans (congrArg some (by kernel_rfl))
 f338:=Tryz.func239.trans (congrArg some (by kernel_rfl))
 t0:=Tryz.underlying0
 a0:=Tryz.isAgg0
 z0:=Tryz.sizeOf0
 v0:=Tryz.zeroValue0
 t2:=Tryz.underlying2
 a2:=Tryz.isAgg2
 z2:=Tryz.sizeOf2
 v2:=Tryz.zeroValue2
 t3:=Tryz.underlying3
 a3:=Tryz.isAgg3
 z3:=Tryz.sizeOf3
 v3:=Tryz.zeroValue3
 t4:=Tryz.underlying4
 a4:=Tryz.isAgg4
 z4:=Tryz.sizeOf4
 v4:=Tryz.zeroValue4
 t5:=Tryz.underlying5
 a5:=Tryz.isAgg5
 z5:=Tryz.sizeOf5
 v5:=Tryz.zeroValue5
 t9:=Tryz.underlying9
 a9:=Tryz.isAgg9
 z9:=Tryz.sizeOf9
 v9:=Tryz.zeroValue9
 t20:=Tryz.underlying20
 a20:=Tryz.isAgg20
 z20:=Tryz.sizeOf20
 v20:=Tryz.zeroValue20
 t21:=Tryz.underlying21
 a21:=Tryz.isAgg21
 z21:=Tryz.sizeOf21
 v21:=Tryz.zeroValue21
 t37:=Tryz.underlying79
 a37:=Tryz.isAgg79
 z37:=Tryz.sizeOf79
 v37:=Tryz.zeroValue79
 t46:=Tryz.underlying228
 a46:=Tryz.isAgg228
 z46:=Tryz.sizeOf228
 v46:=Tryz.zeroValue228
 t51:=Tryz.underlying276
 a51:=Tryz.isAgg276
 z51:=Tryz.sizeOf276
 v51:=Tryz.zeroValue276
 t53:=Tryz.underlying266
 a53:=Tryz.isAgg266
 z53:=Tryz.sizeOf266
 v53:=Tryz.zeroValue266
 t75:=Tryz.underlying183
 a75:=Tryz.isAgg183
 z75:=Tryz.sizeOf183
 v75:=Tryz.zeroValue183
 t76:=Tryz.underlying185
 a76:=Tryz.isAgg185
 z76:=Tryz.sizeOf185
 v76:=Tryz.zeroValue185
 t85:=Tryz.underlying280
 a85:=Tryz.isAgg280
 z85:=Tryz.sizeOf280
 v85:=Tryz.zeroValue280
 t127:=Tryz.underlying190
 a127:=Tryz.isAgg190
 z127:=Tryz.sizeOf190
 v127:=Tryz.zeroValue190
 t143:=Tryz.underlying296
 a143:=Tryz.isAgg296
 z143:=Tryz.sizeOf296
 v143:=Tryz.zeroValue296
 t145:=Tryz.underlying298
 a145:=Tryz.isAgg298
 z145:=Tryz.sizeOf298
 v145:=Tryz.zeroValue298
 t167:=Tryz.underlying279
 a167:=Tryz.isAgg279
 z167:=Tryz.sizeOf279
 v167:=Tryz.zeroValue279
 t168:=Tryz.underlying282
 a168:=Tryz.isAgg282
 z168:=Tryz.sizeOf282
 v168:=Tryz.zeroValue282
 t171:=Tryz.underlying265
 a171:=Tryz.isAgg265
 z171:=Tryz.sizeOf265
 v171:=Tryz.zeroValue265
 t173:=Tryz.underlying269
 a173:=Tryz.isAgg269
 z173:=Tryz.sizeOf269
 v173:=Tryz.zeroValue269
 t175:=Tryz.underlying287
 a175:=Tryz.isAgg287
 z175:=Tryz.sizeOf287
 v175:=Tryz.zeroValue287
 t210:=Tryz.underlying291
 a210:=Tryz.isAgg291
 z210:=Tryz.sizeOf291
 v210:=Tryz.zeroValue291
 t212:=Tryz.underlying275
 a212:=Tryz.isAgg275
 z212:=Tryz.sizeOf275
 v212:=Tryz.zeroValue275
 t213:=Tryz.underlying277
 a213:=Tryz.isAgg277
 z213:=Tryz.sizeOf277
 t232:=Tryz.underlying293
 a232:=Tryz.isAgg293
 z232:=Tryz.sizeOf293
 v232:=Tryz.zeroValue293
 t233:=Tryz.underlying294
 a233:=Tryz.isAgg294
 z233:=Tryz.sizeOf294
 v233:=Tryz.zeroValue294
 g15:=by kernel_rfl
 g16:=by kernel_rfl
 g17:=by kernel_rfl
 g18:=by kernel_rfl
 g19:=by kernel_rfl
 t80:=Tryz.underlying139
 a80:=Tryz.isAgg139
 z80:=Tryz.sizeOf139
 v80:=Tryz.zeroValue139
 i0:=by kernel_rfl
 i2:=by kernel_rfl
 i3:=by kernel_rfl
 i4:=by kernel_rfl
 i5:=by kernel_rfl
 i9:=by kernel_rfl
 i20:=by kernel_rfl
 i21:=by kernel_rfl
 i37:=by kernel_rfl
 i46:=by kernel_rfl
 i51:=by kernel_rfl
 i53:=by kernel_rfl
 i75:=by kernel_rfl
 i76:=by kernel_rfl
 i80:=by kernel_rfl
 i85:=by kernel_rfl
 i127:=by kernel_rfl
 i143:=by kernel_rfl
 i145:=by kernel_rfl
 i167:=by kernel_rfl
 i168:=by kernel_rfl
 i171:=by kernel_rfl
 i173:=by kernel_rfl
 i175:=by kernel_rfl
 i210:=by kernel_rfl
 i212:=by kernel_rfl
 i232:=by kernel_rfl
 i233:=by kernel_rfl
 m15:=by kernel_rfl
 m16:=by kernel_rfl
 m17:=by kernel_rfl
 m18:=by kernel_rfl
 m19:=by kernel_rfl
 c0:=by kernel_rfl
 c2:=by kernel_rfl
 c3:=by kernel_rfl
 c4:=by kernel_rfl
 c5:=by kernel_rfl
 c9:=by kernel_rfl
 c20:=by kernel_rfl
 c21:=by kernel_rfl
 c37:=by kernel_rfl
 c46:=by kernel_rfl
 c51:=by kernel_rfl
 c53:=by kernel_rfl
 c75:=by kernel_rfl
 c76:=by kernel_rfl
 c80:=by kernel_rfl
 c85:=by kernel_rfl
 c127:=by kernel_rfl
 c143:=by kernel_rfl
 c145:=by kernel_rfl
 c167:=by kernel_rfl
 c168:=by kernel_rfl
 c171:=by kernel_rfl
 c173:=by kernel_rfl
 c175:=by kernel_rfl
 c210:=by kernel_rfl
 c212:=by kernel_rfl
 c213:=by kernel_rfl
 c232:=by kernel_rfl
 c233:=by kernel_rfl }
open Go.RowKit in
theorem Tryz.strconv_Atoi_ok (s:ByteArray) (a:s.size<=9223372036854775806) (v:Int) (h:Lib.atoiAll s.data.toList=.ok v) (w:World) :
  Calls Tryz.prog 212 #[.string s] w fun e w'=>e=.returned (.tuple #[.int .i64 v,.nilIface])∧(w'=w∨∃ t,w'=Lib.bytesWorld w 5 t):=Any.strconv_Atoi_ok Tryz.Pm s a v h w
open Go.RowKit in
theorem Tryz.strconv_Atoi_range_var (s : ByteArray) (b : s.size <= 281474976710656) (h : Lib.atoiAll s.data.toList = .range) (tp : TypeId) (p : Value) (w : World) (a : w.var? Tryz.prog "strconv.ErrRange" = some #[.iface tp p]) :
  Calls Tryz.prog 212 #[.string s] w fun e w'=>∃ N,e=.returned (.tuple #[.int .i64 (Lib.atoiSat s.data.toList),.iface 282 (.pointer (some ⟨N,0,none⟩))])∧w.heap.size<=N∧w'.heap[N]?=some (.cells #[.string ⟨#[65,116,111,105]⟩,.string s,.iface tp p] 291 (0,0))∧Below w.heap.size w w':=Any.strconv_Atoi_range_var Tryz.Pm s b h tp p w a
def Tryz.RB:Go.Shelf.Ren:=⟨fun | 99=>148 | 206=>184 | n=>n,fun | 9=>9 | 4=>4 | 3=>3 | n=>n,fun | n=>n⟩
theorem Tryz.lays99:Go.Proofs.Lays.n99 Tryz.prog Tryz.RB:={
 mixed:=by kernel_rfl
 f99:=Tryz.func148.trans (congrArg some (by kernel_rfl))
 f206:=Tryz.func184.trans (congrArg some (by kernel_rfl))
 t3:=Tryz.underlying3
 a3:=Tryz.isAgg3
 z3:=Tryz.sizeOf3
 v3:=Tryz.zeroValue3
 t4:=Tryz.underlying4
 a4:=Tryz.isAgg4
 z4:=Tryz.sizeOf4
 v4:=Tryz.zeroValue4
 t9:=Tryz.underlying9
 a9:=Tryz.isAgg9
 z9:=Tryz.sizeOf9
 v9:=Tryz.zeroValue9 }
open Go.RowKit Go.Lib in
theorem Tryz.strings_HasPrefix (s p:ByteArray) (w:World) :
  Calls Tryz.prog 148 #[.string s,.string p] w fun e w'=>e=.returned (.bool (Lib.hasPrefix s.data.toList p.data.toList))∧w'=w:=Any.strings_HasPrefix Tryz.lays99 s p w
end Go.Proofs
end
namespace Go.Proofs.YtgojhpocpajmlaaGreatDoor
section
namespace Ex
@[reducible] def dfr (f:Nat) (cap:List Value):Deferred:={ target:=.fn (.func f) cap.toArray,args:=#[] }
section
variable {P:Program} {N:Nat} {D:List Deferred} {E E':Env} {S S':World->Prop} {Q:Exit->Act->World->Prop} {K:Act->World->Prop} {w0 w w':World} {M:Fp} {L A A' R L':List Own} {Pb:Nat->Prop}
  {ops:Array Oper} {rest:List Oper} {d:Nat} {ty T PT:TypeId} {pos:String} {aft:Array Edge} {g:Option (Nat × Bool)} {v u:Value} {x y:Operand}
theorem fstartD {f:Nat} {fn:Func} {c:Code} {Bh:List Value} {w:World} {R:Ending->World->Prop} (d:P.funcs[f]?=some fn) (e:fn.body=some c) (i:fn.ntmps=N) (g:Nat.ble Bh.length N=true)
  (j:S w) (h:WC P N [] c (bodyPostD P fn R) (HZ 0 Bh) S):Calls P f Bh.toArray w R:=by
 refine calls_of_wp_defers d e (h w j _ ⟨rfl,?_,fun t v a=>?_⟩)
 ·have:=Nat.le_of_ble_eq_true g
  simp [i]; omega
 ·rw [Fy,zI qO] at a
  simp only [Nat.sub_zero] at a
  have b:t < Bh.length:=(yb.1 a).1
  rw [Array.getElem?_append_left (by simpa using b)]
  simpa using a
theorem c_seqD {x y:Code} (h:∀ K:Act->World->Prop,(∀ D' E S,WC P N D' y Q E S->∀ w,S w->∀ a,Has N D' a E->K a w)->WC P N D x (Exit.then K Q) E S):WC P N D (.seq x y) Q E S :=
 fun w f a e=>wp_seq (h (fun a w=>y.wp P Q a w) (fun _ _ _ d w' c g b=>d w' c g b) w f a e)
theorem l_defer {f:Nat} {cap:List Value} (e:Want N D ops E g true) (c:ev E x=some (.func (.func f) #[] cap.toArray)) (h:WL P N (dfr f cap::D) ops Q rest E S):WL P N D ops Q (⟨none,.defer { callee:=.value x,args:=#[],argTypes:=#[] },ty,pos,aft,g⟩::rest) E S:=fun w i a b=>by
 unfold wpList
 rw [zP (e _ rfl a b)]
 left
 unfold Oper.wp
 rw [show (execOp a.eval ⟨none,.defer { callee:=.value x,args:=#[],argTypes:=#[] },ty,pos,aft,g⟩).run P w=.ok (.defer (dfr f cap)) w from by unfold execOp; simp [b.eval c,resolve,Deferred.ofValue,dfr],Oper.upon_defer]
 exact h w i _ ⟨by show _::a.defers=_; rw [b.d],b.n,b.h⟩
section
variable {fn:Func} {R:Ending->World->Prop} {f:Nat} {cap:List Value} {r1 r2:ResultVar} {v1 v2:Value} {chain chain':List PanicEntry}
theorem res2 {a:Act} {w:World} (f:fn.results=#[r1,r2]) (c:DX P N D E S r1 v1) (b:DX P N D E S r2 v2) (e:S w) (d:Has N D a E):(results fn a.tmps).run P w=.ok (.tuple #[v1,v2]) w:=by
 rw [GX,f]; simp [c w e a d,b w e a d]
theorem e_retD0 {e:Exit} (he:e=.ret∨e=.normal) (j:fn.results=#[r1,r2]) (c:DX P N [] E S r1 v1) (b:DX P N [] E S r2 v2) (i:∀ w,S w->R (.returned (.tuple #[v1,v2])) w):WE N [] (bodyPostD P fn R) e E S:=fun w g a f=>by
 have h:Leaves P fn a.tmps R a.defers .returning w:=by rw [f.d]; exact ⟨_,res2 j c b g f,i w g⟩
 rcases he with rfl | rfl <;> exact h
theorem leave1 {a:Act} {w:World} {u u':FrameMode} (m:u≠.run) (b:∀ vs w,(callFunc f vs).run P w=.ok (.enter f vs) w) (g:settle u'=.returning)
  (p:CallsD P f cap.toArray u w (fun e k w'=>k=u'∧(∃ v,e=.returned v)∧S' w')) (q:fn.results=#[r1,r2]) (i:DX P N D E S' r1 v1) (h:DX P N D E S' r2 v2) (o:∀ w,S' w->R (.returned (.tuple #[v1,v2])) w) (j:Has N D a E) (r:D=[dfr f cap]):Leaves P fn a.tmps R a.defers u w:=by
 have n:=j.d
 rw [n,r]
 refine leaves_cons m (f:=f) (args:=cap.toArray) (by simp [invoke,b]) (p.mono ?_)
 rintro e k l ⟨rfl,⟨v,rfl⟩,c⟩
 show Leaves P fn a.tmps R [] (settle _) l
 rw [g]
 exact ⟨_,res2 q i h c j,o l c⟩
theorem e_retD {e:Exit} (he:e=.ret∨e=.normal) (b:∀ vs w,(callFunc f vs).run P w=.ok (.enter f vs) w) (j:∀ w,S w->CallsD P f cap.toArray .returning w (fun e u' w'=>u'=.returning∧(∃ v,e=.returned v)∧S' w'))
  (k:fn.results=#[r1,r2]) (d:DX P N [dfr f cap] E S' r1 v1) (c:DX P N [dfr f cap] E S' r2 v2) (h:∀ w,S' w->R (.returned (.tuple #[v1,v2])) w):WE N [dfr f cap] (bodyPostD P fn R) e E S:=fun w l a i=>by
 have g:=leave1 (u:=.returning) qS b (u':=.returning) rfl (j w l) k d c h i rfl
 rcases he with rfl | rfl <;> exact g
theorem qp (b:∀ vs w,(callFunc f vs).run P w=.ok (.enter f vs) w) (j:∀ w,S w->CallsD P f cap.toArray (.panicking chain) w (fun e u' w'=>u'=.panicking chain'∧(∃ v,e=.returned v)∧S' w')) (g:settle (.panicking chain')=.returning)
  (k:fn.results=#[r1,r2]) (d:DX P N [dfr f cap] E S' r1 v1) (c:DX P N [dfr f cap] E S' r2 v2) (h:∀ w,S' w->R (.returned (.tuple #[v1,v2])) w):WE N [dfr f cap] (bodyPostD P fn R) (.panic chain) E S:=fun w l a i =>
 leave1 (u:=.panicking chain) qS b g (j w l) k d c h i rfl
end
theorem dgive {α:Type} {f:Nat} {cap:List Value} {u g:FrameMode} (A R:List Own) (j:α->Value) (A' L':List Own) (c:A'++R=L') (l:∀ w,Mem w0 M L w->Mem w0 M (A++R) w) (h:A'.all (fun o=>o.mut || o.Cu)=true)
  (k:∀ w b,Mem w ⟨AX A,b⟩ A w->CallsD P f cap.toArray u w (fun e u' w'=>u'=g∧Be w A b j (fun _=>True) (fun _=>A') e w')):∀ w,Mem w0 M L w->CallsD P f cap.toArray u w (fun e u' w'=>u'=g∧(∃ v,e=.returned v)∧Mem w0 M L' w'):=fun w m=>by
 have a:=l w m
 obtain ⟨b,d⟩:=a.pb
 refine (k w b (a.give d)).mono ?_
 rintro e u' w' ⟨i,z,rfl,_,n⟩
 exact ⟨i,⟨_,rfl⟩,by rw [<-c]; exact a.take d n h⟩
theorem didle {f:Nat} {cap:List Value} (g:∀ w,Mem w0 M L w->CallsD P f cap.toArray .returning w (fun e u' w'=>u'=.returning∧Be w [] (fun _=>False) (fun _:Unit=>.tuple #[]) (fun _=>True) (fun _=>[]) e w')):∀ w,Mem w0 M L w->CallsD P f cap.toArray .returning w (fun e u' w'=>u'=.returning∧(∃ v,e=.returned v)∧Mem w0 M L w'):=fun w a=>by
 refine (g w a).mono ?_
 rintro e u' w' ⟨c,z,rfl,_,i⟩
 exact ⟨c,⟨_,rfl⟩,a.Cl (i.fr.mono fun b j h=>by obtain ⟨o,d,_⟩:=h; cases d)⟩
theorem memNil (w:World):Mem w ⟨AX [],fun _=>False⟩ [] w:=Mem.start w _
theorem dstart {f:Nat} {fn:Func} {id:Nat} {c:Code} {Bh:List Value} {w:World} {R:Ending->World->Prop} {u u':FrameMode} {j:Value} (C:P.funcs[f]?=some fn) (E:fn.body=some (.seq (.region id #[⟨some d,.call { callee:=.builtin .recover,args:=#[],argTypes:=#[] },ty,pos,aft,none⟩] false) c)) (D:fn.ntmps=N) (B:Nat.ble Bh.length N=true) (z:Nat.blt d N=true)
  (A:(u=.returning∧u'=.returning∧j=.nilIface)∨∃ b,u=.panicking ({ v:=j,recovered:=false }::b)∧u'=.panicking ({ v:=j,recovered:=true }::b))
  (F:S w) (h:WC P N [] c (bodyPost P fn R) ((d,j)::HZ 0 Bh) S):CallsD P f Bh.toArray u w (fun e y w'=>y=u'∧R e w'):=by
 refine callsD_of_wpS C E fun c₀ cs hcu=>?_
 have q:Has N [] ({ tmps:=Bh.toArray++Array.replicate (fn.ntmps - Bh.toArray.size) undef,defers:=[] }:Act) (HZ 0 Bh):=by
  refine ⟨rfl,?_,fun t v p=>?_⟩
  ·have:=Nat.le_of_ble_eq_true B
   simp [D]; omega
  ·rw [Fy,zI qO] at p
   simp only [Nat.sub_zero] at p
   have x:t < Bh.length:=(yb.1 p).1
   rw [Array.getElem?_append_left (by simpa using x)]
   simpa using p
 refine wpS_seq (wpS_region ?_)
 have g:∀ cs':List Frame,cs'={ c₀ with mode:=u' }::cs->∀ (a:Act),Has N [] a ((d,j)::HZ 0 Bh)->c.wpS P (bodyPostS P fn c₀ cs fun e y w'=>y=u'∧R e w') a cs' w:=fun cs' k a q=>by
  refine wpS_of_wp (Code.wp_mono ?_ (h w F a q))
  intro e G w' l
  cases e with
  | normal=>obtain ⟨m,v,o,r⟩:=l; exact ⟨m,u',k,v,o,rfl,r⟩
  | ret=>obtain ⟨m,v,o,r⟩:=l; exact ⟨m,u',k,v,o,rfl,r⟩
  | panic ch=>obtain ⟨m,o⟩:=l; exact ⟨m,u',k,rfl,o⟩
  | outgrown=>exact ⟨u',rfl,l⟩
  | exit i=>exact l
  | goto i=>exact l
 have n:∀ a:Act,(execOp a.eval ⟨some d,.call { callee:=.builtin .recover,args:=#[],argTypes:=#[] },ty,pos,aft,none⟩).run P w=.ok .recover w:=fun a=>by
  unfold execOp; simp [resolve,invoke,builtin]
 rw [show List.range (#[(⟨some d,.call { callee:=.builtin .recover,args:=#[],argTypes:=#[] },ty,pos,aft,none⟩:Oper)]).size=[0] from rfl]
 simp only [wpOpsS,List.getElem?_toArray,List.getElem?_cons_zero,Region.wanted,if_true,n]
 rcases A with ⟨rfl,rfl,rfl⟩ | ⟨b,rfl,rfl⟩
 ·have s:recoverD (c₀::cs)=none:=by simp [recoverD,hcu]
  simp only [s]
  exact g _ (by rw [<-hcu]) _ (q.put _ z)
 ·have s:recoverD (c₀::cs)=some (j,{ c₀ with mode:=.panicking ({ v:=j,recovered:=true }::b) }::cs):=by simp [recoverD,hcu]
  simp only [s]
  exact g _ rfl _ (q.put _ z)
end
end Ex
end
section
namespace Ex
structure LinesX.Wf (z:SlX yx):Prop where
  sl:Ex.Wf z
  all:∀ c ∈ z.l,yx.Wf c
section
variable {w0 w w':World} {M:Fp} {L L':List Own} {α:Type} {ok:(Nat->Prop)->α->World->Prop}
theorem Mem.Tn (h:Mem w0 M L w) (q:Nat) {e:SlX zC} (hi:L[q]?=some (okP CelsX.Ok e)):Mem w0 M (slP 2 zu (e.v) e.l::AS zC.Ok e.l::L) w:=by
 have b:=h.imp q hi (Av zC.Ok.loc e.l) fun _ a=>CelsX.Ok.all a;exact b.imp (q + 1) hi (zH.loc 2 zu _ e.l) fun _ a=>CelsX.Ok.cells a
end
end Ex
end
section
namespace Codec
def zig (n:Int):Nat:=if n < 0 then (-2 * n - 1).toNat else (2 * n).toNat
def unzig (u:Nat):Int:=if ((u % 2 ^ 1:Nat):Int)=1 then -((u / 2 ^ 1:Nat):Int) - 1 else ((u / 2 ^ 1:Nat):Int)
def digs (u:Nat):List UInt8:=if u < 128 then [UInt8.ofNat u] else (UInt8.ofNat u ||| 128)::digs (u / 2 ^ 7)
 termination_by u
 decreasing_by omega
def putB (n:Int):List UInt8:=digs (zig n)
structure T3 where (last step value:Int)
def tr (t:T3) (s:AA):T3:=⟨s.time,s.time - t.last,s.value⟩
def enc1 (t:T3) (s:AA):List UInt8:=putB (s.time - t.last - t.step)++putB (s.value - t.value)
def body:T3->List AA->List UInt8
  | _,[]=>[]
  | t,s::r=>enc1 t s++body (tr t s) r
def dec:Nat->Nat->List UInt8->Option (Nat × List UInt8)
  | _,_,[]=>none
  | i,u,c::r=>if i=6 then none else if 128<=c.toNat then dec (i + 1) (u + (c &&& 127).toNat * 2 ^ (7 * i)) r else if 0 < i∧c.toNat=0 then none else some (u + (c &&& 127).toNat * 2 ^ (7 * i),r)
def KA (b:List UInt8):Int:=match dec 0 0 b with
  | some (u,_)=>unzig u
  | none=>0
def OI (b:List UInt8):List UInt8:=match dec 0 0 b with
  | some (_,r)=>r
  | none=>b
def Sl (b:List UInt8):Bool:=(dec 0 0 b).isSome
def prs:Nat->List UInt8->T3->List AA->Option (List UInt8 × List AA)
  | 0,b,_,acc=>some (b,acc)
  | n + 1,b,t,acc=>if ((true && Sl b) && Sl (OI b))=true then prs n (OI (OI b)) ⟨wr (t.last + wr (t.step + KA b)),wr (t.step + KA b),wr (t.value + KA (OI b))⟩ (acc++[⟨wr (t.last + wr (t.step + KA b)),wr (t.value + KA (OI b))⟩]) else none
def parse (b:List UInt8):List AA × Int :=
  if ((!(true && Sl b))=true)∨((KA b < 0)∨(((OI b).length:Int) / 2 < KA b)) then ([],2) else
  match prs (KA b).toNat (OI b) ⟨0,0,0⟩ [] with
  | none=>([],2)
  | some (r,l)=>if r≠[] then ([],2) else if (AE l).err≠0 then ([],(AE l).err) else (l,0)
section
variable {b bs:List UInt8} {t:T3} {acc:List AA} {k:Nat} (h0:¬ (((!(true && Sl b))=true)∨((KA b < 0)∨(((OI b).length:Int) / 2 < KA b)))) (h1:prs (KA b).toNat (OI b) ⟨0,0,0⟩ []=prs ((KA b).toNat - k) bs t acc)
include h0 h1
end
end Codec
end
section
namespace Mn
open Ex
theorem ask_ok {l:List yx} {e:Expr} {t:Int} (h:(ask l e t).2=0):(lines l).err=0∧check e t=0:=by
 by_cases a:(lines l).err=0;by_cases b:check e t=0;exact ⟨a,b⟩;rw [ask,zI (by simpa using a),zP b] at h; exact absurd h b;rw [ask,zP a] at h; exact absurd h a
end Mn
end
section
namespace Mn
open Ex
def two (w:ByteArray) (a b:Expr):Expr:=.mk 4 0 0 w [] [] [a,b]
def num (n:Int):Expr:=.mk 1 n 0 .empty [] [] []
theorem Eo {n:Int} (h:0<=n∧n<=1000000):CA (num n):=by
 rw [num,CA,Ba];refine ⟨by decide,by simp [Lg.arity],?_,trivial⟩;rw [Lg.Cb,zP rfl,zI qO]
theorem UJ (n:Int):nodes (num n)=1:=by rfl
theorem JR {w:ByteArray} {a b:Expr} (c:0<=zF.indexOf Lg.BL w 0):Lg.shape (two w a b) 1 0=Lg.At [a,b] 2 1:=by
 rw [two,Lg.shape,zI qO,zI qO,zI (by simp [Lg.arity]),zI];rfl;rw [Lg.Cb,zI qD,zI qD,zI qD,zI (fun h=>h c)]; simp
theorem Mv {w:ByteArray} {a b:Expr} (e:0<=zF.indexOf Lg.BL w 0) (d:CA a) (c:CA b):Lg.AE (two w a b)=0∨Lg.AE (two w a b)=4:=by
 rw [Lg.AE,JR e]; exact Li _ _ _ (by rw [Ba,Ba,Ba]; exact ⟨d,c,trivial⟩)
theorem two_of {w:ByteArray} {a b:Expr} (f:0<=zF.indexOf Lg.BL w 0) (h:Lg.AE (two w a b)=0):1 + nodes a + nodes b<=100∧low 2 a∧low 2 b:=by
 rw [Lg.AE,JR f] at h;obtain ⟨g,e,c⟩:=JN _ _ _ h;have d:=Lg.Iz [a,b] 2 1 qO qO h;rw [e,BW,BW,BW] at d;rw [HY,HY] at c;exact ⟨qO,c.1,c.2.1⟩
theorem two_ok {w:ByteArray} {a b:Expr} (g:0<=zF.indexOf Lg.BL w 0) (f:CA a) (e:CA b) (h:1 + nodes a + nodes b<=100) (c:low 2 a) (d:low 2 b):Lg.AE (two w a b)=0:=by
 rw [Lg.AE,JR g,JF _ _ _ (by rw [Ba,Ba,Ba]; exact ⟨f,e,trivial⟩) (by rw [BW,BW,BW]; omega) (by rw [HY,HY,HY]; exact ⟨c,d,trivial⟩)]
theorem HS {w:ByteArray} {a b:Expr} (d:Lg.typed a=0) (c:Lg.typed b=0):Lg.typed (two w a b)=0:=by
 rw [two,Lg.typed,zI qS,Lg.Bq,zI (by simpa using d),Lg.Bq,zI (by simpa using c),Lg.Bq]
theorem Mh (n:Int):Lg.typed (num n)=0:=by rfl
theorem Je {e:Expr} {t:Int} (h:check e t=0):Lg.AE e=0∧Lg.typed e=0∧(0<=t∧t<=1000000):=by
 unfold check at h;split at h;rename_i a; exact absurd h a;rename_i a;split at h;rename_i b; exact absurd h b;rename_i b;split at h;cases h;exact ⟨ym.1 a,ym.1 b,qO⟩
theorem WU {e:Expr} {t:Int} (a:Lg.AE e=0) (b:Lg.typed e=0) (c:0<=t∧t<=1000000):check e t=0:=by
 unfold check; rw [zI (by simpa using a),zI (by simpa using b),zI qO]
theorem check_4 {e:Expr} {t:Int} (a:Lg.AE e=4):check e t=4:=by
 unfold check; rw [zP (by rw [a]; decide),a]
theorem Ip {lk:CQ} {t:Int} {w:ByteArray} {a b:Expr} (d:(eval lk t a).2=0) (c:(eval lk t b).2=0):eval lk t (two w a b)=bin w (eval lk t a).1 (eval lk t b).1:=by
 have he:Ar lk t [a,b]=([(eval lk t a).1,(eval lk t b).1],0):=by
  rw [Ar,zI (by simpa using d),Ar,zI (by simpa using c),Ar]
 rw [two,eval,zI qD,zI qD,he,zI qS,close,zI qD]
theorem QC (lk:CQ) (t n:Int):eval lk t (num n)=(⟨false,n,[]⟩,0):=by rfl
def Dst (l:List Cell):Prop:=(l.map (·.sr)).Nodup
def HW (lk:CQ):Prop:=∀ m a b,((lk m a b).1.map (·.1)).Nodup
theorem dst_asc {l:List Cell} (h:Asc l):Dst l:=by
 unfold Dst; unfold Asc at h;rw [List.Nodup,List.pairwise_map];exact h.imp fun a=>Dw a
theorem EJ {α:Type} (f:α->Option (List Label)) (g:α->List Label) (c:∀ a s,f a=some s->s=g a):∀ {l:List α},(l.map g).Nodup->(l.filterMap f).Nodup
 | [],_=>by simp
 | a :: l, h => by
  rw [List.map_cons,List.nodup_cons] at h
  have ih:=EJ f g c h.2
  rw [List.filterMap_cons]
  split
  ·exact ih
  ·rename_i s e
   rw [List.nodup_cons]
   refine ⟨fun j=>h.1 ?_,ih⟩
   obtain ⟨b,i,d⟩:=List.mem_filterMap.1 j
   rw [<-c a s e,c b s d]
   exact List.mem_map_of_mem i
theorem dst_win {w:ByteArray} {r:List (List Label × Sum)} (h:(r.map (·.1)).Nodup):Dst (DV w r):=by
 unfold Dst DV;rw [List.map_filterMap];refine EJ _ (·.1) (fun a s d=>?_) h;simp only [Option.map_eq_some_iff] at d;obtain ⟨c,b,rfl⟩:=d;split at b;injection b with b; rw [<-b];cases b
theorem dst_bin {w:ByteArray} {a b:Val} (f:Dst a.cells) (g:Dst b.cells):Dst (bin w a b).1.cells:=by
 unfold bin;split;split <;> simp [Dst,zero];split;show Dst (done w (Bz a b))
 unfold Dst done Bz;rw [List.map_map];split;rw [List.map_map]; exact f;split;rw [List.map_map]; exact g;rw [List.map_filterMap];refine EJ _ (fun x:Cell=>x.sr) (fun c s e=>?_) f;simp only [Option.map_map,Option.map_eq_some_iff] at e;obtain ⟨d,_,rfl⟩:=e;rfl;simp [Dst,zero]
theorem Tg {w:ByteArray} {by_:List ByteArray}:∀ {l out:List Cell},Asc out->Dst (BJ w by_ out l).1.cells
 | [],out,h=>by rw [BJ]; exact dst_asc h
 | c :: r, out, h => by
  rw [BJ]
  split
  ·exact Tg (DH h)
  ·simp [Dst,zero]
mutual
theorem Gt {lk:CQ} (hl:HW lk) (t:Int):∀ (e:Expr),Dst (eval lk t e).1.cells
  | .mk k n r w ms bs ks => by
    rw [eval]
    split
    · simp [Dst]
    split
    · unfold Ai
      split
      · simp [Dst,zero]
      · exact dst_win (hl _ _ _)
    split
    · simp [Dst,zero]
    have h3:=MY hl t ks
    unfold close
    split
    · rename_i a rr he
      have ha:Dst a.cells:=h3 a (by rw [he]; exact List.mem_cons_self)
      split
      · exact Tg List.Pairwise.nil
      split
      · rename_i b hb
        exact dst_bin ha (h3 _ (by rw [he]; exact List.mem_cons_of_mem _ List.mem_cons_self))
      · simp [Dst,zero]
    · simp [Dst,zero]
theorem MY {lk:CQ} (hl:HW lk) (t:Int):∀ (l:List Expr),∀ v ∈ (Ar lk t l).1,Dst v.cells
  | [],v,hv=>by rw [Ar] at hv; cases hv
  | x :: xs, v, hv => by
    rw [Ar] at hv
    split at hv
    · cases hv
    rcases List.mem_cons.1 hv with h1 | h1
    · rw [h1]; exact Gt hl t x
    · exact MY hl t xs v h1
end
theorem UI {l:List yx} (h:GK l):HW (EP (l.map yx.e)):=fun m a b=>by
 unfold EP
 rw [List.map_map]
 have c:(((fun x:List Label × Sum=>x.1) ∘ fun x:Line=>(x.sr,Agg.of (x.sm.filter (inWin a b)))))=fun x:Line=>x.sr:=rfl
 rw [c]
 have d:((l.map yx.e).map (·.sr)).Nodup:=by
  rw [List.map_map,List.Nodup,List.pairwise_map]
  exact h.inc.imp fun f=>Dw f
 exact d.sublist (List.filter_sublist.map _)
theorem IJ {a:Int} (h:-1125899906842624<=a∧a<=1125899906842624):(op ⟨#[42]⟩ a 2).2=(op ⟨#[43]⟩ a a).2∧((op ⟨#[43]⟩ a a).2=true->(op ⟨#[42]⟩ a 2).1=(op ⟨#[43]⟩ a a).1):=by
 have c:op ⟨#[42]⟩ a 2=if tooBig a 2 then (0,false) else (a * 2,true):=by
  rw [op,zI qD,zI qD]
 have d:op ⟨#[43]⟩ a a=(a + a,fits (a + a)):=by rw [op,zP rfl]
 have b:tooBig a 2↔¬ (-1125899906842624<=a + a∧a + a<=1125899906842624):=by
  have e:abs 2=2:=by decide
  unfold tooBig; rw [e]; unfold abs; split <;> omega
 rw [c,d]
 by_cases g:tooBig a 2
 ·have:=b.1 g
  rw [zP g]
  refine ⟨?_,fun h=>absurd (DD.1 h) this⟩
  simp only [fits]; exact (yq this).symm
 ·have:-1125899906842624<=a + a∧a + a<=1125899906842624:=ym.1 fun k=>g (b.2 k)
  rw [zI g]
  refine ⟨?_,fun _=>by show a * 2=a + a; omega⟩
  simp only [fits]; exact (vM this).symm
theorem Nl (a:Int):op ⟨#[45]⟩ a a=(0,true):=by
 rw [op,zI qD,zP rfl,Int.sub_self]; rfl
theorem op_0 {a:Int} (h:-1125899906842624<=a∧a<=1125899906842624):op ⟨#[43]⟩ 0 a=(a,true):=by
 rw [op,zP rfl,Int.zero_add]; simp [fits,h]
theorem UY {l:List Cell} (a:Dst l) {c:Cell} (b:c ∈ l):(l.find? fun d=>decide (c.sr=d.sr))=some c:=by
 induction l with
 | nil=>cases b
 | cons x r ih =>
  unfold Dst at a
  rw [vl,List.nodup_cons] at a
  rcases ya.1 b with h | h
  ·subst h; rw [List.find?_cons_of_pos qS]
  ·rw [List.find?_cons_of_neg,ih a.2 h]
   simp only [ud]
   intro e; exact a.1 (by rw [<-e]; exact List.mem_map_of_mem h)
theorem RE {v:Val} (b:v.vec=true) (e:Dst v.cells):Bz v v=v.cells.map fun c=>(c.sr,c.value,c.value):=by
 unfold Bz
 rw [zI (by rw [b]; simp),zI (by rw [b]; simp)]
 have:∀ (l:List Cell),(∀ c ∈ l,(v.cells.find? fun d=>decide (c.sr=d.sr))=some c)->(l.filterMap fun c=>(v.cells.find? fun d=>decide (c.sr=d.sr)).map fun d=>(c.sr,c.value,d.value))=l.map fun c=>(c.sr,c.value,c.value):=by
  intro l
  induction l with
  | nil=>intro _; rfl
  | cons x r ih =>
   intro h
   rw [List.filterMap_cons,h x uW,Option.map_some,vl,ih fun c a=>h c (List.mem_cons_of_mem _ a)]
 exact this _ fun c a=>UY e a
structure Signs (v:Val):Prop where
  twice:bin ⟨#[42]⟩ v ⟨false,2,[]⟩=bin ⟨#[43]⟩ v v
  less:(bin ⟨#[45]⟩ v v).2=0∧(bin ⟨#[45]⟩ v v).1.vec=v.vec∧(v.vec=false->(bin ⟨#[45]⟩ v v).1.n=0)∧(v.vec=true->(bin ⟨#[45]⟩ v v).1.cells=v.cells.map fun c=>⟨c.sr,0⟩)
  more:(bin ⟨#[43]⟩ ⟨false,0,[]⟩ v).2=0∧(bin ⟨#[43]⟩ ⟨false,0,[]⟩ v).1.vec=v.vec∧(v.vec=false->(bin ⟨#[43]⟩ ⟨false,0,[]⟩ v).1.n=v.n)∧(v.vec=true->(bin ⟨#[43]⟩ ⟨false,0,[]⟩ v).1.cells=v.cells)
theorem Vj {v:Val} (p:Good v) (r:Dst v.cells):Signs v:=by
 by_cases d:v.vec=true
 ·have i:=p.bnd.2
  have s:Bz v ⟨false,2,[]⟩=v.cells.map fun c=>(c.sr,c.value,2):=by unfold Bz; rw [zP rfl]
  have m:=RE d r
  have t:Bz ⟨false,0,[]⟩ v=v.cells.map fun c=>(c.sr,0,c.value):=by unfold Bz; rw [zI (by rw [d]; simp),zP rfl]
  have k:∀ (w:ByteArray) (a b:Val),(a.vec=true∨b.vec=true)->bin w a b=if AD w (Bz a b)=true then (⟨true,0,done w (Bz a b)⟩,0) else (zero,3):=fun w a b h=>by
   rw [bin,zI]; rintro ⟨j,o⟩; rcases h with h | h <;> simp_all
  refine ⟨?_,?_,?_⟩
  ·rw [k _ _ _ (.inl d),k _ _ _ (.inl d),s,m]
   have f:AD ⟨#[42]⟩ (v.cells.map fun c=>(c.sr,c.value,2))=AD ⟨#[43]⟩ (v.cells.map fun c=>(c.sr,c.value,c.value)):=by
    rw [Bool.eq_iff_iff]
    simp only [AD,List.all_map,List.all_eq_true,Function.comp]
    exact ⟨fun h c e=>by rw [<-(IJ (i c e)).1]; exact h c e,fun h c e=>by rw [(IJ (i c e)).1]; exact h c e⟩
   rw [f]
   by_cases g:AD ⟨#[43]⟩ (v.cells.map fun c=>(c.sr,c.value,c.value))=true
   ·rw [zP g,zP g]
    have:done ⟨#[42]⟩ (v.cells.map fun c=>(c.sr,c.value,2))=done ⟨#[43]⟩ (v.cells.map fun c=>(c.sr,c.value,c.value)):=by
     simp only [done,List.map_map]
     refine List.map_congr_left fun c e=>?_
     have j:(op ⟨#[43]⟩ c.value c.value).2=true:=by
      simp only [AD,List.all_map,List.all_eq_true,Function.comp] at g
      exact g c e
     simp only [Function.comp]; rw [(IJ (i c e)).2 j]
    rw [this]
   ·rw [zI g,zI g]
  ·rw [k _ _ _ (.inl d),m,zP (by simp only [AD,List.all_map,List.all_eq_true,Function.comp]; intro c _; rw [Nl])]
   refine ⟨rfl,d.symm,fun h=>by simp [d] at h,fun _=>?_⟩
   simp only [done,List.map_map]
   refine List.map_congr_left fun c e=>?_
   simp only [Function.comp,Nl]
  ·rw [k _ _ _ (.inr d),t,zP (by simp only [AD,List.all_map,List.all_eq_true,Function.comp]; intro c e; rw [op_0 (i c e)])]
   refine ⟨rfl,d.symm,fun h=>by simp [d] at h,fun _=>?_⟩
   simp only [done,List.map_map]
   refine (List.map_congr_left fun c e=>?_).trans (List.map_id _)
   simp only [Function.comp,op_0 (i c e)]; rfl
 ·have d:v.vec=false:=by simpa using d
  have q:=p.bnd.1
  have l:∀ (w:ByteArray) (a b:Val),a.vec=false->b.vec=false->bin w a b=if (op w a.n b.n).2=true then (⟨false,(op w a.n b.n).1,[]⟩,0) else (zero,3):=fun w a b j o=>by rw [bin,zP ⟨j,o⟩]
  refine ⟨?_,?_,?_⟩
  ·rw [l _ _ _ d rfl,l _ _ _ d d]
   have:=IJ q
   rw [this.1]
   by_cases g:(op ⟨#[43]⟩ v.n v.n).2=true
   ·rw [zP g,zP g,this.2 g]
   ·rw [zI g,zI g]
  ·rw [l _ _ _ d d,Nl,zP rfl]; exact ⟨rfl,d.symm,fun _=>rfl,fun h=>by simp [d] at h⟩
  ·rw [l _ _ _ rfl d,op_0 q,zP rfl]; exact ⟨rfl,d.symm,fun _=>rfl,fun h=>by simp [d] at h⟩
theorem BL {l:List yx} {e:Expr} {t:Int} (h:(ask l e t).2=0) (M:(ask l (two ⟨#[42]⟩ e (num 2)) t).2≠4) (N:(ask l (two ⟨#[43]⟩ e e) t).2≠4) :
  ask l (two ⟨#[42]⟩ e (num 2)) t=ask l (two ⟨#[43]⟩ e e) t∧(ask l (two ⟨#[45]⟩ e e) t).2=0∧(ask l (two ⟨#[43]⟩ (num 0) e) t).2=0∧(ask l (two ⟨#[43]⟩ (num 0) e) t).1=(ask l e t).1 ∧
   (ask l (two ⟨#[45]⟩ e e) t).1=(ask l e t).1.map fun c=>⟨c.sr,0⟩:=by
 obtain ⟨z,T⟩:=ask_ok h
 have i:=VZ z
 obtain ⟨m,b,K⟩:=Je T
 have f:CA e:=(IC e 1 0 m).1
 have U7:∀ (x:Expr),ask l x t=if check x t≠0 then ([],check x t) else out (eval (EP (l.map yx.e)) t x):=fun x=>by rw [ask,zI (by simpa using z)]
 have I:0<=zF.indexOf Lg.BL ⟨#[42]⟩ 0:=by decide
 have p:0<=zF.indexOf Lg.BL ⟨#[43]⟩ 0:=by decide
 have R:0<=zF.indexOf Lg.BL ⟨#[45]⟩ 0:=by decide
 have s:∀ (x:Expr),(ask l x t).2≠4->Lg.AE x≠4:=fun x o L=>o (by rw [U7,check_4 L]; rfl)
 have J:=(Mv I f (Eo (n:=2) qD)).resolve_right (s _ M)
 have C:=(Mv p f f).resolve_right (s _ N)
 obtain ⟨U,A,Q⟩:=two_of p C
 have W:=JB e
 have P:low 2 (num 0):=by rw [num,low,HY]; exact ⟨qO,trivial⟩
 have V:=two_ok R f f U A Q
 have S:=two_ok p (Eo (n:=0) qD) f (by rw [UJ]; omega) P A
 have k:∀ (x:Expr),Lg.AE x=0->Lg.typed x=0->ask l x t=out (eval (EP (l.map yx.e)) t x):=fun x o O=>by rw [U7,zI (by simpa using WU o O K)]
 have u:=k e m b
 have a:(eval (EP (l.map yx.e)) t e).2=0:=by
  by_cases g:(eval (EP (l.map yx.e)) t e).2=0
  ·exact g
  ·rw [u,out,zP g] at h; exact absurd h g
 have sg:=Vj (Fb (Rs i) t e (FE e 1 0 m)) (Gt (UI i) t e)
 have q:=QC (EP (l.map yx.e)) t 2
 have F:=QC (EP (l.map yx.e)) t 0
 rw [k _ J (HS b (Mh 2)),k _ C (HS b b),k _ V (HS b b),k _ S (HS (Mh 0) b),u,Ip a (by rw [q]),Ip a a,Ip a a,Ip (by rw [F]) a,q,F]
 generalize eval (EP (l.map yx.e)) t e=r at a sg ⊢
 obtain ⟨v,x⟩:=r
 have a:x=0:=a
 subst a
 refine ⟨by rw [sg.twice],?_⟩
 obtain ⟨l1,G,E,y⟩:=sg.less
 obtain ⟨H,B,w,D⟩:=sg.more
 dsimp only at l1 G E y H B w D ⊢
 simp only [out,l1,H,G,B]
 by_cases j:v.vec=true
 ·simp [j,y j,D j]
 ·have d:v.vec=false:=by simpa using j
  simp [d,E d,w d]
end Mn
end
section
namespace Mn
open Ex
def AZ (r:Val × Int):List Cell × Bool × Int:=if r.2≠0 then ([],false,r.2) else if r.1.vec=true then (r.1.cells,true,0) else ([⟨[],r.1.n⟩],false,0)
theorem Ie (r:Val × Int):out r=((AZ r).1,(AZ r).2.2):=by
 unfold out AZ; split;rfl;split <;> rfl
theorem Et (r:Val × Int):(AZ r).2.2=r.2:=by
 unfold AZ; split;rfl;rename_i h; split <;> exact (ym.1 h).symm
theorem Nv {r:Val × Int} (h:r.2=0):AZ r=(if r.1.vec=true then r.1.cells else [⟨[],r.1.n⟩],r.1.vec,0):=by
 unfold AZ; rw [zI (by simpa using h)];cases hv:r.1.vec <;> simp
theorem Ep {r:Val × Int} (h:r.2≠0):AZ r=([],false,r.2):=by
 unfold AZ; rw [zP h]
theorem Ta {w:ByteArray} {bs:List ByteArray}:∀ (l out:List Cell),(BJ w bs out l).2=0->(BJ w bs out l).1.vec=true
 | [],out,_=>by rw [BJ]
 | c :: r, out, h => by
  rw [BJ] at h ⊢
  split at h
  ·rename_i h1; rw [if_pos h1]; exact Ta r _ h
  ·cases h
theorem WG {w:ByteArray} {a b:Val} (h:(bin w a b).2=0):(bin w a b).1.vec=(a.vec || b.vec):=by
 unfold bin at h ⊢;split at h;rename_i c;rw [zP c];split at h;rename_i d; rw [zP d,c.1,c.2]; rfl;cases h;rename_i c;rw [zI c];split at h;rename_i d; rw [zP d];cases ha:a.vec <;> cases hb:b.vec <;> simp_all;cases h
mutual
theorem QO {lk:CQ} (t:Int):∀ (e:Expr),CA e->(eval lk t e).2=0->(eval lk t e).1.vec=Lg.Bj e
  | .mk k n r w ms bs ks, hf, h => by
    rw [CA] at hf
    obtain ⟨hk,ha,_,hks⟩:=hf
    have hev:=NJ (lk:=lk) t ks hks
    rw [eval] at h ⊢
    rw [Lg.Bj]
    have h5:k=1∨k=2∨k=3∨k=4:=qO
    rcases h5 with rfl | rfl | rfl | rfl
    · have:ks=[]:=List.eq_nil_of_length_eq_zero (by simp [Lg.arity] at ha; simpa using ha)
      subst this; rfl
    · rw [if_neg qD,if_pos rfl] at h ⊢
      unfold Ai at h ⊢
      split at h
      · rename_i g; exact absurd h g
      · rename_i g; rw [if_neg g]; rfl
    · rw [if_neg qD,if_neg qD] at h ⊢
      split at h
      · rename_i g; exact absurd h g
      rename_i g
      rw [if_neg g]
      have hl:ks.length=1:=by simp [Lg.arity] at ha; omega
      match ks,hl with
      | [a], _ =>
        rw [Ar] at h g ⊢
        split at g
        · rename_i g2; exact absurd g2 (by simpa using g)
        rename_i g2
        rw [if_neg g2] at h ⊢
        rw [Ar] at h ⊢
        rw [close,if_pos rfl] at h ⊢
        rw [all] at h ⊢
        rw [Ta _ _ h]; simp
    · rw [if_neg qD,if_neg qD] at h ⊢
      split at h
      · rename_i g; exact absurd h g
      rename_i g
      rw [if_neg g]
      have hv:=hev (Classical.not_not.1 g)
      have hl:ks.length=2:=by simp [Lg.arity] at ha; omega
      match ks,hl with
      | [a, b], _ =>
        rw [Ar] at h g hv ⊢
        split at g
        · rename_i g2; exact absurd g2 (by simpa using g)
        rename_i g2
        rw [if_neg g2] at h hv ⊢
        rw [Ar] at h g hv ⊢
        split at g
        · rename_i g3; exact absurd g3 (by simpa using g)
        rename_i g3
        rw [if_neg g3] at h hv ⊢
        rw [Ar] at h hv ⊢
        rw [close,if_neg qD] at h ⊢
        simp only [List.map_cons,List.cons.injEq] at hv
        rw [WG h,hv.1,hv.2.1,Lg.FH,Lg.FH,Lg.FH]; simp
theorem NJ {lk:CQ} (t:Int):∀ (l:List Expr),Ba l->(Ar lk t l).2=0->(Ar lk t l).1.map (·.vec)=l.map Lg.Bj
  | [],_,_=>by rw [Ar]; rfl
  | x :: xs, hf, h => by
    rw [Ba] at hf
    rw [Ar] at h ⊢
    split at h
    · rename_i h1; exact absurd h h1
    rename_i h1
    rw [if_neg h1,List.map_cons,List.map_cons,QO t x hf.1 (Classical.not_not.1 h1),NJ t xs hf.2 h]
end
theorem LH:∀ {l:List Expr},Ba l->∀ x ∈ l,CA x
 | [],_,x,hx=>by cases hx
 | y :: l, h, x, hx => by
  rw [Ba] at h
  rcases List.mem_cons.1 hx with h1 | h1
  ·rw [h1]; exact h.1
  ·exact LH h.2 x h1
theorem Kw:∀ {l:List Expr},Lg.Bq l=0->∀ x ∈ l,Lg.typed x=0
 | [],_,x,hx=>by cases hx
 | y :: l, h, x, hx => by
  rw [Lg.Bq] at h
  split at h
  ·rename_i g; exact absurd h g
  rename_i g
  rcases List.mem_cons.1 hx with h1 | h1
  ·rw [h1]; exact Classical.not_not.1 g
  ·exact Kw h x h1
structure Sound (e:Expr):Prop where
  right:right e
  AD:CA e
  typed:Lg.typed e=0
theorem Sound.kid {x k:zD} (h:Sound x.e) (b:k ∈ x.kids.l):Sound k.e:=by
 have d:=h.right; have c:=h.AD; have a:=h.typed;refine ⟨(KO d).2 k b,?_,?_⟩;rw [zD.gz,CA] at c; exact LH c.2.2.2 _ (List.mem_map_of_mem b);rw [zD.gz,Lg.typed] at a;split at a;cases a;exact Kw a _ (List.mem_map_of_mem b)
theorem Sound.vec {x s:zD} (h:Sound x.e) (d:x.kind=3) (b:x.kids.l.length=1) (c:x.kids.l[0]?=some s):Lg.Bj s.e=true:=by
 have a:=h.typed
 rw [Lg.NV] at a
 split at a
 ·cases a
 rename_i g
 cases hv:Lg.Bj s.e with
 | true=>rfl
 | false=>exact absurd ⟨d,b,by rw [Lg.OT b c]; exact hv⟩ g
theorem VN {e:Expr} {t:Int} (h:check e t=0):Sound e:=by
 obtain ⟨a,b,_⟩:=Je h;exact ⟨FE e 1 0 a,(IC e 1 0 a).1,b⟩
theorem QL {x:zD} (h:Sound x.e) (d:x.kind=3):x.word=⟨#[99,111,117,110,116]⟩∨x.word=⟨#[109,97,120]⟩∨x.word=⟨#[109,105,110]⟩∨x.word=⟨#[115,117,109]⟩:=by
 have b:=h.AD;rw [zD.gz,CA,d,Lg.Cb,zI qD,zI qD,zP rfl] at b;have a:=b.2.2.1;split at a;cases a;rename_i g;have c:=(zF.Fq _ _ _).1 (ym.1 g);simpa [Lg.CF] using c
theorem kid1 {lk:CQ} {t:Int} {x s:zD} (d:x.kind=3) (c:x.kids.l.length=1) (b:x.kids.l[0]?=some s):eval lk t x.e=if (eval lk t s.e).2≠0 then (zero,(eval lk t s.e).2) else all x.word x.by_.l (eval lk t s.e).1.cells:=by
 rw [FV,zI qO,zI qO]
 match hq:x.kids.l,c with
 | [a], _ =>
  rw [hq] at b
  obtain rfl:a=s:=by simpa using b
  rw [vl,List.map_nil,Ar]
  by_cases g:(eval lk t a.e).2≠0
  ·rw [zP g,zP g,zP g]
  ·rw [zI g,zI g,Ar,zI qS,close,zP d]
theorem kid2 {lk:CQ} {t:Int} {x s u:zD} (i:x.kind=4) (h:x.kids.l.length=2) (d:x.kids.l[0]?=some s) (f:x.kids.l[1]?=some u):eval lk t x.e=if (eval lk t s.e).2≠0 then (zero,(eval lk t s.e).2) else if (eval lk t u.e).2≠0 then (zero,(eval lk t u.e).2) else bin x.word (eval lk t s.e).1 (eval lk t u.e).1:=by
 rw [FV,zI qO,zI qO]
 match hq:x.kids.l,h with
 | [a, b], _ =>
  rw [hq] at d f
  obtain rfl:a=s:=by simpa using d
  obtain rfl:b=u:=by simpa using f
  rw [vl,vl,List.map_nil,Ar]
  by_cases g:(eval lk t a.e).2≠0
  ·rw [zP g,zP g,zP g]
  ·rw [zI g,zI g,Ar]
   by_cases c:(eval lk t b.e).2≠0
   ·rw [zP c,zP c,zP c]
   ·rw [zI c,zI c,Ar,zI qS,close,zI qO]
def rp1 (x y:Bool) (c:Cell) (b:List Cell):List Pr:=(b.filter fun d=>!((x && y) && !decide (c.sr=d.sr))).map fun d=>(if y=true then d.sr else c.sr,c.value,d.value)
def rp (x y:Bool) (a b:List Cell):List Pr:=a.flatMap fun c=>rp1 x y c b
theorem RL {x y:Bool} {c:Cell} {b:List zC} {j:Nat} {d:zC} (h:b[j]?=some d):rp1 x y c ((b.take (j + 1)).map zC.e)=rp1 x y c ((b.take j).map zC.e)++if (x=true∧y=true)∧¬ c.sr=d.sr.l then [] else [(if y=true then d.sr.l else c.sr,c.value,d.value)]:=by
 unfold rp1
 rw [vE,h,yi,List.filter_append,yi]
 congr 1
 simp only [Option.toList,vl,List.map_nil,List.filter_cons,List.filter_nil]
 by_cases g:(x=true∧y=true)∧¬ c.sr=d.sr.l
 ·rw [zP g,zI]; · rfl
  simp [g.1.1,g.1.2,zC.e,g.2]
 ·rw [zI g,zP]; · rfl
  simp only [zC.e]
  cases hx:x <;> cases hy:y <;> simp_all
theorem rp1_no {x y:Bool} {s:zC} {b:List zC} {j:Nat} {d:zC} (h:b[j]?=some d) (a:(x=true∧y=true)∧¬ s.sr.l=d.sr.l):rp1 x y s.e ((b.take (j + 1)).map zC.e)=rp1 x y s.e ((b.take j).map zC.e):=by
 rw [RL h,zP (show (x=true∧y=true)∧¬ s.e.sr=d.sr.l from a),uc]
theorem rp1_yes {x y:Bool} {s:zC} {b:List zC} {j:Nat} {d:zC} (h:b[j]?=some d) (a:¬ ((x=true∧y=true)∧¬ s.sr.l=d.sr.l)) (c:y=true):rp1 x y s.e ((b.take (j + 1)).map zC.e)=rp1 x y s.e ((b.take j).map zC.e)++[(d.sr.l,s.value,d.value)]:=by
 rw [RL h,zI (show ¬ ((x=true∧y=true)∧¬ s.e.sr=d.sr.l) from a),zP c]; rfl
theorem Vg {x y:Bool} {s:zC} {b:List zC} {j:Nat} {d:zC} (h:b[j]?=some d) (a:¬ ((x=true∧y=true)∧¬ s.sr.l=d.sr.l)) (c:¬ y=true):rp1 x y s.e ((b.take (j + 1)).map zC.e)=rp1 x y s.e ((b.take j).map zC.e)++[(s.sr.l,s.value,d.value)]:=by
 rw [RL h,zI (show ¬ ((x=true∧y=true)∧¬ s.e.sr=d.sr.l) from a),zI c]; rfl
theorem rp_at {x y:Bool} {a:List zC} {b:List Cell} {k:Nat} {s:zC} (h:a[k]?=some s):rp x y ((a.take (k + 1)).map zC.e) b=rp x y ((a.take k).map zC.e) b++rp1 x y s.e b:=by
 unfold rp;rw [vE,h,yi,List.flatMap_append];simp
theorem Py {b:List Cell} (a:Dst b) (s:List Label):(b.filter fun d=>decide (s=d.sr))=(b.find? fun d=>decide (s=d.sr)).toList:=by
 induction b with
 | nil=>rfl
 | cons x r ih =>
  unfold Dst at a
  rw [vl,List.nodup_cons] at a
  by_cases g:s=x.sr
  ·rw [List.filter_cons_of_pos (by simpa using g),List.find?_cons_of_pos (by simpa using g)]
   have:(r.filter fun d=>decide (s=d.sr))=[]:=by
    rw [List.filter_eq_nil_iff]
    intro d c e
    exact a.1 (by rw [<-g,show s=d.sr by simpa using e]; exact List.mem_map_of_mem c)
   rw [this]; rfl
  ·rw [List.filter_cons_of_neg (by simpa using g),List.find?_cons_of_neg (by simpa using g),ih a.2]
theorem QB {α β:Type} {f:α->List β} {g:α->β}:∀ {l:List α},(∀ c ∈ l,f c=[g c])->l.flatMap f=l.map g
 | [],_=>rfl
 | x::r,h=>by rw [List.flatMap_cons,h x List.mem_cons_self,List.map_cons,QB fun c hc=>h c (List.mem_cons_of_mem _ hc)]; rfl
theorem Qm {α β:Type} {f:α->List β} {g:α->Option β}:∀ {l:List α},(∀ c ∈ l,f c=(g c).toList)->l.flatMap f=l.filterMap g
 | [],_=>rfl
 | x :: r, h => by
  rw [List.flatMap_cons,h x List.mem_cons_self,List.filterMap_cons,Qm fun c hc=>h c (List.mem_cons_of_mem _ hc)]
  cases g x <;> rfl
def cellsOf (v:Val):List Cell:=if v.vec=true then v.cells else [⟨[],v.n⟩]
theorem RA {w:ByteArray} {A B:Val} (f:Dst B.cells):AZ (bin w A B)=if AD w (rp A.vec B.vec (cellsOf A) (cellsOf B))=true then (done w (rp A.vec B.vec (cellsOf A) (cellsOf B)),A.vec || B.vec,0) else ([],false,3):=by
 by_cases g:A.vec=false∧B.vec=false
 ·have b:rp A.vec B.vec (cellsOf A) (cellsOf B)=[([],A.n,B.n)]:=by simp [rp,rp1,cellsOf,g.1,g.2]
  rw [b,bin,zP g]
  have e:AD w [([],A.n,B.n)]=(op w A.n B.n).2:=by simp [AD]
  rw [e]
  by_cases h:(op w A.n B.n).2=true
  ·rw [zP h,zP h,Nv rfl]; simp [done,g.1,g.2]
  ·rw [zI h,zI h]; rfl
 ·have b:rp A.vec B.vec (cellsOf A) (cellsOf B)=Bz A B:=by
   unfold Bz
   cases hb:B.vec with
   | false =>
    have a:A.vec=true:=by cases a:A.vec <;> simp_all
    rw [zP rfl,a]
    unfold rp cellsOf
    rw [a,hb,zP (show true=true from rfl),zI (show ¬ (false=true) by simp)]
    exact QB fun c _=>by simp [rp1]
   | true =>
    rw [zI qS]
    cases a:A.vec with
    | false =>
     rw [zP rfl]
     unfold rp cellsOf
     rw [a,hb,zI (show ¬ (false=true) by simp),zP (show true=true from rfl)]
     simp only [List.flatMap_cons,List.flatMap_nil,uc,rp1,Bool.false_and,Bool.not_false,if_true]
     rw [List.filter_eq_self.2 (fun _ _=>rfl)]
    | true =>
     rw [zI qS]
     unfold rp cellsOf
     rw [a,hb,zP (show true=true from rfl)]
     refine Qm fun c _=>?_
     simp only [rp1,Bool.and_self,Bool.true_and,Bool.not_not,if_true]
     rw [Py f c.sr]
     cases hq:(B.cells.find? fun d=>decide (c.sr=d.sr)) with
     | none=>rfl
     | some d =>
      have:c.sr=d.sr:=by have:=List.find?_some hq; simpa using this
      simp [this]
  rw [b,bin,zI g]
  split
  ·rename_i h
   rw [Nv rfl]
   have:(A.vec || B.vec)=true:=by cases a:A.vec <;> cases hb:B.vec <;> simp_all
   rw [this]; rfl
  ·rfl
theorem pos_of {cs:List zC} {S:List Label} {q:Nat} {y:zC} (g:Asc (cs.map zC.e)) (f:cs[q]?=some y) (c:y.sr.l=S):pos (cs.map zC.e) S=q∧has (cs.map zC.e) S=true:=by
 have d:(cs.map zC.e)[q]?=some y.e:=by rw [yV,f]; rfl
 refine ⟨pos_eq (by have:=(yb.1 f).1; rw [vb]; omega) (fun i z a hi=>?_) (fun i z a hi b=>?_),List.any_eq_true.2 ⟨y.e,vQ d,vM c⟩⟩;have:=g.at_ a d hi; rwa [show y.e.sr=S from c] at this;by_cases h:q=i;subst h; rw [d] at a; injection a with a; subst a; exact Dw b c;have:=g.at_ d a qO;rw [show y.e.sr=S from c] at this;have k:=zF.Bf.trans _ _ _ this b;have j:=zF.Bf.refl S;omega
theorem has_no {cs:List zC} {S:List Label} (h:∀ y ∈ cs,¬ y.sr.l=S):has (cs.map zC.e) S=false:=by
 rw [Bool.eq_false_iff];intro g;obtain ⟨y,c,a⟩:=List.any_eq_true.1 g;obtain ⟨x,b,rfl⟩:=yr.1 c;exact h x b (of_decide_eq_true a)
theorem Pv {cs:List zC} {S:List Label} {j:Nat} (m:j<=cs.length) (f:∀ y ∈ cs.take j,zF.compare y.sr.l S < 0) (h:Asc (cs.map zC.e)) (i:∀ y,cs[j]?=some y->¬ zF.compare y.sr.l S < 0):pos (cs.map zC.e) S=j:=by
 refine pos_eq (by rw [vb]; exact m) (fun q y a c=>?_) (fun q y a c d=>?_);rw [yV] at a;obtain ⟨x,n,rfl⟩:=Option.map_eq_some_iff.1 a;exact f x (vQ (by rw [List.getElem?_take,zP c]; exact n));have g:=(yb.1 a).1;rw [vb] at g;have b:cs[j]?=some (cs[j]'qO):=vA _;exact Rh h (k:=j) (x:=(cs[j]'qO).e) (by rw [yV,b]; rfl) (i _ b) q y a c d
theorem CT {r:Val × Int} (h:r.2=0):(AZ r).1=cellsOf r.1∧(AZ r).2.1=r.1.vec:=by rw [Nv h]; exact ⟨rfl,rfl⟩
theorem Hu {A:Val} (f:Good A) {l:List zC} (j:l.map zC.e=cellsOf A):(∀ c ∈ l,-1125899906842624<=c.value∧c.value<=1125899906842624)∧(∀ c ∈ l,c.sr.l.length<=1048576)∧l.length<=1048576:=by
 have d:l.length=(cellsOf A).length:=by rw [<-j,vb]
 have b:∀ c ∈ l,c.e ∈ cellsOf A:=fun c a=>by rw [<-j]; exact List.mem_map_of_mem a
 unfold cellsOf at d b;by_cases i:A.vec=true;rw [zP i] at d b;exact ⟨fun c a=>f.bnd.2 _ (b c a),fun c a=>f.sr _ (b c a),by rw [d]; exact f.len⟩;rw [zI i] at d b;refine ⟨fun c a=>?_,fun c a=>?_,by rw [d]; simp⟩;have g:=yf.1 (b c a);have h:c.value=A.n:=congrArg Cell.value g;rw [h]; exact f.bnd.1;have g:=yf.1 (b c a);have h:c.sr.l=[]:=congrArg Cell.sr g;rw [h]; exact Nat.zero_le _
theorem PG {w:ByteArray} {p:List Pr} {s:List Label} {x y:Int} {g:Bool} (h:g=AD w p):decide (g=true∧(op w x y).2=true)=AD w (p++[(s,x,y)]):=by
 have a:AD w (p++[(s,x,y)])=(AD w p && (op w x y).2):=by simp [AD,List.all_append]
 rw [a,<-h];cases g <;> cases (op w x y).2 <;> rfl
theorem RM {x y:Bool} {a:List zC} {b:List Cell} {k:Nat} (h:a.length<=k):rp x y ((a.take k).map zC.e) b=rp x y (a.map zC.e) b:=by rw [vg h]
theorem WR {α:Type} {l:List α} {q:Nat} {y:α} (h:l[q]?=some y):l.set q y=l:=by
 obtain ⟨a,rfl⟩:=yb.1 h;exact List.set_getElem_self a
end Mn
namespace Ex
@[reducible] def rV (r:List Cell × Bool × Int) (z:SlX zC):Value:=.tuple #[z.v,.bool r.2.1,.int .i64 r.2.2]
end Ex
end
section
namespace Ex
structure RefG (P:Program) (f:Nat) (cap:Array Value) (o:Int->Own) (S:Nat->Prop) (C:World->Prop) (G:(Nat->Prop)->World->Prop) (lk:CQ) (sk:Sk):Prop where
  call:∀ vs w,(callFunc f vs).run P w=.ok (.enter f vs) w
  ok:∀ n,(o n).mut=true∨(o n).Cu=true
  fpc:∀ n m b,(o n).fp b->(o m).fp b
  run:∀ (ms:SlX Match) (a b n:Int) (w:World) (Pb:Nat->Prop),Mem w ⟨AX [o n,.dat S C,.pub G,slP 3 yF (ms.v) ms.l],Pb⟩ [o n,.dat S C,.pub G,slP 3 yF (ms.v) ms.l] w->0<=a->b<=1000000 ->
    Calls P f (#[ms.v,.int .i64 a,.int .i64 b]++cap) w (Be w [o n,.dat S C,.pub G,slP 3 yF (ms.v) ms.l] Pb (refV (lk ms.l a b).2) (fun z=>Cx.is z (lk ms.l a b).1) (fun z=>[.pub (fun S=>Cx.Ok S z),o (sk ms.l a b n)]))
theorem Pw {o:Own} {S:Nat->Prop} {C:World->Prop} {F G:(Nat->Prop)->World->Prop} (b:Nat) (h:AX [o,.dat S C,.pub F,.pub G] b):o.fp b:=by
 obtain ⟨x,a,d,c⟩:=h
 simp only [ya,List.not_mem_nil,or_false] at a
 rcases a with rfl | rfl | rfl | rfl
 ·exact c
 all_goals cases d
theorem onlyR {b T T':Nat} {cs cs':List Value} {S:Nat->Prop} {C:World->Prop} {F G:(Nat->Prop)->World->Prop} (a:Nat) (h:AX [.blk b cs T,.dat S C,.pub F,.pub G] a):(Own.blk b cs' T').fp a:=Pw (o:=.blk b cs T) a h
structure EL (T1 T2:Nat) (S:Nat->Prop) (box bp:Nat) (x:yA) (w:World):Prop where
  sbox:S box
  sbp:S bp
  box:w.heap[box]?=some (.cells #[.pointer (some ⟨bp,0,none⟩)] T1 (0,0))
  base:w.heap[bp]?=some (.cells #[x.zA.v,.int .i64 x.zT] T2 (0,0))
theorem EL.loc {T1 T2 a d:Nat} {S:Nat->Prop} {x:yA} (u u':World) (c:∀ b,S b->u'.heap[b]?=u.heap[b]?) (h:EL T1 T2 S a d x u):EL T1 T2 S a d x u' :=
 ⟨h.sbox,h.sbp,(c _ h.sbox).trans h.box,(c _ h.sbp).trans h.base⟩
structure ShG (x:yA) (S:Nat->Prop) (w:World):Prop where
  row:zH S 9 za (x.zA.v) x.zA.l w
  all:∀ s ∈ x.zA.l,zB.Ok S s w
theorem ShG.loc (x:yA):Loc (fun S=>ShG x S):=fun S S' u u' a b h=>⟨zH.loc _ _ _ _ S S' u u' a b h.row,fun s c=>zB.Ok.loc s S S' u u' a b (h.all s c)⟩
section
variable {w0 w:World} {M:Fp} {L:List Own} {S:Nat->Prop} {T1 T2 box bp:Nat} {x:yA}
theorem Mem.lentR (h:Mem w0 M L w) (q:Nat) (hi:L[q]?=some (.dat S (EL T1 T2 S box bp x))):Mem w0 M (MH box [.pointer (some ⟨bp,0,none⟩)] T1::MH bp [x.zA.v,.int .i64 x.zT] T2::L) w:=by
 have d:=h.GG (S':=(·=bp)) (G:=fun w=>w.heap[bp]?=some (.cells [x.zA.v,.int .i64 x.zT].toArray T2 (0,0))) q hi (fun h=>h.base) (fun h b e=>e ▸ h.sbp) fun _ _ c a=>(c _ rfl).trans a;exact d.GG (S':=(·=box)) (G:=fun w=>w.heap[box]?=some (.cells [.pointer (some ⟨bp,0,none⟩)].toArray T1 (0,0))) (q + 1) hi (fun h=>h.box) (fun h b e=>e ▸ h.sbox) fun _ _ c a=>(c _ rfl).trans a
theorem Mem.shG (h:Mem w0 M L w) (q:Nat) (hi:L[q]?=some (.pub (ShG x))):Mem w0 M (slP 9 za (x.zA.v) x.zA.l::AS zB.Ok x.zA.l::L) w:=by
 have b:=h.imp q hi (Av zB.Ok.loc x.zA.l) fun _ a=>ShG.all a;exact b.imp (q + 1) hi (zH.loc 9 za _ x.zA.l) fun _ a=>ShG.row a
variable {P:Program} {N:Nat} {D:List Deferred} {E:Env} {Q:Exit->Act->World->Prop} {ops:Array Oper} {rest:List Oper} {T:TypeId}
  {d:Nat} {ty:TypeId} {pos:String} {aft:Array Edge} {g:Option (Nat × Bool)} {y:Operand}
theorem l_lendR {β:Type} {f:Nat} {args:Array Operand} {ts:Array TypeId} {vs cap:List Value} {T1 T2 TI c j cost:Nat} {x:yA} {e:zD} {n n':Int} (F:List Own) (mk:β->Value) (pure:β->Prop) (ok:(Nat->Prop)->β->World->Prop)
    (U:∀ w,Mem w0 M L w->Mem w0 M (.blk cost [.int .i64 n] TI::okP zD.Ok e::.pub (ShG x)::.blk c [.pointer (some ⟨j,0,none⟩)] T1::.blk j [x.zA.v,.int .i64 x.zT] T2::F) w)
    (I:Want N D ops E g true) (X:ev E y=some (.func (.func f) #[] cap.toArray)) (m:evs E args.toList=some vs)
    (p:∀ vs w,(callFunc f vs).run P w=.ok (.enter f vs) w) (O:Nat.blt d N=true)
    (R:∀ (S:Nat->Prop) w u,Mem w ⟨AX [.blk cost [.int .i64 n] TI,.dat S (EL T1 T2 S c j x),.pub (ShG x),okP zD.Ok e],u⟩ [.blk cost [.int .i64 n] TI,.dat S (EL T1 T2 S c j x),.pub (ShG x),okP zD.Ok e] w ->
      Calls P f (vs++cap).toArray w (Be w [.blk cost [.int .i64 n] TI,.dat S (EL T1 T2 S c j x),.pub (ShG x),okP zD.Ok e] u mk pure (fun z=>[okP ok z,.blk cost [.int .i64 n'] TI,okP zD.Ok e])))
    (h:∀ z,pure z->WL P N D ops Q rest ((d,mk z)::E) (Mem w0 M (okP ok z::.blk cost [.int .i64 n'] TI::okP zD.Ok e::.blk c [.pointer (some ⟨j,0,none⟩)] T1::.blk j [x.zA.v,.int .i64 x.zT] T2::F))) :
    WL P N D ops Q (⟨some d,.call { callee:=.value y,args:=args,argTypes:=ts },ty,pos,aft,g⟩::rest) E (Mem w0 M L) :=
  u6 (Φ:=fun v w'=>∃ z,v=mk z∧pure z∧Mem w0 M (okP ok z::.blk cost [.int .i64 n'] TI::okP zD.Ok e::.blk c [.pointer (some ⟨j,0,none⟩)] T1::.blk j [x.zA.v,.int .i64 x.zT] T2::F) w') I X m p O (fun w k=>by
    have k:=U w k
    obtain ⟨u,J⟩:=k.pb
    have W:=Mem.give (A:=[.blk cost [.int .i64 n] TI,okP zD.Ok e,.pub (ShG x)]) k J
    let S:Nat->Prop:=fun b=>b=c∨b=j
    have B:∀ b,S b->b < w.heap.size:=by
      rintro b (rfl | rfl)
      · exact (k.ok 3 _ rfl).2.1 _ rfl
      · exact (k.ok 4 _ rfl).2.1 _ rfl
    have H:∀ b,S b->b≠cost:=by
      rintro b (rfl | rfl) e
      · exact k.dj 3 0 _ _ rfl rfl qD (.inl rfl) _ rfl e
      · exact k.dj 4 0 _ _ rfl rfl qD (.inl rfl) _ rfl e
    have V:EL T1 T2 S c j x w:=⟨.inl rfl,.inr rfl,k.blk (i:=3) rfl,k.blk (i:=4) rfl⟩
    have t:=(W.Sc (S:=S) (C:=EL T1 T2 S c j x) B (fun i o hi l b r T=>by
      cases i with
      | zero => obtain rfl : Own.blk cost [.int .i64 n] TI = o := by simpa using hi
                exact H b r T
      | succ i => cases i with
        | zero => obtain rfl : okP zD.Ok e = o := by simpa using hi
                  cases l
        | succ i => cases i with
          | zero => obtain rfl : Own.pub (ShG x) = o := by simpa using hi
                    cases l
          | succ i=>simp at hi) V EL.loc).sel [1,0,3,2] qD (L':=[.blk cost [.int .i64 n] TI,.dat S (EL T1 T2 S c j x),.pub (ShG x),okP zD.Ok e]) rfl
    have s:AX [.blk cost [.int .i64 n] TI,okP zD.Ok e,.pub (ShG x)]=AX [.blk cost [.int .i64 n] TI,.dat S (EL T1 T2 S c j x),.pub (ShG x),okP zD.Ok e]:=by
      funext b; apply propext; unfold AX
      constructor
      · rintro ⟨o,q,l,r⟩
        simp only [ya,List.not_mem_nil,or_false] at q
        rcases q with rfl | rfl | rfl
        · exact ⟨_,uW,l,r⟩
        all_goals cases l
      · rintro ⟨o,q,l,r⟩
        simp only [ya,List.not_mem_nil,or_false] at q
        rcases q with rfl | rfl | rfl | rfl
        · exact ⟨_,uW,l,r⟩
        all_goals cases l
    rw [s] at t
    have:=R S w u t
    rw [<-List.append_toArray] at this
    refine this.mono fun e' w' ⟨z,he,G,hk⟩=>⟨mk z,he,z,rfl,G,?_⟩
    rw [<-s] at hk
    exact Mem.take (A':=[okP ok z,.blk cost [.int .i64 n'] TI,okP zD.Ok e]) k J hk rfl) (fun v w I a K=>by obtain ⟨z,rfl,G,l⟩:=I; exact h z G w l a K)
end
end Ex
namespace Bs
open Ex
theorem QF {m:List Match} {a b:Int}:∀ (l:List Shelf),((look l m a b).1.map (·.1)).Sublist (l.map Shelf.zM)
 | []=>List.Sublist.refl _
 | s :: r => by
  have ih:=QF (m:=m) (a:=a) (b:=b) r
  unfold look
  split
  ·exact ih.cons _
  split
  ·exact List.nil_sublist _
  split
  ·exact List.nil_sublist _
  split
  ·exact List.nil_sublist _
  exact ih.cons_cons _
theorem VQ {b:CW} {n:Nat} (h:Inv b n):Mn.HW (look b.zA):=fun m x y=>by
 refine (QF b.zA).nodup ?_
 have a:=h.asc
 unfold Mn.Asc at a
 rw [List.pairwise_map] at a
 rw [List.Nodup,List.pairwise_map]
 exact a.imp fun c=>Mn.Dw c
end Bs
namespace Mn
open Ex
variable {lk:CQ} {sk:Sk} {t n:Int} {x s u:zD}
theorem SU (d:x.kind=3) (c:x.kids.l.length=1) (b:x.kids.l[0]?=some s):AW lk sk t s.e n=AW lk sk t x.e n:=by
 rw [EA lk sk t x,zI qO,zI qO]
 match hq:x.kids.l,c with
 | [a], _ =>
  rw [hq] at b
  obtain rfl:a=s:=by simpa using b
  show _=Bp lk sk t [a.e] n
  rw [Bp]; split <;> rfl
theorem TV (g:x.kind=4) (f:x.kids.l.length=2) (c:x.kids.l[0]?=some s) (d:x.kids.l[1]?=some u):AW lk sk t x.e n=if (eval lk t s.e).2≠0 then AW lk sk t s.e n else AW lk sk t u.e (AW lk sk t s.e n):=by
 rw [EA lk sk t x,zI qO,zI qO]
 match hq:x.kids.l,f with
 | [a, b], _ =>
  rw [hq] at c d
  obtain rfl:a=s:=by simpa using c
  obtain rfl:b=u:=by simpa using d
  show Bp lk sk t [a.e,b.e] n=_
  rw [Bp]
  split
  ·rfl
  rw [Bp]; split <;> rfl
theorem VP (d:x.kind=4) (a:x.kids.l.length=2) (b:x.kids.l[0]?=some s) (h:(eval lk t s.e).2≠0):AW lk sk t s.e n=AW lk sk t x.e n:=by
 obtain ⟨u,c⟩:∃ u,x.kids.l[1]?=some u:=⟨_,vA qO⟩;rw [TV d a b c,zP h]
theorem IV (d:x.kind=4) (a:x.kids.l.length=2) (b:x.kids.l[0]?=some s) (c:x.kids.l[1]?=some u) (h:(eval lk t s.e).2=0):AW lk sk t u.e (AW lk sk t s.e n)=AW lk sk t x.e n:=by
 rw [TV d a b c,zI (by simpa using h)]
end Mn
end
section
structure El where (sr:SlX ByteArray)
namespace Ex
@[reducible] def strsE (x:El):List Value:=[x.sr.v]
theorem PW:Enc strsE 1:=.of (fun _=>rfl) (fun _=>rfl) rfl
end Ex
namespace Pz
open Ex
structure RS where
  at_:Nat
  nd:Int
  be:Int
  ba:Int
def Sim {α:Type} (s:ByteArray) (be ba:Int) (P:Res (α × St)) (a:α) (r:RS):Prop :=
  r.at_<=s.size∧(be≠0->r.be=be∧r.ba=ba)∧(be=0->(∀ x,P=.ok x->r.be=0∧x.1=a∧x.2=⟨r.at_,r.nd⟩)∧∀ f,P=.no f->f.1≠0∧r.be=f.1∧r.ba=f.2)
def BQ (s:ByteArray) (be ba:Int) (P:Res St) (r:RS):Prop :=
  r.at_<=s.size∧(be≠0->r.be=be∧r.ba=ba)∧(be=0->(∀ x,P=.ok x->r.be=0∧x=⟨r.at_,r.nd⟩)∧∀ f,P=.no f->f.1≠0∧r.be=f.1∧r.ba=f.2)
section
variable {α β:Type} {s:ByteArray} {be ba:Int} {P:Res (α × St)} {U:Res St} {a:α} {b:β} {r r1 r2:RS}
theorem Sim.pure (h:r.at_<=s.size) (b:r.be=be) (e:r.ba=ba):Sim s be ba (.ok (a,⟨r.at_,r.nd⟩)) a r :=
 ⟨h,fun _=>⟨b,e⟩,fun c=>⟨fun x g=>by obtain rfl:=Res.ok.inj g; exact ⟨b.trans c,rfl,rfl⟩,fun f d=>(by cases d)⟩⟩
theorem Sim.bad (h:r.at_<=s.size) (d:be≠0) (c:r.be=be) (e:r.ba=ba):Sim s be ba P a r:=⟨h,fun _=>⟨c,e⟩,fun b=>absurd b d⟩
theorem Sim.stop {f:F} (h:r.at_<=s.size) (b:be=0) (c:f.1≠0) (d:r.be=f.1) (j:r.ba=f.2):Sim s be ba (.no f:Res (α × St)) a r :=
 ⟨h,fun i=>absurd b i,fun _=>⟨fun x k=>(by cases k),fun g e=>by obtain rfl:=Res.no.inj e; exact ⟨c,d,j⟩⟩⟩
theorem BQ.pure (h:r.at_<=s.size) (a:r.be=be) (d:r.ba=ba):BQ s be ba (.ok ⟨r.at_,r.nd⟩) r :=
 ⟨h,fun _=>⟨a,d⟩,fun b=>⟨fun x e=>by obtain rfl:=Res.ok.inj e; exact ⟨a.trans b,rfl⟩,fun f c=>(by cases c)⟩⟩
theorem BQ.bad (h:r.at_<=s.size) (c:be≠0) (b:r.be=be) (d:r.ba=ba):BQ s be ba U r:=⟨h,fun _=>⟨b,d⟩,fun a=>absurd a c⟩
theorem BQ.stop {f:F} (h:r.at_<=s.size) (a:be=0) (b:f.1≠0) (c:r.be=f.1) (i:r.ba=f.2):BQ s be ba (.no f) r :=
 ⟨h,fun e=>absurd a e,fun _=>⟨fun x j=>(by cases j),fun g d=>by obtain rfl:=Res.no.inj d; exact ⟨b,c,i⟩⟩⟩
theorem Sim.then {g:α->St->Res (β × St)} (h:Sim s be ba P a r1) (k:Sim s r1.be r1.ba (g a ⟨r1.at_,r1.nd⟩) b r2):Sim s be ba (P.then fun x=>g x.1 x.2) b r2:=by
 refine ⟨k.1,fun n=>?_,fun o=>?_⟩
 ·obtain ⟨d,m⟩:=h.2.1 n
  obtain ⟨j,l⟩:=k.2.1 (by rw [d]; exact n)
  exact ⟨j.trans d,l.trans m⟩
 ·obtain ⟨d,m⟩:=h.2.2 o
  cases P with
  | ok x =>
   obtain ⟨e,c,i⟩:=d x rfl
   have:=k.2.2 e
   rw [then_ok,c,i]; exact this
  | no f =>
   obtain ⟨e,c,i⟩:=m f rfl
   obtain ⟨j,l⟩:=k.2.1 (by rw [c]; exact e)
   rw [AF]
   exact ⟨fun x q=>(by cases q),fun g p=>by obtain rfl:=Res.no.inj p; exact ⟨e,j.trans c,l.trans i⟩⟩
theorem BQ.then {g:St->Res (β × St)} (h:BQ s be ba U r1) (k:Sim s r1.be r1.ba (g ⟨r1.at_,r1.nd⟩) b r2):Sim s be ba (U.then g) b r2:=by
 refine ⟨k.1,fun l=>?_,fun m=>?_⟩
 ·obtain ⟨c,j⟩:=h.2.1 l
  obtain ⟨e,i⟩:=k.2.1 (by rw [c]; exact l)
  exact ⟨e.trans c,i.trans j⟩
 ·obtain ⟨c,j⟩:=h.2.2 m
  cases U with
  | ok x =>
   obtain ⟨d,a⟩:=c x rfl
   have:=k.2.2 d
   rw [then_ok,a]; exact this
  | no f =>
   obtain ⟨d,a,n⟩:=j f rfl
   obtain ⟨e,i⟩:=k.2.1 (by rw [a]; exact d)
   rw [AF]
   exact ⟨fun x p=>(by cases p),fun g o=>by obtain rfl:=Res.no.inj o; exact ⟨d,e.trans a,i.trans n⟩⟩
theorem Sim.eq {Q:Res (α × St)} (h:Sim s be ba Q a r) (e:be=0->P=Q):Sim s be ba P a r:=⟨h.1,h.2.1,fun b=>by rw [e b]; exact h.2.2 b⟩
theorem BQ.eq {V:Res St} (h:BQ s be ba V r) (e:be=0->U=V):BQ s be ba U r:=⟨h.1,h.2.1,fun a=>by rw [e a]; exact h.2.2 a⟩
theorem Sim.ok_ (h:Sim s be ba P a r) (c:be=0) (g:r.be=0):P=.ok (a,⟨r.at_,r.nd⟩):=by
 cases P with
 | ok x=>obtain ⟨_,b,d⟩:=(h.2.2 c).1 x rfl; rw [<-b,<-d]
 | no f=>obtain ⟨e,b,_⟩:=(h.2.2 c).2 f rfl; exact absurd (b.symm.trans g) e
theorem BQ.ok_ (h:BQ s be ba U r) (b:be=0) (d:r.be=0):U=.ok ⟨r.at_,r.nd⟩:=by
 cases U with
 | ok x=>obtain ⟨_,a⟩:=(h.2.2 b).1 x rfl; rw [<-a]
 | no f=>obtain ⟨c,a,_⟩:=(h.2.2 b).2 f rfl; exact absurd (a.symm.trans d) c
theorem Sim.first (h:Sim s be ba P a r) (c:r.be=0):be=0:=by
 by_cases b:be=0;exact b;exact (h.2.1 b).1.symm.trans c
theorem BQ.first (h:BQ s be ba U r) (b:r.be=0):be=0:=by
 by_cases a:be=0;exact a;exact (h.2.1 a).1.symm.trans b
end
def CC (s sg:ByteArray) (be:Int) (i:Nat) (z:Bool × Nat):Prop:=z.2<=s.size∧(be=0->eat s sg i=z)∧(be≠0->z.1=false)
def EN (be ba e at_:Int) (z:Int × Int):Prop:=(be=0->z=(e,at_))∧(be≠0->z=(be,ba))
theorem CC.yes {s sg:ByteArray} {c:Int} {i j:Nat} {b:Bool} (h:CC s sg c i (b,j)) (d:b=true):c=0∧eat s sg i=(true,j):=by
 subst d;by_cases a:c=0;exact ⟨a,h.2.1 a⟩;exact absurd (h.2.2 a) qS
theorem CC.no {s sg:ByteArray} {a:Int} {i j:Nat} {b:Bool} (h:CC s sg a i (b,j)) (c:b=false) (d:a=0):eat s sg i=(false,j):=by subst c; exact h.2.1 d
theorem pfx_pos {s sg:ByteArray} {j:Nat} (c:j + sg.size<=s.size) (b:s.extract j (j + sg.size)=sg):pfx s sg j=true:=by
 unfold pfx
 rw [List.isPrefixOf_iff_prefix]
 have a:(s.extract j (j + sg.size)).data.toList=(rest s j).take sg.size:=by
  rw [ByteArray.data_extract,Array.toList_extract,List.extract_eq_take_drop]
  unfold rest; rw [show j + sg.size - j=sg.size by omega]
 rw [b] at a
 rw [a]; exact List.take_prefix _ _
theorem Sw {s sg:ByteArray} {j:Nat} (h:¬ (j + sg.size<=s.size∧s.extract j (j + sg.size)=sg)) (d:j<=s.size):¬ pfx s sg j=true:=fun a=>by
 have c:=Na a d
 refine h ⟨c,?_⟩
 unfold pfx at a
 rw [List.isPrefixOf_iff_prefix] at a
 have b:(s.extract j (j + sg.size)).data.toList=(rest s j).take sg.size:=by
  rw [ByteArray.data_extract,Array.toList_extract,List.extract_eq_take_drop]
  unfold rest; rw [show j + sg.size - j=sg.size by omega]
 rw [<-Ht sg,<-List.prefix_iff_eq_take.1 a] at b
 exact ByteArray.ext (Array.toList_inj.1 b)
section
variable {s sg:ByteArray} {be ba be' ba':Int} {i j k:Nat} {n:Int} {b:Bool}
theorem Wn (h:CC s sg be i (b,j)) (a:b=true):BQ s be ba (BH s sg ⟨i,n⟩) ⟨j,n,be,ba⟩ :=
 (BQ.pure (r:=⟨j,n,be,ba⟩) h.1 rfl rfl).eq fun _=>by unfold BH; rw [(h.yes a).2]; rfl
theorem Vh (h:CC s sg be i (b,j)) (d:b=false) (c:EN be ba 2 j (be',ba')):BQ s be ba (BH s sg ⟨i,n⟩) ⟨j,n,be',ba'⟩:=by
 by_cases a:be=0;have e:=c.1 a;refine (BQ.stop (f:=(2,j)) h.1 a qS (congrArg (·.1) e) (congrArg (·.2) e)).eq fun _=>?_;unfold BH; rw [h.no d a]; rfl;have e:=c.2 a;exact .bad h.1 a (congrArg (·.1) e) (congrArg (·.2) e)
theorem Vr (hi:i<=s.size) (h:¬ 100 < n + 1):BQ s be ba (node ⟨i,n⟩) ⟨i,n + 1,be,ba⟩ :=
 (BQ.pure (r:=⟨i,n + 1,be,ba⟩) hi rfl rfl).eq fun _=>DG qO
theorem UM (hi:i<=s.size) (h:100 < n + 1) (b:EN be ba 4 i (be',ba')):BQ s be ba (node ⟨i,n⟩) ⟨i,n + 1,be',ba'⟩:=by
 by_cases a:be=0;have e:=b.1 a;exact (BQ.stop (f:=(4,i)) hi a qS (congrArg (·.1) e) (congrArg (·.2) e)).eq fun _=>Tt h;have e:=b.2 a;exact .bad hi a (congrArg (·.1) e) (congrArg (·.2) e)
theorem Vt (c:blank s i=j) (d:BX s j=k) (b:¬ (12:Int) < ((s.extract j k).size:Int)) (a:k<=s.size) (e:be=0):Sim s be ba (word s ⟨i,n⟩) (s.extract j k) ⟨k,n,be,ba⟩ :=
 (Sim.pure (r:=⟨k,n,be,ba⟩) a rfl rfl).eq fun _=>So c d b a
theorem UE {v:ByteArray} (h:blank s i=j) (l:BX s j=k) (g:(12:Int) < ((s.extract j k).size:Int)) (d:k<=s.size) (b:j<=s.size) (c:be=0) (a:EN be ba 7 j (be',ba')):Sim s be ba (word s ⟨i,n⟩) v ⟨j,n,be',ba'⟩:=by
 have e:=a.1 c;exact (Sim.stop (f:=(7,j)) b c qS (congrArg (·.1) e) (congrArg (·.2) e)).eq fun _=>SF h l g d
theorem VM {v:ByteArray} {r:RS} (h:Sim s be ba (word s ⟨i,n⟩) v r) (b:¬ v=⟨#[]⟩):Sim s be ba (name s ⟨i,n⟩) v r:=by
 unfold name;refine Sim.eq (Sim.then (g:=fun a t=>if a=⟨#[]⟩ then .no (2,t.at_) else .ok (a,t)) h (by rw [zI b]; exact Sim.pure h.1 rfl rfl)) fun _=>rfl
theorem UZ {v:ByteArray} {r d:RS} (h:Sim s be ba (word s ⟨i,n⟩) v r) (j:v=⟨#[]⟩) (b:EN r.be r.ba 2 r.at_ (d.be,d.ba)) (f:d.at_=r.at_):Sim s be ba (name s ⟨i,n⟩) v d:=by
 unfold name;refine Sim.eq (Sim.then (g:=fun a t=>if a=⟨#[]⟩ then .no (2,t.at_) else .ok (a,t)) h ?_) fun _=>rfl;rw [zP j];by_cases c:r.be=0;have e:=b.1 c;exact Sim.stop (by rw [f]; exact h.1) c qS (congrArg (·.1) e) (congrArg (·.2) e);have e:=b.2 c;exact .bad (by rw [f]; exact h.1) c (congrArg (·.1) e) (congrArg (·.2) e)
end
def Gk (V:Nat) (x:Int):Prop:=(0<=x∧x<=10000009)∧(x=(V:Int)∨(1000000 < x∧1000000 < (V:Int)))
theorem Ww (s:ByteArray) (j:Nat):EE (s.extract j j).data.toList=0:=by
 have:(s.extract j j).data.toList=[]:=by rw [ByteArray.data_extract,Array.toList_extract,List.extract_eq_take_drop]; simp
 rw [this]; rfl
theorem Pd {s:ByteArray} {j k:Nat} {c:UInt8} (h:s[k]?=some c) (b:j<=k):(s.extract j (k + 1)).data.toList=(s.extract j k).data.toList++[c]:=by
 rw [ByteArray.data_extract,Array.toList_extract,List.extract_eq_take_drop,ByteArray.data_extract,Array.toList_extract,List.extract_eq_take_drop];have a:(s.data.toList.drop j)[k - j]?=some c:=by rw [List.getElem?_drop,show j + (k - j)=k by omega]; exact zF.Ng h
 rw [show k + 1 - j=(k - j) + 1 by omega,vE,a]; rfl
theorem MV {s:ByteArray} {j k:Nat} {c:UInt8} (h:s[k]?=some c) (a:j<=k):EE (s.extract j (k + 1)).data.toList=10 * EE (s.extract j k).data.toList + (c.toNat - 48):=by
 rw [Pd h a]; unfold EE; rw [List.foldl_append]; rfl
theorem Gk.step {s:ByteArray} {j k:Nat} {c:UInt8} {x:Int} (b:Gk (EE (s.extract j k).data.toList) x) (h:s[k]?=some c) (d:j<=k) (e:48<=(c.toNat:Int)) (i:(c.toNat:Int)<=57) (l:x<=1000000):Gk (EE (s.extract j (k + 1)).data.toList) (10 * x + ((c.toNat:Int) - 48)):=by
 rw [MV h d];obtain ⟨⟨f,g⟩,a⟩:=b;rcases a with a | ⟨a,_⟩
 exact ⟨⟨qO,qO⟩,.inl qO⟩;omega
theorem Gk.stay {s:ByteArray} {j k:Nat} {c:UInt8} {x:Int} (e:Gk (EE (s.extract j k).data.toList) x) (h:s[k]?=some c) (f:j<=k) (i:¬ x<=1000000):Gk (EE (s.extract j (k + 1)).data.toList) x:=by
 rw [MV h f];obtain ⟨⟨b,d⟩,a⟩:=e;refine ⟨⟨b,d⟩,.inr ⟨qO,?_⟩⟩;rcases a with a | ⟨a,g⟩ <;> omega
def Dm (l:List UInt8):Int:=l.foldl (fun n b=>if n<=1000000 then 10 * n + ((b.toNat:Int) - 48) else n) 0
theorem VW (s:ByteArray) (j:Nat):Dm (s.extract j j).data.toList=0:=by
 have:(s.extract j j).data.toList=[]:=by rw [ByteArray.data_extract,Array.toList_extract,List.extract_eq_take_drop]; simp
 rw [this]; rfl
theorem My {s:ByteArray} {j k:Nat} {c:UInt8} (h:s[k]?=some c) (a:j<=k):Dm (s.extract j (k + 1)).data.toList=if Dm (s.extract j k).data.toList<=1000000 then 10 * Dm (s.extract j k).data.toList + ((c.toNat:Int) - 48) else Dm (s.extract j k).data.toList:=by
 rw [Pd h a]; unfold Dm; rw [List.foldl_append]; rfl
theorem Gk.bad {s:ByteArray} {j k:Nat} {x a b:Int} (d:run dig s j=k) (e:Gk (EE (s.extract j k).data.toList) x) (h:b<=1000000) (g:a<=1000000):Dn s a b j↔(x < a∨b < x∨(s[j]?=some 48∧j + 1 < k)):=by
 unfold Dn;rw [Nu d,d];obtain ⟨_,c⟩:=e;rcases c with c | ⟨c,f⟩
 rw [<-c];constructor;intro _; exact .inr (.inl qO);intro _; exact .inr (.inl qO)
theorem Gk.val {s:ByteArray} {j k:Nat} {x a:Int} (d:run dig s j=k) (c:Gk (EE (s.extract j k).data.toList) x) (f:a<=1000000) (h:¬ a < x):Il s j=x:=by
 rw [Nu d];rcases c.2 with b | ⟨b,e⟩
 exact b.symm;omega
section
variable {s:ByteArray} {be ba be' ba':Int} {i j k:Nat} {n least Az x:Int}
theorem Tc (l:blank s i=j) (b:run dig s j=k) (d:Gk (EE (s.extract j k).data.toList) x) (e:Az<=1000000) (f:least<=1000000) (a:k<=s.size) (h:¬ (k:Int)=(j:Int)) (c:¬ (x < least∨Az < x∨(s[j]?=some 48∧j + 1 < k))):Sim s be ba (num s least Az ⟨i,n⟩) x ⟨k,n,be,ba⟩ :=
 (Sim.pure (r:=⟨k,n,be,ba⟩) a rfl rfl).eq fun _=>by rw [Re l b h (fun g=>c ((Gk.bad b d e f).1 g)),Gk.val b d e (fun g=>c (.inr (.inl g)))]
theorem WZ (d:blank s i=j) (g:run dig s j=k) (b:j<=s.size) (h:(k:Int)=(j:Int)) (a:EN be ba 2 j (be',ba')):Sim s be ba (num s least Az ⟨i,n⟩) x ⟨j,n,be',ba'⟩:=by
 by_cases c:be=0;have e:=a.1 c;exact (Sim.stop (f:=(2,j)) b c qS (congrArg (·.1) e) (congrArg (·.2) e)).eq fun _=>Ow least Az d g h;have e:=a.2 c;exact .bad b c (congrArg (·.1) e) (congrArg (·.2) e)
theorem Lt (p:blank s i=j) (d:run dig s j=k) (m:Gk (EE (s.extract j k).data.toList) x) (o:Az<=1000000) (g:least<=1000000) (b:j<=s.size) (h:¬ (k:Int)=(j:Int)) (l:x < least∨Az < x∨(s[j]?=some 48∧j + 1 < k)) (a:EN be ba 3 j (be',ba')):Sim s be ba (num s least Az ⟨i,n⟩) x ⟨j,n,be',ba'⟩:=by
 by_cases c:be=0;have e:=a.1 c;exact (Sim.stop (f:=(3,j)) b c qS (congrArg (·.1) e) (congrArg (·.2) e)).eq fun _=>Lh p d h ((Gk.bad d m o g).2 l);have e:=a.2 c;exact .bad b c (congrArg (·.1) e) (congrArg (·.2) e)
theorem EN.ne {e a:Int} (h:EN be ba e a (be',ba')) (he:e≠0):¬ be'=0:=fun c=>by
 by_cases b:be=0
 ·have:=congrArg (·.1) (h.1 b)
  exact he (this.symm.trans c)
 ·have:=congrArg (·.1) (h.2 b)
  exact b (this.symm.trans c)
theorem Sim.move {α:Type} {P:Res (α × St)} {a:α} {r:RS} (h:Sim s be ba P a r) (c:¬ r.be=0) (e:j<=s.size) {v:α} {m:Int}:Sim s be ba P v ⟨j,m,r.be,r.ba⟩ :=
 ⟨e,h.2.1,fun b=>⟨fun x d=>absurd ((h.2.2 b).1 x d).1 c,(h.2.2 b).2⟩⟩
end
end Pz
namespace Ex
section
variable {P:Program} {N:Nat} {D:List Deferred} {E:Env} {S:World->Prop} {x y:Operand} {T T' ty:TypeId} {m n:Int}
theorem r_sub8 (a:ev E x=some (.int .u8 m)) (b:ev E y=some (.int .u8 n)) (h:0<=m - n∧m - n<=255):AR P N D E S (.binOp .sub T x y T') ty (.int .u8 (m - n)):=by
 have:=qd (P:=P) (N:=N) (D:=D) (S:=S) (T:=T) (T':=T') (ty:=ty) a b
 rwa [wrap_u8,Int.emod_eq_of_lt h.1 qO] at this
end
@[reducible] def okI (c:Prop) (x:zD):Own:=.pub fun S w=>c->zD.Ok S x w
theorem okI.loc (c:Prop) (x:zD):Loc (fun S w=>c->zD.Ok S x w):=fun S S' u u' a d h b=>zD.Ok.loc x S S' u u' a d (h b)
section
variable {w0 w:World} {M:Fp} {L:List Own} {c c':Prop} {x:zD}
theorem Mem.okOf (h:Mem w0 M L w) (q:Nat) (hi:L[q]?=some (okI c x)) (b:c):Mem w0 M (okP zD.Ok x::L) w:=h.yO (zD.Ok.loc x) fun d a=>a.at_ q _ hi b
theorem Mem.JX (h:Mem w0 M L w) (c:Prop) (x:zD) (b:¬ c):Mem w0 M (okI c x::L) w:=h.yO (okI.loc c x) fun d e a=>absurd a b
theorem Mem.okI1 (h:Mem w0 M L w) (c:Prop) (q:Nat) (hi:L[q]?=some (okP zD.Ok x)):Mem w0 M (okI c x::L) w:=h.yO (okI.loc c x) fun b a _=>a.at_ q _ hi
theorem Mem.okI2 (h:Mem w0 M L w) (c:Prop) (q:Nat) (hi:L[q]?=some (okI c' x)) (a:c->c'):Mem w0 M (okI c x::L) w:=h.yO (okI.loc c x) fun d b g=>b.at_ q _ hi (a g)
end
end Ex
namespace Pz
open Ex
section
variable {α β:Type} {s:ByteArray} {be ba be' ba':Int} {i j j1 j2 j3 k q:Nat} {n v:Int} {b b2 b3:Bool} {r r1 r2 r3 r4 r5 r6 r7 r8:RS} {wd wd2:ByteArray} {ms:List Match} {m:Match} {e f:Expr}
theorem Sim.any {P d:Res (α × St)} {a:α} (h:Sim s be ba P a r) (c:be≠0):Sim s be ba d a r:=⟨h.1,h.2.1,fun b=>absurd b c⟩
theorem Sim.MP {P:Res (α × St)} {x:α} {c a:Int} (d:EN be ba c a (be',ba')) (g:c≠0) (hi:i<=s.size) (h:be=0->P=.no (c,a)):Sim s be ba P x ⟨i,n,be',ba'⟩:=by
 by_cases b:be=0;have e:=d.1 b;exact (Sim.stop (f:=(c,a)) hi b g (congrArg (·.1) e) (congrArg (·.2) e)).eq h;have e:=d.2 b;exact .bad hi b (congrArg (·.1) e) (congrArg (·.2) e)
theorem ms1 (f:be=0) (e:CC s ⟨#[33]⟩ be i (b,j1)) (d:b=true) (c:Sim s be ba (name s ⟨j1,n⟩) wd r):Sim s be ba (Al s ⟨i,n⟩) ⟨4,wd,⟨#[]⟩⟩ r :=
 Sim.eq (Sim.then (g:=fun a t=>.ok (⟨4,a,⟨#[]⟩⟩,t)) c (Sim.pure c.1 rfl rfl)) fun _=>by
  unfold Al; simp only [(e.yes d).2,if_true,St.go]
theorem ms0 (a:be=0) (c:CC s ⟨#[33]⟩ be i (b,j1)) (d:b=false) (e:Sim s be ba (name s ⟨j1,n⟩) wd r1) (f:Sim s r1.be r1.ba (msR s wd ⟨r1.at_,r1.nd⟩) m r):Sim s be ba (Al s ⟨i,n⟩) m r :=
 Sim.eq (Sim.then (g:=msR s) e f) fun _=>VL (c.no d a)
theorem ms2 (f:be=0) (h:CC s ⟨#[33]⟩ be i (b,j1)) (j:b=false) (k:Sim s be ba (name s ⟨j1,n⟩) wd r1) (e:CC s ⟨#[33,61]⟩ r1.be r1.at_ (b2,j2)) (d:b2=true) (c:Sim s r1.be r1.ba (name s ⟨j2,r1.nd⟩) wd2 r):Sim s be ba (Al s ⟨i,n⟩) ⟨2,wd,wd2⟩ r:=by
 refine ms0 f h j k ?_;exact Sim.eq (Sim.then (g:=fun a t=>.ok (⟨2,wd,a⟩,t)) c (Sim.pure c.1 rfl rfl)) fun _=>msR_1 (e.yes d).2
theorem ms3 (j:be=0) (k:CC s ⟨#[33]⟩ be i (b,j1)) (l:b=false) (m:Sim s be ba (name s ⟨j1,n⟩) wd r1) (h:CC s ⟨#[33,61]⟩ r1.be r1.at_ (b2,j2)) (e:b2=false) (f:CC s ⟨#[61]⟩ r1.be j2 (b3,j3)) (c:b3=true) (d:Sim s r1.be r1.ba (name s ⟨j3,r1.nd⟩) wd2 r):Sim s be ba (Al s ⟨i,n⟩) ⟨1,wd,wd2⟩ r:=by
 refine ms0 j k l m ?_;exact Sim.eq (Sim.then (g:=fun a t=>.ok (⟨1,wd,a⟩,t)) d (Sim.pure d.1 rfl rfl)) fun _=>msR_2 (h.no e (f.yes c).1) (f.yes c).2
theorem ms4 (g:be=0) (h:CC s ⟨#[33]⟩ be i (b,j1)) (j:b=false) (k:Sim s be ba (name s ⟨j1,n⟩) wd r1) (f:CC s ⟨#[33,61]⟩ r1.be r1.at_ (b2,j2)) (a:b2=false) (d:CC s ⟨#[61]⟩ r1.be j2 (b3,j3)) (e:b3=false):Sim s be ba (Al s ⟨i,n⟩) ⟨3,wd,⟨#[]⟩⟩ ⟨j3,r1.nd,r1.be,r1.ba⟩:=by
 refine ms0 g h j k ?_;by_cases c:r1.be=0;exact (Sim.pure (r:=⟨j3,r1.nd,r1.be,r1.ba⟩) d.1 rfl rfl).eq fun _=>msR_3 (f.no a c) (d.no e c);exact .bad d.1 c rfl rfl
section
variable {T:List Match->RS->Prop}
def sepP (s:ByteArray) (ms:List Match) (t:St):Res St:=if 0 < ms.length then BH s ⟨#[44]⟩ t else .ok t
theorem Iv (h:¬ (0:Int) < (ms.length:Int)) (a:j<=s.size):BQ s be ba (sepP s ms ⟨j,n⟩) ⟨j,n,be,ba⟩:=(BQ.pure (r:=⟨j,n,be,ba⟩) a rfl rfl).eq fun _=>zI qO
theorem HQ (h:(0:Int) < (ms.length:Int)) (a:BQ s be ba (BH s ⟨#[44]⟩ ⟨j,n⟩) r):BQ s be ba (sepP s ms ⟨j,n⟩) r:=a.eq fun _=>zP qO
theorem wl_bad (a:∀ b r',Sim s be ba (Cq s (q + 1) ms ⟨k,n⟩) b r'->T b r') (c:¬ be=0) (d:k<=s.size):T ms ⟨k,n,be,ba⟩:=a _ _ (.bad d c rfl rfl)
theorem wl_done (c:∀ b r',Sim s be ba (Cq s (q + 1) ms ⟨k,n⟩) b r'->T b r') (he:CC s ⟨#[125]⟩ be k (b,j)) (a:b=true):T ms ⟨j,n,be,ba⟩ :=
 c _ _ ((Sim.pure (r:=⟨j,n,be,ba⟩) he.1 rfl rfl).eq fun _=>Ou rfl (he.yes a).2)
theorem Ns (h:∀ b a,Sim s be ba (Cq s (q + 1) ms ⟨k,n⟩) b a->T b a) (d:be=0) (he:CC s ⟨#[125]⟩ be k (b,j)) (f:b=false) (e:BQ s be ba (sepP s ms ⟨j,n⟩) r1)
  (c:List Match) (a:RS) (i:Sim s r1.be r1.ba (if ms.length=5 then .no (5,(r1.at_:Int)) else (Al s ⟨r1.at_,r1.nd⟩).then fun x=>Cq s q (ms++[x.1]) x.2) c a):T c a :=
 h _ _ (Sim.eq (BQ.then (g:=fun u=>if ms.length=5 then .no (5,u.at_) else (Al s u).then fun x=>Cq s q (ms++[x.1]) x.2) e i) fun d=>QT rfl (he.no f d))
theorem FK (i:∀ b c,Sim s be ba (Cq s (q + 1) ms ⟨k,n⟩) b c->T b c) (f:be=0) (he:CC s ⟨#[125]⟩ be k (b,j)) (h:b=false) (e:BQ s be ba (sepP s ms ⟨j,n⟩) r1) (p:¬ (5:Int)<=(ms.length:Int)) (l:Sim s r1.be r1.ba (Al s ⟨r1.at_,r1.nd⟩) m r2) :
  ∀ d c,Sim s r2.be r2.ba (Cq s q (ms++[m]) ⟨r2.at_,r2.nd⟩) d c->T d c:=fun d c o =>
 Ns i f he h e d c (by rw [zI qO]; exact Sim.eq (Sim.then (g:=fun a t=>Cq s q (ms++[a]) t) l o) fun _=>rfl)
theorem TE (e:∀ b r',Sim s be ba (Cq s (q + 1) ms ⟨k,n⟩) b r'->T b r') (c:be=0) (he:CC s ⟨#[125]⟩ be k (b,j)) (d:b=false) (a:BQ s be ba (sepP s ms ⟨j,n⟩) r1) (h:(5:Int)<=(ms.length:Int)) (g:ms.length<=5) (f:EN r1.be r1.ba 5 r1.at_ (be',ba')):T ms ⟨r1.at_,r1.nd,be',ba'⟩ :=
 Ns e c he d a _ _ (Sim.MP f qD a.1 fun _=>zP qO)
theorem wl_off (e:∀ b r',Sim s be ba (Cq s (q + 1) ms ⟨k,n⟩) b r'->T b r') (c:be=0) (he:CC s ⟨#[125]⟩ be k (b,j)) (d:b=false) (a:BQ s be ba (sepP s ms ⟨j,n⟩) r1) (f:¬ r1.be=0):T ms r1 :=
 Ns e c he d a _ _ (.bad a.1 f rfl rfl)
end
theorem GU (o:BQ s be ba (BH s ⟨#[40]⟩ ⟨i,n⟩) r1) (x:BQ s r1.be r1.ba (BH s ⟨#[123]⟩ ⟨r1.at_,r1.nd⟩) r2) (q:Sim s r2.be r2.ba (Cq s 6 [] ⟨r2.at_,r2.nd⟩) ms r3) (r:BQ s r3.be r3.ba (BH s ⟨#[91]⟩ ⟨r3.at_,r3.nd⟩) r4)
  (w:Sim s r4.be r4.ba (num s 1 100000 ⟨r4.at_,r4.nd⟩) v r5) (l:BQ s r5.be r5.ba (BH s ⟨#[93]⟩ ⟨r5.at_,r5.nd⟩) r6) (z:BQ s r6.be r6.ba (BH s ⟨#[41]⟩ ⟨r6.at_,r6.nd⟩) r7) (e:BQ s r7.be r7.ba (node ⟨r7.at_,r7.nd⟩) r8):Sim s be ba (Ai s wd ⟨i,n⟩) (.mk 2 0 v wd ms [] []) r8 :=
 by
 have u:Sim s r7.be r7.ba ((node ⟨r7.at_,r7.nd⟩).then fun j=>.ok (Expr.mk 2 0 v wd ms [] [],j)) (.mk 2 0 v wd ms [] []) r8:=BQ.then (g:=fun j=>.ok (Expr.mk 2 0 v wd ms [] [],j)) e (Sim.pure e.1 rfl rfl)
 have k:=BQ.then (g:=fun i=>(node i).then fun j=>.ok (Expr.mk 2 0 v wd ms [] [],j)) z u
 have m:=BQ.then (g:=fun h=>(BH s ⟨#[41]⟩ h).then fun i=>(node i).then fun j=>.ok (Expr.mk 2 0 v wd ms [] [],j)) l k
 have y:=Sim.then (g:=fun v t=>(BH s ⟨#[93]⟩ t).then fun h=>(BH s ⟨#[41]⟩ h).then fun i=>(node i).then fun j=>.ok (Expr.mk 2 0 v wd ms [] [],j)) w m
 have A:=BQ.then (g:=fun d=>(num s 1 100000 d).then fun n=>(BH s ⟨#[93]⟩ n.2).then fun h=>(BH s ⟨#[41]⟩ h).then fun i=>(node i).then fun j=>.ok (Expr.mk 2 0 n.1 wd ms [] [],j)) r y
 have f:=Sim.then (g:=fun c t=>(BH s ⟨#[91]⟩ t).then fun d=>(num s 1 100000 d).then fun n=>(BH s ⟨#[93]⟩ n.2).then fun h=>(BH s ⟨#[41]⟩ h).then fun i=>(node i).then fun j=>.ok (Expr.mk 2 0 n.1 wd c [] [],j)) q A
 have p:=BQ.then (g:=fun b=>(Cq s 6 [] b).then fun c=>(BH s ⟨#[91]⟩ c.2).then fun d=>(num s 1 100000 d).then fun n=>(BH s ⟨#[93]⟩ n.2).then fun h=>(BH s ⟨#[41]⟩ h).then fun i=>(node i).then fun j=>.ok (Expr.mk 2 0 n.1 wd c.1 [] [],j)) x f
 exact Sim.eq (BQ.then (g:=fun a=>(BH s ⟨#[123]⟩ a).then fun b=>(Cq s 6 [] b).then fun c=>(BH s ⟨#[91]⟩ c.2).then fun d=>(num s 1 100000 d).then fun n=>(BH s ⟨#[93]⟩ n.2).then fun h=>(BH s ⟨#[41]⟩ h).then fun i=>(node i).then fun j=>.ok (Expr.mk 2 0 n.1 wd c.1 [] [],j)) o p) fun _=>rfl
section
variable {T:List ByteArray->RS->Prop} {l:List ByteArray}
theorem OL (d:∀ b r',Sim s be ba (byL s (q + 1) l ⟨k,n⟩) b r'->T b r') (he:CC s ⟨#[44]⟩ be k (b,j)) (c:b=false):T l ⟨j,n,be,ba⟩:=by
 refine d _ _ ?_;by_cases a:be=0;exact (Sim.pure (r:=⟨j,n,be,ba⟩) he.1 rfl rfl).eq fun _=>KE rfl (he.no c a);exact .bad he.1 a rfl rfl
theorem OQ (c:∀ b r',Sim s be ba (byL s (q + 1) l ⟨k,n⟩) b r'->T b r') (he:CC s ⟨#[44]⟩ be k (b,j)) (a:b=true) (f:(4:Int)<=(l.length:Int)) (e:l.length<=4) (d:EN be ba 5 j (be',ba')):T l ⟨j,n,be',ba'⟩ :=
 c _ _ (Sim.MP d qD he.1 fun _=>KT rfl (he.yes a).2 qO)
theorem EZ (f:∀ b c,Sim s be ba (byL s (q + 1) l ⟨k,n⟩) b c->T b c) (he:CC s ⟨#[44]⟩ be k (b,j)) (e:b=true) (m:¬ (4:Int)<=(l.length:Int)) (h:Sim s be ba (name s ⟨j,n⟩) wd r1) :
  ∀ d c,Sim s r1.be r1.ba (byL s q (l++[wd]) ⟨r1.at_,r1.nd⟩) d c->T d c:=fun d c i =>
 f _ _ (Sim.eq (Sim.then (g:=fun a t=>byL s q (l++[a]) t) h i) fun _=>CB rfl (he.yes e).2 qO rfl)
end
section
variable {T:Expr->RS->Prop} {sub:St->Res (Expr × St)} {BL:List ByteArray}
theorem sl_bad (a:∀ b r',Sim s be ba (DO s sub BL q e ⟨k,n⟩) b r'->T b r') (c:¬ be=0) (d:k<=s.size):T e ⟨k,n,be,ba⟩:=a _ _ (.bad d c rfl rfl)
theorem To (c:∀ b r',Sim s be ba (DO s sub BL (q + 1) e ⟨k,n⟩) b r'->T b r') (f:be=0) (a:pick s BL k=(⟨#[]⟩,j)) (d:j<=s.size):T e ⟨j,n,be,ba⟩ :=
 c _ _ ((Sim.pure (r:=⟨j,n,be,ba⟩) d rfl rfl).eq fun _=>MA rfl a)
theorem NZ (i:∀ b a,Sim s be ba (DO s sub BL (q + 1) e ⟨k,n⟩) b a->T b a) (p:be=0) (h:pick s BL k=(wd,j)) (m:wd≠⟨#[]⟩) (d:Sim s be ba (sub ⟨j,n⟩) f r1) (l:BQ s r1.be r1.ba (node ⟨r1.at_,r1.nd⟩) r2) :
  ∀ c a,Sim s r2.be r2.ba (DO s sub BL q (.mk 4 0 0 wd [] [] [e,f]) ⟨r2.at_,r2.nd⟩) c a->T c a:=fun c a o =>
 i _ _ (Sim.eq (Sim.then (g:=fun f t=>(node t).then fun u=>DO s sub BL q (.mk 4 0 0 wd [] [] [e,f]) u) d (BQ.then (g:=fun u=>DO s sub BL q (.mk 4 0 0 wd [] [] [e,f]) u) l o)) fun _=>Cd rfl h m rfl)
theorem Ra (m:∀ b a,Sim s be ba (DO s sub BL (q + 1) e ⟨k,n⟩) b a->T b a) (v:be=0) (l:pick s BL k=(wd,j)) (p:wd≠⟨#[]⟩) (h:Sim s be ba (sub ⟨j,n⟩) f r1) (o:¬ r1.be=0) (i:Nat) (d:Expr) :
  ∀ c a,Sim s r1.be r1.ba (DO s sub BL i d ⟨r1.at_,r1.nd⟩) c a->T c a:=fun c a r =>
 m _ _ (Sim.eq (Sim.then (g:=fun f t=>(node t).then fun u=>DO s sub BL q (.mk 4 0 0 wd [] [] [e,f]) u) h (r.any o)) fun _=>Cd rfl l p rfl)
theorem KL (a:Sim s be ba (sub ⟨i,n⟩) e r1) (b:Sim s r1.be r1.ba (DO s sub BL 101 e ⟨r1.at_,r1.nd⟩) f r):Sim s be ba (sumOf s sub BL ⟨i,n⟩) f r :=
 Sim.eq (Sim.then (g:=fun e t=>DO s sub BL 101 e t) a b) fun _=>rfl
end
section
variable {kid:St->Res (Expr × St)} {l:List ByteArray}
theorem fac_par (he:CC s ⟨#[40]⟩ be i (b,j)) (c:b=true) (d:Sim s be ba (kid ⟨j,n⟩) e r1) (a:BQ s r1.be r1.ba (BH s ⟨#[41]⟩ ⟨r1.at_,r1.nd⟩) r):Sim s be ba (BK s kid ⟨i,n⟩) e r :=
 Sim.eq (Sim.then (g:=fun e t=>(BH s ⟨#[41]⟩ t).then fun u=>.ok (e,u)) d (BQ.then (g:=fun u=>.ok (e,u)) a (Sim.pure a.1 rfl rfl))) fun _=>by
  unfold BK; simp only [(he.yes c).2,if_true,St.go]
def Ln (s:ByteArray) (kid:St->Res (Expr × St)) (at_:Nat) (w:ByteArray) (t:St):Res (Expr × St) :=
  if w=⟨#[97,108,108]⟩ then all s kid t else if w=⟨#[]⟩ then (num s 0 1000000 t).then fun n=>(node n.2).then fun c=>.ok (.mk 1 n.1 0 ⟨#[]⟩ [] [] [],c)
  else if ¬ 0<=zF.indexOf Agg.words w 0 then .no (7,at_) else Ai s w t
theorem Dc (he:CC s ⟨#[40]⟩ be i (b,j)) (c:b=false) (f:blank s j=k) (d:Sim s be ba (word s ⟨k,n⟩) wd r1) (h:Sim s r1.be r1.ba (Ln s kid k wd ⟨r1.at_,r1.nd⟩) e r):Sim s be ba (BK s kid ⟨i,n⟩) e r :=
 Sim.eq (Sim.then (g:=Ln s kid k) d h) fun a=>by
  unfold BK Ln; simp only [he.no c a,if_false,Bool.false_eq_true,St.go,f]
theorem PC (b:wd=⟨#[]⟩) (d:Sim s be ba (num s 0 1000000 ⟨i,n⟩) v r1) (a:BQ s r1.be r1.ba (node ⟨r1.at_,r1.nd⟩) r):Sim s be ba (Ln s kid k wd ⟨i,n⟩) (.mk 1 v 0 ⟨#[]⟩ [] [] []) r :=
 Sim.eq (Sim.then (g:=fun v t=>(node t).then fun c=>.ok (Expr.mk 1 v 0 ⟨#[]⟩ [] [] [],c)) d (BQ.then (g:=fun c=>.ok (Expr.mk 1 v 0 ⟨#[]⟩ [] [] [],c)) a (Sim.pure a.1 rfl rfl))) fun _=>by
  unfold Ln; rw [zI (by rw [b]; decide),zP b]
theorem facW_no (b:¬ wd=⟨#[]⟩) (d:wd≠⟨#[97,108,108]⟩) (a:¬ 0<=zF.indexOf Agg.words wd 0) (hi:i<=s.size) (c:EN be ba 7 k (be',ba')):Sim s be ba (Ln s kid k wd ⟨i,n⟩) e ⟨i,n,be',ba'⟩ :=
 Sim.MP c qD hi fun _=>by unfold Ln; rw [zI d,zI b,zP a]
theorem XD (b:¬ wd=⟨#[]⟩) (c:wd≠⟨#[97,108,108]⟩) (a:¬ ¬ 0<=zF.indexOf Agg.words wd 0) (d:Sim s be ba (Ai s wd ⟨i,n⟩) e r):Sim s be ba (Ln s kid k wd ⟨i,n⟩) e r :=
 d.eq fun _=>by unfold Ln; rw [zI c,zI b,zI a]
theorem IB (b:¬ wd≠⟨#[97,108,108]⟩) (a:Sim s be ba (all s kid ⟨i,n⟩) e r):Sim s be ba (Ln s kid k wd ⟨i,n⟩) e r :=
 a.eq fun _=>by unfold Ln; rw [zP (ym.1 b)]
def allW (s:ByteArray) (kid:St->Res (Expr × St)) (at_:Nat) (w:ByteArray) (t:St):Res (Expr × St) :=
  if ¬ 0<=zF.indexOf Lg.CF w 0 then .no (7,at_) else (word s (t.go (blank s t.at_))).then fun v=>if v.1≠⟨#[]⟩∧v.1≠⟨#[98,121]⟩ then .no (2,blank s t.at_) else (bys s v.1 v.2).then fun l=>AO s kid w l.1 l.2
theorem IA (a:blank s i=j) (b:Sim s be ba (name s ⟨j,n⟩) wd r1) (c:Sim s r1.be r1.ba (allW s kid j wd ⟨r1.at_,r1.nd⟩) e r):Sim s be ba (all s kid ⟨i,n⟩) e r :=
 Sim.eq (Sim.then (g:=allW s kid j) b c) fun _=>by unfold all allW; simp only [St.go,a]
def byT (s:ByteArray) (kid:St->Res (Expr × St)) (at_:Nat) (w v:ByteArray) (t:St):Res (Expr × St):=if v≠⟨#[]⟩∧v≠⟨#[98,121]⟩ then .no (2,at_) else (bys s v t).then fun l=>AO s kid w l.1 l.2
theorem Mx (h:¬ ¬ 0<=zF.indexOf Lg.CF wd 0) (a:blank s i=j) (b:Sim s be ba (word s ⟨j,n⟩) wd2 r1) (c:Sim s r1.be r1.ba (byT s kid j wd wd2 ⟨r1.at_,r1.nd⟩) e r):Sim s be ba (allW s kid k wd ⟨i,n⟩) e r :=
 Sim.eq (Sim.then (g:=byT s kid j wd) b c) fun _=>by unfold allW byT; rw [zI h]; simp only [St.go,a]
theorem allW_no (h:¬ 0<=zF.indexOf Lg.CF wd 0) (hi:i<=s.size) (a:EN be ba 7 k (be',ba')):Sim s be ba (allW s kid k wd ⟨i,n⟩) e ⟨i,n,be',ba'⟩ :=
 Sim.MP a qD hi fun _=>by unfold allW; rw [zP h]
theorem Vf (a:wd2≠⟨#[]⟩) (c:wd2≠⟨#[98,121]⟩) (hi:i<=s.size) (b:EN be ba 2 k (be',ba')):Sim s be ba (byT s kid k wd wd2 ⟨i,n⟩) e ⟨i,n,be',ba'⟩ :=
 Sim.MP b qD hi fun _=>by unfold byT; rw [zP ⟨a,c⟩]
theorem Wc (a:wd2=⟨#[]⟩) (b:Sim s be ba (AO s kid wd [] ⟨i,n⟩) e r):Sim s be ba (byT s kid k wd wd2 ⟨i,n⟩) e r :=
 b.eq fun _=>by unfold byT bys; rw [zI (fun g=>g.1 a),zI (by rw [a]; decide)]; rfl
theorem JC (c:wd2=⟨#[98,121]⟩) {b:ByteArray} (h:Sim s be ba (name s ⟨i,n⟩) b r1) (f:Sim s r1.be r1.ba (byL s 5 [b] ⟨r1.at_,r1.nd⟩) l r2) (j:Sim s r2.be r2.ba (AO s kid wd l ⟨r2.at_,r2.nd⟩) e r):Sim s be ba (byT s kid k wd wd2 ⟨i,n⟩) e r:=by
 have d:Sim s be ba ((name s ⟨i,n⟩).then fun k=>byL s 5 [k.1] k.2) l r2:=Sim.then (g:=fun a t=>byL s 5 [a] t) h f;refine Sim.eq (Sim.then (g:=fun l t=>AO s kid wd l t) d j) fun _=>?_;unfold byT bys; rw [zI (fun g=>g.2 c),zP c]
theorem Ol (h:BQ s be ba (BH s ⟨#[40]⟩ ⟨i,n⟩) r1) (m:Sim s r1.be r1.ba (kid ⟨r1.at_,r1.nd⟩) f r2) (k:BQ s r2.be r2.ba (BH s ⟨#[41]⟩ ⟨r2.at_,r2.nd⟩) r3) (a:BQ s r3.be r3.ba (node ⟨r3.at_,r3.nd⟩) r):Sim s be ba (AO s kid wd l ⟨i,n⟩) (.mk 3 0 0 wd [] l [f]) r:=by
 have o:=BQ.then (g:=fun c=>.ok (Expr.mk 3 0 0 wd [] l [f],c)) a (Sim.pure a.1 rfl rfl);have d:=BQ.then (g:=fun b=>(node b).then fun c=>.ok (Expr.mk 3 0 0 wd [] l [f],c)) k o;have j:=Sim.then (g:=fun f t=>(BH s ⟨#[41]⟩ t).then fun b=>(node b).then fun c=>.ok (Expr.mk 3 0 0 wd [] l [f],c)) m d;exact Sim.eq (BQ.then (g:=fun z=>(kid z).then fun e=>(BH s ⟨#[41]⟩ e.2).then fun b=>(node b).then fun c=>.ok (Expr.mk 3 0 0 wd [] l [e.1],c)) h j) fun _=>rfl
theorem VA (b:be=0) (hi:i<=s.size) (a:EN be ba 4 i (be',ba')):Sim s be ba (fac s 0 ⟨i,n⟩) e ⟨i,n,be',ba'⟩:=Sim.MP a qD hi fun _=>rfl
end
structure Fst (a b:Int):Prop where
  first:b=0->a=0
theorem Sim.val {P:Res (α × St)} {a e:α} (h:Sim s be ba P a r) (c:¬ r.be=0):Sim s be ba P e r:=⟨h.1,h.2.1,fun b=>⟨fun x d=>absurd ((h.2.2 b).1 x d).1 c,(h.2.2 b).2⟩⟩
theorem Sim.over {P:Res (α × St)} {Q:Res (β × St)} {a e:α} {l:β} (h:Sim s be ba P a r1) (j:¬ r1.be=0) (k:Sim s r1.be r1.ba Q l r):Sim s be ba P e r:=by
 obtain ⟨d,i⟩:=k.2.1 j;refine ⟨k.1,fun g=>?_,fun g=>⟨fun x o=>absurd ((h.2.2 g).1 x o).1 j,fun f m=>?_⟩⟩;obtain ⟨b,c⟩:=h.2.1 g; exact ⟨d.trans b,i.trans c⟩;obtain ⟨b,c,n⟩:=(h.2.2 g).2 f m; exact ⟨b,d.trans c,i.trans n⟩
end
end Pz
end
section
namespace Ex
section
variable {P:Program} {N:Nat} {D:List Deferred} {E:Env} {S:World->Prop} {Q Q2:Exit->Act->World->Prop} {K:Act->World->Prop}
theorem qz {y:Code} (b:∀ E S,WC P N D y Q2 E S->∀ w,S w->∀ a,Has N D a E->K a w) (h:WC P N D y Q2 E S):WE N D (Exit.then K Q) .normal E S:=fun w d a c=>b E S h w d a c
end
end Ex
end
section
namespace Pz
open Ex Mn
def SC (m:Match):Match:=if 2 < m.kind then ⟨m.kind,m.key,⟨#[]⟩⟩ else m
mutual
def bare:Expr->Expr
  | .mk k n r w ms bs ks=>if k=1 then .mk k n 0 ⟨#[]⟩ [] [] (ES ks) else if k=2 then .mk k 0 r w (ms.map SC) [] (ES ks) else if k=3 then .mk k 0 0 w [] bs (ES ks) else .mk k 0 0 w [] [] (ES ks)
def ES:List Expr->List Expr
  | []=>[]
  | x::xs=>bare x::ES xs
end
theorem bare_1 {n r:Int} {w:ByteArray} {ms:List Match} {bs:List ByteArray} {ks:List Expr}:bare (.mk 1 n r w ms bs ks)=.mk 1 n 0 ⟨#[]⟩ [] [] (ES ks):=by rfl
theorem bare_2 {n r:Int} {w:ByteArray} {ms:List Match} {bs:List ByteArray} {ks:List Expr}:bare (.mk 2 n r w ms bs ks)=.mk 2 0 r w (ms.map SC) [] (ES ks):=by rfl
theorem bare_3 {n r:Int} {w:ByteArray} {ms:List Match} {bs:List ByteArray} {ks:List Expr}:bare (.mk 3 n r w ms bs ks)=.mk 3 0 0 w [] bs (ES ks):=by rfl
theorem bare_4 {n r:Int} {w:ByteArray} {ms:List Match} {bs:List ByteArray} {ks:List Expr}:bare (.mk 4 n r w ms bs ks)=.mk 4 0 0 w [] [] (ES ks):=by rfl
def DC {α:Type} (x:Res α) (p:α->Prop):Prop:=∀ a,x=.ok a->p a
theorem DC.then {α β:Type} {x:Res α} {g:α->Res β} {p:α->Prop} {q:β->Prop} (h:DC x p) (e:∀ a,p a->DC (g a) q):DC (x.then g) q:=fun b c=>by
 obtain ⟨a,f,d⟩:=DM c
 exact e a (h a f) b d
theorem DC.iff {α:Type} {c:Prop} [Decidable c] {x y:Res α} {p:α->Prop} (h:c->DC x p) (k:¬ c->DC y p):DC (if c then x else y) p:=by grind
theorem DC.ok {α:Type} {a:α} {p:α->Prop} (h:p a):DC (.ok a) p:=fun b c=>by cases c; exact h
theorem DC.no {α:Type} (f:F) (p:α->Prop):DC (.no f) p:=fun b a=>by cases a
theorem Lk:∀ (l:List UInt8) (i:Nat),i≠0->(∀ c ∈ l,wch c=true)->zF.CN i l=true
 | [],_,_,_=>rfl
 | c :: r, i, hi, h => by
  have h1:=h c uW
  rw [zF.CN,Lk r (i + 1) qO fun x a=>h x (List.mem_cons_of_mem _ a),Bool.and_true]
  unfold wch at h1; simp only [ud] at h1
  exact vM (by unfold zF.EO; omega)
theorem Le (s:ByteArray) (b e:Nat):(s.extract b e).data.toList=(rest s b).take (e - b):=by
 rw [ByteArray.data_extract,Array.toList_extract,List.extract_eq_take_drop]; rfl
theorem Rd (s:ByteArray) (b:Nat):BX s b=b∨∃ c r,rest s b=c::r∧low c=true∧BX s b=run wch s b:=by
 unfold BX
 cases hr:rest s b with
 | nil=>exact .inl rfl
 | cons c r =>
  by_cases a:low c=true
  ·exact .inr ⟨c,r,rfl,a,zP a⟩
  ·exact .inl (zI a)
theorem tw_all {p:UInt8->Bool}:∀ {l:List UInt8} {x:UInt8},x ∈ l.takeWhile p->p x=true
 | c :: r, x, h => by
  rw [List.takeWhile_cons] at h
  split at h
  ·rename_i g
   rcases List.mem_cons.1 h with rfl | h
   ·exact g
   ·exact tw_all h
  ·cases h
theorem low_wch {c:UInt8} (a:low c=true):wch c=true:=by unfold low at a; unfold wch; simp only [ud] at a ⊢; omega
theorem Wa {c:UInt8} (a:low c=true):zF.EO 0 c:=by unfold low at a; simp only [ud] at a; unfold zF.EO; omega
theorem Rj {s:ByteArray} {b:Nat} (d:¬ 12 < BX s b - b):s.extract b (BX s b)=⟨#[]⟩∨zF.named (s.extract b (BX s b))=true:=by
 rcases Rd s b with h | ⟨c,r,j,e,h⟩
 left;have a:=Le s b (BX s b);rw [toB a,h]; simp;right;rw [h] at d ⊢;have a:=Le s b (run wch s b);have f:run wch s b - b=((rest s b).takeWhile wch).length:=by unfold run; omega
 rw [f,j] at a;have i:(c::r).take ((c::r).takeWhile wch).length=(c::r).takeWhile wch:=(List.prefix_iff_eq_take.1 (List.takeWhile_prefix wch)).symm;rw [i,List.takeWhile_cons_of_pos (low_wch e)] at a;have l:(s.extract b (run wch s b)).size=(r.takeWhile wch).length + 1:=by rw [SL,a]; rfl
 have g:(s.extract b (run wch s b)).size<=12:=by rw [SL,Le,List.length_take]; omega
 unfold zF.named;rw [a,zF.CN,Lk _ 1 qD fun x k=>tw_all k];simp only [vM (Wa e),Bool.and_true];simp only [Bool.and_eq_true,ud]; omega
theorem Iy (s:ByteArray) (t:St):DC (word s t) fun x=>x.2.nd=t.nd∧(x.1=⟨#[]⟩∨zF.named x.1=true) :=
 .iff (fun _=>.no _ _) fun h=>.ok ⟨rfl,Rj h⟩
theorem Dr (s:ByteArray) (t:St):DC (name s t) fun x=>x.2.nd=t.nd∧zF.named x.1=true :=
 (Iy s t).then fun a h=>.iff (fun _=>.no _ _) fun g=>.ok ⟨h.1,h.2.resolve_left g⟩
theorem Ct (s sg:ByteArray) (t:St):DC (BH s sg t) fun u=>u.nd=t.nd:=.iff (fun _=>.ok rfl) fun _=>.no _ _
theorem Pu (s:ByteArray) (a b:Int) (t:St):DC (num s a b t) fun x=>x.2.nd=t.nd∧a<=x.1∧x.1<=b :=
 .iff (fun _=>.no _ _) fun _=>.iff (fun _=>.no _ _) fun g=>.ok ⟨rfl,by unfold Dn at g; show a<=Il _ _; omega,by unfold Dn at g; show Il _ _<=b; omega⟩
theorem HM (t:St):DC (node t) fun u=>u.nd=t.nd + 1:=.iff (fun _=>.no _ _) fun _=>.ok rfl
def PK (m:Match):Prop:=Lg.EI m=0∧SC m=m
theorem IM {k:Int} {a b:ByteArray} (i:1<=k∧k<=4) (c:zF.named a=true) (d:k<=2->zF.named b=true) (e:2 < k->b=⟨#[]⟩):PK ⟨k,a,b⟩:=by
 refine ⟨?_,?_⟩;unfold Lg.EI;rw [zI (by show ¬ (k < 1∨4 < k); omega),zI];rintro (g | ⟨g,h⟩);rw [show zF.named a=false from g] at c; cases c;have:=d (by rcases g with g | g <;> (have f:k=_:=g; omega));rw [show zF.named b=false from h] at this; cases this;unfold SC;split;rename_i g; rw [e g];rfl
theorem RZ (s:ByteArray) (t:St):DC (Al s t) fun x=>x.2.nd=t.nd∧PK x.1:=by
 unfold Al;refine .iff (fun _=>?_) fun _=>?_;exact (Dr s _).then fun a h=>.ok ⟨h.1,IM qD h.2 qD fun _=>rfl⟩;refine (Dr s _).then fun a h=>.iff (fun _=>?_) fun _=>.iff (fun _=>?_) fun _=>?_;exact (Dr s _).then fun b g=>.ok ⟨g.1.trans h.1,IM qD h.2 (fun _=>g.2) (fun c=>absurd c qD)⟩;exact (Dr s _).then fun b g=>.ok ⟨g.1.trans h.1,IM qD h.2 (fun _=>g.2) (fun c=>absurd c qD)⟩;exact .ok ⟨h.1,IM qD h.2 qD fun _=>rfl⟩
theorem Mk (s:ByteArray):∀ (q:Nat) (ms:List Match) (t:St),(∀ m ∈ ms,PK m)->ms.length<=5->DC (Cq s q ms t) fun x=>x.2.nd=t.nd∧(∀ m ∈ x.1,PK m)∧x.1.length<=5
 | 0,_,_,_,_=>.no _ _
 | q + 1, ms, t, h, hl => by
  rw [Cq]
  refine .iff (fun _=>.ok ⟨rfl,h,hl⟩) fun _=>.then (p:=fun u=>u.nd=t.nd) (.iff (fun _=>Ct s _ _) fun _=>.ok rfl) fun u hu=>.iff (fun _=>.no _ _) fun h5=>(RZ s u).then fun x hx=>?_
  intro y hy
  have:=Mk s q (ms++[x.1]) x.2 (fun m a=>(yl.1 a).elim (h m) fun g=>by rw [yf.1 g]; exact hx.2) (by rw [uF,List.length_singleton]; omega) y hy
  exact ⟨this.1.trans (hx.1.trans hu),this.2⟩
theorem Lz:∀ {l:List Match},(∀ m ∈ l,PK m)->Lg.Bu l=0
 | [],_=>rfl
 | m::l,h=>by rw [Lg.Bu,(h m List.mem_cons_self).1,if_neg qS]; exact Lz fun x hx=>h x (List.mem_cons_of_mem _ hx)
structure Read (e:Expr) (n m:Int):Prop where
  AD:CA e
  bare:bare e=e
  nd:m=n + nodes e
theorem Ox (s w:ByteArray) (t:St) (g:0<=zF.indexOf Agg.words w 0):DC (Ai s w t) fun x=>Read x.1 t.nd x.2.nd:=by
 refine (Ct s _ _).then fun a p=>(Ct s _ _).then fun b o=>(Mk s 6 [] b (fun m e=>by cases e) qS).then fun c f=>(Ct s _ _).then fun d k=>(Pu s 1 100000 d).then fun n q =>
  (Ct s _ _).then fun h l=>(Ct s _ _).then fun i hi=>(HM i).then fun j r=>.ok ⟨?_,?_,?_⟩
 ·show CA (.mk 2 0 n.1 w c.1 [] [])
  rw [CA,Ba]
  refine ⟨by decide,by simp [Lg.arity],?_,trivial⟩
  rw [Lg.Cb,zI qD,zP rfl,Lg.BR,zI (by simpa using g),zI qO,Lz f.2.1,zI qS,zI qO]
 ·show Pz.bare (.mk 2 0 n.1 w c.1 [] [])=_
  rw [bare_2,ES]
  congr 1
  exact (List.map_congr_left fun m e=>(f.2.1 m e).2).trans (List.map_id'' (fun _=>rfl) _)
 ·show j.nd=t.nd + nodes (.mk 2 0 n.1 w c.1 [] [])
  rw [nodes,BW]; omega
theorem Ov (s:ByteArray):∀ (q:Nat) (l:List ByteArray) (t:St),(∀ b ∈ l,zF.named b=true)->l.length<=4->DC (byL s q l t) fun x=>x.2.nd=t.nd∧(∀ b ∈ x.1,zF.named b=true)∧x.1.length<=4
 | 0,_,_,_,_=>.no _ _
 | q + 1, l, t, h, hl => by
  rw [byL]
  refine .iff (fun _=>.iff (fun _=>.no _ _) fun h4=>(Dr s _).then fun x hx=>?_) fun _=>.ok ⟨rfl,h,hl⟩
  intro y hy
  have:=Ov s q (l++[x.1]) x.2 (fun m a=>(yl.1 a).elim (h m) fun g=>by rw [yf.1 g]; exact hx.2) (by rw [uF,List.length_singleton]; omega) y hy
  exact ⟨this.1.trans hx.1,this.2⟩
theorem VR (s v:ByteArray) (t:St):DC (bys s v t) fun x=>x.2.nd=t.nd∧(∀ b ∈ x.1,zF.named b=true)∧x.1.length<=4:=by
 refine .iff (fun _=>(Dr s t).then fun k c=>?_) fun _=>.ok (⟨rfl,(fun b a=>(by cases a)),qS⟩:_∧_∧_);intro y d;have:=Ov s 5 [k.1] k.2 (fun b a=>by rw [yf.1 a]; exact c.2) qS y d;exact ⟨this.1.trans c.1,this.2⟩
theorem Va (s:ByteArray) (a:St->Res (Expr × St)) (k:∀ t,DC (a t) fun x=>Read x.1 t.nd x.2.nd) (t:St):DC (all s a t) fun x=>Read x.1 t.nd x.2.nd:=by
 refine (Dr s _).then fun x i=>.iff (fun _=>.no _ _) fun h=>(Iy s _).then fun v g=>.iff (fun _=>.no _ _) fun _=>(VR s _ _).then fun l d=>(Ct s _ _).then fun z j=>(k z).then fun e he=>(Ct s _ _).then fun b f=>(HM b).then fun c r=>.ok ⟨?_,?_,?_⟩;show CA (.mk 3 0 0 x.1 [] l.1 [e.1])
 rw [CA,Ba,Ba];refine ⟨by decide,by simp [Lg.arity],?_,he.AD,trivial⟩;rw [Lg.Cb,zI qD,zI qD,zP rfl,zI h,zI qO,zI];rw [Bool.not_eq_true,List.any_eq_false];intro b f; simp [d.2.1 b f];show Pz.bare (.mk 3 0 0 x.1 [] l.1 [e.1])=_
 rw [bare_3,ES,ES,he.bare];show c.nd=t.nd + nodes (.mk 3 0 0 x.1 [] l.1 [e.1])
 rw [nodes,BW,BW];have m:x.2.nd=t.nd:=i.1;have p:v.2.nd=x.2.nd:=g.1;have o:=he.nd;have n:l.2.nd=v.2.nd:=d.1;have q:z.nd=l.2.nd:=j;omega
theorem PB (s:ByteArray) (a:St->Res (Expr × St)) (g:∀ t,DC (a t) fun x=>Read x.1 t.nd x.2.nd) (t:St):DC (BK s a t) fun x=>Read x.1 t.nd x.2.nd:=by
 refine .iff (fun _=>(g _).then fun e he=>(Ct s _ _).then fun u h=>.ok ⟨he.AD,he.bare,?_⟩) fun _=>(Iy s _).then fun w f=>.iff (fun _=>?_) fun _=>.iff (fun _=>?_) fun _=>.iff (fun _=>.no _ _) fun hi=>?_
 ·show u.nd=_
  rw [show u.nd=e.2.nd from h]; exact he.nd
 ·intro y d
  have b:w.2.nd=t.nd:=f.1
  have:=Va s a g w.2 y d
  rwa [b] at this
 ·refine (Pu s _ _ _).then fun n i=>(HM _).then fun c k=>.ok ⟨?_,?_,?_⟩
  ·show CA (.mk 1 n.1 0 ⟨#[]⟩ [] [] [])
   rw [CA,Ba]
   refine ⟨by decide,by simp [Lg.arity],?_,trivial⟩
   rw [Lg.Cb,zP rfl,zI qO]
  ·show Pz.bare (.mk 1 n.1 0 ⟨#[]⟩ [] [] [])=_
   rw [bare_1,ES]
  ·show c.nd=t.nd + nodes (.mk 1 n.1 0 ⟨#[]⟩ [] [] [])
   rw [nodes,BW]
   have b:w.2.nd=t.nd:=f.1
   have j:n.2.nd=w.2.nd:=i.1
   omega
 ·intro y d
  have b:w.2.nd=t.nd:=f.1
  have:=Ox s w.1 w.2 (ym.1 hi) y d
  rwa [b] at this
theorem SG (s:ByteArray):∀ (l:List ByteArray) (i:Nat),(pick s l i).1=⟨#[]⟩∨(pick s l i).1 ∈ l
 | [],_=>.inl rfl
 | g :: gs, i => by
  rw [pick]
  split
  ·exact .inr List.mem_cons_self
  ·exact (SG s gs _).imp id (List.mem_cons_of_mem _)
theorem WJ {w:ByteArray} {a b:Expr} {n m k:Int} (e:w=⟨#[43]⟩∨w=⟨#[45]⟩∨w=⟨#[42]⟩) (d:Read a n m) (c:Read b m k):Read (.mk 4 0 0 w [] [] [a,b]) n (k + 1):=by
 refine ⟨?_,?_,?_⟩;rw [CA,Ba,Ba,Ba];refine ⟨by decide,by simp [Lg.arity],?_,d.AD,c.AD,trivial⟩;rw [Lg.Cb,zI qD,zI qD,zI qD,zI (by rw [ym]; exact (Lg.Mj w).2 e)];rw [bare_4,ES,ES,ES,d.bare,c.bare];rw [nodes,BW,BW,BW]; have:=d.nd; have:=c.nd; omega
theorem NG (s:ByteArray) (b:St->Res (Expr × St)) (a:List ByteArray) (c:∀ g ∈ a,g=⟨#[43]⟩∨g=⟨#[45]⟩∨g=⟨#[42]⟩) (d:∀ t,DC (b t) fun x=>Read x.1 t.nd x.2.nd) (n:Int):∀ (q:Nat) (e:Expr) (t:St),Read e n t.nd->DC (DO s b a q e t) fun x=>Read x.1 n x.2.nd
 | 0,_,_,_=>.no _ _
 | q + 1, e, t, he => by
  rw [DO]
  refine .iff (fun _=>.ok ⟨he.AD,he.bare,he.nd⟩) fun hp=>(d _).then fun f hf=>(HM f.2).then fun u hu=>NG s b a c d n q _ u ?_
  have:=WJ (c _ ((SG s a t.at_).resolve_left hp)) he hf
  rwa [<-hu] at this
theorem Ig (s:ByteArray) (b:St->Res (Expr × St)) (a:List ByteArray) (d:∀ g ∈ a,g=⟨#[43]⟩∨g=⟨#[45]⟩∨g=⟨#[42]⟩) (c:∀ t,DC (b t) fun x=>Read x.1 t.nd x.2.nd) (t:St):DC (sumOf s b a t) fun x=>Read x.1 t.nd x.2.nd :=
 (c t).then fun e he=>NG s b a d c t.nd _ _ _ he
theorem Pa (s:ByteArray):∀ (N:Nat) (t:St),DC (fac s N t) fun x=>Read x.1 t.nd x.2.nd
 | 0,t=>.no _ _
 | N + 1, t => by
  rw [fac]
  exact PB s _ (fun u=>Ig s _ plus (by simp [plus]) (fun v=>Ig s _ star (by simp [star]) (Pa s N) v) u) t
theorem Wq (s:ByteArray) (N:Nat) (t:St):DC (xpr s N t) fun x=>Read x.1 t.nd x.2.nd :=
 Ig s _ plus (by simp [plus]) (fun v=>Ig s _ star (by simp [star]) (Pa s N) v) t
mutual
def depth:Expr->Int
  | .mk _ _ _ _ _ _ ks=>BU ks + 1
def BU:List Expr->Int
  | []=>0
  | x::xs=>if BU xs < depth x then depth x else BU xs
end
mutual
theorem JJ:∀ (e:Expr),1<=depth e
  | .mk _ _ _ _ _ _ ks=>by rw [depth]; have:=Di ks; omega
theorem Di:∀ (l:List Expr),0<=BU l
  | []=>by rw [BU]; omega
  | x::xs=>by rw [BU]; have:=JJ x; have:=Di xs; split <;> omega
end
mutual
theorem JH:∀ (e:Expr) (d:Int),Mn.low d e↔d + depth e<=21
  | .mk _ _ _ _ _ _ ks, d => by
    rw [Mn.low,depth]
    have h1:=Kg ks (d + 1); have h2:=Di ks
    constructor
    · rintro ⟨a,b⟩
      rcases h1.1 b with h | h <;> omega
    · intro h; exact ⟨by omega,h1.2 (.inl qO)⟩
theorem Kg:∀ (l:List Expr) (d:Int),HY d l↔(d + BU l<=21∨BU l=0)
  | [],d=>by rw [HY,BU]; simp
  | x :: xs, d => by
    rw [HY,BU]
    have h1:=JH x d; have h2:=Kg xs d; have h3:=JJ x; have h4:=Di xs
    rw [h1,h2]
    split <;> omega
end
theorem FA {e:Expr} {m:Int} (h:Read e 0 m) (c:m<=100):Lg.AE e≠0↔20 < depth e:=by
 unfold Lg.AE;have d:=h.nd;constructor;intro a;refine Classical.byContradiction fun g=>a ?_;rw [QR e 1 0 h.AD qO ((JH e 1).2 qO)];intro b a;have:=(JH e 1).1 (IC e 1 0 a).2.2.2;omega
end Pz
end
section
namespace Pz
open Ex Mn
theorem Sim.bad_ {α:Type} {s:ByteArray} {c e:Int} {P:Res (α × St)} {a:α} {r:RS} (h:Sim s c e P a r) (b:c=0) (i:¬ r.be=0):P=.no (r.be,r.ba):=by
 cases P with
 | ok x=>exact absurd ((h.2.2 b).1 x rfl).1 i
 | no f=>obtain ⟨_,g,d⟩:=(h.2.2 b).2 f rfl; rw [g,d]
mutual
theorem Jg:∀ (e:Expr),depth e<=nodes e
  | .mk _ _ _ _ _ _ ks=>by rw [depth,nodes]; have:=Ij ks; omega
theorem Ij:∀ (l:List Expr),BU l<=BW l
  | []=>by rw [BU,BW]; omega
  | x :: xs => by
    rw [BU,BW]
    have:=Jg x; have:=Ij xs; have:=Ew xs; have:=JB x
    split <;> omega
end
theorem Jf:∀ (l:List Expr) (x:Expr),BU (l++[x])=if BU l < depth x then depth x else BU l
 | [],x=>by rw [List.nil_append,BU,BU,BU]
 | y :: l, x => by
  rw [List.cons_append,BU,Jf l x,BU]
  have:=JJ x
  repeat' split
  all_goals omega
theorem Jt {l:List zD} {k:Nat} {x:zD} (h:l[k]?=some x):BU ((l.take (k + 1)).map zD.e)=if BU ((l.take k).map zD.e) < depth x.e then depth x.e else BU ((l.take k).map zD.e):=by
 rw [vE,h,Option.toList_some,yi,vl,List.map_nil,Jf]
theorem Od (x:zD):depth x.e=BU (x.kids.l.map zD.e) + 1:=by rw [zD.gz x,depth]
theorem Kk:∀ {l:List Expr} {x:Expr},x ∈ l->depth x<=BU l
 | y :: l, x, h => by
  rw [BU]
  rcases List.mem_cons.1 h with rfl | h
  ·split <;> omega
  ·have:=Kk h; split <;> omega
theorem Uk {e k:zD} (h:k ∈ e.kids.l):depth k.e + 1<=depth e.e:=by
 rw [Od e];have:=Kk (List.mem_map_of_mem (f:=zD.e) h);omega
theorem LP {s:ByteArray} {x:Expr} {j:Nat} {m:Int} (a:xpr s 20 ⟨0,0⟩=.ok (x,⟨j,m⟩)):Read x 0 m:=Wq s 20 ⟨0,0⟩ _ a
theorem VJ {s:ByteArray} {x:Expr} {j:Nat} {m:Int} (a:xpr s 20 ⟨0,0⟩=.ok (x,⟨j,m⟩)) (b:m<=100):depth x<=1000:=by
 have h:=LP a; have:=h.nd; have:=Jg x; omega
theorem Wv {s:ByteArray} {x:Expr} {j:Nat} {m:Int} (b:xpr s 20 ⟨0,0⟩=.ok (x,⟨j,m⟩)) (c:m<=100) (a:20 < depth x):(Lg.shape x 1 0).1≠0:=(FA (LP b) c).2 a
theorem Vx {s:ByteArray} {x:Expr} {j:Nat} {m:Int} (b:xpr s 20 ⟨0,0⟩=.ok (x,⟨j,m⟩)) (c:m<=100) (a:¬ 20 < depth x):¬ (Lg.shape x 1 0).1≠0:=fun h=>a ((FA (LP b) c).1 h)
end Pz
end
section
namespace Bs
open Ex Sh
def Kept (n:Nat) (x:Line) (s:Shelf):Prop:=x.sr=s.zM∧FX s x.sm∧x.sm.length<=n
section
variable {n:Nat} {x:Line} {s z:Shelf}
theorem Kept.up {m:Nat} (h:Kept n x s) (a:n<=m):Kept m x s:=⟨h.1,h.2.1,by have:=h.2.2; omega⟩
end
end Bs
end
section
namespace Ex
structure LineS.Wf (x:yx):Prop where
  sr:Ex.Wf x.sr
end Ex
end
section
namespace Bs
open Ex Sh
section
variable {ls:List yx} {k:Nat} {t:List Label} {x:AA} {y:yx} {l:List vC} {a:List zk} {d:vC} {r:zk}
def Fit (n:Nat) (x:yx):Prop:=DA x.sr.l∧x.sm.l.length<=n
theorem DY {a:yx} (b:k<=ls.length):((([]++ls.take k)++[a])++ls.drop k).length=ls.length + 1:=by grind
end
theorem Ih:∀ {l:List Label} {p:Option Label},zF.AP p l=0->DA l
 | [],_,_=>fun x hx=>by cases hx
 | y :: l, p, h => fun x hx => by
  unfold zF.AP at h
  split at h
  ·cases h
  ·rename_i h1
   split at h
   ·cases h
   ·rcases List.mem_cons.1 hx with rfl | hx
    ·have hk:=Lg9 (zF.named x.key) (zF.named x.val) h1
     exact ⟨by have:=named_len hk.1; omega,by have:=named_len hk.2; omega⟩
    ·exact Ih h x hx
 where
 Lg9 (a b:Bool) (h:¬ ((!a)=true∨(!b)=true)):a=true∧b=true:=by cases a <;> cases b <;> simp at h ⊢
 named_len {s:ByteArray} (h:zF.named s=true):s.size<=12:=by
  unfold zF.named at h
  simp only [Bool.and_eq_true,ud] at h
  omega
theorem Ud {l:List Label} (h:zF.AE l=0):DA l:=by
 unfold zF.AE at h;split at h;cases h;exact Ih h
end Bs
end
section
namespace Ex
section
variable {w0 w:World} {M:Fp} {L:List Own} {α:Type} {ok:(Nat->Prop)->α->World->Prop}
theorem Mem.RF {l l':List α} (h:Mem w0 M L w) (q c:Nat) (d:∀ x,Loc (fun S=>ok S x)) (hi:L[q]?=some (AS ok l)) (a:L[c]?=some (AS ok l')):Mem w0 M (AS ok (l++l')::L) w :=
 h.yO (Av d _) fun f b x e=>(yl.1 e).elim (b.at_ q _ hi x) (b.at_ c _ a x)
end
end Ex
end
section
namespace Ex
section
variable {x:yA} {d:vC} {e:zD} {er at_:Int} {z:SlX zC} {A:Option Addr} {c:Nat} {n:Nat}
theorem PJ (h:Bs.Inv x.e n):∀ s ∈ x.zA.l,s.sr.l.length<=1048576∧DA s.sr.l:=fun s a=>by
 obtain ⟨b,c,_⟩:=h.Cl s.e (yr.2 ⟨s,a,rfl⟩)
 exact ⟨Kd h s a,Bs.Ud c.ok.zM⟩
theorem Qj (h:Bs.Inv x.e n):∀ s ∈ x.zA.l,∀ a b:Int,(Sh.choose s.e a b).2=0->(Sh.read s.e (Sh.choose s.e a b).1).2.2=0:=fun s c a b f=>by
 obtain ⟨d,g,_⟩:=h.Cl s.e (yr.2 ⟨s,c,rfl⟩)
 exact (Bs.TK g f).2.1
theorem ask_3r (f:Pz.parse d.text=(e.e,(er,at_))) (b:¬ er≠0) (c:¬ Mn.check e.e d.to≠0) (a:(Mn.AZ (Mn.eval (Bs.look (x.zA.l.map zB.e)) d.to e.e)).2.2≠0):(x.e,(noX (Mn.AZ (Mn.eval (Bs.look (x.zA.l.map zB.e)) d.to e.e)).2.2).e)=(x.e,Bs.ask x.e d.e):=by
 have:=ask_3 f b c (by rw [Mn.Ie]; exact a)
 rwa [Mn.Ie] at this
theorem ask_4r (a:Pz.parse d.text=(e.e,(er,at_))) (b:¬ er≠0) (f:¬ Mn.check e.e d.to≠0) (c:¬ (Mn.AZ (Mn.eval (Bs.look (x.zA.l.map zB.e)) d.to e.e)).2.2≠0) (g:z.l.map zC.e=(Mn.AZ (Mn.eval (Bs.look (x.zA.l.map zB.e)) d.to e.e)).1) :
  (x.e,zk.e ⟨0,0,z,Mn.AW (Bs.look (x.zA.l.map zB.e)) (Bs.cost (x.zA.l.map zB.e)) d.to e.e 0⟩)=(x.e,Bs.ask x.e d.e) :=
 ask_4 a b f (by rw [Mn.Ie]; exact c) (by rw [Mn.Ie]; exact g)
def Fo (l:List zB) (t:List Label) (k:Nat):Prop:=∀ q s,l[q]?=some s->q < k->zF.compare s.sr.l t < 0
theorem ahead_0 {l:List zB} {t:List Label}:Fo l t 0:=fun _ _ _ h=>absurd h (Nat.not_lt_zero _)
theorem Qv {l:List zB} {t:List Label} {k:Nat} {s:zB} (h:Fo l t k) (b:l[k]?=some s) (c:zF.compare s.sr.l t < 0):Fo l t (k + 1):=fun q y a e=>by
 by_cases d:q=k
 ·subst d; obtain rfl:=Option.some.inj (b.symm.trans a); exact c
 ·exact h q y a qO
theorem NI {l:List zB} {t:List Label} {k:Nat} (f:Mn.Asc (l.map zB.k)) (p:k<=l.length) (h:Fo l t k) (m:∀ z,l[k]?=some z->¬ zF.compare z.sr.l t < 0):Mn.pos (l.map zB.k) t=k:=by
 refine Mn.pos_eq (by rw [vb]; exact p) (fun q y a e=>?_) fun q y a e=>?_
 ·rw [yV] at a
  cases hs:l[q]? with
  | none=>rw [hs] at a; cases a
  | some s=>rw [hs] at a; obtain rfl:=Option.some.inj a; exact h q s hs e
 ·rw [yV] at a
  cases hs:l[q]? with
  | none=>rw [hs] at a; cases a
  | some s =>
   rw [hs] at a; obtain rfl:=Option.some.inj a
   have o:=(yb.1 hs).1
   obtain ⟨z,d⟩:∃ z,l[k]?=some z:=⟨_,vA qO⟩
   have c:=m z d
   by_cases n:k=q
   ·subst n; obtain rfl:=Option.some.inj (hs.symm.trans d); exact c
   ·intro j
    unfold Mn.Asc at f
    have b:=List.pairwise_iff_getElem.1 f k q (by rw [vb]; omega) (by rw [vb]; omega) qO
    rw [List.getElem_map,List.getElem_map] at b
    have i:=(yb.1 d).2
    have g:=(yb.1 hs).2
    rw [i,g] at b
    exact c (zF.Bf.trans _ _ _ b j)
theorem Qq {l:List zB} {t:List Label} {k:Nat} (b:Mn.Asc (l.map zB.k)) (e:Mn.pos (l.map zB.k) t=k) (h:∀ z,l[k]?=some z->¬ z.sr.l=t):Mn.has (l.map zB.k) t=false:=by
 cases hh:Mn.has (l.map zB.k) t with
 | false=>rfl
 | true =>
  exfalso
  obtain ⟨c,a,d,_⟩:=Mn.IL ⟨#[]⟩ 0 b hh
  rw [e,yV] at a
  cases hs:l[k]? with
  | none=>rw [hs] at a; cases a
  | some s=>rw [hs] at a; obtain rfl:=Option.some.inj a; exact h s hs d
theorem UT {l:List zB} {t:List Label} {k:Nat} {z:zB} (a:l[k]?=some z) (h:z.sr.l=t):Mn.has (l.map zB.k) t=true:=by
 unfold Mn.has;rw [List.any_eq_true];exact ⟨zB.k z,yr.2 ⟨z,vQ a,rfl⟩,vM h⟩
theorem Um {l:List zB} {t:List Label} {k:Nat} {z:zB} (e:Mn.Asc (l.map zB.k)) (d:Mn.pos (l.map zB.k) t=k) (b:l[k]?=some z):decide (z.sr.l=t)=Mn.has (l.map zB.k) t:=by
 by_cases a:z.sr.l=t;rw [UT b a,vM a];rw [Qq e d fun y c=>by obtain rfl:=Option.some.inj (b.symm.trans c); exact a,yq a]
theorem UL {t:List Label} {h:Int} (f:zF.AE t=0) (a:0<=h∧h<=1000000∧h % 10=0):(⟨t,[],[],[],0,0,h,0,h / 60 * 60⟩:Shelf)=Bs.fresh t h:=by
 obtain ⟨g,c,j,i⟩:=Bs.Kq f a.1 a.2.1;have e:Sh.Ab (Bs.new t) h=(Sh.Ey (Bs.new t) h,0):=by obtain ⟨_,_,_,_,_,e⟩:=Sh.HC c; exact e
 unfold Bs.fresh;rw [e];show _=(⟨t,[],Sh.yp (Bs.new t) h,Sh.vX (Bs.new t) h,0,0,Sh.zG (Bs.new t) h,0,Sh.zE (Bs.new t) h⟩:Shelf)
 have b:Sh.zG (Bs.new t) h=h:=by show Sh.mx 0 (h - h % 10)=h; unfold Sh.mx; split <;> omega
 have d:Sh.zE (Bs.new t) h=h / 60 * 60:=by unfold Sh.zE; rw [b]; show Sh.mx 0 _=_; unfold Sh.mx; split <;> omega
 rw [b,d]; rfl
theorem add_y {k:Nat} {nb:Bool} {y:zB} (c:¬ zF.AE d.sr.l≠0) (g:¬ (Codec.AE [d.zW]).err≠0) (f:¬ d.zW.time < x.zT) (a:Mn.pos (x.zA.l.map zB.k) d.sr.l=k) (h:nb=Mn.has (x.zA.l.map zB.k) d.sr.l)
  (i:nb=true->x.zA.l[k]?=some y) (m:nb=false->y.e=Bs.fresh d.sr.l x.zT∧x.zA.l.length < 8) :
  Bs.add x.e d.e=if (Sh.append y.e d.zW).2≠0 then (x.e,Bs.no (Sh.append y.e d.zW).2)
   else (⟨(x.zA.l.take k).map zB.e++(Sh.append y.e d.zW).1::(x.zA.l.drop (if nb=true then k + 1 else k)).map zB.e,x.zT⟩,Bs.no 0):=by
 cases nb with
 | true =>
  have b:=i rfl
  rw [add_a c g f h.symm (by rw [a]; exact b),IU,show d.e.sr=d.sr.l from rfl,a]
  have o:=(yb.1 b).1
  have n:x.e.zA.set k (Sh.append y.e d.zW).1=(x.zA.l.take k).map zB.e++(Sh.append y.e d.zW).1::(x.zA.l.drop (k + 1)).map zB.e:=by
   rw [show x.e.zA=x.zA.l.map zB.e from rfl,List.set_eq_take_append_cons_drop,zP (by rw [vb]; exact o),List.map_take,List.map_drop]
  rw [n,zP rfl]
 | false =>
  obtain ⟨j,p⟩:=m rfl
  rw [Ts c g f h.symm,zI (by rw [show x.e.zA=x.zA.l.map zB.e from rfl,vb]; omega),IU,a,<-j,show (if false=true then k + 1 else k)=k from rfl,List.map_take,List.map_drop]; rfl
theorem add_bad {y:zB} {Q:CW × Ans} (h:Bs.add x.e d.e=if (Sh.append y.e d.zW).2≠0 then (x.e,Bs.no (Sh.append y.e d.zW).2) else Q) (a:(Sh.append y.e d.zW).2≠0):(x.e,(noX (Sh.append y.e d.zW).2).e)=Bs.add x.e d.e:=by rw [h,zP a]; rfl
theorem Vp (a:¬ zF.AE d.sr.l≠0) (c:¬ (Codec.AE [d.zW]).err≠0) (b:¬ d.zW.time < x.zT) (f:Mn.has (x.zA.l.map zB.k) d.sr.l=false) (h:(x.zA.l.length:Int) ≥ 8) (g:x.zA.l.length<=8):(x.e,(noX 5).e)=Bs.add x.e d.e :=
 add_6 a c b f qO
theorem Sd {k k':Nat} {nb:Bool} {y z:zB} {l':List zB} (h:Bs.add x.e d.e=if (Sh.append y.e d.zW).2≠0 then (x.e,Bs.no (Sh.append y.e d.zW).2)
   else (⟨(x.zA.l.take k).map zB.e++(Sh.append y.e d.zW).1::(x.zA.l.drop (if nb=true then k + 1 else k)).map zB.e,x.zT⟩,Bs.no 0)) (f:¬ (Sh.append y.e d.zW).2≠0) (b:z.e=(Sh.append y.e d.zW).1)
  (g:k'=if nb=true then k + 1 else k) (a:l'=x.zA.l.take k++z::x.zA.l.drop k'):(yA.e ⟨⟨A,c,l'⟩,x.zT⟩,(noX 0).e)=Bs.add x.e d.e:=by
 rw [h,zI f,<-b,<-g]
 show ((⟨l'.map zB.e,x.zT⟩:CW),Bs.no 0)=_
 rw [a,yi,vl]
section
variable (h1:¬ d.kind=1) (ht:¬ (d.to < 0∨1000000 < d.to)) {zs:List zB} {f:Int}
include h1 ht
theorem rroll_1 (b:d.kind=2) (he:(Bs.each (fun s=>Sh.Ab s d.to) x.e.zA).2=f) (a:f≠0):(x.e,(noX f).e)=Bs.one x.e d.e:=by
 rw [Jh h1 qO (.inl b) ht,zI qO];unfold Bs.HJ;rw [he,zP a]; rfl
theorem rroll_2 (a:d.kind=2) (he:Bs.each (fun s=>Sh.Ab s d.to) x.e.zA=(zs.map zB.e,0)):(yA.e ⟨⟨A,c,zs⟩,Sh.mx x.zT (d.to / 10 * 10)⟩,(noX 0).e)=Bs.one x.e d.e:=by
 rw [Jh h1 qO (.inl a) ht,zI qO];unfold Bs.HJ;rw [he,zI (show ¬ (zs.map zB.e,(0:Int)).2≠0 from fun h=>h rfl),show d.to / 10 * 10=d.to - d.to % 10 by omega]; rfl
theorem rforg_1 (a:d.kind=3) (b:¬ (d.AG < 0∨2 < d.AG)) (he:(Bs.each (fun s=>Sh.forget s d.AG d.to) x.e.zA).2=f) (c:f≠0):(x.e,(noX f).e)=Bs.one x.e d.e:=by
 rw [Jh h1 qO (.inr a) ht,zP a,zI b];unfold Bs.Cn;rw [he,zP c]; rfl
theorem rforg_2 (a:d.kind=3) (b:¬ (d.AG < 0∨2 < d.AG)) (he:Bs.each (fun s=>Sh.forget s d.AG d.to) x.e.zA=(zs.map zB.e,0)):(yA.e ⟨⟨A,c,zs⟩,x.zT⟩,(noX 0).e)=Bs.one x.e d.e:=by
 rw [Jh h1 qO (.inr a) ht,zP a,zI b];unfold Bs.Cn;rw [he,zI (show ¬ (zs.map zB.e,(0:Int)).2≠0 from fun h=>h rfl)]; rfl
end
theorem Sm {b T T':Nat} {cs cs':List Value} {F G H:(Nat->Prop)->World->Prop} (a:Nat) (h:AX [.blk b cs T,.pub F,.pub G,.pub H] a):(Own.blk b cs' T').fp a:=by
 obtain ⟨o,c,e,d⟩:=h
 simp only [ya,List.not_mem_nil,or_false] at c
 rcases c with rfl | rfl | rfl | rfl
 ·exact d
 all_goals cases e
theorem Mem.RO {a w:World} {M:Fp} {L:List Own} {α:Type} {ok:(Nat->Prop)->α->World->Prop} {l l':List α} (h:Mem a M L w) (q:Nat) (d:∀ x,Loc (fun S=>ok S x)) (hi:L[q]?=some (AS ok l)) (b:∀ x ∈ l',x ∈ l):Mem a M (AS ok l'::L) w :=
 h.yO (Av d _) fun _ e x c=>e.at_ q _ hi x (b x c)
theorem Mem.nilSh {a w:World} {M:Fp} {L:List Own} (h:Mem a M L w):Mem a M (slP 9 za (.slice none 0 0) []::L) w:=h.yO (zH.loc _ _ _ _) fun _ _=>zH.vh _ _ _ _
end
end Ex
namespace Bs
open Ex
instance decAns:DecidableEq Ans:=fun a b=>decidable_of_iff (a.err=b.err∧a.at_=b.at_∧a.cost=b.cost∧a.cells=b.cells) ⟨fun h=>by cases a; cases b; simp only at h; obtain ⟨rfl,rfl,rfl,rfl⟩:=h; rfl,fun h=>by rw [h]; exact ⟨rfl,rfl,rfl,rfl⟩⟩
theorem VV {a b:zk}:decide (a.e=b.e)=(decide (a.err=b.err) && (decide (a.at_=b.at_) && (decide (a.cost=b.cost) && decide (a.cells.l.map zC.e=b.cells.l.map zC.e)))):=by
 rw [Bool.eq_iff_iff];simp only [Bool.and_eq_true,ud];constructor;intro h;exact ⟨congrArg Ans.err h,congrArg Ans.at_ h,congrArg Ans.cost h,(congrArg Ans.cells h:a.e.cells=b.e.cells)⟩;rintro ⟨g,f,c,d⟩;show (⟨a.err,a.at_,a.cells.l.map zC.e,a.cost⟩:Ans)=⟨b.err,b.at_,b.cells.l.map zC.e,b.cost⟩
 rw [g,f,c,d]
theorem at_same {l m:List zk} {k:Nat} {s u:zk} (h:l.map zk.e=m.map zk.e) (a:l[k]?=some s) (b:m[k]?=some u):s.e=u.e:=by
 have:=congrArg (fun l=>l[k]?) h;simp only [yV,a,b,Option.map_some,Option.some.injEq] at this;exact this
end Bs
end
section
open Tryz
open Ex
attribute [local irreducible] WC WL WQ WE WS
theorem c_rise {a:Int} {b:Int} {w:World}   :
    Calls prog 110 #[iV a,iV b] w (Ret w (iV (Agg.Ap a b))):=by
 refine zp func110 (Mem.AQ dn) ?_;refine (gg) (zQ (fun d=>?_) fun d=>?_);refine (gg) (zR fun e c=>?_);exact zL (by simp [Agg.Ap,d]) c;apply go 6;refine zV (qd rfl rfl) ?_;refine (gg) (zR fun e c=>?_);exact zL (by simp [Agg.Ap,d]) c
theorem c_One {v:Int} {w:World}   :
    Calls prog 67 #[iV v] w (Ret w (.agg (CK (Agg.one v)).toArray)):=by
 refine zp func67 (Mem.AQ dn) ?_;refine (gg) (zl fun b=>?_);refine (gg) (zR fun c a=>?_);exact yd rfl a
theorem jA {a:Sum} {b:Sum} {w:World}   :
    Calls prog 66 #[.agg (CK a).toArray,.agg (CK b).toArray] w (Ret w (.agg (CK (Agg.join a b)).toArray)):=by
 refine zp func66 (Mem.AQ dn) ?_;refine (go 2) (yw fun f=>yw fun g=>zl fun e=>?_);refine (go 12) (zQ (fun h1=>?_) fun h1=>?_);refine (go 9) (zR fun d c=>?_);exact yd (l1:=[iV b.count,iV b.total,iV b.min,iV b.max,iV b.first,iV b.last,iV b.Ap]) (by simp [Agg.join,CK,h1]) c;refine (go 8) (zQ (fun h2=>?_) fun h2=>?_);refine (go 9) (zR fun d c=>?_);exact yd (l1:=[iV a.count,iV a.total,iV a.min,iV a.max,iV a.first,iV a.last,iV a.Ap]) q_53 c;refine (go 4) (jJ 36 ?_);apply go 4;refine vS (uq rfl rfl) ?_;apply go 4;refine vS (uq rfl rfl) ?_;apply go 20;refine yL wn rfl call110 rfl (fun _ _=>c_rise) (vS (uq rfl rfl) ?_);apply go 2;refine vS (uq rfl rfl) ?_;refine (go 6) (zR fun d c=>?_);exact yd (l1:=[iV (IntKind.wrap .i64 (a.count + b.count)),iV (IntKind.wrap .i64 (a.total + b.total)),iV (if b.min < a.min then b.min else a.min),iV (if a.max < b.max then b.max else a.max),iV a.first,iV b.last,iV (IntKind.wrap .i64 ((IntKind.wrap .i64 (a.Ap + (Agg.Ap a.last b.first))) + b.Ap))]) q_53 c
theorem SP  {w:World}   :
    Calls prog 33 #[] w (IG w 9 1 Ac Agg.words):=by
 refine zp func33 (Mem.AQ dn) ?_;apply go 7;refine zf Ac ([⟨#[97,118,103]⟩,kC,⟨#[102,105,114,115,116]⟩,⟨#[108,97,115,116]⟩,⟨#[109,97,120]⟩,⟨#[109,105,110]⟩,⟨#[114,105,115,101]⟩,⟨#[115,117,109]⟩]:List ByteArray) wn underlying56 BN rfl rfl rfl rfl qD qD rfl fun b=>?_;refine (go 4) (zR fun c a=>?_);exact a.ue 0 rfl rfl
theorem c_Value {c:ByteArray} {s:Sum} {w:World}   :
    Calls prog 35 #[.string c,.agg (CK s).toArray] w (Ret w (.tuple #[iV (Agg.value c s).1,.bool (Agg.value c s).2])):=by
 refine zp func35 (Mem.AQ dn) ?_;refine (gg) (yw fun m=>?_);refine (gg) (zQ (fun b=>?_) fun b=>?_);refine (gg) (yE fun e a=>?_);exact zL (by simp [Agg.value,b]) a;refine (gg) (zQ (fun d=>?_) fun d=>?_);apply go 6;refine zV (r_quo rfl rfl qO) ?_;refine (gg) (yE fun e a=>?_);exact zL (by simp [Agg.value,b,d]) a;refine (gg) (zQ (fun f=>?_) fun f=>?_);refine (gg) (yE fun e a=>?_);exact zL (by simp [Agg.value,b,d,f]) a;refine (gg) (zQ (fun g=>?_) fun g=>?_);refine (gg) (yE fun e a=>?_);exact zL (by simp [Agg.value,b,d,f,g]) a;refine (gg) (zQ (fun h=>?_) fun h=>?_);refine (gg) (yE fun e a=>?_);exact zL (by simp [Agg.value,b,d,f,g,h]) a;refine (gg) (zQ (fun i=>?_) fun i=>?_);refine (gg) (yE fun e a=>?_);exact zL (by simp [Agg.value,b,d,f,g,h,i]) a;refine (gg) (zQ (fun j=>?_) fun j=>?_);refine (gg) (yE fun e a=>?_);exact zL (by simp [Agg.value,b,d,f,g,h,i,j]) a;refine (gg) (zQ (fun k=>?_) fun k=>?_);refine (gg) (yE fun e a=>?_);exact zL (by simp [Agg.value,b,d,f,g,h,i,j,k]) a;refine (gg) (zQ (fun l=>?_) fun l=>?_);refine (gg) (yE fun e a=>?_);exact zL (by simp [Agg.value,b,d,f,g,h,i,j,k,l]) a;refine (gg) (yE fun e a=>?_);exact zL (by simp [Agg.value,b,d,f,g,h,i,j,k,l]) a
theorem TZ {a:ByteArray} {w:World}   :
    Calls prog 96 #[.string a] w (Ret w (.bool false)):=by
 refine zp func96 (Mem.AQ dn) ?_;refine (gg) (zR fun c b=>?_);exact zL qS b
theorem c_cmpS {a:ByteArray} {b:ByteArray} {w:World}   :
    Calls prog 50 #[.string a,.string b] w (Ret w (iV (zF.DQ a b))):=by
 refine zp func50 (Mem.AQ dn) ?_;apply go 8;refine yB call96 wn rfl (fun _ _=>TZ) ?_;apply go 6;refine yB call96 wn rfl (fun _ _=>TZ) ?_;refine (go 29) (yj (fun d=>?_) fun d=>?_);refine (go 7) (zR fun f c=>?_);exact zL (by simp [zF.DQ,d]) c;refine (go 10) (yj (fun e=>?_) fun e=>?_);refine (go 7) (zR fun f c=>?_);exact zL (by simp [zF.DQ,d,e]) c;refine (go 8) (zR fun f c=>?_);exact zL (by simp [zF.DQ,d,e]) c
theorem c_or {g:Value} (l:List Int) {w:World} (f:zH (In w) 1 GD g l w)  :
    Calls prog 49 #[g] w (Ret w (iV (zF.orI l))):=by
 obtain ⟨q,r,rfl,i,n,e⟩:=f.form;refine zp func49 (Mem.AQ (dc (dl f) dn)) ?_;apply go 19;refine yk (jE1 [3,6,7] fun (k:Nat)=>[(8,iV k)]) (jS1 fun k=>[]) (fun k=>k<=l.length∧zF.orI l=zF.orI (l.drop k)) (fun k=>l.length - k) 0 ?_ (fun k a=>?_);simp;refine (go 6) (zQ (fun j=>?_) fun j=>?_);apply go 6;obtain ⟨o,p,h,b⟩:=elx e k;refine (go 12) (zQ (fun d=>?_) fun d=>?_);refine (go 12) (zR fun m c=>?_);exact zL (by rw [a.2,zF.TO b,zP d]) c;apply go 6;refine zK (zy (k + 1) ?_ ?_);exact ⟨qO,by rw [a.2,zF.TO b,zI (qs d)]⟩;omega;refine (go 12) (zR fun m c=>?_);exact zL (by rw [a.2,zF.or_end qO]) c
theorem c_cmpL {a:Label} {b:Label} {w:World}   :
    Calls prog 48 #[.agg (zb a).toArray,.agg (zb b).toArray] w (Ret w (iV (zF.JP a b))):=by
 refine zp func48 (Mem.AQ dn) ?_;refine (go 2) (yw fun f=>yw fun g=>?_);refine (go 4) (jJ 10 ?_);apply go 4;refine yL wn rfl call50 rfl (fun _ _=>c_cmpS) ?_;apply go 4;refine yL wn rfl call50 rfl (fun _ _=>c_cmpS) ?_;apply go 1;refine zf GD ([(zF.DQ a.key b.key),(zF.DQ a.val b.val)]:List Int) wn underlying37 Eh rfl rfl rfl rfl qD qD rfl fun d=>yB call49 wn rfl (fun _ c=>c_or ([(zF.DQ a.key b.key),(zF.DQ a.val b.val)]:List Int) (AM MB c 0 rfl)) ?_;refine (go 4) (zR fun e c=>?_);exact zL (by rw [zF.Se]; rfl) c
theorem ME {m:Value} (a:List Label) {l:Value} (b:List Label) {w:World} (n:zH (In w) 2 zb m a w) (o:zH (In w) 2 zb l b w)  :
    Calls prog 47 #[m,l,.func (.func 48) #[] #[]] w (Ret w (iV (zF.compare a b))):=by
 obtain ⟨G,F,rfl,A,r,g⟩:=n.form;obtain ⟨I,C,rfl,y,p,j⟩:=o.form;refine zp func47 (Mem.AQ (dc (dl n) (dc (dl o) dn))) ?_;apply go 14;refine yk (jE1 [0,1,2,11,12] fun (k:Nat)=>[(13,iV k)]) (jS1 fun k=>[]) (fun k=>k<=a.length∧zF.compare a b=zF.compare (a.drop k) (b.drop k)) (fun k=>a.length - k) 0 ?_ (fun k c=>?_);simp;refine (go 6) (zQ (fun t=>?_) fun t=>?_);apply go 7;obtain ⟨s,B,x,e⟩:=elx g k;refine (go 2) (zl fun E=>?_);refine (go 13) (zQ (fun u=>?_) fun u=>?_);refine (go 12) (zR fun h d=>?_);exact zL (by rw [c.2,zF.IS e qO]) d;apply go 6;obtain ⟨v,H,z,f⟩:=elx j k;refine (go 2) (zl fun D=>?_);apply go 8;refine vI wn rfl rfl call48 rfl (fun _ _=>c_cmpL) ?_;refine (go 9) (zQ (fun i=>?_) fun i=>?_);refine (go 12) (zR fun h d=>?_);exact zL (by rw [c.2,zF.DS e f,zP i]) d;apply go 6;refine zK (zy (k + 1) ?_ ?_);exact ⟨qO,by rw [c.2,zF.DS e f,zI (qs i)]⟩;omega;refine (go 15) (zQ (fun q=>?_) fun q=>?_);refine (go 7) (zR fun h d=>?_);exact zL (by rw [c.2,zF.FD qO qO,zP qO]) d;refine (go 8) (zR fun h d=>?_);exact zL (by rw [c.2,zF.FD qO qO,zI qO]) d
theorem MO {e:Value} (a:List Label) {d:Value} (b:List Label) {w:World} (f:zH (In w) 2 zb e a w) (g:zH (In w) 2 zb d b w)  :
    Calls prog 22 #[e,d] w (Ret w (iV (zF.compare a b))):=by
 obtain ⟨n,r,rfl,h,m,j⟩:=f.form;obtain ⟨q,p,rfl,i,k,l⟩:=g.form;refine zp func22 (Mem.AQ (dc (dl f) (dc (dl g) dn))) ?_;apply go 9;refine yB call47 wn rfl (fun _ c=>ME a b (c.sl 0 rfl) (c.sl 1 rfl)) ?_;refine (go 4) (zR fun o c=>?_);exact zL rfl c
theorem qx {h:Value} (l:List Label) {a:ByteArray} {w:World} (g:zH (In w) 2 zb h l w)  :
    Calls prog 104 #[h,.string a] w (Ret w (.tuple #[.string (zF.get l a).1,.bool (zF.get l a).2])):=by
 obtain ⟨r,t,rfl,j,o,f⟩:=g.form;refine zp func104 (Mem.AQ (dc (dl g) dn)) ?_;apply go 15;refine yk (jE1 [1,8,9] fun (k:Nat)=>[(10,iV k)]) (jS1 fun k=>[]) (fun k=>k<=l.length∧zF.get l a=zF.get (l.drop k) a) (fun k=>l.length - k) 0 ?_ (fun k b=>?_);simp;refine (go 6) (zQ (fun m=>?_) fun m=>?_);apply go 6;obtain ⟨p,q,i,c⟩:=elx f k;refine (go 2) (zl fun s=>?_);refine (go 11) (zQ (fun e=>?_) fun e=>?_);refine (go 14) (yE fun n d=>?_);exact zL (by rw [b.2,zF.Bw c,zP e]) d;apply go 6;refine zK (zy (k + 1) ?_ ?_);exact ⟨qO,by rw [b.2,zF.Bw c,zI e]⟩;omega;refine (go 12) (yE fun n d=>?_);exact zL (by rw [b.2,zF.get_end qO]) d
theorem Tv {s:Value} (r:List Label) {v:Value} (l:List Match) {w:World} (u:zH (In w) 2 zb s r w) (t:zH (In w) 3 yF v l w)  :
    Calls prog 60 #[s,v] w (Ret w (.bool (zF.yG r l))):=by
 obtain ⟨J,H,rfl,F,E,D⟩:=u.form;obtain ⟨K,L,rfl,C,A,q⟩:=t.form;refine zp func60 (Mem.AQ (dc (dl u) (dc (dl t) dn))) ?_;apply go 14;refine yk (jE1 [0,10,11] fun (k:Nat)=>[(12,iV k)]) (jS1 fun k=>[]) (fun k=>k<=l.length∧∀ x ∈ l.take k,zF.Aq r x=true) (fun k=>l.length - k) 0 ?_ (fun k f=>?_);simp;refine (go 6) (zQ (fun z=>?_) fun z=>?_);apply go 6;obtain ⟨y,G,B,b⟩:=elx q k;refine (go 2) (zl fun I=>?_);apply go 8;refine yB call104 wn rfl (fun _ d=>qx r (d.sl 1 rfl)) ?_;refine (go 26) (zQ (fun a=>?_) fun a=>?_);refine (go 3) (jK 28 (fun j=>?_) fun j=>?_);refine (go 15) (zQ (fun n=>?_) fun n=>?_);refine (go 11) (zR fun m d=>?_);exact zL (by rw [zF.Am b (by (try simp at a); (try simp at j); (try simp at n); simp [zF.Aq,a,j,n])]) d;apply go 6;refine zK (zy (k + 1) ?_ ?_);exact ⟨qO,zF.Ah b (by (try simp at a); (try simp at j); (try simp at n); simp [zF.Aq,a,j,n]) f.2⟩;omega;apply go 12;refine zV (zz rfl) ?_;refine (go 14) (zR fun m d=>?_);exact zL (by rw [zF.Am b (by (try simp at a); (try simp at j); simp [zF.Aq,a,j])]) d;refine (go 6) (zQ (fun c=>?_) fun c=>?_);apply go 2;refine zV (zz rfl) ?_;refine (go 1) (jK 38 (fun i=>?_) fun i=>?_);apply go 12;refine zV (zz rfl) ?_;apply go 9;refine zK (zy (k + 1) ?_ ?_);exact ⟨qO,zF.Ah b (by (try simp at a); (try simp at c); (try simp at i); simp [zF.Aq,a,c,i]) f.2⟩;omega;refine (go 15) (zQ (fun o=>?_) fun o=>?_);refine (go 11) (zR fun m d=>?_);exact zL (by rw [zF.Am b (by (try simp at a); (try simp at c); (try simp at i); (try simp at o); simp [zF.Aq,a,c,i,o])]) d;apply go 6;refine zK (zy (k + 1) ?_ ?_);exact ⟨qO,zF.Ah b (by (try simp at a); (try simp at c); (try simp at i); (try simp at o); simp [zF.Aq,a,c,i,o]) f.2⟩
 omega;refine (go 6) (zQ (fun g=>?_) fun g=>?_);apply go 9;refine zV (zz rfl) ?_;refine (go 2) (yj (fun p=>?_) fun p=>?_);refine (go 11) (zR fun m d=>?_);exact zL (by rw [zF.Am b (by (try simp at a); (try simp at c); (try simp at g); (try simp at p); simp [zF.Aq,a,c,g,p])]) d;apply go 6;refine zK (zy (k + 1) ?_ ?_);exact ⟨qO,zF.Ah b (by (try simp at a); (try simp at c); (try simp at g); (try simp at p); simp [zF.Aq,a,c,g,p]) f.2⟩;omega;refine (go 6) (zQ (fun e=>?_) fun e=>?_);apply go 2;refine zV (zz rfl) ?_;apply go 7;refine zV (zz rfl) ?_;refine (go 2) (yj (fun h=>?_) fun h=>?_);refine (go 11) (zR fun m d=>?_);exact zL (by rw [zF.Am b (by (try simp at a); (try simp at c); (try simp at g); (try simp at e); (try simp at h); simp [zF.Aq,a,c,g,e,h])]) d;apply go 6;refine zK (zy (k + 1) ?_ ?_);exact ⟨qO,zF.Ah b (by (try simp at a); (try simp at c); (try simp at g); (try simp at e); (try simp at h); simp [zF.Aq,a,c,g,e,h]) f.2⟩;omega;apply go 6;refine zV (zz rfl) ?_;refine (go 14) (zR fun m d=>?_);exact zL (by rw [zF.Am b (by (try simp at a); (try simp at c); (try simp at g); (try simp at e); simp [zF.Aq,a,c,g,e])]) d;refine (go 11) (zR fun m d=>?_);exact zL (by rw [zF.IX qO f.2]) d
theorem jn {s:ByteArray} {w:World}   :
    Calls prog 92 #[.string s] w (Ret w (.bool (zF.named s))):=by
 refine zp func92 (Mem.AQ dn) ?_;apply go 6;refine yM (jE0 [0] [(12,.bool (decide (((s.size:Int) < 1)∨(12 < (s.size:Int)))))]) (jS0 []) (fun _ m=>?_) ?_;refine (go 5) (zm 8 (fun p=>?_) fun p=>?_);apply go 4;refine zK (kX m (kS1 (sc (jt (Or.inl p)) sn)));apply go 4;refine zK (kX m (kS1 (sc (jp (AI p Iff.rfl)) sn)));refine zQ (fun u=>?_) fun u=>?_;refine (go 7) (zR fun t i=>?_);exact zL (by unfold zF.named; simp; omega) i;apply go 11;refine yk (jE1 [0,14] fun (k:Nat)=>[(15,iV k)]) (jS1 fun k=>[]) (fun k=>k<=s.size∧zF.CN 0 s.data.toList=zF.CN k (s.data.toList.drop k)) (fun k=>s.size - k) 0 ?_ (fun k e=>?_);simp;refine (go 6) (zQ (fun v=>?_) fun v=>?_);apply go 14;obtain ⟨b,f⟩:∃ x,s[k]?=some x:=⟨_,ET qI⟩;refine zV (ua rfl rfl qO f underlying9) ?_;apply go 3;refine yM (jE0 [0,14,15] [(42,.bool (decide ((((b.toNat:Int) < 97)∧(((k:Int)=0)∨((((b.toNat:Int) < 48)∧((b.toNat:Int)≠95))∨(¬ ((b.toNat:Int) < 48)∧((57 < (b.toNat:Int))∧((b.toNat:Int)≠95))))))∨(¬ ((b.toNat:Int) < 97)∧((122 < (b.toNat:Int))∧(((k:Int)=0)∨((((b.toNat:Int) < 48)∧((b.toNat:Int)≠95))∨(¬ ((b.toNat:Int) < 48)∧((57 < (b.toNat:Int))∧((b.toNat:Int)≠95))))))))))]) (jS0 []) (fun _ a=>?_) ?_;refine (go 4) (zm 23 (fun c=>?_) fun c=>?_);refine (go 7) (zm 30 (fun j=>?_) fun j=>?_);apply go 12;refine zK (kX a (kS3 (sc (jt (Or.inl ⟨c,(Or.inl j)⟩)) sn)));refine (go 3) (zm 33 (fun o=>?_) fun o=>?_);apply go 9;refine zK (kX a (kS3 (sc (jp (CD c (AI j (CD o Iff.rfl)))) sn)));refine (go 4) (zm 37 (fun r=>?_) fun r=>?_);apply go 5;refine zK (kX a (kS3 (sc (jp (CD c (AI j (Br o (AH r Iff.rfl))))) sn)));apply go 5;refine zK (kX a (kS3 (sc (jf (fun g=>g.elim (fun k=>(fun g=>g.elim j (fun g=>g.elim (fun k=>o k.1) (fun k=>(fun g=>r g.1) k.2))) k.2) (fun k=>k.1 c))) sn)))
 refine (go 4) (zm 27 (fun l=>?_) fun l=>?_);refine (go 3) (zm 30 (fun n=>?_) fun n=>?_);apply go 12;refine zK (kX a (kS3 (sc (jt (Or.inr ⟨c,⟨l,(Or.inl n)⟩⟩)) sn)));refine (go 3) (zm 33 (fun d=>?_) fun d=>?_);apply go 9;refine zK (kX a (kS3 (sc (jp (Br c (AH l (AI n (CD d Iff.rfl))))) sn)));refine (go 4) (zm 37 (fun h=>?_) fun h=>?_);apply go 5;refine zK (kX a (kS3 (sc (jp (Br c (AH l (AI n (Br d (AH h Iff.rfl)))))) sn)));apply go 5;refine zK (kX a (kS3 (sc (jf (fun g=>g.elim (fun k=>c k.1) (fun k=>(fun g=>(fun g=>g.elim n (fun g=>g.elim (fun k=>d k.1) (fun k=>(fun g=>h g.1) k.2))) g.2) k.2))) sn)));apply go 15;refine zK (kX a (kS3 (sc (jf (fun g=>g.elim (fun k=>c k.1) (fun k=>(fun g=>l g.1) k.2))) sn)));refine zQ (fun q=>?_) fun q=>?_;refine (go 11) (zR fun t i=>?_);exact zL (by unfold zF.named; rw [e.2,zF.LO f,yq (show ¬ zF.EO k b from by unfold zF.EO; omega)]; simp) i;apply go 6;refine zK (zy (k + 1) ?_ ?_);exact ⟨qO,by rw [e.2,zF.LO f,vM (show zF.EO k b from by unfold zF.EO; omega),Bool.true_and]⟩;omega;refine (go 11) (zR fun t i=>?_);exact zL (by unfold zF.named; rw [vM qO,vM qO,e.2,zF.Ui qO]; rfl) i
theorem IZ {o:Value} (l:List Label) {w:World} (n:zH (In w) 2 zb o l w)  :
    Calls prog 42 #[o] w (Ret w (iV (zF.AE l))):=by
 obtain ⟨y,z,rfl,u,s,g⟩:=n.form;refine zp func42 (Mem.AQ (dc (dl n) dn)) ?_;refine (go 13) (zQ (fun r=>?_) fun r=>?_);refine (go 7) (zR fun f d=>?_);exact zL (by rw [zF.AE,zP qO]) d;apply go 11;refine yk (jE1 [0,8,9] fun (k:Nat)=>[(10,iV k)]) (jS1 fun k=>[]) (fun k=>k<=l.length∧zF.AP none l=zF.AP (zF.BC l k) (l.drop k)) (fun k=>l.length - k) 0 ?_ (fun k a=>?_);exact ⟨qO,zF.CM l⟩;refine (go 6) (zQ (fun t=>?_) fun t=>?_);apply go 7;obtain ⟨q,m,h,b⟩:=elx g k;refine (go 2) (zl fun x=>?_);apply go 5;refine yM (jE0 [0,3,4,8,9,10] [(24,.bool (decide (((!(zF.named m.key))=true)∨((!(zF.named m.val))=true))))]) (jS0 []) (fun _ c=>?_) ?_;apply go 3;refine yB call92 wn rfl (fun _ _=>jn) (zV (zz rfl) ?_);refine (go 1) (jK 19 (fun j=>?_) fun j=>?_);apply go 5;refine zK (kX c (kS6 (sc (jt (Or.inl j)) sn)));apply go 2;refine yB call92 (wg rfl rfl rfl) rfl (fun _ _=>jn) (yY (zz rfl) ?_);apply go 1;refine zK (kX c (kS6 (sc (jpb (AI j Iff.rfl)) sn)));refine zQ (fun e=>?_) fun e=>?_;refine (go 12) (zR fun f d=>?_);exact zL (by rw [zF.AE,zI qO,a.2,zF.Aa b,zP e]) d;refine (go 7) (vp 27 (fun p=>?_) fun p=>?_);apply go 3;refine uD (vO (i:=(k - 1)) rfl h rfl qO qI underlying39 Hd) ?_;apply go 1;obtain ⟨v,hs2⟩:=gx l ((k - 1));refine (go 7) (yj (fun h6=>?_) fun h6=>?_);refine (go 11) (zR fun f d=>?_);exact zL (by rw [zF.AE,zI qO,a.2,zF.Aa b,zI e,zP q_31]) d;apply go 6;refine zK (zy (k + 1) ?_ ?_);exact ⟨qO,by rw [a.2,zF.Aa b,zI e,zI q_31]⟩;omega;apply go 19;refine zK (zy (k + 1) ?_ ?_);exact ⟨qO,by rw [a.2,zF.Aa b,zI e,zI (by rw [zF.BC,zP qO]; simp [zF.behind])]⟩;omega;refine (go 11) (zR fun f d=>?_);exact zL (by rw [zF.AE,zI qO,a.2,zF.BG qO]) d
theorem c_index {g:Value} (l:List ByteArray) {v:ByteArray} {w:World} (f:zH (In w) 1 Ac g l w)  :
    Calls prog 185 #[g,.string v] w (Ret w (iV (zF.indexOf l v 0))):=by
 obtain ⟨q,r,rfl,i,n,e⟩:=f.form;refine zp func185 (Mem.AQ (dc (dl f) dn)) ?_;apply go 14;refine yk (jE1 [0,1,7] fun (k:Nat)=>[(8,iV k)]) (jS1 fun k=>[]) (fun k=>k<=l.length∧zF.indexOf l v 0=zF.indexOf (l.drop k) v k) (fun k=>l.length - k) 0 ?_ (fun k a=>?_);simp;refine (go 6) (zQ (fun j=>?_) fun j=>?_);apply go 15;obtain ⟨o,p,h,b⟩:=elx e k;refine (go 5) (zQ (fun d=>?_) fun d=>?_);refine (go 12) (zR fun m c=>?_);exact zL (by rw [a.2,zF.GB b,zP d]) c;apply go 6;refine zK (zy (k + 1) ?_ ?_);exact ⟨qO,by rw [a.2,zF.GB b,zI d]⟩;omega;refine (go 11) (zR fun m c=>?_);exact zL (by rw [a.2,zF.Ms qO]) c
theorem uy {c:Value} (l:List ByteArray) {v:ByteArray} {w:World} (b:zH (In w) 1 Ac c l w)  :
    Calls prog 150 #[c,.string v] w (Ret w (.bool (decide (0<=zF.indexOf l v 0)))):=by
 obtain ⟨h,i,rfl,d,e,f⟩:=b.form;refine zp func150 (Mem.AQ (dc (dl b) dn)) ?_;apply go 9;refine yB call185 wn rfl (fun _ a=>c_index l (a.sl 0 rfl)) ?_;refine (go 5) (zR fun g a=>?_);exact zL rfl a
theorem c_only {r:Value} (l:List Label) {b:Value} (by_:List ByteArray) {w:World} (v:zH (In w) 2 zb r l w) (a:zH (In w) 1 Ac b by_ w) (E:l.length<=1048576) :
    Calls prog 188 #[r,b] w (IG w 74 2 zb (zF.only l by_)):=by
 obtain ⟨O,Q,rfl,y,H,f⟩:=v.form;obtain ⟨u,q,rfl,n,p,o⟩:=a.form;refine zp func188 (Mem.AQ (dc (dl v) (dc (dl a) dn))) ?_;apply go 2;refine zr (zb:Label->List Value) 74 2 ?_;apply go 5;refine zr (zb:Label->List Value) 74 2 ?_;apply go 12;refine jY (jE2 [1,8,9] fun (k:Nat) (c:Value)=>[(5,c),(10,iV k)]) (jS2 fun k c=>[.s 0 (Row c 74 2 zb (zF.only (l.take k) by_))]) (fun k c=>k<=l.length) (fun k c=>l.length - k) 0 (Zs) ?_ (fun k c C=>?_);omega;have t:=vN (zF.IE (l.take k) by_) (List.length_take_le k l);refine yP 0 (l:=(zF.only (l.take k) by_)) rfl fun K g i I z M=>?_;subst i;refine (go 6) (zQ (fun B=>?_) fun B=>?_);apply go 6;obtain ⟨D,s1,L,e⟩:=elx f k;refine (go 2) (zl fun P=>?_);apply go 8;refine yB call150 wn rfl (fun _ d=>uy by_ (d.sl 4 rfl)) ?_;refine (go 2) (zQ (fun m=>?_) fun m=>?_);apply go 3;refine zf zb ([s1]:List Label) wn underlying39 Hd rfl rfl rfl rfl qD qD rfl fun G=>zh 2 (zF.only (l.take k) by_) ([s1]:List Label) BB wn rfl rfl rfl (fun _ d=>(AM BB d 0 rfl)) underlying39 Hd rfl rfl qQ rfl fun x j A J F=>?_;apply go 7;refine zK (vU (k + 1) (.slice x (((zF.only (l.take k) by_)++([s1]:List Label)).length) j) ?_ ?_ sA (fun _ h=>by rw [(zF.HB e).trans (zP m)]; exact (h.sel [2,3,4,5] qD rfl)));omega;omega;apply go 6;refine zK (vU (k + 1) (.slice K ((zF.only (l.take k) by_).length) g) ?_ ?_ sA (fun _ h=>by rw [(zF.HB e).trans (zI m)]; exact (h.sel [1,2,3,4] qD rfl)));omega;omega;refine (go 12) (zR fun N d=>?_);exact d.ue 0 rfl qo
theorem jP {p:Value} (l:List AA) {w:World} (o:zH (In w) 2 zX p l w)  :
    Calls prog 43 #[p] w (Ret w (.agg (OO (Codec.AE l)).toArray)):=by
 obtain ⟨C,D,rfl,y,u,j⟩:=o.form;refine zp func43 (Mem.AQ (dc (dl o) dn)) ?_;refine (go 2) (zl fun B=>?_);refine (go 10) (zQ (fun s=>?_) fun s=>?_);refine (go 8) (zR fun f d=>?_);exact yd (l1:=[iV 5,iV 0]) (by rw [Codec.AE,zP qO]) d;apply go 11;refine yk (jE1 [0,2,9,10] fun (k:Nat)=>[(11,iV k)]) (jS1 fun k=>[]) (fun k=>k<=l.length∧Codec.AP 0 none l=Codec.AP k (Codec.BC l k) (l.drop k)) (fun k=>l.length - k) 0 ?_ (fun k b=>?_);exact ⟨qO,Codec.CM l⟩;refine (go 6) (zQ (fun v=>?_) fun v=>?_);apply go 7;obtain ⟨r,e,m,c⟩:=elx j k;refine (go 2) (zl fun A=>?_);apply go 5;refine yM (jE0 [0,2,3,4,9,10,11] [(33,.bool (decide ((e.time < 0)∨((1000000 < e.time)∨((e.value < (-1000000000))∨(1000000000 < e.value))))))]) (jS0 []) (fun _ a=>?_) ?_;refine (go 5) (zm 19 (fun n=>?_) fun n=>?_);apply go 14;refine zK (kX a (kS7 (sc (jt (Or.inl n)) sn)));refine (go 5) (zm 24 (fun g=>?_) fun g=>?_);apply go 9;refine zK (kX a (kS7 (sc (jt (Or.inr (Or.inl g))) sn)));refine (go 5) (zm 29 (fun h=>?_) fun h=>?_);apply go 4;refine zK (kX a (kS7 (sc (jt (Or.inr (Or.inr (Or.inl h)))) sn)));apply go 4;refine zK (kX a (kS7 (sc (jp (AI n (AI g (AI h Iff.rfl)))) sn)));refine zQ (fun q=>?_) fun q=>?_;refine (go 14) (zR fun f d=>?_);exact yd (l1:=[iV 3,iV k]) (by rw [Codec.AE,zI qO,b.2,Codec.Aa c,zP qg]) d;refine (go 7) (vp 38 (fun x=>?_) fun x=>?_);apply go 3;refine uD (vO (i:=(k - 1)) rfl m rfl qO qI underlying47 Ao) ?_;apply go 1;obtain ⟨z,hs2⟩:=gx l ((k - 1));refine (go 7) (zQ (fun t=>?_) fun t=>?_);refine (go 13) (zR fun f d=>?_);exact yd (l1:=[iV 2,iV k]) (by rw [Codec.AE,zI qO,b.2,Codec.Aa c,zI qg,zP q_33]) d
 apply go 6;refine zK (zy (k + 1) ?_ ?_);exact ⟨qO,by rw [b.2,Codec.Aa c,zI qg,zI q_33]⟩;omega;apply go 19;refine zK (zy (k + 1) ?_ ?_);exact ⟨qO,by rw [b.2,Codec.Aa c,zI qg,zI (by rw [Codec.BC,zP qO]; simp [Codec.Da])]⟩;omega;refine (go 12) (zR fun f d=>?_);exact yd (l1:=[iV 0,iV 0]) (by rw [Codec.AE,zI qO,b.2,Codec.BG qO]) d
theorem Hb {h:Value} (a:List AA) {f:Value} (b:List AA) {w:World} (i:zH (In w) 2 zX h a w) (j:zH (In w) 2 zX f b w)  :
    Calls prog 90 #[h,f] w (Ret w (.bool (decide (a=b)))):=by
 obtain ⟨z,y,rfl,v,n,d⟩:=i.form;obtain ⟨A,x,rfl,t,m,e⟩:=j.form;refine zp func90 (Mem.AQ (dc (dl i) (dc (dl j) dn))) ?_;refine (go 15) (zQ (fun h1=>?_) fun h1=>?_);refine (go 7) (zR fun g c=>?_);exact zL q_43 c;apply go 11;refine yk (jE1 [0,1,12] fun (k:Nat)=>[(13,iV k)]) (jS1 fun k=>[]) (fun k=>k<=a.length∧a.take k=b.take k) (fun k=>a.length - k) 0 ?_ (fun k hI1=>?_);simp;refine (go 6) (zQ (fun p=>?_) fun p=>?_);apply go 14;obtain ⟨o,l,r,hs1⟩:=elx d k;apply go 4;obtain ⟨q,s,u,hs2⟩:=elx e k;apply go 2;refine vS (qM (a:=l) (b:=s) rfl rfl eqv41) ?_;refine (go 2) (zQ (fun h3=>?_) fun h3=>?_);refine (go 11) (zR fun g c=>?_);exact zL q_25 c;apply go 6;refine zK (zy (k + 1) ?_ ?_);exact ⟨qO,HV hI1.2 hs1 hs2 (nn h3)⟩;omega;refine (go 11) (zR fun g c=>?_);exact zL q_45 c
theorem uV {h:Value} (a:List AB) {f:Value} (b:List AB) {w:World} (i:zH (In w) 8 zO h a w) (j:zH (In w) 8 zO f b w)  :
    Calls prog 91 #[h,f] w (Ret w (.bool (decide (a=b)))):=by
 obtain ⟨z,y,rfl,v,n,d⟩:=i.form;obtain ⟨A,x,rfl,t,m,e⟩:=j.form;refine zp func91 (Mem.AQ (dc (dl i) (dc (dl j) dn))) ?_;refine (go 15) (zQ (fun h1=>?_) fun h1=>?_);refine (go 7) (zR fun g c=>?_);exact zL q_43 c;apply go 11;refine yk (jE1 [0,1,12] fun (k:Nat)=>[(13,iV k)]) (jS1 fun k=>[]) (fun k=>k<=a.length∧a.take k=b.take k) (fun k=>a.length - k) 0 ?_ (fun k hI1=>?_);simp;refine (go 6) (zQ (fun p=>?_) fun p=>?_);apply go 14;obtain ⟨o,l,r,hs1⟩:=elx d k;apply go 4;obtain ⟨q,s,u,hs2⟩:=elx e k;apply go 2;refine vS (qM (a:=l) (b:=s) rfl rfl eqv163) ?_;refine (go 2) (zQ (fun h3=>?_) fun h3=>?_);refine (go 11) (zR fun g c=>?_);exact zL q_25 c;apply go 6;refine zK (zy (k + 1) ?_ ?_);exact ⟨qO,HV hI1.2 hs1 hs2 (nn h3)⟩;omega;refine (go 11) (zR fun g c=>?_);exact zL q_45 c
theorem v8 {h:Value} (a:List Label) {f:Value} (b:List Label) {w:World} (i:zH (In w) 2 zb h a w) (j:zH (In w) 2 zb f b w)  :
    Calls prog 41 #[h,f] w (Ret w (.bool (decide (a=b)))):=by
 obtain ⟨z,y,rfl,v,n,d⟩:=i.form;obtain ⟨A,x,rfl,t,m,e⟩:=j.form;refine zp func41 (Mem.AQ (dc (dl i) (dc (dl j) dn))) ?_;refine (go 15) (zQ (fun h1=>?_) fun h1=>?_);refine (go 7) (zR fun g c=>?_);exact zL q_43 c;apply go 11;refine yk (jE1 [0,1,12] fun (k:Nat)=>[(13,iV k)]) (jS1 fun k=>[]) (fun k=>k<=a.length∧a.take k=b.take k) (fun k=>a.length - k) 0 ?_ (fun k hI1=>?_);simp;refine (go 6) (zQ (fun p=>?_) fun p=>?_);apply go 14;obtain ⟨o,l,r,hs1⟩:=elx d k;apply go 4;obtain ⟨q,s,u,hs2⟩:=elx e k;apply go 2;refine vS (qM (a:=l) (b:=s) rfl rfl eqv74) ?_;refine (go 2) (zQ (fun h3=>?_) fun h3=>?_);refine (go 11) (zR fun g c=>?_);exact zL q_25 c;apply go 6;refine zK (zy (k + 1) ?_ ?_);exact ⟨qO,HV hI1.2 hs1 hs2 (nn h3)⟩;omega;refine (go 11) (zR fun g c=>?_);exact zL q_45 c
theorem gX {a:Int} {w:World}   :
    Calls prog 93 #[iV a] w (Ret w (iV (Roll.step a))):=by
 refine zp func93 (Mem.AQ dn) ?_;refine (gg) (zQ (fun c=>?_) fun c=>?_);refine (gg) (zR fun e b=>?_);exact zL (by simp [Roll.step,c]) b;refine (gg) (zQ (fun d=>?_) fun d=>?_);refine (gg) (zR fun e b=>?_);exact zL (by simp [Roll.step,c,d]) b;refine (gg) (zR fun e b=>?_);exact zL (by simp [Roll.step,c,d]) b
theorem c_add {m:Value} (l:List AB) {a:Int} {b:Int} {s:Sum} {w:World} (C:w.ownsRow 0 163 8 m l.length (l.flatMap zO)) (F:b≠0) (x:l.length<=1048576) :
    Calls prog 169 #[m,iV a,iV b,.agg (CK s).toArray] w (RetU w m 163 8 zO (Roll.add l a b s)):=by
 refine zp func169 (Mem.ownArg C) (yP 0 (l:=l) rfl fun G A k r z h=>?_);subst k;refine (go 2) (yw fun H=>?_);apply go 8;refine zV (gE rfl rfl qO) (zV (qd rfl rfl) ?_);refine (go 17) (zm 21 (fun o=>?_) fun o=>?_);apply go 2;obtain ⟨q,c,d,e⟩:=elx h (l.length - 1);refine yY (vO (i:=(l.length - 1)) rfl d rfl qO qI underlying48 BI) ?_;apply go 1;refine yY (uK 1 AN rfl rfl d e rfl BO) ?_;refine (go 5) (zQ (fun j=>?_) fun j=>?_);refine (go 1) (jJ 11 ?_);apply go 4;refine vS (vO (i:=(l.length - 1)) rfl d rfl qO qI underlying48 BI) ?_;apply go 1;refine vS (ju 1 [iV c.sum.count,iV c.sum.total,iV c.sum.min,iV c.sum.max,iV c.sum.first,iV c.sum.last,iV c.sum.Ap] AN rfl rfl d e rfl rfl agg89 EM) ?_;apply go 1;refine yL wn rfl call66 rfl (fun _ _=>jA) (vS (vO (i:=(l.length - 1)) rfl d rfl qO qI underlying48 BI) ?_);apply go 2;refine uv 1 (vs:=[iV ((Agg.join c.sum s).count),iV ((Agg.join c.sum s).total),iV ((Agg.join c.sum s).min),iV ((Agg.join c.sum s).max),iV ((Agg.join c.sum s).first),iV ((Agg.join c.sum s).last),iV ((Agg.join c.sum s).Ap)]) (⟨c.at_,(Agg.join c.sum s)⟩:AB) AN wn rfl rfl rfl rfl d e EM rfl rfl rfl rfl ?_;refine (go 10) (zR fun n f=>?_);exact f.gu 1 rfl (Roll.Vs e j);apply go 8;refine zf zO ([(⟨(IntKind.wrap .i64 (a - (Int.tmod a b))),s⟩:AB)]:List AB) wn underlying48 BI rfl rfl rfl rfl qD qD rfl fun g=>zh 2 l ([(⟨(IntKind.wrap .i64 (a - (Int.tmod a b))),s⟩:AB)]:List AB) AN wn rfl rfl rfl (fun _ f=>(AM AN f 0 rfl)) underlying48 BI rfl rfl qQ rfl fun J D t v y=>?_;refine (go 4) (zR fun n f=>?_);exact f.gu 2 rfl (Roll.add_new e j);apply go 19;refine zf zO ([(⟨(IntKind.wrap .i64 (a - (Int.tmod a b))),s⟩:AB)]:List AB) wn underlying48 BI rfl rfl rfl rfl qD qD rfl fun g=>zh 2 l ([(⟨(IntKind.wrap .i64 (a - (Int.tmod a b))),s⟩:AB)]:List AB) AN wn rfl rfl rfl (fun _ f=>(AM AN f 0 rfl)) underlying48 BI rfl rfl qQ rfl fun I u p B E=>?_
 refine (go 4) (zR fun n f=>?_);exact f.gu 2 rfl (Roll.add_nil o)
theorem c_Up {j:Value} (l:List AA) {AG:Int} {w:World} (n:zH (In w) 2 zX j l w) (y:l.length<=1048576) :
    Calls prog 126 #[j,iV AG] w (IG w 163 8 zO (Roll.up l AG)):=by
 obtain ⟨H,J,rfl,p,A,d⟩:=n.form;refine zp func126 (Mem.AQ (dc (dl n) dn)) ?_;apply go 2;refine zr (zO:AB->List Value) 163 8 ?_;apply go 6;refine yB call93 wn rfl (fun _ _=>gX) ?_;refine (go 10) (zQ (fun e=>?_) fun e=>?_);apply go 2;refine zr (zO:AB->List Value) 163 8 ?_;refine (go 5) (zR fun t b=>?_);exact b.ue 0 rfl (by simp [Roll.up,e]);apply go 4;refine zr (zO:AB->List Value) 163 8 ?_;apply go 12;refine jY (jE2 [5,13,14] fun (k:Nat) (a:Value)=>[(6,a),(15,iV k)]) (jS2 fun k a=>[.s 0 (Row a 163 8 zO (Roll.ups (l.take k) (Roll.step AG)))]) (fun k a=>k<=l.length) (fun k a=>l.length - k) 0 (Zs) ?_ (fun k a v=>?_);omega;have m:=vN (Roll.SW (l.take k) (Roll.step AG)) (List.length_take_le k l);refine yP 0 (l:=(Roll.ups (l.take k) (Roll.step AG))) rfl fun I u f C q F=>?_;subst f;refine (go 6) (zQ (fun B=>?_) fun B=>?_);apply go 6;obtain ⟨x,s1,E,c⟩:=elx d k;refine (go 2) (zl fun G=>?_);refine (go 3) (jJ 7 ?_);apply go 6;refine yL wn rfl call67 rfl (fun _ _=>c_One) ?_;apply go 1;refine uj 1 (Roll.add (Roll.ups (l.take k) (Roll.step AG)) s1.time (Roll.step AG) (Agg.one s1.value)) rfl wn rfl call169 rfl (fun _ b=>c_add (Roll.ups (l.take k) (Roll.step AG)) (b.row (i:=1) rfl) (by first | assumption | omega | decide) q_14) fun o g r D z=>?_;apply go 7;refine zK (vU (k + 1) (.slice o ((Roll.add (Roll.ups (l.take k) (Roll.step AG)) s1.time (Roll.step AG) (Agg.one s1.value)).length) g) ?_ ?_ sA (fun _ h=>by rw [Roll.Vz l (Roll.step AG) k s1 c]; exact (h.sel [1,2,3] qD rfl)));omega;omega;refine (go 12) (zR fun t b=>?_);exact b.ue 0 rfl (by rw [vg qO]; simp [Roll.up,e])
theorem UX {g:Value} (l:List AB) {w:World} (m:zH (In w) 8 zO g l w) (x:l.length<=1048576) :
    Calls prog 127 #[g] w (IG w 163 8 zO (Roll.AU l)):=by
 obtain ⟨F,I,rfl,o,z,d⟩:=m.form;refine zp func127 (Mem.AQ (dc (dl m) dn)) ?_;apply go 2;refine zr (zO:AB->List Value) 163 8 ?_;apply go 5;refine zr (zO:AB->List Value) 163 8 ?_;apply go 12;refine jY (jE2 [6,7] fun (k:Nat) (a:Value)=>[(3,a),(8,iV k)]) (jS2 fun k a=>[.s 0 (Row a 163 8 zO (Roll.AU (l.take k)))]) (fun k a=>k<=l.length) (fun k a=>l.length - k) 0 (Zs) ?_ (fun k a u=>?_);omega;have j:=vN (Roll.Gp (l.take k)) (List.length_take_le k l);refine yP 0 (l:=(Roll.AU (l.take k))) rfl fun H t e A p D=>?_;subst e;refine (go 6) (zQ (fun r=>?_) fun r=>?_);apply go 6;obtain ⟨v,s1,C,c⟩:=elx d k;refine (go 2) (zl fun G=>?_);apply go 9;refine uj 1 (Roll.add (Roll.AU (l.take k)) s1.at_ 60 s1.sum) rfl wn rfl call169 rfl (fun _ b=>c_add (Roll.AU (l.take k)) (b.row (i:=1) rfl) (by first | assumption | omega | decide) q_14) fun n f q B y=>?_;apply go 7;refine zK (vU (k + 1) (.slice n ((Roll.add (Roll.AU (l.take k)) s1.at_ 60 s1.sum).length) f) ?_ ?_ sA (fun _ h=>by rw [Roll.NX l k s1 c]; exact (h.sel [1,2,3] qD rfl)));omega;omega;refine (go 12) (zR fun E b=>?_);exact b.ue 0 rfl qo
theorem gK {g:Value} (l:List AB) {a:Int} {to:Int} {w:World} (f:zH (In w) 8 zO g l w)  :
    Calls prog 164 #[g,iV a,iV to] w (Ret w (.agg (CK (Roll.of l a to)).toArray)):=by
 obtain ⟨z,A,rfl,t,o,e⟩:=f.form;refine zp func164 (Mem.AQ (dc (dl f) dn)) ?_;refine (go 2) (zl fun y=>?_);refine (go 4) (zl fun q=>?_);apply go 11;refine yk (jE1 [1,2,6,7,10,11] fun (k:Nat)=>[(12,iV k)]) (jS1 fun k=>[.s 0 (.blk q [iV ((Roll.of (l.take k) a to).count),iV ((Roll.of (l.take k) a to).total),iV ((Roll.of (l.take k) a to).min),iV ((Roll.of (l.take k) a to).max),iV ((Roll.of (l.take k) a to).first),iV ((Roll.of (l.take k) a to).last),iV ((Roll.of (l.take k) a to).Ap)] 89)]) (fun k=>k<=l.length) (fun k=>l.length - k) 0 ?_ (fun k n=>?_);omega;refine (go 6) (zQ (fun m=>?_) fun m=>?_);apply go 6;obtain ⟨j,d,r,c⟩:=elx e k;refine (go 2) (zl fun x=>?_);refine (go 10) (zm 20 (fun p=>?_) fun p=>?_);refine (go 7) (zQ (fun u=>?_) fun u=>?_);apply go 4;refine yB call66 wn rfl (fun _ _=>jA) ?_;apply go 7;have b:=Roll.of_succ l a to k d c;rw [zP qO] at b;refine zK (zy (k + 1) ?_ ?_ sA (fun _ h=>by rw [b]; exact (h.sel [1,2,3] qD rfl)));omega;omega;apply go 6;have b:=Roll.of_succ l a to k d c;rw [zI qO] at b;refine zK (zy (k + 1) ?_ ?_ sA (fun _ h=>by rw [b]; exact (h.sel [1,2,3] qD rfl)));omega;omega;apply go 14;have b:=Roll.of_succ l a to k d c;rw [zI qO] at b;refine zK (zy (k + 1) ?_ ?_ sA (fun _ h=>by rw [b]; exact (h.sel [1,2,3] qD rfl)));omega;omega;refine (go 12) (zR fun v i=>?_);exact yd (l1:=[iV ((Roll.of (l.take k) a to).count),iV ((Roll.of (l.take k) a to).total),iV ((Roll.of (l.take k) a to).min),iV ((Roll.of (l.take k) a to).max),iV ((Roll.of (l.take k) a to).first),iV ((Roll.of (l.take k) a to).last),iV ((Roll.of (l.take k) a to).Ap)]) qo i
theorem Jl {s:Value} (l:List AB) {a:Int} {w:World} (r:zH (In w) 8 zO s l w)  :
    Calls prog 44 #[s,iV a] w (Ret w (.agg (OO (Roll.AE l a)).toArray)):=by
 obtain ⟨F,G,rfl,z,x,n⟩:=r.form;refine zp func44 (Mem.AQ (dc (dl r) dn)) ?_;refine (go 2) (zl fun E=>?_);apply go 5;refine yB call93 wn rfl (fun _ _=>gX) ?_;refine (go 10) (zQ (fun u=>?_) fun u=>?_);refine (go 8) (zR fun g d=>?_);exact yd (l1:=[iV 1,iV 0]) (by rw [Roll.AE,zP qO]) d;refine (go 10) (zQ (fun y=>?_) fun y=>?_);refine (go 8) (zR fun g d=>?_);exact yd (l1:=[iV 5,iV 0]) (by rw [Roll.AE,zI qO,zP qO]) d;apply go 11;refine yk (jE1 [0,4,5,17,18] fun (k:Nat)=>[(19,iV k)]) (jS1 fun k=>[]) (fun k=>k<=l.length∧Roll.AP (Roll.step a) 0 none l=Roll.AP (Roll.step a) k (Roll.BC l k) (l.drop k)) (fun k=>l.length - k) 0 ?_ (fun k c=>?_);exact ⟨qO,Roll.CM l _⟩;refine (go 6) (zQ (fun A=>?_) fun A=>?_);apply go 7;obtain ⟨t,f,q,e⟩:=elx n k;refine (go 2) (zl fun C=>?_);apply go 5;refine yM (jE0 [0,4,5,6,7,17,18,19] [(51,.bool (decide ((f.at_ < 0)∨((1000000 < f.at_)∨(((Int.tmod f.at_ (Roll.step a))≠0)∨((f.sum.count < 1)∨((Roll.step a) < f.sum.count)))))))]) (jS0 []) (fun _ b=>?_) ?_;refine (go 5) (zm 27 (fun j=>?_) fun j=>?_);apply go 24;refine zK (kX b (kS8 (sc (jt (Or.inl j)) sn)));refine (go 5) (zm 32 (fun m=>?_) fun m=>?_);apply go 19;refine zK (kX b (kS8 (sc (jt (Or.inr (Or.inl m))) sn)));apply go 3;refine yY (gE rfl rfl qO) ?_;refine (go 3) (zm 39 (fun h=>?_) fun h=>?_);apply go 12;refine zK (kX b (kS8 (sc (jt (Or.inr (Or.inr (Or.inl h)))) sn)));refine (go 6) (zm 45 (fun p=>?_) fun p=>?_);apply go 6;refine zK (kX b (kS8 (sc (jt (Or.inr (Or.inr (Or.inr (Or.inl p))))) sn)));apply go 6;refine zK (kX b (kS8 (sc (jp (AI j (AI m (AI h (AI p Iff.rfl))))) sn)));refine zQ (fun v=>?_) fun v=>?_
 refine (go 14) (zR fun g d=>?_);exact yd (l1:=[iV 3,iV k]) (by rw [Roll.AE,zI qO,zI qO,c.2,Roll.Aa e,zP q_62]) d;refine (go 7) (vp 56 (fun B=>?_) fun B=>?_);apply go 3;refine uD (vO (i:=(k - 1)) rfl q rfl qO qI underlying48 BI) ?_;apply go 1;obtain ⟨D,hs2⟩:=gx l ((k - 1));refine (go 7) (zQ (fun o=>?_) fun o=>?_);refine (go 13) (zR fun g d=>?_);exact yd (l1:=[iV 2,iV k]) (by rw [Roll.AE,zI qO,zI qO,c.2,Roll.Aa e,zI q_62,zP q_36]) d;apply go 6;refine zK (zy (k + 1) ?_ ?_);exact ⟨qO,by rw [c.2,Roll.Aa e,zI q_62,zI q_36]⟩;omega;apply go 19;refine zK (zy (k + 1) ?_ ?_);exact ⟨qO,by rw [c.2,Roll.Aa e,zI q_62,zI (by rw [Roll.BC,zP qO]; simp [Roll.behind])]⟩;omega;refine (go 12) (zR fun g d=>?_);exact yd (l1:=[iV 0,iV 0]) (by rw [Roll.AE,zI qO,zI qO,c.2,Roll.BG qO]) d
theorem Uo {x:AB} {d:Nat} (f:Int) {tp:Nat} (t:Int) {w:World} (b:w.heap[d]?=some (.cells [iV f].toArray 3 (0,0))) (a:w.heap[tp]?=some (.cells [iV t].toArray 3 (0,0)))  :
    Calls prog 95 #[.agg (zO x).toArray,.pointer (some ⟨d,0,none⟩),.pointer (some ⟨tp,0,none⟩)] w (Ret w (.bool (!decide (f<=x.at_∧x.at_ < t)))):=by
 refine zp func95 (Mem.AQ (dc (ddb b) (dc (ddb a) dn))) ?_;refine (gg) (yw fun h=>?_);refine (gg) (zm 9 (fun e=>?_) fun e=>?_);refine (gg) (zR fun g c=>?_);exact zL (congrArg Value.bool (by rw [Bool.eq_iff_iff]; simp; omega)) c;refine (gg) (zR fun g c=>?_);exact zL (congrArg Value.bool (by rw [Bool.eq_iff_iff]; simp; omega)) c
theorem c_idxS {h:Value} (l:List AA) {f:Nat} {a:Array Value} (d:AA->Bool) {w:World} (g:zH (In w) 2 zX h l w) (m:∀ vs w,(callFunc f vs).run prog w=.ok (.enter f vs) w) (r:∀ (x:AA) (b:World),Fr no w b->Calls prog f (#[.agg (zX x).toArray]++a) b (Ret b (.bool (d x))))  :
    Calls prog 168 #[h,.func (.func f) #[] a] w (Ret w (iV (Sh.idx d l))):=by
 obtain ⟨s,t,rfl,j,p,e⟩:=g.form;refine zp func168 (Mem.AQ (dc (dl g) dn)) ?_;apply go 14;refine yk (jE1 [0,1,7] fun (k:Nat)=>[(8,iV k)]) (jS1 fun k=>[]) (fun k=>k<=l.length∧∀ y ∈ l.take k,d y=false) (fun k=>l.length - k) 0 ?_ (fun k hI1=>?_);simp;refine (go 6) (zQ (fun o=>?_) fun o=>?_);apply go 15;obtain ⟨q,n,i,hs1⟩:=elx e k;apply go 2;refine ui wn rfl rfl m rfl (fun b c=>r n b c.fr) ?_;refine (go 2) (yj (fun h2=>?_) fun h2=>?_);refine (go 12) (zR fun b c=>?_);exact zL q_52 c;apply go 6;refine zK (zy (k + 1) ?_ ?_);exact ⟨qO,Sh.Dq hI1.2 hs1 h2⟩;omega;refine (go 11) (zR fun b c=>?_);exact zL q_55 c
theorem c_idxB {h:Value} (l:List AB) {f:Nat} {a:Array Value} (d:AB->Bool) {w:World} (g:zH (In w) 8 zO h l w) (m:∀ vs w,(callFunc f vs).run prog w=.ok (.enter f vs) w) (r:∀ (x:AB) (b:World),Fr no w b->Calls prog f (#[.agg (zO x).toArray]++a) b (Ret b (.bool (d x))))  :
    Calls prog 146 #[h,.func (.func f) #[] a] w (Ret w (iV (Sh.idx d l))):=by
 obtain ⟨s,t,rfl,j,p,e⟩:=g.form;refine zp func146 (Mem.AQ (dc (dl g) dn)) ?_;apply go 14;refine yk (jE1 [0,1,7] fun (k:Nat)=>[(8,iV k)]) (jS1 fun k=>[]) (fun k=>k<=l.length∧∀ y ∈ l.take k,d y=false) (fun k=>l.length - k) 0 ?_ (fun k hI1=>?_);simp;refine (go 6) (zQ (fun o=>?_) fun o=>?_);apply go 15;obtain ⟨q,n,i,hs1⟩:=elx e k;apply go 2;refine ui wn rfl rfl m rfl (fun b c=>r n b c.fr) ?_;refine (go 2) (yj (fun h2=>?_) fun h2=>?_);refine (go 12) (zR fun b c=>?_);exact zL q_52 c;apply go 6;refine zK (zy (k + 1) ?_ ?_);exact ⟨qO,Sh.Dq hI1.2 hs1 h2⟩;omega;refine (go 11) (zR fun b c=>?_);exact zL q_55 c
theorem c_delS {z:Value} (l:List AA) {f:Nat} {g:Array Value} (c:AA->Bool) {w:World} (Z:w.ownsRow 0 41 2 z l.length (l.flatMap zX)) (M:∀ vs w,(callFunc f vs).run prog w=.ok (.enter f vs) w) (L:∀ (x:AA) (m:World),Fr (fun b=>z.ownBlock=some b) w m->Calls prog f (#[.agg (zX x).toArray]++g) m (Ret m (.bool (c x))))  :
    Calls prog 122 #[z,.func (.func f) #[] g] w (RetU w z 41 2 zX (l.filter fun x=>!c x)):=by
 refine zp func122 (Mem.ownArg Z) (yP 0 (l:=l) rfl fun U E D Q Y R=>?_);subst D;apply go 9;refine yB call168 wn rfl (fun _ d=>c_idxS l c (AM AK d 0 rfl) M (fun x w2 C=>L x w2 (d.fr.trans C (fun _ _ h=>h.elim)))) ?_;refine (go 10) (zQ (fun B=>?_) fun B=>?_);refine (go 8) (zR fun m d=>?_);exact d.gu 0 rfl ((List.filter_eq_self.2 fun y X=>by rcases Sh.Ed c l with h | ⟨i,x,h,_⟩; exact (by simp [h.2 y X]); omega).symm);obtain ⟨ni,⟨n,xn,hi,q,I,G⟩⟩:Sh.idx c l≠-1∧∃ (i:Nat) (x:AA),Sh.idx c l=(i:Int)∧l[i]?=some x∧c x=true∧∀ y ∈ l.take i,c y=false:=⟨B,(Sh.Ed c l).resolve_left (fun e=>B e.1)⟩;have S:=(yb.1 q).1;apply go 11;refine gI (jE4 [1] fun (i:Nat) (j:Nat) (r:List AA) (p:Value)=>[(0,p),(5,iV i),(6,iV j)]) (jS4 fun i j r p=>[.s 0 (Row p 41 2 zX r)]) (fun i j r p=>Sh.Del c l r i j) (fun i j r p=>l.length - j) n (n + 1) l (.slice U l.length E) ?_ (fun i j r p a=>?_);exact Sh.Del.start q I G;have a0:=a.lt;have O:=a.le;have K:=a.len;refine yP 0 (l:=r) rfl fun N v J T W u=>?_;subst J;refine (go 9) (zQ (fun C=>?_) fun C=>?_);apply go 8;obtain ⟨P,k,t,o⟩:=elx u j;apply go 1;refine zV (ju 0 [iV k.time,iV k.value] AK rfl rfl t o rfl rfl Rw Ao) (zl fun b7=>?_);apply go 7;refine ui wn rfl rfl M rfl (fun m d=>L k m d.fr) (zV (zz rfl) ?_);refine (go 2) (yj (fun F=>?_) fun F=>?_);apply go 6;obtain ⟨s2,A⟩:=gx r i;refine uv 1 (vs:=[iV k.time,iV k.value]) k AK wn rfl rfl rfl rfl t A Ao rfl rfl rfl rfl ?_;apply go 13;refine zK (ug (i + 1) (j + 1) (r.set i k) (.slice N r.length v) ?_ ?_);exact a.Cl o (qs F);omega;apply go 7;refine zK (ug i (j + 1) r (.slice N r.length v) ?_ ?_);exact a.drop o (qs F);omega
 apply go 9;refine zV (jw (lo:=i) (hi:=r.length) rfl (lo1 rfl qO) hi0 qI qI qI underlying47 Ao) ?_;obtain ⟨V,H⟩:=u (ne_nil (i:=i) qI);refine TQ 0 (lo:=i) AK wn rfl rfl H underlying47 Ao rfl rfl qI ?_;apply go 6;refine zV (r_take (hi:=i) (r.take i) rfl (hi1 rfl qO) qI qI (by simp only [List.length_take]; omega) underlying47 Ao) ?_;refine (go 4) (zR fun m d=>?_);exact d.gu 0 rfl (a.done qO)
theorem gY {z:Value} (l:List AB) {f:Nat} {k:Array Value} (d:AB->Bool) {w:World} (Z:w.ownsRow 0 163 8 z l.length (l.flatMap zO)) (M:∀ vs w,(callFunc f vs).run prog w=.ok (.enter f vs) w) (L:∀ (x:AB) (m:World),Fr (fun b=>z.ownBlock=some b) w m->Calls prog f (#[.agg (zO x).toArray]++k) m (Ret m (.bool (d x))))  :
    Calls prog 125 #[z,.func (.func f) #[] k] w (RetU w z 163 8 zO (l.filter fun x=>!d x)):=by
 refine zp func125 (Mem.ownArg Z) (yP 0 (l:=l) rfl fun U E D Q Y R=>?_);subst D;apply go 9;refine yB call146 wn rfl (fun _ g=>c_idxB l d (AM AN g 0 rfl) M (fun x w2 C=>L x w2 (g.fr.trans C (fun _ _ h=>h.elim)))) ?_;refine (go 10) (zQ (fun B=>?_) fun B=>?_);refine (go 8) (zR fun m g=>?_);exact g.gu 0 rfl ((List.filter_eq_self.2 fun y X=>by rcases Sh.Ed d l with h | ⟨i,x,h,_⟩; exact (by simp [h.2 y X]); omega).symm);obtain ⟨ni,⟨n,xn,hi,q,I,G⟩⟩:Sh.idx d l≠-1∧∃ (i:Nat) (x:AB),Sh.idx d l=(i:Int)∧l[i]?=some x∧d x=true∧∀ y ∈ l.take i,d y=false:=⟨B,(Sh.Ed d l).resolve_left (fun e=>B e.1)⟩;have S:=(yb.1 q).1;apply go 11;refine gI (jE4 [1] fun (i:Nat) (j:Nat) (r:List AB) (p:Value)=>[(0,p),(5,iV i),(6,iV j)]) (jS4 fun i j r p=>[.s 0 (Row p 163 8 zO r)]) (fun i j r p=>Sh.Del d l r i j) (fun i j r p=>l.length - j) n (n + 1) l (.slice U l.length E) ?_ (fun i j r p c=>?_);exact Sh.Del.start q I G;have a0:=c.lt;have O:=c.le;have K:=c.len;refine yP 0 (l:=r) rfl fun N v J T W u=>?_;subst J;refine (go 9) (zQ (fun C=>?_) fun C=>?_);apply go 8;obtain ⟨P,a,t,o⟩:=elx u j;apply go 1;refine zV (ju 0 [iV a.at_,iV a.sum.count,iV a.sum.total,iV a.sum.min,iV a.sum.max,iV a.sum.first,iV a.sum.last,iV a.sum.Ap] AN rfl rfl t o rfl rfl agg163 BI) (zl fun b7=>?_);apply go 7;refine ui wn rfl rfl M rfl (fun m g=>L a m g.fr) (zV (zz rfl) ?_);refine (go 2) (yj (fun F=>?_) fun F=>?_);apply go 6;obtain ⟨s2,A⟩:=gx r i;refine uv 1 (vs:=[iV a.at_,iV a.sum.count,iV a.sum.total,iV a.sum.min,iV a.sum.max,iV a.sum.first,iV a.sum.last,iV a.sum.Ap]) a AN wn rfl rfl rfl rfl t A BI rfl rfl rfl rfl ?_;apply go 13;refine zK (ug (i + 1) (j + 1) (r.set i a) (.slice N r.length v) ?_ ?_)
 exact c.Cl o (qs F);omega;apply go 7;refine zK (ug i (j + 1) r (.slice N r.length v) ?_ ?_);exact c.drop o (qs F);omega;apply go 9;refine zV (jw (lo:=i) (hi:=r.length) rfl (lo1 rfl qO) hi0 qI qI qI underlying48 BI) ?_;obtain ⟨V,H⟩:=u (ne_nil (i:=i) qI);refine TQ 0 (lo:=i) AN wn rfl rfl H underlying48 BI rfl rfl qI ?_;apply go 6;refine zV (r_take (hi:=i) (r.take i) rfl (hi1 rfl qO) qI qI (by simp only [List.length_take]; omega) underlying48 BI) ?_;refine (go 4) (zR fun m g=>?_);exact g.gu 0 rfl (c.done qO)
theorem c_contB {g:Value} (l:List AB) {f:Nat} {a:Array Value} (d:AB->Bool) {w:World} (e:zH (In w) 8 zO g l w) (i:∀ vs w,(callFunc f vs).run prog w=.ok (.enter f vs) w) (n:∀ (x:AB) (b:World),Fr no w b->Calls prog f (#[.agg (zO x).toArray]++a) b (Ret b (.bool (d x))))  :
    Calls prog 94 #[g,.func (.func f) #[] a] w (Ret w (.bool (l.any d))):=by
 obtain ⟨r,q,rfl,j,k,o⟩:=e.form;refine zp func94 (Mem.AQ (dc (dl e) dn)) ?_;apply go 9;refine yB call146 wn rfl (fun _ c=>c_idxB l d (c.sl 0 rfl) i (fun x p m=>n x p (c.fr.trans m (fun _ _ h=>h)))) ?_;refine (go 5) (zR fun b c=>?_);exact zL (congrArg Value.bool q_46) c
theorem gL {d:Value} (l:List AB) {f:Int} {t:Int} {w:World} (b:zH (In w) 8 zO d l w)  :
    Calls prog 46 #[d,iV f,iV t] w (Ret w (.bool (Sh.within l f t))):=by
 obtain ⟨o,p,rfl,e,g,h⟩:=b.form;refine zp func46 (Mem.AQ (dc (dl b) dn)) ?_;refine (gg) (qn fun j=>qn fun m=>?_);apply go 6;refine zV (vR rfl rfl) (yB call94 wn rfl (fun _ a=>c_contB l (fun x=>!decide (f<=x.at_∧x.at_ < t)) (a.sl 2 rfl) call95 (fun x n c=>by simpa using Uo f t (a.TC (i:=1) rfl c) (a.TC (i:=0) rfl c))) (zV (zz rfl) ?_));refine (gg) (zR fun k a=>?_);exact zL (congrArg Value.bool (by rw [Sh.within,List.all_eq_not_any_not])) a
theorem c_times {s:Nat} (K:Value) (C:Value) (t:Value) (u:Value) (z:Shelf) {w:World} (p:w.heap[s]?=some (.cells [K,C,t,u,iV z.zS,iV z.zN,iV z.zG,iV z.zJ,iV z.zE].toArray 50 (0,0)))  :
    Calls prog 45 #[.pointer (some ⟨s,0,none⟩)] w (Ret w (.bool (decide (Sh.times z)))):=by
 refine zp func45 (Mem.AQ (dc (ddb p) dn)) ?_;apply go 7;refine vV (yH 2 [0,1,2,3,4,5,6,7,8,9,10,11,12,13,14,15,16,17,20] rfl fun J o=>?_);apply go 19;refine zc o (zi 18 rfl fun N q=>zf triE ([(⟨z.zN,z.zG,10⟩:Tri),(⟨z.zJ,z.zE,60⟩:Tri)]:List Tri) wn underlying165 inf164 rfl rfl rfl rfl qD qD rfl fun x=>?_);apply go 1;refine kN q (yH 0 [19] rfl fun J o=>?_);apply go 1;refine zc o ?_;refine zg q_3 ((go 1) ?_);apply go 1;refine yk (jE1 [0,23,24] fun (k:Nat)=>[(25,iV k)]) (jS1 fun k=>[]) (fun k=>k<=2∧∀ (j:Nat) (y:Tri),j < k->[(⟨z.zN,z.zG,10⟩:Tri),(⟨z.zJ,z.zE,60⟩:Tri)][j]?=some y->¬ Sh.De y) (fun k=>2 - k) 0 ?_ (fun k d=>?_);exact ⟨qO,fun j y h=>absurd h (Nat.not_lt_zero j)⟩;refine (go 6) (zQ (fun D=>?_) fun D=>?_);apply go 7;obtain ⟨l,i⟩:=gx ([(⟨z.zN,z.zG,10⟩:Tri),(⟨z.zJ,z.zE,60⟩:Tri)]:List Tri) k;have H:0 < l.c:=by rcases Sh.two i with e | e <;> rw [e] <;> simp
 refine zV (ju 0 [iV l.a,iV l.b,iV l.c] encTri rfl rfl rfl i rfl rfl agg164 inf164) (zl fun M=>?_);refine (go 9) (zm 32 (fun F=>?_) fun F=>?_);refine (go 41) (zR fun n g=>?_);have f:Sh.De l:=by unfold Sh.De; omega
 exact zL (congrArg Value.bool (yq (fun h=>by rcases Sh.two i with e | e <;> rw [e] at f <;> first | exact h.1.1 f | exact h.1.2 f)).symm) g;refine (go 7) (zm 39 (fun I=>?_) fun I=>?_);refine (go 34) (zR fun n g=>?_);have f:Sh.De l:=by unfold Sh.De; omega
 exact zL (congrArg Value.bool (yq (fun h=>by rcases Sh.two i with e | e <;> rw [e] at f <;> first | exact h.1.1 f | exact h.1.2 f)).symm) g;refine (go 5) (zm 44 (fun A=>?_) fun A=>?_);refine (go 29) (zR fun n g=>?_);have f:Sh.De l:=by unfold Sh.De; omega
 exact zL (congrArg Value.bool (yq (fun h=>by rcases Sh.two i with e | e <;> rw [e] at f <;> first | exact h.1.1 f | exact h.1.2 f)).symm) g;refine (go 8) (zm 52 (fun B=>?_) fun B=>?_);refine (go 21) (zR fun n g=>?_);have f:Sh.De l:=by unfold Sh.De; omega
 exact zL (congrArg Value.bool (yq (fun h=>by rcases Sh.two i with e | e <;> rw [e] at f <;> first | exact h.1.1 f | exact h.1.2 f)).symm) g;refine (go 9) (zQ (fun v=>?_) fun v=>?_);refine (go 11) (zR fun n g=>?_);have f:Sh.De l:=by unfold Sh.De; omega
 exact zL (congrArg Value.bool (yq (fun h=>by rcases Sh.two i with e | e <;> rw [e] at f <;> first | exact h.1.1 f | exact h.1.2 f)).symm) g;apply go 6;refine zK (zy (k + 1) ?_ ?_);refine ⟨qO,fun j y O r=>?_⟩;rcases Nat.lt_or_ge j k with h | h
 exact d.2 j y h r;obtain rfl:j=k:=qO;obtain rfl:l=y:=Option.some.inj (i.symm.trans r);unfold Sh.De; omega;omega;refine (go 13) (vp 66 (fun G=>?_) fun G=>?_);refine (go 11) (vp 77 (fun E=>?_) fun E=>?_);refine (go 11) (vp 88 (fun L=>?_) fun L=>?_);refine (go 14) (zR fun n g=>?_);have m:¬ Sh.De ⟨z.zN,z.zG,10⟩∧¬ Sh.De ⟨z.zJ,z.zE,60⟩:=⟨d.2 0 _ qO rfl,d.2 1 _ qO rfl⟩;exact zL (congrArg Value.bool (decide_eq_decide.2 (by rw [Sh.times,and_iff_right m]; omega))) g;refine (go 14) (zR fun n g=>?_);have m:¬ Sh.De ⟨z.zN,z.zG,10⟩∧¬ Sh.De ⟨z.zJ,z.zE,60⟩:=⟨d.2 0 _ qO rfl,d.2 1 _ qO rfl⟩;exact zL (congrArg Value.bool (yq (fun h=>by have:=h.2; omega)).symm) g;refine (go 25) (zR fun n g=>?_);have m:¬ Sh.De ⟨z.zN,z.zG,10⟩∧¬ Sh.De ⟨z.zJ,z.zE,60⟩:=⟨d.2 0 _ qO rfl,d.2 1 _ qO rfl⟩;exact zL (congrArg Value.bool (yq (fun h=>by have:=h.2; omega)).symm) g;refine (go 36) (zR fun n g=>?_);have m:¬ Sh.De ⟨z.zN,z.zG,10⟩∧¬ Sh.De ⟨z.zJ,z.zE,60⟩:=⟨d.2 0 _ qO rfl,d.2 1 _ qO rfl⟩;exact zL (congrArg Value.bool (yq (fun h=>by have:=h.2; omega)).symm) g
theorem jL {M:Value} {D:Value} {v:Value} {x:Value} {z:Shelf} (P0:Nat->Prop) {w:World} (t:∀ b,P0 b->b < w.heap.size) (l:zH P0 2 zb M z.zM w) (o:zH P0 2 zX D z.raw w) (n:zH P0 8 zO v z.AD w) (m:zH P0 8 zO x z.coarse w)  :
    Calls prog 21 #[.agg (List.toArray [M,D,v,x,iV z.zS,iV z.zN,iV z.zG,iV z.zJ,iV z.zE])] w (Ret w (iV (Sh.AE z))):=by
 obtain ⟨V,N,rfl,L,G,I⟩:=l.form;obtain ⟨W,X,rfl,H,C,q⟩:=o.form;obtain ⟨U,Q,rfl,K,F,J⟩:=n.form;obtain ⟨T,O,rfl,A,E,B⟩:=m.form;refine zp func21 (Mem.AT t (dc (dlp l) (dc (dlp o) (dc (dlp n) (dc (dlp m) dn))))) ?_;refine (go 2) (yw fun Z=>?_);apply go 8;refine yB call42 wn rfl (fun _ a=>IZ z.zM (a.slp 1 rfl)) ?_;refine (go 9) (zQ (fun c=>?_) fun c=>?_);refine (go 8) (zR fun e a=>?_);exact zL (congrArg (Value.int .i64) (by rw [Sh.AE,zP c])) a;apply go 7;refine yB call43 wn rfl (fun _ a=>jP z.raw (a.slp 2 rfl)) (zl fun b4=>?_);refine (go 10) (zQ (fun d=>?_) fun d=>?_);refine (go 9) (zR fun e a=>?_);exact zL (congrArg (Value.int .i64) (by rw [Sh.AE,zI c,zP d])) a;apply go 7;refine yB call44 wn rfl (fun _ a=>Jl z.AD (a.slp 4 rfl)) (zl fun b5=>?_);refine (go 10) (zQ (fun f=>?_) fun f=>?_);refine (go 9) (zR fun e a=>?_);exact zL (congrArg (Value.int .i64) (by rw [Sh.AE,zI c,zI d,zP f])) a;apply go 7;refine yB call44 wn rfl (fun _ a=>Jl z.coarse (a.slp 6 rfl)) (zl fun b6=>?_);refine (go 10) (zQ (fun g=>?_) fun g=>?_);refine (go 9) (zR fun e a=>?_);exact zL (congrArg (Value.int .i64) (by rw [Sh.AE,zI c,zI d,zI f,zP g])) a;apply go 5;refine yL wn rfl call45 rfl (fun _ a=>c_times _ _ _ _ z (a.blk (i:=3) rfl)) ?_;refine (go 2) (vp 39 (fun r=>?_) fun r=>?_);refine (go 45) (zR fun e a=>?_);exact zL (congrArg (Value.int .i64) (by rw [Sh.BG c d f g,zI (fun h=>r h.1)])) a;refine (go 5) (vp 44 (fun y=>?_) fun y=>?_);apply go 2;obtain ⟨P,Y,S,p⟩:=elx q 0;refine (go 9) (vp 55 (fun R=>?_) fun R=>?_);refine (go 29) (zR fun e a=>?_);exact zL (congrArg (Value.int .i64) (by rw [Sh.BG c d f g,zI (fun h=>absurd ((Sh.JZ p).symm.trans h.2.1) (by simp; omega))])) a
 apply go 6;refine yL (wg rfl rfl rfl) rfl call46 rfl (fun _ a=>gL z.AD (a.slp 6 rfl)) (uD (zz rfl) ?_);refine (go 2) (q_cx 65 (fun s=>?_) fun s=>?_);refine (go 19) (zR fun e a=>?_);exact zL (congrArg (Value.int .i64) (by rw [Sh.BG c d f g,zI (fun h=>by have:=h.2.2.1; simp [this] at s)])) a;apply go 6;refine yL (wg rfl rfl rfl) rfl call46 rfl (fun _ a=>gL z.coarse (a.slp 7 rfl)) (uD (zz rfl) ?_);refine (go 3) (yj (fun u=>?_) fun u=>?_);refine (go 7) (zR fun e a=>?_);exact zL (congrArg (Value.int .i64) (by rw [Sh.BG c d f g,zI (fun h=>by have:=h.2.2.2; simp [this] at u)])) a;refine (go 8) (zR fun e a=>?_);exact zL (congrArg (Value.int .i64) (by rw [Sh.BG c d f g,zP ⟨nn r,(Sh.JZ p).trans (vM qO),by simpa using s,by simpa using u⟩])) a;apply go 17;refine yL (wg rfl rfl rfl) rfl call46 rfl (fun _ a=>gL z.AD (a.slp 6 rfl)) (uD (zz rfl) ?_);refine (go 2) (q_cx 65 (fun j=>?_) fun j=>?_);refine (go 19) (zR fun e a=>?_);exact zL (congrArg (Value.int .i64) (by rw [Sh.BG c d f g,zI (fun h=>by have:=h.2.2.1; simp [this] at j)])) a;apply go 6;refine yL (wg rfl rfl rfl) rfl call46 rfl (fun _ a=>gL z.coarse (a.slp 7 rfl)) (uD (zz rfl) ?_);refine (go 3) (yj (fun k=>?_) fun k=>?_);refine (go 7) (zR fun e a=>?_);exact zL (congrArg (Value.int .i64) (by rw [Sh.BG c d f g,zI (fun h=>by have:=h.2.2.2; simp [this] at k)])) a;refine (go 8) (zR fun e a=>?_);exact zL (congrArg (Value.int .i64) (by rw [Sh.BG c d f g,zP ⟨nn r,Sh.QV y,by simpa using j,by simpa using k⟩])) a
theorem uk {e:Value} (l:List Label) {w:World} (d:zH (In w) 2 zb e l w) (g:l.length<=1048576) :
    Calls prog 61 #[e] w (IG w 74 2 zb l):=by
 obtain ⟨q,r,rfl,f,k,b⟩:=d.form;refine zp func61 (Mem.AQ (dc (dl d) dn)) ?_;apply go 9;refine zV (qR rfl rfl underlying39) ?_;refine (go 2) (yj (fun c=>?_) fun c=>?_);refine (go 7) (zR fun j a=>?_);have a:=a.uG Label 74 2 zb;exact a.ue 0 rfl (Sh.Hm b c);apply go 4;refine uS zb wn underlying39 Hd rfl fun o=>?_;apply go 1;refine zh 0 ([]:List Label) l BB wn rfl rfl rfl (fun _ a=>(a.sl 1 rfl)) underlying39 Hd rfl rfl qQ rfl fun p n h m i=>?_;refine (go 4) (zR fun j a=>?_);exact a.ue 0 rfl rfl
theorem MD {e:Value} (l:List AA) {w:World} (d:zH (In w) 2 zX e l w) (g:l.length<=1048576) :
    Calls prog 166 #[e] w (IG w 41 2 zX l):=by
 obtain ⟨q,r,rfl,f,k,b⟩:=d.form;refine zp func166 (Mem.AQ (dc (dl d) dn)) ?_;apply go 9;refine zV (qR rfl rfl underlying47) ?_;refine (go 2) (yj (fun c=>?_) fun c=>?_);refine (go 7) (zR fun j a=>?_);have a:=a.uG AA 41 2 zX;exact a.ue 0 rfl (Sh.Hm b c);apply go 4;refine uS zX wn underlying47 Ao rfl fun o=>?_;apply go 1;refine zh 0 ([]:List AA) l AK wn rfl rfl rfl (fun _ a=>(a.sl 1 rfl)) underlying47 Ao rfl rfl qQ rfl fun p n h m i=>?_;refine (go 4) (zR fun j a=>?_);exact a.ue 0 rfl rfl
theorem Hg {e:Value} (l:List AB) {w:World} (d:zH (In w) 8 zO e l w) (g:l.length<=1048576) :
    Calls prog 167 #[e] w (IG w 163 8 zO l):=by
 obtain ⟨q,r,rfl,f,k,b⟩:=d.form;refine zp func167 (Mem.AQ (dc (dl d) dn)) ?_;apply go 9;refine zV (qR rfl rfl underlying48) ?_;refine (go 2) (yj (fun c=>?_) fun c=>?_);refine (go 7) (zR fun j a=>?_);have a:=a.uG AB 163 8 zO;exact a.ue 0 rfl (Sh.Hm b c);apply go 4;refine uS zO wn underlying48 BI rfl fun o=>?_;apply go 1;refine zh 0 ([]:List AB) l AN wn rfl rfl rfl (fun _ a=>(a.sl 1 rfl)) underlying48 BI rfl rfl qQ rfl fun p n h m i=>?_;refine (go 4) (zR fun j a=>?_);exact a.ue 0 rfl rfl
theorem q1 {R:Value} {I:Value} {D:Value} {E:Value} {z:Shelf} (P0:Nat->Prop) {w:World} (A:∀ b,P0 b->b < w.heap.size) (q:zH P0 2 zb R z.zM w) (t:zH P0 2 zX I z.raw w) (s:zH P0 8 zO D z.AD w) (r:zH P0 8 zO E z.coarse w) (b0:z.zM.length<=1048576∧z.raw.length<=1048576∧z.AD.length<=1048576∧z.coarse.length<=1048576) :
    Calls prog 119 #[.agg (List.toArray [R,I,D,E,iV z.zS,iV z.zN,iV z.zG,iV z.zJ,iV z.zE])] w (RW w 74 41 163 163 z):=by
 obtain ⟨k,e,rfl,Q,L,N⟩:=q.form;obtain ⟨m,n,rfl,M,H,S⟩:=t.form;obtain ⟨j,h,rfl,P,K,O⟩:=s.form;obtain ⟨i,g,rfl,F,J,G⟩:=r.form;refine zp func119 (Mem.AT A (dc (dlp q) (dc (dlp t) (dc (dlp s) (dc (dlp r) dn))))) ?_;refine (go 2) (yw fun p=>zl fun T=>?_);apply go 3;refine vV (uA 16 [0,3,6,9] [0,2,3,4,5] rfl fun C d=>?_);apply go 4;refine zc d (n_mix (f:=7) [(1,.val 4 (.slice k z.zM.length e)),(2,.row 5 74 2 z.zM.length (z.zM.flatMap zb)),(4,.val 7 (.slice m z.raw.length n)),(5,.row 8 41 2 z.raw.length (z.raw.flatMap zX)),(7,.val 10 (.slice j z.AD.length h)),(8,.row 11 163 8 z.AD.length (z.AD.flatMap zO)),(10,.val 13 (.slice i z.coarse.length g)),(11,.row 14 163 8 z.coarse.length (z.coarse.flatMap zO)),(12,.val 15 (.pointer (some ⟨p,0,none⟩)))] rfl q_3 (nd [1,2,4,5,7,8,10,11,12] rfl qD) (nd [4,5,7,8,10,11,13,14,15] rfl qD) rfl ⟨jv_ [] trivial rfl rfl rfl (vZ 1 rfl rfl rfl RJ),jr_ [(1,4,.slice k z.zM.length e)] (⟨⟨0,rfl⟩,rfl,trivial⟩) rfl rfl rfl rfl call61 (fun _ o=>uk z.zM (o.slp 2 rfl) qO),jv_ [] trivial rfl rfl rfl (vZ 1 rfl rfl rfl flat47),jr_ [(4,7,.slice m z.raw.length n)] (⟨⟨2,rfl⟩,rfl,trivial⟩) rfl rfl rfl rfl call166 (fun _ o=>MD z.raw (o.slp 3 rfl) qO),jv_ [] trivial rfl rfl rfl (vZ 1 rfl rfl rfl OP),jr_ [(7,10,.slice j z.AD.length h)] (⟨⟨4,rfl⟩,rfl,trivial⟩) rfl rfl rfl rfl call167 (fun _ o=>Hg z.AD (o.slp 4 rfl) qO),jv_ [] trivial rfl rfl rfl (vZ 1 rfl rfl rfl OP),jr_ [(10,13,.slice i z.coarse.length g)] (⟨⟨6,rfl⟩,rfl,trivial⟩) rfl rfl rfl rfl call167 (fun _ o=>Hg z.coarse (o.slp 5 rfl) qO),jv_ [] trivial rfl rfl rfl (vk rfl fld50_0),trivial⟩ mA fun a=>qk (E':=[(0,.agg (List.toArray [.slice k z.zM.length e,.slice m z.raw.length n,.slice j z.AD.length h,.slice i z.coarse.length g,iV z.zS,iV z.zN,iV z.zG,iV z.zJ,iV z.zE])),(1,.pointer (some ⟨p,0,none⟩)),(2,.pointer (some ⟨T,0,none⟩)),(3,.pointer (some ⟨p,0,none⟩)),(4,.slice k z.zM.length e),(5,(a 2)),(6,.pointer (some ⟨p,1,none⟩)),(7,.slice m z.raw.length n),(8,(a 5)),(9,.pointer (some ⟨p,2,none⟩)),(10,.slice j z.AD.length h),(11,(a 8)),(12,.pointer (some ⟨p,3,none⟩)),(13,.slice i z.coarse.length g),(14,(a 11)),(15,.pointer (some ⟨p,0,none⟩))]) (S':=Mem w ⟨no,P0⟩ [Row (a 2) 74 2 zb z.zM,Row (a 5) 41 2 zX z.raw,Row (a 8) 163 8 zO z.AD,Row (a 11) 163 8 zO z.coarse,.blk T [Zs,Zs,Zs,Zs,iV 0,iV 0,iV 0,iV 0,iV 0] 50,.blk p [.slice k z.zM.length e,.slice m z.raw.length n,.slice j z.AD.length h,.slice i z.coarse.length g,iV z.zS,iV z.zN,iV z.zG,iV z.zJ,iV z.zE] 50,slP 2 zb (.slice k z.zM.length e) z.zM,slP 2 zX (.slice m z.raw.length n) z.raw,slP 8 zO (.slice j z.AD.length h) z.AD,slP 8 zO (.slice i z.coarse.length g) z.coarse]) sA mJ (gV 0 (l:=z.zM) (enc:=zb) rfl fun A1 a6 y X a0 a3=>?_))
 rw [y];refine gV 1 (l:=z.raw) (enc:=zX) rfl fun A2 Y x V a5 a7=>?_;rw [x];refine gV 2 (l:=z.AD) (enc:=zO) rfl fun A3 W u a1 a9 Z=>?_;rw [u];refine gV 3 (l:=z.coarse) (enc:=zO) rfl fun A4 a8 v a2 U a4=>?_;rw [v];refine zi 13 rfl fun B c=>?_;apply go 2;refine kN c (yH 5 [14] rfl fun C d=>?_);apply go 1;refine zc d (zi 15 rfl fun B c=>?_);apply go 2;refine kN c (yH 3 [16] rfl fun C d=>?_);apply go 1;refine zc d (zi 17 rfl fun B c=>?_);apply go 2;refine kN c (yH 1 [18] rfl fun C d=>?_);apply go 1;refine zc d (zi 19 rfl fun B c=>?_);apply go 2;refine c _ _ mA ?_;refine zg q_3 ((go 1) ?_);refine (go 7) (zR fun w1 o=>?_);exact (o.sel [0,1,2,3] qD rfl).retOwn
theorem c_new {e:Value} (l:List Label) (P0:Nat->Prop) {w:World} (c:∀ b,P0 b->b < w.heap.size) (d:zH P0 2 zb e l w) (g:l.length<=1048576) :
    Calls prog 113 #[e] w (Gb w P0 (fun u=>u) ⟨l,[],[],[],0,0,0,0,0⟩):=by
 obtain ⟨s,t,rfl,f,k,m⟩:=d.form;refine zp func113 (Mem.AT c (dc (dlp d) dn)) ?_;refine (go 2) (zl fun p=>?_);apply go 5;refine vo l wn rfl call61 rfl (fun _ a=>uk l (a.slp 1 rfl) qO) fun r o h n j=>?_;refine (go 5) (zR fun q a=>?_);have a:=a.zo BB (i:=0) rfl rfl;exact a.vm (s':=(⟨l,([]:List AA),([]:List AB),([]:List AB),0,0,0,0,0⟩:Shelf)) (fun u=>u) rfl (rfl) pA fN fN fN
theorem qX {n:Int} {st:Int} {w:World}  (e:0<=n∧n<=9223372036854775807) (a:0 < st) :
    Calls prog 124 #[iV n,iV st] w (Ret w (iV (n - n % st))):=by
 obtain ⟨d,c⟩:=Sh.emod_le e.1 a;refine zp func124 (Mem.AQ dn) ?_;refine (gg) (zR fun f b=>?_);exact zL rfl b
theorem Vk {D:Value} {P:Value} {K:Value} {E:Value} {z:Shelf} {x:AA} (P0:Nat->Prop) {w:World} (y:∀ b,P0 b->b < w.heap.size) (l:zH P0 2 zb D z.zM w) (m:zH P0 2 zX P z.raw w) (o:zH P0 8 zO K z.AD w) (k:zH P0 8 zO E z.coarse w)  :
    Calls prog 114 #[.agg (List.toArray [D,P,K,E,iV z.zS,iV z.zN,iV z.zG,iV z.zJ,iV z.zE]),.agg (zX x).toArray] w (Gb w P0 (fun u=>.tuple (List.toArray [u,iV (Sh.append z x).2])) (Sh.append z x).1):=by
 obtain ⟨a2,S,rfl,J,N,Q⟩:=l.form;obtain ⟨a3,d2,rfl,I,H,n⟩:=m.form;obtain ⟨b6,c1,rfl,R,M,C⟩:=o.form;obtain ⟨b0,b8,rfl,L,B,G⟩:=k.form;refine zp func114 (Mem.AT y (dc (dlp l) (dc (dlp m) (dc (dlp o) (dc (dlp k) dn))))) ?_;refine (go 2) (yw fun b2=>yw fun b3=>zl fun b4=>?_);apply go 7;refine yB call21 wn rfl (fun c a=>jL (In c) mJ (a.slp 3 rfl) (a.slp 4 rfl) (a.slp 5 rfl) (a.slp 6 rfl)) ?_;refine (go 9) (zQ (fun d=>?_) fun d=>?_);refine (go 10) (yE fun c a=>?_);have he:Sh.append z x=(sh0,(Sh.AE z)):=Sh.IT d;rw [he];exact a.rtS (iV (Sh.AE z));obtain ⟨l1,l2,l3,l4⟩:=(Sh.BD d).lens;apply go 6;refine zf zX ([x]:List AA) wn underlying47 Ao rfl rfl rfl rfl qD qD rfl fun Z=>yB call43 wn rfl (fun _ a=>jP ([x]:List AA) (AM AK a 0 rfl)) (zl fun b7=>?_);refine (go 10) (zQ (fun e=>?_) fun e=>?_);apply go 1;refine vV (yH 2 [0,1,2] rfl fun KS h=>?_);apply go 3;refine zc h (zi 3 rfl fun KN A=>?_);apply go 2;refine A _ _ mJ (yH 0 [4] rfl fun KS h=>?_);apply go 1;refine zc h ?_;refine zg q_3 ((go 1) ?_);refine (go 2) (yE fun c a=>?_);have he:Sh.append z x=(sh0,(Codec.AE ([x]:List AA)).err):=Sh.Lm d e;rw [he];exact a.vm (s':=sh0) (fun u=>.tuple (List.toArray [u,iV ((Codec.AE ([x]:List AA)).err)])) rfl (rfl) fN fN fN fN;refine (go 20) (vp 34 (fun j=>?_) fun j=>?_);refine (go 26) (yE fun c a=>?_);have he:Sh.append z x=(sh0,9):=Sh.Gu d e (.inl j);rw [he];exact a.rtS (iV 9);refine (go 3) (vp 37 (fun q=>?_) fun q=>?_);apply go 5;obtain ⟨U,s1,v,f⟩:=elx n (z.raw.length - 1);refine uD (vO (i:=(z.raw.length - 1)) rfl v rfl qO qI underlying47 Ao) ?_;refine (go 7) (zQ (fun p=>?_) fun p=>?_);refine (go 9) (yE fun c a=>?_)
 have he:Sh.append z x=(sh0,9):=Sh.Gu d e (.inr (by rw [Sh.JM f]; exact vM p));rw [he];exact a.rtS (iV 9);refine (go 11) (zQ (fun s=>?_) fun s=>?_);refine (go 9) (yE fun c a=>?_);have he:Sh.append z x=(sh0,5):=Sh.Gd d e (fun g=>g.elim j (fun g=>by rw [Sh.JM f] at g; exact p (of_decide_eq_true g))) s;rw [he];exact a.rtS (iV 5);apply go 5;refine jl z wn rfl call119 rfl (fun c a=>q1 (In c) mJ (a.slp 5 rfl) (a.slp 6 rfl) (a.slp 7 rfl) (a.slp 8 rfl) (Sh.GS q_6)) fun A1 b5 A2 Y A3 V A4 a1 c2 d0 d1 c8 b1=>zl fun X=>?_;apply go 8;refine zf zX ([x]:List AA) wn underlying47 Ao rfl rfl rfl rfl qD qD rfl fun r=>zh 3 z.raw ([x]:List AA) AK wn rfl rfl rfl (fun _ a=>(AM AK a 0 rfl)) underlying47 Ao rfl rfl qQ rfl fun A5 a9 a6 a0 c6=>?_;refine (go 12) (yE fun c a=>?_);have he:Sh.append z x=((⟨z.zM,(z.raw++([x]:List AA)),z.AD,z.coarse,z.zS,z.zN,z.zG,z.zJ,z.zE⟩:Shelf),0):=Sh.CY d e (fun g=>g.elim j (fun g=>by rw [Sh.JM f] at g; exact p (of_decide_eq_true g))) s;rw [he];have a:=a.zo BB (i:=2) rfl rfl;have a:=a.zo AK (i:=3) rfl rfl;have a:=a.zo AN (i:=4) rfl rfl;have a:=a.zo AN (i:=5) rfl rfl;exact a.vm (s':=(⟨z.zM,(z.raw++([x]:List AA)),z.AD,z.coarse,z.zS,z.zN,z.zG,z.zJ,z.zE⟩:Shelf)) (fun u=>.tuple (List.toArray [u,iV 0])) rfl (rfl) pA pA pA pA;refine (go 25) (zQ (fun t=>?_) fun t=>?_);refine (go 9) (yE fun c a=>?_);have he:Sh.append z x=(sh0,5):=Sh.Gd d e (fun g=>g.elim j (fun g=>by rw [Sh.NH q] at g; cases g)) t;rw [he];exact a.rtS (iV 5);apply go 5;refine jl z wn rfl call119 rfl (fun c a=>q1 (In c) mJ (a.slp 5 rfl) (a.slp 6 rfl) (a.slp 7 rfl) (a.slp 8 rfl) (Sh.GS q_6)) fun A6 c0 A7 a8 A8 a4 A9 c5 W a5 a7 c9 c4=>zl fun X=>?_
 apply go 8;refine zf zX ([x]:List AA) wn underlying47 Ao rfl rfl rfl rfl qD qD rfl fun r=>zh 3 z.raw ([x]:List AA) AK wn rfl rfl rfl (fun _ a=>(AM AK a 0 rfl)) underlying47 Ao rfl rfl qQ rfl fun c7 F T c3 O=>?_;refine (go 12) (yE fun c a=>?_);have he:Sh.append z x=((⟨z.zM,(z.raw++([x]:List AA)),z.AD,z.coarse,z.zS,z.zN,z.zG,z.zJ,z.zE⟩:Shelf),0):=Sh.CY d e (fun g=>g.elim j (fun g=>by rw [Sh.NH q] at g; cases g)) t;rw [he];have a:=a.zo BB (i:=2) rfl rfl;have a:=a.zo AK (i:=3) rfl rfl;have a:=a.zo AN (i:=4) rfl rfl;have a:=a.zo AN (i:=5) rfl rfl;exact a.vm (s':=(⟨z.zM,(z.raw++([x]:List AA)),z.AD,z.coarse,z.zS,z.zN,z.zG,z.zJ,z.zE⟩:Shelf)) (fun u=>.tuple (List.toArray [u,iV 0])) rfl (rfl) pA pA pA pA
theorem c_roll {z0:Value} {z1:Value} {z2:Value} {z3:Value} {z:Shelf} {to:Int} (P0:Nat->Prop) {w:World} (b0:∀ b,P0 b->b < w.heap.size) (V:zH P0 2 zb z0 z.zM w) (W:zH P0 2 zX z1 z.raw w) (a0:zH P0 8 zO z2 z.AD w) (T:zH P0 8 zO z3 z.coarse w)  :
    Calls prog 74 #[.agg (List.toArray [z0,z1,z2,z3,iV z.zS,iV z.zN,iV z.zG,iV z.zJ,iV z.zE]),iV to] w (Gb w P0 (fun u=>.tuple (List.toArray [u,iV (Sh.Ab z to).2])) (Sh.Ab z to).1):=by
 obtain ⟨F,A,rfl,d3,c1,c8⟩:=V.form;obtain ⟨r,o,rfl,d2,d4,Z⟩:=W.form;obtain ⟨B,C,rfl,c0,c2,c3⟩:=a0.form;obtain ⟨E,D,rfl,c9,c4,d0⟩:=T.form;refine zp func74 (Mem.AT b0 (dc (dlp V) (dc (dlp W) (dc (dlp a0) (dc (dlp T) dn))))) ?_;refine (go 2) (yw fun b2=>zl fun b4=>?_);apply go 7;refine yB call21 wn rfl (fun v c=>jL (In v) mJ (c.slp 2 rfl) (c.slp 3 rfl) (c.slp 4 rfl) (c.slp 5 rfl)) ?_;refine (go 9) (zQ (fun p=>?_) fun p=>?_);refine (go 10) (yE fun v c=>?_);have he:Sh.Ab z to=(sh0,(Sh.AE z)):=Sh.KX p;rw [he];exact c.rtS (iV (Sh.AE z));obtain ⟨l1,l2,l3,l4⟩:=(Sh.BD p).lens;obtain ⟨⟨g1,g2,g3,g4⟩,⟨g5,g6,g7,g8,g9⟩,d6,e1,f8,e4,f6⟩:=(Sh.BD p).rng;refine (go 8) (zm 24 (fun h2=>?_) fun h2=>?_);refine (go 15) (yE fun v c=>?_);have he:Sh.Ab z to=(sh0,3):=Sh.Hv p qO;rw [he];exact c.rtS (iV 3);refine (go 5) (zQ (fun h3=>?_) fun h3=>?_);refine (go 9) (yE fun v c=>?_);have he:Sh.Ab z to=(sh0,3):=Sh.Hv p qO;rw [he];exact c.rtS (iV 3);obtain ⟨i8,l0,i5,e3⟩:=Sh.CS (Sh.BD p) (to:=to) qO qO;obtain ⟨e6,k3,d8⟩:=Sh.Cr (Sh.BD p) (to:=to) qO qO;have a6:=Roll.Ca z.raw z.zG (Sh.zG z to);have a2:=Sh.DT (z.AD++(Roll.up (Roll.inT z.raw z.zG (Sh.zG z to)) 1)) z.zE (Sh.zE z to);have b1:(z.AD++(Roll.up (Roll.inT z.raw z.zG (Sh.zG z to)) 1)).length=z.AD.length + _:=uF;have f0:=vN (Roll.JW (Roll.inT z.raw z.zG (Sh.zG z to)) 1) a6;have h0:=vN (Roll.Gp (Sh.bIn (z.AD++(Roll.up (Roll.inT z.raw z.zG (Sh.zG z to)) 1)) z.zE (Sh.zE z to))) a2;apply go 5;refine jl z wn rfl call119 rfl (fun v c=>q1 (In v) mJ (c.slp 2 rfl) (c.slp 3 rfl) (c.slp 4 rfl) (c.slp 5 rfl) (Sh.GS q_6)) fun A1 x A2 G A3 y Q n d9 e2 e9 i6 k9=>zl fun N=>?_
 apply go 8;refine yL wn rfl call124 rfl (fun _ _=>qX qO qO) (vS (gv (show _=(Sh.zG z to) from rfl) (ge rfl rfl)) ?_);apply go 8;refine yL wn rfl call124 rfl (fun _ _=>qX qO qO) (vS (gv (show _=(Sh.zE z to) from rfl) (ge rfl rfl)) ?_);apply go 5;refine zr (zX:AA->List Value) 41 2 ?_;apply go 13;refine jY (jE2 [2,4,7,8,9,42,43] fun (k:Nat) (P:Value)=>[(10,P),(44,iV k)]) (jS2 fun k P=>[.s 0 (Row P 41 2 zX (Roll.inT (z.raw.take k) z.zG (Sh.zG z to)))]) (fun k P=>k<=z.raw.length) (fun k P=>z.raw.length - k) 0 (Zs) ?_ (fun k P k0=>?_);omega;have S:=vN (Roll.Ca (z.raw.take k) z.zG (Sh.zG z to)) (List.length_take_le k z.raw);refine yP 0 (l:=(Roll.inT (z.raw.take k) z.zG (Sh.zG z to))) rfl fun O j a8 i0 i7 a5=>?_;subst a8;refine (go 6) (zQ (fun h4=>?_) fun h4=>?_);apply go 6;obtain ⟨e8,s1,i4,L⟩:=elx Z k;refine (go 2) (zl fun k7=>?_);refine (go 11) (zm 53 (fun h5=>?_) fun h5=>?_);refine (go 7) (zQ (fun h6=>?_) fun h6=>?_);apply go 3;refine zf zX ([s1]:List AA) wn underlying47 Ao rfl rfl rfl rfl qD qD rfl fun f3=>zh 2 (Roll.inT (z.raw.take k) z.zG (Sh.zG z to)) ([s1]:List AA) AK wn rfl rfl rfl (fun _ c=>(AM AK c 0 rfl)) underlying47 Ao rfl rfl q_5 rfl fun A6 a7 d5 i2 i9=>?_;apply go 7;refine zK (vU (k + 1) (.slice A6 (((Roll.inT (z.raw.take k) z.zG (Sh.zG z to))++([s1]:List AA)).length) a7) ?_ ?_ sA (fun _ h=>by rw [(Roll.CG (a:=z.zG) (b:=Sh.zG z to) L).trans (zP qO)]; exact (h.sel [2,3,4,5,6,7,8,9,10,11,12,13] qD rfl)));omega;omega;apply go 6;refine zK (vU (k + 1) (.slice O ((Roll.inT (z.raw.take k) z.zG (Sh.zG z to)).length) j) ?_ ?_ sA (fun _ h=>by rw [(Roll.CG (a:=z.zG) (b:=Sh.zG z to) L).trans (zI qO)]; exact (h.sel [1,2,3,4,5,6,7,8,9,10,11,12] qD rfl)))
 omega;omega;apply go 14;refine zK (vU (k + 1) (.slice O ((Roll.inT (z.raw.take k) z.zG (Sh.zG z to)).length) j) ?_ ?_ sA (fun _ h=>by rw [(Roll.CG (a:=z.zG) (b:=Sh.zG z to) L).trans (zI qO)]; exact (h.sel [1,2,3,4,5,6,7,8,9,10,11,12] qD rfl)));omega;omega;have R:z.raw.take k=z.raw:=vg qO;rw [R];rw [R] at a5;apply go 6;refine vV (uA 5 [0,2] [0,2,3,5,6,7,8,9,10,11] rfl fun KS e=>?_);apply go 2;refine zc e (n_mix (f:=3) [(1,.val 65 (.slice A3 z.AD.length y)),(3,.row 67 163 8 (Roll.up (Roll.inT z.raw z.zG (Sh.zG z to)) 1).length ((Roll.up (Roll.inT z.raw z.zG (Sh.zG z to)) 1).flatMap zO))] rfl q_3 (nd [1,3] rfl qD) (nd [65,67] rfl qD) rfl ⟨jv_ [] trivial rfl rfl rfl (vZ 1 rfl rfl rfl OP),jr_ [] trivial rfl rfl rfl rfl call126 (fun _ c=>c_Up (Roll.inT z.raw z.zG (Sh.zG z to)) (AM AK c 0 rfl) q_14),trivial⟩ mA fun H=>qk (E':=[(2,.pointer (some ⟨b2,0,none⟩)),(4,.pointer (some ⟨b4,0,none⟩)),(7,.pointer (some ⟨N,0,none⟩)),(8,iV (Sh.zG z to)),(9,iV (Sh.zE z to)),(42,.slice r z.raw.length o),(43,iV z.raw.length),(10,.slice O ((Roll.inT z.raw z.zG (Sh.zG z to)).length) j),(44,iV k),(45,.bool (decide ((k:Int) < (z.raw.length:Int)))),(64,.pointer (some ⟨N,2,none⟩)),(65,.slice A3 z.AD.length y),(66,.slice O ((Roll.inT z.raw z.zG (Sh.zG z to)).length) j),(67,(H 3))]) (S':=Mem w ⟨no,P0⟩ [Row (H 3) 163 8 zO (Roll.up (Roll.inT z.raw z.zG (Sh.zG z to)) 1),Row (.slice O ((Roll.inT z.raw z.zG (Sh.zG z to)).length) j) 41 2 zX (Roll.inT z.raw z.zG (Sh.zG z to)),.blk N [.slice A1 z.zM.length x,.slice A2 z.raw.length G,.slice A3 z.AD.length y,.slice Q z.coarse.length n,iV z.zS,iV z.zN,iV z.zG,iV z.zJ,iV z.zE] 50,Row (.slice A1 z.zM.length x) 74 2 zb z.zM,Row (.slice A2 z.raw.length G) 41 2 zX z.raw,Row (.slice A3 z.AD.length y) 163 8 zO z.AD,Row (.slice Q z.coarse.length n) 163 8 zO z.coarse,.blk b4 [Zs,Zs,Zs,Zs,iV 0,iV 0,iV 0,iV 0,iV 0] 50,.blk b2 [.slice F z.zM.length A,.slice r z.raw.length o,.slice B z.AD.length C,.slice E z.coarse.length D,iV z.zS,iV z.zN,iV z.zG,iV z.zJ,iV z.zE] 50,slP 2 zb (.slice F z.zM.length A) z.zM,slP 2 zX (.slice r z.raw.length o) z.raw,slP 8 zO (.slice B z.AD.length C) z.AD,slP 8 zO (.slice E z.coarse.length D) z.coarse]) sA mJ (gV 0 (l:=(Roll.up (Roll.inT z.raw z.zG (Sh.zG z to)) 1)) (enc:=zO) rfl fun A7 a1 b8 e5 l5 d7=>?_))
 rw [b8];refine zi 4 rfl fun KN d=>zh 5 z.AD (Roll.up (Roll.inT z.raw z.zG (Sh.zG z to)) 1) AN wn rfl rfl rfl (fun _ c=>(AM AN c 0 rfl)) underlying48 BI rfl rfl q_5 rfl fun A8 K k8 k1 b5=>?_;apply go 1;refine kN d (yH 1 [5] rfl fun KS e=>?_);apply go 1;refine zc e (zi 6 rfl fun KN d=>?_);apply go 2;refine d _ _ mA ?_;refine zg q_3 ((go 1) ?_);apply go 2;refine zr (zO:AB->List Value) 163 8 ?_;apply go 13;refine jY (jE2 [2,4,7,8,9,71,72] fun (k:Nat) (m:Value)=>[(13,m),(73,iV k)]) (jS2 fun k m=>[.s 0 (Row m 163 8 zO (Sh.bIn ((z.AD++(Roll.up (Roll.inT z.raw z.zG (Sh.zG z to)) 1)).take k) z.zE (Sh.zE z to)))]) (fun k m=>k<=(z.AD++(Roll.up (Roll.inT z.raw z.zG (Sh.zG z to)) 1)).length) (fun k m=>(z.AD++(Roll.up (Roll.inT z.raw z.zG (Sh.zG z to)) 1)).length - k) 0 (Zs) ?_ (fun k m f1=>?_);omega;have S:=vN (Sh.DT ((z.AD++(Roll.up (Roll.inT z.raw z.zG (Sh.zG z to)) 1)).take k) z.zE (Sh.zE z to)) (List.length_take_le k (z.AD++(Roll.up (Roll.inT z.raw z.zG (Sh.zG z to)) 1)));refine yP 0 (l:=(Sh.bIn ((z.AD++(Roll.up (Roll.inT z.raw z.zG (Sh.zG z to)) 1)).take k) z.zE (Sh.zE z to))) rfl fun X q a3 i3 f2 a9=>?_;subst a3;refine (go 6) (zQ (fun h7=>?_) fun h7=>?_);apply go 6;obtain ⟨f4,s2,b6,t⟩:=elx b5 k;apply go 1;refine zV (ju 6 [iV s2.at_,iV s2.sum.count,iV s2.sum.total,iV s2.sum.min,iV s2.sum.max,iV s2.sum.first,iV s2.sum.last,iV s2.sum.Ap] AN rfl rfl b6 t rfl rfl agg163 BI) (zl fun k4=>?_);refine (go 11) (zm 82 (fun h8=>?_) fun h8=>?_);refine (go 7) (zQ (fun h9=>?_) fun h9=>?_);apply go 3;refine zf zO ([s2]:List AB) wn underlying48 BI rfl rfl rfl rfl qD qD rfl fun e7=>zh 2 (Sh.bIn ((z.AD++(Roll.up (Roll.inT z.raw z.zG (Sh.zG z to)) 1)).take k) z.zE (Sh.zE z to)) ([s2]:List AB) AN wn rfl rfl rfl (fun _ c=>(AM AN c 0 rfl)) underlying48 BI rfl rfl q_5 rfl fun a4 Y e0 k5 d1=>?_
 apply go 7;refine zK (vU (k + 1) (.slice a4 (((Sh.bIn ((z.AD++(Roll.up (Roll.inT z.raw z.zG (Sh.zG z to)) 1)).take k) z.zE (Sh.zE z to))++([s2]:List AB)).length) Y) ?_ ?_ sA (fun _ h=>by rw [(Sh.DZ (a:=z.zE) (b:=Sh.zE z to) t).trans (zP qO)]; exact (h.sel [2,3,4,5,6,7,8,9,10,11,12,13,14,15] qD rfl)));omega;omega;apply go 6;refine zK (vU (k + 1) (.slice X ((Sh.bIn ((z.AD++(Roll.up (Roll.inT z.raw z.zG (Sh.zG z to)) 1)).take k) z.zE (Sh.zE z to)).length) q) ?_ ?_ sA (fun _ h=>by rw [(Sh.DZ (a:=z.zE) (b:=Sh.zE z to) t).trans (zI qO)]; exact (h.sel [1,2,3,4,5,6,7,8,9,10,11,12,13,14] qD rfl)));omega;omega;apply go 14;refine zK (vU (k + 1) (.slice X ((Sh.bIn ((z.AD++(Roll.up (Roll.inT z.raw z.zG (Sh.zG z to)) 1)).take k) z.zE (Sh.zE z to)).length) q) ?_ ?_ sA (fun _ h=>by rw [(Sh.DZ (a:=z.zE) (b:=Sh.zE z to) t).trans (zI qO)]; exact (h.sel [1,2,3,4,5,6,7,8,9,10,11,12,13,14] qD rfl)));omega;omega;have U:(z.AD++(Roll.up (Roll.inT z.raw z.zG (Sh.zG z to)) 1)).take k=(z.AD++(Roll.up (Roll.inT z.raw z.zG (Sh.zG z to)) 1)):=vg qO;rw [U];rw [U] at a9;apply go 6;refine vV (uA 5 [0,2] [0,1,2,4,5,6,8,9,10,11,12,13] rfl fun KS e=>?_);apply go 2;refine zc e (n_mix (f:=3) [(1,.val 94 (.slice Q z.coarse.length n)),(3,.row 96 163 8 (Roll.AU (Sh.bIn (z.AD++(Roll.up (Roll.inT z.raw z.zG (Sh.zG z to)) 1)) z.zE (Sh.zE z to))).length ((Roll.AU (Sh.bIn (z.AD++(Roll.up (Roll.inT z.raw z.zG (Sh.zG z to)) 1)) z.zE (Sh.zE z to))).flatMap zO))] rfl q_3 (nd [1,3] rfl qD) (nd [94,96] rfl qD) rfl ⟨jv_ [] trivial rfl rfl rfl (vZ 3 rfl rfl rfl OP),jr_ [] trivial rfl rfl rfl rfl call127 (fun _ c=>UX (Sh.bIn (z.AD++(Roll.up (Roll.inT z.raw z.zG (Sh.zG z to)) 1)) z.zE (Sh.zE z to)) (AM AN c 0 rfl) q_14),trivial⟩ mA fun I=>qk (E':=[(2,.pointer (some ⟨b2,0,none⟩)),(4,.pointer (some ⟨b4,0,none⟩)),(7,.pointer (some ⟨N,0,none⟩)),(8,iV (Sh.zG z to)),(9,iV (Sh.zE z to)),(71,.slice A8 ((z.AD++(Roll.up (Roll.inT z.raw z.zG (Sh.zG z to)) 1)).length) K),(72,iV ((z.AD++(Roll.up (Roll.inT z.raw z.zG (Sh.zG z to)) 1)).length:Int)),(13,.slice X ((Sh.bIn (z.AD++(Roll.up (Roll.inT z.raw z.zG (Sh.zG z to)) 1)) z.zE (Sh.zE z to)).length) q),(73,iV k),(74,.bool (decide ((k:Int) < ((z.AD++(Roll.up (Roll.inT z.raw z.zG (Sh.zG z to)) 1)).length:Int)))),(93,.pointer (some ⟨N,3,none⟩)),(94,.slice Q z.coarse.length n),(95,.slice X ((Sh.bIn (z.AD++(Roll.up (Roll.inT z.raw z.zG (Sh.zG z to)) 1)) z.zE (Sh.zE z to)).length) q),(96,(I 3))]) (S':=Mem w ⟨no,P0⟩ [Row (I 3) 163 8 zO (Roll.AU (Sh.bIn (z.AD++(Roll.up (Roll.inT z.raw z.zG (Sh.zG z to)) 1)) z.zE (Sh.zE z to))),Row (.slice X ((Sh.bIn (z.AD++(Roll.up (Roll.inT z.raw z.zG (Sh.zG z to)) 1)) z.zE (Sh.zE z to)).length) q) 163 8 zO (Sh.bIn (z.AD++(Roll.up (Roll.inT z.raw z.zG (Sh.zG z to)) 1)) z.zE (Sh.zE z to)),Row (.slice A7 ((Roll.up (Roll.inT z.raw z.zG (Sh.zG z to)) 1).length) a1) 163 8 zO (Roll.up (Roll.inT z.raw z.zG (Sh.zG z to)) 1),Row (.slice O ((Roll.inT z.raw z.zG (Sh.zG z to)).length) j) 41 2 zX (Roll.inT z.raw z.zG (Sh.zG z to)),.blk N [.slice A1 z.zM.length x,.slice A2 z.raw.length G,.slice A8 ((z.AD++(Roll.up (Roll.inT z.raw z.zG (Sh.zG z to)) 1)).length) K,.slice Q z.coarse.length n,iV z.zS,iV z.zN,iV z.zG,iV z.zJ,iV z.zE] 50,Row (.slice A1 z.zM.length x) 74 2 zb z.zM,Row (.slice A2 z.raw.length G) 41 2 zX z.raw,Row (.slice A8 ((z.AD++(Roll.up (Roll.inT z.raw z.zG (Sh.zG z to)) 1)).length) K) 163 8 zO (z.AD++(Roll.up (Roll.inT z.raw z.zG (Sh.zG z to)) 1)),Row (.slice Q z.coarse.length n) 163 8 zO z.coarse,.blk b4 [Zs,Zs,Zs,Zs,iV 0,iV 0,iV 0,iV 0,iV 0] 50,.blk b2 [.slice F z.zM.length A,.slice r z.raw.length o,.slice B z.AD.length C,.slice E z.coarse.length D,iV z.zS,iV z.zN,iV z.zG,iV z.zJ,iV z.zE] 50,slP 2 zb (.slice F z.zM.length A) z.zM,slP 2 zX (.slice r z.raw.length o) z.raw,slP 8 zO (.slice B z.AD.length C) z.AD,slP 8 zO (.slice E z.coarse.length D) z.coarse]) sA mJ (gV 0 (l:=(Roll.AU (Sh.bIn (z.AD++(Roll.up (Roll.inT z.raw z.zG (Sh.zG z to)) 1)) z.zE (Sh.zE z to)))) (enc:=zO) rfl fun k6 b9 b3 f7 k2 c5=>?_))
 rw [b3];refine zi 4 rfl fun KN d=>zh 8 z.coarse (Roll.AU (Sh.bIn (z.AD++(Roll.up (Roll.inT z.raw z.zG (Sh.zG z to)) 1)) z.zE (Sh.zE z to))) AN wn rfl rfl rfl (fun _ c=>(AM AN c 0 rfl)) underlying48 BI rfl rfl q_5 rfl fun f5 c7 i1 f9 c6=>?_;apply go 1;refine kN d (yH 1 [5] rfl fun KS e=>?_);apply go 1;refine zc e (zi 6 rfl fun KN d=>?_);apply go 2;refine d _ _ mA ?_;refine zg q_3 ((go 1) ?_);refine (go 8) (zm 103 (fun J=>?_) fun J=>?_);refine (go 17) (yE fun v c=>?_);have he:Sh.Ab z to=(sh0,5):=Sh.HH p (fun g=>by omega) (.inl J);rw [he];exact c.rtS (iV 5);refine (go 7) (zQ (fun M=>?_) fun M=>?_);refine (go 9) (yE fun v c=>?_);have he:Sh.Ab z to=(sh0,5):=Sh.HH p (fun g=>by omega) (.inr M);rw [he];exact c.rtS (iV 5);refine (go 20) (yE fun v c=>?_);have he:Sh.Ab z to=((⟨z.zM,z.raw,(z.AD++(Roll.up (Roll.inT z.raw z.zG (Sh.zG z to)) 1)),(z.coarse++(Roll.AU (Sh.bIn (z.AD++(Roll.up (Roll.inT z.raw z.zG (Sh.zG z to)) 1)) z.zE (Sh.zE z to)))),z.zS,z.zN,(Sh.zG z to),z.zJ,(Sh.zE z to)⟩:Shelf),0):=Sh.SH p (fun g=>by omega) J M;rw [he];have c:=c.zo BB (i:=5) rfl rfl;have c:=c.zo AK (i:=6) rfl rfl;have c:=c.zo AN (i:=7) rfl rfl;have c:=c.zo AN (i:=8) rfl rfl;exact c.vm (s':=(⟨z.zM,z.raw,(z.AD++(Roll.up (Roll.inT z.raw z.zG (Sh.zG z to)) 1)),(z.coarse++(Roll.AU (Sh.bIn (z.AD++(Roll.up (Roll.inT z.raw z.zG (Sh.zG z to)) 1)) z.zE (Sh.zE z to)))),z.zS,z.zN,(Sh.zG z to),z.zJ,(Sh.zE z to)⟩:Shelf)) (fun u=>.tuple (List.toArray [u,iV 0])) rfl (rfl) pA pA pA pA
theorem jM {x:AB} {b:Nat} (f:Int) {w:World} (a:w.heap[b]?=some (.cells [iV f].toArray 3 (0,0)))  :
    Calls prog 121 #[.agg (zO x).toArray,.pointer (some ⟨b,0,none⟩)] w (Ret w (.bool (decide (x.at_ < f)))):=by
 refine zp func121 (Mem.AQ (dc (ddb a) dn)) ?_;refine (gg) (yw fun e=>?_);refine (gg) (zR fun d c=>?_);exact zL rfl c
theorem Uy {x:AA} {b:Nat} (f:Value) (g:Value) (c:Value) (d:Value) (z:Shelf) {w:World} (a:w.heap[b]?=some (.cells [f,g,c,d,iV z.zS,iV z.zN,iV z.zG,iV z.zJ,iV z.zE].toArray 50 (0,0)))  :
    Calls prog 123 #[.agg (zX x).toArray,.pointer (some ⟨b,0,none⟩)] w (Ret w (.bool (decide (x.time < z.zS)))):=by
 refine zp func123 (Mem.AQ (dc (ddb a) dn)) ?_;refine (gg) (yw fun i=>?_);refine (gg) (zR fun h e=>?_);exact zL rfl e
theorem jo {f:Int} {w:World}   :
    Calls prog 120 #[iV f] w (RetMk w (fun b=>.func (.func 121) #[] #[.pointer (some ⟨b,0,none⟩)]) (fun b=>.blk b [iV f] 3)):=by
 refine zp func120 (Mem.AQ dn) ?_;refine (gg) (qn fun c=>?_);apply go 5;refine zV (vR rfl rfl) ?_;refine (gg) (zR fun d a=>?_);exact ⟨c,rfl,a⟩
theorem We {D:Value} {S:Value} {L:Value} {E:Value} {z:Shelf} {d:Int} {to:Int} (P0:Nat->Prop) {w:World} (A:∀ b,P0 b->b < w.heap.size) (s:zH P0 2 zb D z.zM w) (t:zH P0 2 zX S z.raw w) (y:zH P0 8 zO L z.AD w) (r:zH P0 8 zO E z.coarse w)  :
    Calls prog 72 #[.agg (List.toArray [D,S,L,E,iV z.zS,iV z.zN,iV z.zG,iV z.zJ,iV z.zE]),iV d,iV to] w (Gb w P0 (fun u=>.tuple (List.toArray [u,iV (Sh.forget z d to).2])) (Sh.forget z d to).1):=by
 obtain ⟨a4,V,rfl,K,P,T⟩:=s.form;obtain ⟨a5,f1,rfl,J,H,R⟩:=t.form;obtain ⟨c5,c9,rfl,U,N,C⟩:=y.form;obtain ⟨b8,c6,rfl,M,B,G⟩:=r.form;refine zp func72 (Mem.AT A (dc (dlp s) (dc (dlp t) (dc (dlp y) (dc (dlp r) dn))))) ?_;refine (go 2) (yw fun b3=>zl fun b6=>?_);apply go 7;refine yB call21 wn rfl (fun l c=>jL (In l) mJ (c.slp 2 rfl) (c.slp 3 rfl) (c.slp 4 rfl) (c.slp 5 rfl)) ?_;refine (go 9) (zQ (fun m=>?_) fun m=>?_);refine (go 10) (yE fun l c=>?_);have he:Sh.forget z d to=(sh0,(Sh.AE z)):=Sh.Is m;rw [he];exact c.rtS (iV (Sh.AE z));obtain ⟨l1,l2,l3,l4⟩:=(Sh.BD m).lens;obtain ⟨⟨g1,g2,g3,g4⟩,⟨g5,g6,g7,g8,g9⟩,e9,a6,e7,e3,d4⟩:=(Sh.BD m).rng;refine (go 8) (zm 19 (fun k=>?_) fun k=>?_);refine (go 15) (yE fun l c=>?_);have he:Sh.forget z d to=(sh0,3):=Sh.EW m qO;rw [he];exact c.rtS (iV 3);refine (go 5) (zQ (fun h3=>?_) fun h3=>?_);refine (go 9) (yE fun l c=>?_);have he:Sh.forget z d to=(sh0,3):=Sh.EW m qO;rw [he];exact c.rtS (iV 3);apply go 5;refine jl z wn rfl call119 rfl (fun l c=>q1 (In l) mJ (c.slp 2 rfl) (c.slp 3 rfl) (c.slp 4 rfl) (c.slp 5 rfl) (Sh.GS q_6)) fun A1 c3 A2 Z A3 X A4 a3 d0 e4 e5 e0 c1=>zl fun b9=>?_;refine (go 21) (zQ (fun n=>?_) fun n=>?_);apply go 8;refine zV (gv (rfl) (ge rfl rfl)) ?_;apply go 7;refine zV (vR rfl rfl) (uj 2 (Sh.Bn z.raw (Sh.Fz z to)) rfl wn rfl call122 rfl (fun _ c=>c_delS z.raw (fun x=>decide (x.time < (Sh.Fz z to))) (c.row (i:=2) rfl) call123 (fun x q k=>Uy _ _ _ _ (⟨z.zM,z.raw,z.AD,z.coarse,(Sh.Fz z to),z.zN,z.zG,z.zJ,z.zE⟩:Shelf) (c.GH (i:=0) (j:=2) rfl rfl k))) fun A5 b7 b1 a0 d8=>?_);refine (go 13) (yE fun l c=>?_);have he:Sh.forget z d to=((⟨z.zM,(Sh.Bn z.raw (Sh.Fz z to)),z.AD,z.coarse,(Sh.Fz z to),z.zN,z.zG,z.zJ,z.zE⟩:Shelf),0):=Sh.Lb m (fun g=>by omega) n
 rw [he];have c:=c.zo BB (i:=1) rfl rfl;have c:=c.zo AK (i:=2) rfl rfl;have c:=c.zo AN (i:=3) rfl rfl;have c:=c.zo AN (i:=4) rfl rfl;exact c.vm (s':=(⟨z.zM,(Sh.Bn z.raw (Sh.Fz z to)),z.AD,z.coarse,(Sh.Fz z to),z.zN,z.zG,z.zJ,z.zE⟩:Shelf)) (fun u=>.tuple (List.toArray [u,iV 0])) rfl (rfl) pA pA pA pA;refine (go 6) (zQ (fun o=>?_) fun o=>?_);refine (go 1) (jJ 9 ?_);apply go 6;refine yL wn rfl call124 rfl (fun _ _=>qX qO qO) (vS (gv (rfl) (ge rfl rfl)) ?_);apply go 5;refine vV (uA 6 [0,2,3] [1,2,4,5,6,7,8,9,10] rfl fun p e=>?_);apply go 3;refine zc e (yR (f:=5) (i:=1) (j:=4) rfl q_3 ?_ ?_);refine yI (i:=1) rfl fun h a=>?_;apply go 2;refine kN a (zi 4 rfl fun h a=>?_);apply go 2;refine kN a (zi 5 rfl fun h a=>jI (fun b=>.func (.func 121) #[] #[.pointer (some ⟨b,0,none⟩)]) (fun b=>.blk b [iV (Sh.Bb z to)] 3) (fun _=>rfl) wn rfl rfl call120 rfl (fun _ _=>jo) fun c2=>?_);apply go 1;refine kN a (zi 6 rfl fun h a=>uj 4 (Sh.Aw z.AD (Sh.Bb z to)) rfl wn rfl call125 rfl (fun _ c=>gY z.AD (fun x=>decide (x.at_ < (Sh.Bb z to))) (c.row (i:=4) rfl) call121 (fun x q k=>jM (Sh.Bb z to) (c.GH (i:=0) (j:=4) rfl rfl k))) fun A6 c7 W d3 a8=>?_);apply go 1;refine kN a (yH 1 [7] rfl fun p e=>?_);apply go 1;refine zc e (zi 8 rfl fun h a=>?_);apply go 2;refine a _ _ mA ?_;refine zg q_3 ((go 2) ?_);refine (go 8) (yE fun l c=>?_);have he:Sh.forget z d to=((⟨z.zM,z.raw,(Sh.Aw z.AD (Sh.Bb z to)),z.coarse,z.zS,(Sh.Bb z to),z.zG,z.zJ,z.zE⟩:Shelf),0):=Sh.FB m (fun g=>by omega) n o;rw [he];have c:=c.zo BB (i:=2) rfl rfl;have c:=c.zo AK (i:=3) rfl rfl;have c:=c.zo AN (i:=4) rfl rfl;have c:=c.zo AN (i:=5) rfl rfl
 exact c.vm (s':=(⟨z.zM,z.raw,(Sh.Aw z.AD (Sh.Bb z to)),z.coarse,z.zS,(Sh.Bb z to),z.zG,z.zJ,z.zE⟩:Shelf)) (fun u=>.tuple (List.toArray [u,iV 0])) rfl (rfl) pA pA pA pA;refine yI (i:=4) rfl fun h a=>?_;apply go 2;refine kN a (yR (f:=4) (i:=1) (j:=5) rfl q_3 ?_ ?_);refine yI (i:=1) rfl fun h a=>?_;apply go 2;refine kN a (zi 5 rfl fun h a=>jI (fun b=>.func (.func 121) #[] #[.pointer (some ⟨b,0,none⟩)]) (fun b=>.blk b [iV (Sh.Bb z to)] 3) (fun _=>rfl) wn rfl rfl call120 rfl (fun _ _=>jo) fun d6=>?_);apply go 1;refine kN a (zi 6 rfl fun h a=>uj 4 (Sh.Aw z.AD (Sh.Bb z to)) rfl wn rfl call125 rfl (fun _ c=>gY z.AD (fun x=>decide (x.at_ < (Sh.Bb z to))) (c.row (i:=4) rfl) call121 (fun x q k=>jM (Sh.Bb z to) (c.GH (i:=0) (j:=4) rfl rfl k))) fun A7 b4 b5 e8 b2=>?_);apply go 1;refine kN a (yH 1 [7] rfl fun p e=>?_);apply go 1;refine zc e (zi 8 rfl fun h a=>?_);apply go 2;refine a _ _ mA ?_;refine zg q_3 ((go 2) ?_);refine (go 8) (yE fun l c=>?_);have he:Sh.forget z d to=((⟨z.zM,z.raw,(Sh.Aw z.AD (Sh.Bb z to)),z.coarse,z.zS,(Sh.Bb z to),z.zG,z.zJ,z.zE⟩:Shelf),0):=Sh.FB m (fun g=>by omega) n o;rw [he];have c:=c.zo BB (i:=2) rfl rfl;have c:=c.zo AK (i:=3) rfl rfl;have c:=c.zo AN (i:=4) rfl rfl;have c:=c.zo AN (i:=5) rfl rfl;exact c.vm (s':=(⟨z.zM,z.raw,(Sh.Aw z.AD (Sh.Bb z to)),z.coarse,z.zS,(Sh.Bb z to),z.zG,z.zJ,z.zE⟩:Shelf)) (fun u=>.tuple (List.toArray [u,iV 0])) rfl (rfl) pA pA pA pA;refine yI (i:=5) rfl fun h a=>jI (fun b=>.func (.func 121) #[] #[.pointer (some ⟨b,0,none⟩)]) (fun b=>.blk b [iV (Sh.Bb z to)] 3) (fun _=>rfl) wn rfl rfl call120 rfl (fun _ _=>jo) fun e6=>?_;apply go 1;refine kN a (zi 1 rfl fun h a=>?_)
 apply go 2;refine kN a (zi 6 rfl fun h a=>uj 4 (Sh.Aw z.AD (Sh.Bb z to)) rfl wn rfl call125 rfl (fun _ c=>gY z.AD (fun x=>decide (x.at_ < (Sh.Bb z to))) (c.row (i:=4) rfl) call121 (fun x q k=>jM (Sh.Bb z to) (c.GH (i:=0) (j:=4) rfl rfl k))) fun A8 a7 c0 a9 e1=>?_);apply go 1;refine kN a (yH 1 [7] rfl fun p e=>?_);apply go 1;refine zc e (zi 8 rfl fun h a=>?_);apply go 2;refine a _ _ mA ?_;refine zg q_3 ((go 2) ?_);refine (go 8) (yE fun l c=>?_);have he:Sh.forget z d to=((⟨z.zM,z.raw,(Sh.Aw z.AD (Sh.Bb z to)),z.coarse,z.zS,(Sh.Bb z to),z.zG,z.zJ,z.zE⟩:Shelf),0):=Sh.FB m (fun g=>by omega) n o;rw [he];have c:=c.zo BB (i:=2) rfl rfl;have c:=c.zo AK (i:=3) rfl rfl;have c:=c.zo AN (i:=4) rfl rfl;have c:=c.zo AN (i:=5) rfl rfl;exact c.vm (s':=(⟨z.zM,z.raw,(Sh.Aw z.AD (Sh.Bb z to)),z.coarse,z.zS,(Sh.Bb z to),z.zG,z.zJ,z.zE⟩:Shelf)) (fun u=>.tuple (List.toArray [u,iV 0])) rfl (rfl) pA pA pA pA;refine (go 6) (zQ (fun v=>?_) fun v=>?_);refine (go 1) (jJ 9 ?_);apply go 6;refine yL wn rfl call124 rfl (fun _ _=>qX qO qO) (vS (gv (rfl) (ge rfl rfl)) ?_);apply go 5;refine vV (uA 6 [0,2,3] [1,2,3,5,6,7,8,9,10] rfl fun p e=>?_);apply go 3;refine zc e (yR (f:=5) (i:=1) (j:=4) rfl q_3 ?_ ?_);refine yI (i:=1) rfl fun h a=>?_;apply go 2;refine kN a (zi 4 rfl fun h a=>?_);apply go 2;refine kN a (zi 5 rfl fun h a=>jI (fun b=>.func (.func 121) #[] #[.pointer (some ⟨b,0,none⟩)]) (fun b=>.blk b [iV (Sh.Aj z to)] 3) (fun _=>rfl) wn rfl rfl call120 rfl (fun _ _=>jo) fun Y=>?_);apply go 1;refine kN a (zi 6 rfl fun h a=>uj 5 (Sh.Aw z.coarse (Sh.Aj z to)) rfl wn rfl call125 rfl (fun _ c=>gY z.coarse (fun x=>decide (x.at_ < (Sh.Aj z to))) (c.row (i:=5) rfl) call121 (fun x q k=>jM (Sh.Aj z to) (c.GH (i:=0) (j:=5) rfl rfl k))) fun A9 d7 c8 a2 d5=>?_)
 apply go 1;refine kN a (yH 1 [7] rfl fun p e=>?_);apply go 1;refine zc e (zi 8 rfl fun h a=>?_);apply go 2;refine a _ _ mA ?_;refine zg q_3 ((go 2) ?_);refine (go 8) (yE fun l c=>?_);have he:Sh.forget z d to=((⟨z.zM,z.raw,z.AD,(Sh.Aw z.coarse (Sh.Aj z to)),z.zS,z.zN,z.zG,(Sh.Aj z to),z.zE⟩:Shelf),0):=Sh.Dz m (fun g=>by omega) n o v;rw [he];have c:=c.zo BB (i:=2) rfl rfl;have c:=c.zo AK (i:=3) rfl rfl;have c:=c.zo AN (i:=4) rfl rfl;have c:=c.zo AN (i:=5) rfl rfl;exact c.vm (s':=(⟨z.zM,z.raw,z.AD,(Sh.Aw z.coarse (Sh.Aj z to)),z.zS,z.zN,z.zG,(Sh.Aj z to),z.zE⟩:Shelf)) (fun u=>.tuple (List.toArray [u,iV 0])) rfl (rfl) pA pA pA pA;refine yI (i:=4) rfl fun h a=>?_;apply go 2;refine kN a (yR (f:=4) (i:=1) (j:=5) rfl q_3 ?_ ?_);refine yI (i:=1) rfl fun h a=>?_;apply go 2;refine kN a (zi 5 rfl fun h a=>jI (fun b=>.func (.func 121) #[] #[.pointer (some ⟨b,0,none⟩)]) (fun b=>.blk b [iV (Sh.Aj z to)] 3) (fun _=>rfl) wn rfl rfl call120 rfl (fun _ _=>jo) fun d1=>?_);apply go 1;refine kN a (zi 6 rfl fun h a=>uj 5 (Sh.Aw z.coarse (Sh.Aj z to)) rfl wn rfl call125 rfl (fun _ c=>gY z.coarse (fun x=>decide (x.at_ < (Sh.Aj z to))) (c.row (i:=5) rfl) call121 (fun x q k=>jM (Sh.Aj z to) (c.GH (i:=0) (j:=5) rfl rfl k))) fun d9 F d2 c4 Q=>?_);apply go 1;refine kN a (yH 1 [7] rfl fun p e=>?_);apply go 1;refine zc e (zi 8 rfl fun h a=>?_);apply go 2;refine a _ _ mA ?_;refine zg q_3 ((go 2) ?_);refine (go 8) (yE fun l c=>?_);have he:Sh.forget z d to=((⟨z.zM,z.raw,z.AD,(Sh.Aw z.coarse (Sh.Aj z to)),z.zS,z.zN,z.zG,(Sh.Aj z to),z.zE⟩:Shelf),0):=Sh.Dz m (fun g=>by omega) n o v;rw [he];have c:=c.zo BB (i:=2) rfl rfl
 have c:=c.zo AK (i:=3) rfl rfl;have c:=c.zo AN (i:=4) rfl rfl;have c:=c.zo AN (i:=5) rfl rfl;exact c.vm (s':=(⟨z.zM,z.raw,z.AD,(Sh.Aw z.coarse (Sh.Aj z to)),z.zS,z.zN,z.zG,(Sh.Aj z to),z.zE⟩:Shelf)) (fun u=>.tuple (List.toArray [u,iV 0])) rfl (rfl) pA pA pA pA;refine yI (i:=5) rfl fun h a=>jI (fun b=>.func (.func 121) #[] #[.pointer (some ⟨b,0,none⟩)]) (fun b=>.blk b [iV (Sh.Aj z to)] 3) (fun _=>rfl) wn rfl rfl call120 rfl (fun _ _=>jo) fun e2=>?_;apply go 1;refine kN a (zi 1 rfl fun h a=>?_);apply go 2;refine kN a (zi 6 rfl fun h a=>uj 5 (Sh.Aw z.coarse (Sh.Aj z to)) rfl wn rfl call125 rfl (fun _ c=>gY z.coarse (fun x=>decide (x.at_ < (Sh.Aj z to))) (c.row (i:=5) rfl) call121 (fun x q k=>jM (Sh.Aj z to) (c.GH (i:=0) (j:=5) rfl rfl k))) fun b0 I a1 f0 O=>?_);apply go 1;refine kN a (yH 1 [7] rfl fun p e=>?_);apply go 1;refine zc e (zi 8 rfl fun h a=>?_);apply go 2;refine a _ _ mA ?_;refine zg q_3 ((go 2) ?_);refine (go 8) (yE fun l c=>?_);have he:Sh.forget z d to=((⟨z.zM,z.raw,z.AD,(Sh.Aw z.coarse (Sh.Aj z to)),z.zS,z.zN,z.zG,(Sh.Aj z to),z.zE⟩:Shelf),0):=Sh.Dz m (fun g=>by omega) n o v;rw [he];have c:=c.zo BB (i:=2) rfl rfl;have c:=c.zo AK (i:=3) rfl rfl;have c:=c.zo AN (i:=4) rfl rfl;have c:=c.zo AN (i:=5) rfl rfl;exact c.vm (s':=(⟨z.zM,z.raw,z.AD,(Sh.Aw z.coarse (Sh.Aj z to)),z.zS,z.zN,z.zG,(Sh.Aj z to),z.zE⟩:Shelf)) (fun u=>.tuple (List.toArray [u,iV 0])) rfl (rfl) pA pA pA pA;refine (go 10) (yE fun l c=>?_);have he:Sh.forget z d to=(sh0,1):=Sh.Ji m (fun g=>by omega) n o v;rw [he];exact c.rtS (iV 1)
theorem Oe (o:Value) (U:Value) (C:Value) (J:Value) (a:Shelf) (T:Value) (r:Value) (V:Value) (H:Value) (b:Shelf) (P0:Nat->Prop) (w:World) (m:∀ b,P0 b->b < w.heap.size) (g:zH P0 2 zb o a.zM w) (j:zH P0 2 zX U a.raw w) (e:zH P0 8 zO C a.AD w) (k:zH P0 8 zO J a.coarse w) (l:zH P0 2 zb T b.zM w) (i:zH P0 2 zX r b.raw w) (h:zH P0 8 zO V b.AD w) (f:zH P0 8 zO H b.coarse w)  :
    Calls prog 39 #[.agg (List.toArray [o,U,C,J,iV a.zS,iV a.zN,iV a.zG,iV a.zJ,iV a.zE]),.agg (List.toArray [T,r,V,H,iV b.zS,iV b.zN,iV b.zG,iV b.zJ,iV b.zE])] w (Ret w (.bool (decide (a=b)))):=by
 obtain ⟨W,X,rfl,u,v,A⟩:=g.form;obtain ⟨a5,b7,rfl,K,q,s⟩:=j.form;obtain ⟨Y,b5,rfl,Q,n,I⟩:=e.form;obtain ⟨a6,b6,rfl,R,G,p⟩:=k.form;obtain ⟨a9,b4,rfl,B,O,z⟩:=l.form;obtain ⟨a4,b9,rfl,M,F,L⟩:=i.form;obtain ⟨a8,Z,rfl,N,y,P⟩:=h.form;obtain ⟨b8,a7,rfl,D,S,x⟩:=f.form;refine zp func39 (Mem.AT m (dc (dlp g) (dc (dlp j) (dc (dlp e) (dc (dlp k) (dc (dlp l) (dc (dlp i) (dc (dlp h) (dc (dlp f) dn))))))))) ?_;refine (go 2) (yw fun E=>yw fun t=>?_);apply go 9;refine yB call41 wn rfl (fun _ c=>v8 a.zM b.zM (c.slp 2 rfl) (c.slp 6 rfl)) ?_;refine (go 1) (zm 10 (fun h1=>?_) fun h1=>?_);apply go 4;refine yB call90 (wg rfl rfl rfl) rfl (fun _ c=>Hb a.raw b.raw (c.slp 3 rfl) (c.slp 7 rfl)) ?_;refine (go 2) (zm 17 (fun h2=>?_) fun h2=>?_);apply go 4;refine yB call91 (wg rfl rfl rfl) rfl (fun _ c=>uV a.AD b.AD (c.slp 4 rfl) (c.slp 8 rfl)) ?_;refine (go 2) (zm 24 (fun h3=>?_) fun h3=>?_);apply go 4;refine yB call91 (wg rfl rfl rfl) rfl (fun _ c=>uV a.coarse b.coarse (c.slp 5 rfl) (c.slp 9 rfl)) ?_;refine (go 2) (zm 31 (fun h4=>?_) fun h4=>?_);refine (go 7) (zm 38 (fun h5=>?_) fun h5=>?_);refine (go 7) (zm 45 (fun h6=>?_) fun h6=>?_);refine (go 7) (zm 52 (fun h7=>?_) fun h7=>?_);refine (go 7) (zm 59 (fun h8=>?_) fun h8=>?_);refine (go 10) (zR fun d c=>?_);exact zL (congrArg Value.bool q_32) c;refine (go 10) (zR fun d c=>?_);exact zL (congrArg Value.bool q_32) c;refine (go 17) (zR fun d c=>?_);exact zL (congrArg Value.bool (by rw [Bool.eq_iff_iff]; simp [Sh.eq_iff,h1,h2,h3,h4,h5,h6,h7])) c;refine (go 24) (zR fun d c=>?_);exact zL (congrArg Value.bool (by rw [Bool.eq_iff_iff]; simp [Sh.eq_iff,h1,h2,h3,h4,h5,h6])) c
 refine (go 31) (zR fun d c=>?_);exact zL (congrArg Value.bool (by rw [Bool.eq_iff_iff]; simp [Sh.eq_iff,h1,h2,h3,h4,h5])) c;refine (go 38) (zR fun d c=>?_);exact zL (congrArg Value.bool (by rw [Bool.eq_iff_iff]; simp [Sh.eq_iff,h1,h2,h3,h4])) c;refine (go 45) (zR fun d c=>?_);exact zL (congrArg Value.bool (by rw [Bool.eq_iff_iff]; simp [Sh.eq_iff,h1,h2,h3])) c;refine (go 52) (zR fun d c=>?_);exact zL (congrArg Value.bool (by rw [Bool.eq_iff_iff]; simp [Sh.eq_iff,h1,h2])) c;refine (go 59) (zR fun d c=>?_);exact zL (congrArg Value.bool (by rw [Bool.eq_iff_iff]; simp [Sh.eq_iff,h1])) c
theorem RT {a:yA} {b:yA} (P0:Nat->Prop) {w:World} (q:∀ b,P0 b->b < w.heap.size) (t:yA.Ok P0 a w) (x:yA.Ok P0 b w)  :
    Calls prog 16 #[.agg (gb a).toArray,.agg (gb b).toArray] w (Ret w (.bool (decide (a.e=b.e)))):=by
 have o:=t.wf;have n:=x.wf;refine zp func16 (Mem.AT q (dc (dp (yA.Ok.loc _) t) (dc (dp (yA.Ok.loc _) x) dn))) ?_;refine (go 2) (yw fun b2=>yw fun b3=>?_);refine (go 12) (zm 11 (fun G=>?_) fun G=>?_);refine (go 18) (zR fun j c=>?_);exact zL (congrArg Value.bool (yq (Bs.Pn (a:=a) (b:=b) qO)).symm) c;refine (go 10) (zQ (fun K=>?_) fun K=>?_);refine (go 7) (zR fun j c=>?_);exact zL (congrArg Value.bool (yq (Bs.Pn (a:=a) (b:=b) qO)).symm) c;apply go 12;refine yk (jE1 [2,3,22] fun (k:Nat)=>[(23,iV k)]) (jS1 fun k=>[]) (fun k=>k<=a.zA.l.length∧(a.zA.l.take k).map zB.e=(b.zA.l.take k).map zB.e) (fun k=>a.zA.l.length - k) 0 ?_ (fun k m=>?_);exact ⟨Nat.zero_le _,rfl⟩;refine (go 6) (zQ (fun U=>?_) fun U=>?_);apply go 15;refine uf (fun _ h=>h.baseX 2 rfl) (fun _ h=>h.Bl.Bl) ?_;obtain ⟨H,M,r⟩:=o.zA;obtain ⟨D,A,P,f⟩:=elx r k;apply go 5;refine uf (fun _ h=>h.baseX 5 rfl) (fun _ h=>h.Bl.Bl) ?_;obtain ⟨C,V,s⟩:=n.zA;obtain ⟨L,Q,Z,d⟩:=elx s k;apply go 2;have g:=o.all _ (mo f);refine uf (fun _ h=>h.one 3 zB.Ok.loc rfl f) (fun _ h=>h.Bl) (uf (fun _ h=>h.DU 0 rfl) (fun _ h=>h.Bl.Bl.Bl.Bl) ?_);obtain ⟨O,a2,J⟩:=g.sr;obtain ⟨S,B,T⟩:=g.raw;obtain ⟨E,Y,F⟩:=g.AD;obtain ⟨R,a0,z⟩:=g.coarse;have i:=n.all _ (mo d);refine uf (fun _ h=>h.one 6 zB.Ok.loc rfl d) (fun _ h=>h.Bl) (uf (fun _ h=>h.DU 0 rfl) (fun _ h=>h.Bl.Bl.Bl.Bl) ?_);obtain ⟨W,a6,I⟩:=i.sr;obtain ⟨X,a3,N⟩:=i.raw;obtain ⟨a5,a4,a1⟩:=i.AD;obtain ⟨v,y,u⟩:=i.coarse;refine yL wn rfl call39 rfl (fun j c=>Oe _ _ _ _ (zB.e A) _ _ _ _ (zB.e Q) (In j) j mJ (c.slp 5 rfl) (c.slp 6 rfl) (c.slp 7 rfl) (c.slp 8 rfl) (c.slp 0 rfl) (c.slp 1 rfl) (c.slp 2 rfl) (c.slp 3 rfl)) ?_
 refine (go 3) (zQ (fun p=>?_) fun p=>?_);refine (go 11) (zR fun j c=>?_);exact zL (congrArg Value.bool (yq (Bs.XC (a:=a) (b:=b) f d (qs p))).symm) c;apply go 6;refine zK (zy (k + 1) ?_ ?_);exact ⟨qO,Bs.UU f d m.2 (qs p)⟩;omega;refine (go 11) (zR fun j c=>?_);exact zL (congrArg Value.bool (vM (Bs.base_eq (a:=a) (b:=b) qO (by have h9:=m.2; rwa [vg qO,vg qO] at h9))).symm) c
theorem NS {r o:Value} {l:List zB} {x:zB} {i:Nat} {E:Nat->Prop} {w:World} (t:Mem w ⟨AX [Row r 50 9 za l,Row o 50 9 za [x]],E⟩ [Row r 50 9 za l,Row o 50 9 za [x]] w) (B:i<=l.length) (T:l.length<=1048576) :
    Calls prog 115 #[r,iV i,o] w (Be w [Row r 50 9 za l,Row o 50 9 za [x]] E (fun z:Value=>z) (fun _=>True) (fun z=>[Row z 50 9 za (l.take i++x::l.drop i)])):=by
 obtain ⟨W,J,rfl,S,H,s⟩:=Ay (t.row (i:=0) rfl);obtain ⟨M,D,e,q,X,y⟩:=Ay (t.row (i:=1) rfl);have e:o=.slice M 1 D:=e;have q:1<=D:=q;subst e;refine zp func115 t ?_;apply go 9;refine zV (jw (lo:=i) (hi:=l.length) rfl (lo1 rfl qO) hi0 qI qI qI underlying23 BS) ?_;apply go 16;refine yJ rfl (yq qD) ?_;refine (go 17) (zQ (fun K=>?_) fun K=>?_);apply go 4;refine zh 0 l [x] AV wn rfl rfl rfl (fun _ d=>(AM AV d 1 rfl)) underlying23 BS rfl rfl qQ rfl fun F g L P U=>?_;refine (go 5) (zR fun C d=>?_);exact d.yz (.slice F ((l++[x]).length) g) rfl trivial (fun h=>JQ (v:=.slice F ((l++[x]).length) g) (n:=(l++[x]).length) (by rw [DY B,uF]; rfl) (TA qO) (h.sel [0] qD rfl));apply go 5;obtain ⟨m,b⟩:=s (ne_nil (i:=i) qO);obtain ⟨R,c⟩:=y qS;apply go 4;refine zV (r_cap rfl underlying23) ?_;refine (go 3) (zQ (fun N=>?_) fun N=>?_);apply go 4;refine zV (rv_v q_47 (vt (lo:=0) (hi:=i) rfl lo0 (hi1 rfl qO) qO qO underlying23 BS)) ?_;apply go 5;refine l_appZ (enc:=za) (l.take i++List.replicate (l.length + 1 - i) OU) (l.length + 1) (kk:=l.length + 1 - i) (olds:=(l.take i).flatMap za) wn rfl rfl qO qO (by rw [BT AV.len,List.length_take]; omega) (fun h=>by rw [b] at h; cases h) (fun ad h=>by rw [b] at h; injection h with h; subst h; exact fun w Y p u f=>DF 0 rfl b w Y p u (by have:=PX (k:=9) f; rwa [Nat.zero_mul,Nat.zero_add] at this)) qO qO rfl qD underlying23 underlying3 BS rfl (by rw [List.flatMap_append]; exact congrArg _ (VU qD AV _ _ rfl _)) qO rfl fun I Q G V=>?_;apply go 7;refine zV (vt (lo:=i) (hi:=(l.length + 1)) rfl (lo1 rfl qO) hi0 qO qO underlying23 BS) ?_;apply go 1;refine jm 0 (j:=i) (l.take i++List.replicate (l.length + 1 - i) OU) [x] AV wn rfl (Bd rfl qO) rfl c rfl rfl underlying23 BS q5 q_4 q_4 (DF 2 rfl c) rfl ?_
 refine (go 3) (jJ 8 ?_);apply go 4;refine vS (vt (lo:=(i + 1)) (hi:=(l.length + 1)) rfl (lo1 rfl qO) hi0 qO qO underlying23 BS) ?_;apply go 2;refine vS (vt (lo:=i) (hi:=l.length) rfl (lo1 rfl qO) hi0 qO qO underlying23 BS) ?_;apply go 1;refine jm 0 (j:=(i + 1)) ((l.take i++List.replicate (l.length + 1 - i) OU).take i++[x]++(l.take i++List.replicate (l.length + 1 - i) OU).drop (i + [x].length)) (l.drop i) AV wn rfl (Bd rfl qO) rfl (Bd b qO) rfl rfl underlying23 BS q5 q_4 q_4 (Ic (DF 1 rfl b) fun p u f=>IF AV.len qO f) rfl ?_;refine (go 10) (zR fun C d=>?_);exact d.yz (.slice (some ⟨I,0,none⟩) (l.length + 1) Q) rfl trivial (fun h=>JQ (DY qO) (PU qO (List.length_replicate)) (h.sel [0] qD rfl));apply go 8;refine zV (rv_v q_47 (vt (lo:=0) (hi:=(l.length + 1)) rfl lo0 (hi1 rfl qO) qO qO underlying23 BS)) (l_more 0 1 rfl b qO fun Z A=>?_);apply go 11;refine zV (vt (lo:=(i + 1)) (hi:=(l.length + 1)) rfl (lo1 rfl qO) hi0 qO qO underlying23 BS) (zV (r_ext rfl (LW (T':=4) (fn:=Tryz.f161) (qa:=1) (qb:=0) qD rfl rfl qO qO qD m b (Bd b qO) func161 q_3 q_3 q_3 q_3 underlying23 BS)) (zV (zz rfl) ?_));refine (go 4) (jJ 8 ?_);apply go 4;refine vS (vt (lo:=(i + 1)) (hi:=(l.length + 1)) rfl (lo1 rfl qO) hi0 qO qO underlying23 BS) ?_;apply go 2;refine vS (vt (lo:=i) (hi:=(l.length + 1)) rfl (lo1 rfl qO) hi0 qO qO underlying23 BS) ?_;apply go 1;refine qm 0 (ad:=m) (j:=i + 1) (cs:=(l.drop i).flatMap za) _ wn rfl (Bd b qO) rfl (Bd b qO) rfl b underlying23 BS (by rw [BT AV.len,List.length_drop]; show _=min _ _ * 9; omega) (by rw [BT AV.len,List.length_drop]; omega) (Ic (DF 0 rfl b) fun p u f=>by have:=IF AV.len qO f; rw [uX (yb.1 this).1]; exact this) (fun u f=>by obtain ⟨a,_,O⟩:=List.mem_flatMap.1 f; exact AV.one a u O) (NK AV.len qO A) rfl ?_
 apply go 6;refine zV (vt (lo:=i) (hi:=(l.length + 1)) rfl (lo1 rfl qO) hi0 qO qO underlying23 BS) ?_;apply go 1;refine jm 0 (j:=i) (l.take (i + 1)++l.drop i) [x] AV wn rfl (Bd b qO) rfl c rfl b underlying23 BS q5 q_4 q_4 (DF 1 rfl c) rfl ?_;refine (go 10) (zR fun C d=>?_);exact d.yz (.slice W (l.length + 1) J) rfl trivial (fun h=>JQ (DY qO) (MR qO) (h.sel [0] qD rfl))
theorem c_add1 {d:zB} {i:Value} (t:List Label) (P0:Nat->Prop) {w:World} (e:∀ b,P0 b->b < w.heap.size) (g:zB.Ok P0 d w) (f:zH P0 2 zb i t w)  :
    Calls prog 112 #[.agg (za d).toArray,i] w (Ret w (iV (zF.compare d.sr.l t))):=by
 have a:=g.wf;obtain ⟨D,C,rfl,m,n,v⟩:=f.form;refine zp func112 (Mem.AT e (dc (dp (zB.Ok.loc _) g) (dc (dlp f) dn))) ?_;refine (gg) (yw fun E=>?_);apply go 8;refine zZ (fun _ h=>h.DU 1 rfl) ?_;obtain ⟨o,q,u⟩:=a.sr;obtain ⟨k,y,z⟩:=a.raw;obtain ⟨r,A,p⟩:=a.AD;obtain ⟨s,j,x⟩:=a.coarse;refine yB call22 wn rfl (fun _ c=>MO d.sr.l t (c.slp 0 rfl) (c.slp 6 rfl)) ?_;refine (gg) (zR fun B c=>?_);exact zL rfl c
theorem c_bsS {v:Value} (c:List zB) {I:Value} (t:List Label) (P0:Nat->Prop) {w:World} (B:∀ b,P0 b->b < w.heap.size) (z:zH P0 9 za v c w) (m:∀ x ∈ c,zB.Ok P0 x w) (H:zH P0 2 zb I t w) (r:Mn.Asc (c.map zB.k)) (O:c.length<=1048576) :
    Calls prog 111 #[v,I,.func (.func 112) #[] #[]] w (Ret w (.tuple #[iV (Mn.pos (c.map zB.k) t:Nat),.bool (Mn.has (c.map zB.k) t)])):=by
 have n:∀ x ∈ c,zB.Wf x:=fun x U=>(m x U).wf;obtain ⟨P,V,rfl,D,F,g⟩:=z.form;obtain ⟨Y,X,rfl,K,L,Q⟩:=H.form;refine zp func111 (Mem.AT B (dc (dlp z) (dc (dp (Av zB.Ok.loc _) m) (dc (dlp H) dn)))) ?_;apply go 22;refine jY (jE2 [0,1,2,8] fun (i:Nat) (j:Nat)=>[(9,iV i),(10,iV j)]) (jS2 fun i j=>[]) (fun i j=>i<=j∧j<=c.length∧(∀ (q:Nat) (y:Cell),(c.map zB.k)[q]?=some y->q < i->zF.compare y.sr t < 0)∧(∀ (q:Nat) (y:Cell),(c.map zB.k)[q]?=some y->j<=q->¬ zF.compare y.sr t < 0)) (fun i j=>j - i) 0 c.length ?_ (fun i j hI1=>?_);exact ⟨Nat.zero_le _,vY _,fun q y _ h=>absurd h (Nat.not_lt_zero _),fun q y h A=>by have:=(yb.1 h).1; simp only [vb] at this; omega⟩;refine (go 8) (zQ (fun M=>?_) fun M=>?_);apply go 8;refine zV (QA (a:=(i + j)) rfl qO qO (by rw [underlying3]; rfl) underlying228) (zV (r_shr (u:=(i + j)) (j:=1) rfl rfl qO qO) (zV (SB (a:=((i + j) / 2 ^ 1)) rfl qO (by rw [underlying228]; rfl) underlying3) ?_));apply go 8;obtain ⟨J,E,C,f⟩:=elx g ((i + j) / 2 ^ 1);refine zV (vO (i:=((i + j) / 2 ^ 1)) rfl C rfl qO qI underlying23 BS) ?_;apply go 2;have T:=n _ (mo f);refine zZ (fun _ h=>h.one 1 zB.Ok.loc rfl f) (vI wn rfl rfl call112 rfl (fun s d=>c_add1 t (In s) mJ (d.yU (i:=0) rfl) (d.slp 3 rfl)) ?_);refine (go 3) (zQ (fun A=>?_) fun A=>?_);apply go 4;refine zK (zj (vU (((i + j) / 2 ^ 1) + 1) j ?_ ?_));exact ⟨qO,qO,Mn.asc_lt (x:=zB.k E) r (by rw [yV,f]; rfl) A,hI1.2.2.2⟩;omega;apply go 3;refine zK (zj (vU i ((i + j) / 2 ^ 1) ?_ ?_));exact ⟨qO,qO,hI1.2.2.1,Mn.Rh (x:=zB.k E) r (by rw [yV,f]; rfl) A⟩;omega;refine (go 12) (zm 39 (fun R=>?_) fun R=>?_);apply go 3;obtain ⟨N,G,S,e⟩:=elx g i;apply go 3
 have W:=n _ (mo e);refine zZ (fun _ h=>h.one 1 zB.Ok.loc rfl e) (vI (wg rfl rfl rfl) rfl rfl call112 rfl (fun s d=>c_add1 t (In s) mJ (d.yU (i:=0) rfl) (d.slp 3 rfl)) ?_);refine (go 7) (yE fun s d=>?_);have p:Mn.pos (c.map zB.k) t=i:=Mn.pos_eq q6 hI1.2.2.1 q_48;have o:Mn.has (c.map zB.k) t=decide (zF.compare G.sr.l t=0):=Mn.bs_has (x:=zB.k G) r (by rw [yV,e]; rfl) hI1.2.2.1 (by have:j=i:=qO; exact hI1.2.2.2 i _ (by rw [yV,e]; rfl) qO);exact zL (by rw [p,o]) d;refine (go 14) (yE fun s d=>?_);have p:Mn.pos (c.map zB.k) t=i:=Mn.pos_eq q6 hI1.2.2.1 q_48;have o:Mn.has (c.map zB.k) t=false:=Mn.bs_no (i:=i) q6 hI1.2.2.1;exact zL (by rw [p,o]) d
theorem c_newE {d:Value} (l:List Label) (P0:Nat->Prop) {w:World} (a:∀ b,P0 b->b < w.heap.size) (f:zH P0 2 zb d l w) (c:l.length<=1048576):Calls prog 113 #[d] w (FU w P0 (fun z:zB=>.agg (za z).toArray) (fun z=>z.e=⟨l,[],[],[],0,0,0,0,0⟩) (fun z S=>zB.Ok S z)):=(c_new l P0 a f c).mono fun _ _ h=>h.toE
theorem c_rollE {k l i j:Value} {z:Shelf} {to:Int} (P0:Nat->Prop) {w:World} (g:∀ b,P0 b->b < w.heap.size) (a:zH P0 2 zb k z.zM w) (d:zH P0 2 zX l z.raw w) (f:zH P0 8 zO i z.AD w) (c:zH P0 8 zO j z.coarse w):Calls prog 74 #[.agg (List.toArray [k,l,i,j,iV z.zS,iV z.zN,iV z.zG,iV z.zJ,iV z.zE]),iV to] w (FU w P0 (fun y:zB=>.tuple #[.agg (za y).toArray,iV (Sh.Ab z to).2]) (fun y=>y.e=(Sh.Ab z to).1) (fun y S=>zB.Ok S y)):=(c_roll P0 g a d f c).mono fun _ _ h=>h.toE
theorem MN {k l i j:Value} {z:Shelf} {x:AA} (P0:Nat->Prop) {w:World} (g:∀ b,P0 b->b < w.heap.size) (a:zH P0 2 zb k z.zM w) (d:zH P0 2 zX l z.raw w) (f:zH P0 8 zO i z.AD w) (c:zH P0 8 zO j z.coarse w):Calls prog 114 #[.agg (List.toArray [k,l,i,j,iV z.zS,iV z.zN,iV z.zG,iV z.zJ,iV z.zE]),.agg (zX x).toArray] w (FU w P0 (fun y:zB=>.tuple #[.agg (za y).toArray,iV (Sh.append z x).2]) (fun y=>y.e=(Sh.append z x).1) (fun y S=>zB.Ok S y)):=(Vk P0 g a d f c).mono fun _ _ h=>h.toE
theorem c_badd {U:Nat} {x:yA} {t:Addr} {d:vC} {o:Nat->Prop} {w:World} (P:Mem w ⟨AX [.blk U [x.zA.v,iV x.zT] 93,Row (x.zA.v) 50 9 za x.zA.l,AS zB.Ok x.zA.l,BE t [iV d.kind,iV d.AG,iV d.to,d.sr.v,iV d.zW.time,iV d.zW.value,.string d.text],okP vC.Ok d],o⟩ [.blk U [x.zA.v,iV x.zT] 93,Row (x.zA.v) 50 9 za x.zA.l,AS zB.Ok x.zA.l,BE t [iV d.kind,iV d.AG,iV d.to,d.sr.v,iV d.zW.time,iV d.zW.value,.string d.text],okP vC.Ok d] w) (hi:Bs.Inv x.e 120) :
    Calls prog 68 #[.pointer (some ⟨U,0,none⟩),.pointer (some ((Addr.add t 0).add 0))] w (Be w [.blk U [x.zA.v,iV x.zT] 93,Row (x.zA.v) 50 9 za x.zA.l,AS zB.Ok x.zA.l,BE t [iV d.kind,iV d.AG,iV d.to,d.sr.v,iV d.zW.time,iV d.zW.value,.string d.text],okP vC.Ok d] o (fun z:yA × zk=>.agg (uZ z.2).toArray) (fun z=>(z.1.e,z.2.e)=Bs.add x.e d.e) (fun z=>[okP zk.Ok z.2,.blk U [z.1.zA.v,iV z.1.zT] 93,Row (z.1.zA.v) 50 9 za z.1.zA.l,AS zB.Ok z.1.zA.l,BE t (qA d),okP vC.Ok d])):=by
 have I:∀ y ∈ x.zA.l,zB.Wf y:=fun y hy=>((P.yU (i:=2) rfl) y hy).wf;have a2:=(P.yU (i:=4) rfl).wf;obtain ⟨e5,e0,a1⟩:=OD (P.row (i:=1) rfl);have N:=asc_k hi;have b2:=Sx hi;refine zp (Bh:=[.pointer (some ⟨U,0,none⟩),.pointer (some ((Addr.add t 0).add 0))]) func68 P ?_;refine (go 2) (zl fun b4=>?_);apply go 9;refine zZ (fun _ h=>h.doX 5 rfl) ?_;obtain ⟨e2,d1,i0⟩:=a2.sr;refine yB call42 wn rfl (fun _ b=>IZ d.sr.l (b.slp 0 rfl)) ?_;refine (go 9) (zQ (fun C=>?_) fun C=>?_);refine (go 9) (zR fun D b=>?_);have b:=b.yO (zk.Ok.loc (noX (zF.AE d.sr.l))) fun o m=>As _ _ _;exact b.rtA (x,noX (zF.AE d.sr.l)) (add_1 C);have f1:=Sh.Fa (nn (C));apply go 8;refine zV (ql 5 [iV d.zW.time,iV d.zW.value] rfl rfl rfl rfl Rw Ao) (zf zX ([d.zW]:List AA) wn underlying47 Ao rfl rfl rfl rfl qD qD rfl fun f2=>yB call43 wn rfl (fun _ b=>jP ([d.zW]:List AA) (AM AK b 0 rfl)) (zl fun b6=>?_));refine (go 10) (zQ (fun L=>?_) fun L=>?_);refine (go 10) (zR fun D b=>?_);have b:=b.yO (zk.Ok.loc (noX ((Codec.AE ([d.zW]:List AA)).err))) fun o m=>As _ _ _;exact b.rtA (x,noX ((Codec.AE ([d.zW]:List AA)).err)) (add_2 C L);refine (go 18) (zQ (fun M=>?_) fun M=>?_);refine (go 8) (zR fun D b=>?_);have b:=b.yO (zk.Ok.loc (noX 9)) fun o m=>As _ _ _;exact b.rtA (x,noX 9) (add_3 C L M);apply go 13;refine yL wn rfl call111 rfl (fun D b=>c_bsS x.zA.l d.sr.l (In D) mJ (AM AV b 5 rfl) (b.yU (i:=6) rfl) (b.slp 2 rfl) N qO) ?_;apply go 13;refine vP (β:=zB) (fun z=>.agg (za z).toArray) (fun z=>z.e=(⟨d.sr.l,[],[],[],0,0,0,0,0⟩:Shelf)) (fun z S=>zB.Ok S z) (fun z=>zB.Ok.loc z) wn rfl call113 rfl (fun _ o _ m=>c_newE d.sr.l o m.lt (m.sl 2 rfl) qO) fun z1 T=>vd 0 rfl (fun S w h=>zB.Ok.wf h) fun G=>zl fun b9=>?_
 refine (go 9) (yj (fun E=>?_) fun E=>?_);have d5:=pos_ltS N E;apply go 7;obtain ⟨d0,r,K,q⟩:=elx a1 (Mn.pos (x.zA.l.map zB.k) d.sr.l);refine zV (vO (i:=(Mn.pos (x.zA.l.map zB.k) d.sr.l)) rfl K rfl qO qI underlying23 BS) (zV (ju 7 [r.sr.v,r.raw.v,r.AD.v,r.coarse.v,iV r.zS,iV r.zN,iV r.zG,iV r.zJ,iV r.zE] AV rfl rfl K q rfl rfl agg50 BS) ?_);apply go 4;refine vV (uA 7 [1,2,3,4] [1,2,3,4,5,6,7,8,9,10] rfl fun F g=>?_);apply go 3;refine vy (ql 8 [iV d.zW.time,iV d.zW.value] rfl rfl rfl rfl Rw Ao) (zc g (zi 0 rfl fun p a=>?_));apply go 2;refine kN a (zi 5 rfl fun p a=>?_);have H:=I _ (mo q);refine zZ (fun _ h=>h.one 8 zB.Ok.loc rfl q) (zZ (fun _ h=>h.DU 0 rfl) ?_);obtain ⟨c9,f5,i2⟩:=H.sr;obtain ⟨e4,i3,f9⟩:=H.raw;obtain ⟨e6,d9,e7⟩:=H.AD;obtain ⟨f3,d4,f8⟩:=H.coarse;refine vP (β:=zB) (fun z=>.tuple #[.agg (za z).toArray,iV (Sh.append (zB.e r) d.zW).2]) (fun z=>z.e=(Sh.append (zB.e r) d.zW).1) (fun z S=>zB.Ok S z) (fun z=>zB.Ok.loc z) wn rfl call114 rfl (fun _ o _ m=>MN o m.lt (m.sl 0 rfl) (m.sl 1 rfl) (m.sl 2 rfl) (m.sl 3 rfl)) fun s a5=>vd 0 rfl (fun S w h=>zB.Ok.wf h) fun a6=>?_;apply go 1;refine kN a (yH 2 [6,7,8] rfl fun F g=>?_);apply go 3;refine zc g (zi 9 rfl fun p a=>?_);apply go 2;refine kN a (yH 0 [10] rfl fun F g=>?_);apply go 1;refine zc g ?_;refine zg q_3 ((go 1) ?_);refine (go 7) (zQ (fun h5=>?_) fun h5=>?_);refine (go 9) (zR fun D b=>?_);have b:=b.yO (zk.Ok.loc (noX ((Sh.append (zB.e r) d.zW).2))) fun o m=>As _ _ _;exact b.rtA (x,noX ((Sh.append (zB.e r) d.zW).2)) (add_4 C L M E q h5);apply go 8;refine yh rfl (qs E) (jJ 8 ?_);apply go 7;refine vS (vO (i:=(Mn.pos (x.zA.l.map zB.k) d.sr.l)) rfl K rfl qO qI underlying23 BS) ?_
 apply go 1;refine uv 13 (vs:=[s.sr.v,s.raw.v,s.AD.v,s.coarse.v,iV s.zS,iV s.zN,iV s.zG,iV s.zJ,iV s.zE]) s AV wn rfl rfl rfl rfl K q BS rfl rfl rfl rfl (zZ (fun _ h=>h.RD (l':=(x.zA.l.set (Mn.pos (x.zA.l.map zB.k) d.sr.l) s)) 14 0 zB.Ok.loc rfl rfl Kx) ?_);have h8:∀ y ∈ (x.zA.l.set (Mn.pos (x.zA.l.map zB.k) d.sr.l) s),zB.Wf y:=Rl Kx I a6;refine (go 9) (zR fun D b=>?_);have b:=b.yO (zk.Ok.loc (noX 0)) fun o m=>As _ _ _;exact b.yz (⟨⟨x.zA.A,x.zA.c,(x.zA.l.set (Mn.pos (x.zA.l.map zB.k) d.sr.l) s)⟩,x.zT⟩,noX 0) rfl (add_5 C L M E q h5 a5) (fun h=>as_set1 (n:=x.zA.l.length) (List.length_set).symm (h.sel [0,14,15,1,17,18] qD rfl));refine (go 12) (zQ (fun Y=>?_) fun Y=>?_);refine (go 9) (zR fun D b=>?_);have b:=b.yO (zk.Ok.loc (noX 5)) fun o m=>As _ _ _;exact b.rtA (x,noX 5) (add_6 C L M E Y);apply go 2;refine vV (uA 6 [1,2,3,4,5] [1,2,3,4,5,6,7,8,9,10] rfl fun F g=>?_);apply go 5;refine zc g (zi 0 rfl fun p a=>?_);apply go 2;refine kN a (zi 6 rfl fun p a=>zZ (fun _ h=>h.DU 1 rfl) ?_);obtain ⟨f4,e8,d8⟩:=G.sr;obtain ⟨d3,i4,e3⟩:=G.raw;obtain ⟨i1,f7,h0⟩:=G.AD;obtain ⟨d7,d6,f6⟩:=G.coarse;refine vP (β:=zB) (fun z=>.tuple #[.agg (za z).toArray,iV (Sh.Ab (zB.e z1) x.zT).2]) (fun z=>z.e=(Sh.Ab (zB.e z1) x.zT).1) (fun z S=>zB.Ok S z) (fun z=>zB.Ok.loc z) wn rfl call74 rfl (fun _ o _ m=>c_rollE o m.lt (m.sl 0 rfl) (m.sl 1 rfl) (m.sl 2 rfl) (m.sl 3 rfl)) fun R Q=>vd 0 rfl (fun S w h=>zB.Ok.wf h) fun J=>?_;apply go 1;refine kN a (yH 1 [7,8,9] rfl fun F g=>?_);apply go 3;refine zc g (zi 10 rfl fun p a=>?_);apply go 2;refine a _ _ mA ?_;refine zg q_3 ((go 1) ?_);apply go 1;refine vV (uA 7 [1,2,3,4] [0,1,2,3,4,6,7,8,9,10,11,12,13,14,15] rfl fun F g=>?_)
 apply go 3;refine vy (ql 13 [iV d.zW.time,iV d.zW.value] rfl rfl rfl rfl Rw Ao) (zc g (zi 0 rfl fun p a=>?_));apply go 2;refine kN a (zi 5 rfl fun p a=>zZ (fun _ h=>h.DU 0 rfl) ?_);obtain ⟨b7,c7,c4⟩:=J.sr;obtain ⟨b5,c8,c2⟩:=J.raw;obtain ⟨a9,b3,c0⟩:=J.AD;obtain ⟨a8,c6,c3⟩:=J.coarse;refine vP (β:=zB) (fun z=>.tuple #[.agg (za z).toArray,iV (Sh.append (zB.e R) d.zW).2]) (fun z=>z.e=(Sh.append (zB.e R) d.zW).1) (fun z S=>zB.Ok S z) (fun z=>zB.Ok.loc z) wn rfl call114 rfl (fun _ o _ m=>MN o m.lt (m.sl 0 rfl) (m.sl 1 rfl) (m.sl 2 rfl) (m.sl 3 rfl)) fun u W=>vd 0 rfl (fun S w h=>zB.Ok.wf h) fun Z=>?_;apply go 1;refine kN a (yH 2 [6,7,8] rfl fun F g=>?_);apply go 3;refine zc g (zi 9 rfl fun p a=>?_);apply go 2;refine kN a (yH 0 [10] rfl fun F g=>?_);apply go 1;refine zc g ?_;refine zg q_3 ((go 1) ?_);refine (go 7) (zQ (fun h7=>?_) fun h7=>?_);refine (go 9) (zR fun D b=>?_);have B:Bs.fresh d.sr.l x.zT=zB.e R:=by rw [Q,T]; rfl
 have b:=b.yO (zk.Ok.loc (noX ((Sh.append (zB.e R) d.zW).2))) fun o m=>As _ _ _;exact b.rtA (x,noX ((Sh.append (zB.e R) d.zW).2)) (by have O:=add_7 (x:=x) (d:=d) C L M E Y; rw [B] at O; exact O h7);apply go 8;refine yJ rfl (qs E) (vV (uA 7 [0,1,2,3,4,6,7] [0,1,2,3,4,5,6,7,8,9,10,11,12,13,14,15,19,20] rfl fun F g=>?_));apply go 7;refine zc g (yR (f:=6) (i:=5) (j:=8) rfl q_3 ?_ ?_);refine yI (i:=5) rfl fun p a=>?_;apply go 2;refine kN a (zi 8 rfl fun p a=>zf za ([u]:List zB) wn underlying23 BS rfl rfl rfl rfl qD qD rfl fun a0=>?_);apply go 1;refine kN a (zi 9 rfl fun p a=>zn (sG [18,0,1,2,3,4,5,6,7,8,9,10,11,12,13,14,15,16,17,19,20,21]) rfl rfl call115 (fun _ _ P=>NS P TS qO) fun z5 h9=>gT 0 (l:=(x.zA.l.take (Mn.pos (x.zA.l.map zB.k) d.sr.l)++u::x.zA.l.drop (Mn.pos (x.zA.l.map zB.k) d.sr.l))) rfl fun A1 X a3 b0 a7 c5=>?_);subst a3;refine zZ (fun _ h=>h.RD (l':=(x.zA.l.take (Mn.pos (x.zA.l.map zB.k) d.sr.l)++u::x.zA.l.drop (Mn.pos (x.zA.l.map zB.k) d.sr.l))) 18 1 zB.Ok.loc rfl rfl GO) ?_;have e1:∀ y ∈ (x.zA.l.take (Mn.pos (x.zA.l.map zB.k) d.sr.l)++u::x.zA.l.drop (Mn.pos (x.zA.l.map zB.k) d.sr.l)),zB.Wf y:=Rl GO I Z;apply go 1;refine kN a (yH 1 [10,11,12] rfl fun F g=>?_);apply go 3;refine zc g (zi 13 rfl fun p a=>?_);apply go 2;refine a _ _ mA ?_;refine zg q_3 ((go 1) ?_);refine (go 7) (zR fun D b=>?_);have B:Bs.fresh d.sr.l x.zT=zB.e R:=by rw [Q,T]; rfl
 have b:=b.yO (zk.Ok.loc (noX 0)) fun o m=>As _ _ _;exact b.rtA (⟨⟨A1,X,(x.zA.l.take (Mn.pos (x.zA.l.map zB.k) d.sr.l)++u::x.zA.l.drop (Mn.pos (x.zA.l.map zB.k) d.sr.l))⟩,x.zT⟩,noX 0) (by have O:=add_8 (x:=x) (d:=d) (z:=u) (A:=A1) (c:=X) C L M E Y; rw [B] at O; exact O h7 W);refine yI (i:=8) rfl fun p a=>zf za ([u]:List zB) wn underlying23 BS rfl rfl rfl rfl qD qD rfl fun a0=>?_;apply go 1;refine kN a (zi 5 rfl fun p a=>?_);apply go 2;refine kN a (zi 9 rfl fun p a=>zn (sG [18,0,1,2,3,4,5,6,7,8,9,10,11,12,13,14,15,16,17,19,20,21]) rfl rfl call115 (fun _ _ P=>NS P TS qO) fun z6 d2=>gT 0 (l:=(x.zA.l.take (Mn.pos (x.zA.l.map zB.k) d.sr.l)++u::x.zA.l.drop (Mn.pos (x.zA.l.map zB.k) d.sr.l))) rfl fun A2 V a4 b1 b8 c1=>?_);subst a4;refine zZ (fun _ h=>h.RD (l':=(x.zA.l.take (Mn.pos (x.zA.l.map zB.k) d.sr.l)++u::x.zA.l.drop (Mn.pos (x.zA.l.map zB.k) d.sr.l))) 18 1 zB.Ok.loc rfl rfl GO) ?_;have f0:∀ y ∈ (x.zA.l.take (Mn.pos (x.zA.l.map zB.k) d.sr.l)++u::x.zA.l.drop (Mn.pos (x.zA.l.map zB.k) d.sr.l)),zB.Wf y:=Rl GO I Z;apply go 1;refine kN a (yH 1 [10,11,12] rfl fun F g=>?_);apply go 3;refine zc g (zi 13 rfl fun p a=>?_);apply go 2;refine a _ _ mA ?_;refine zg q_3 ((go 1) ?_);refine (go 7) (zR fun D b=>?_);have B:Bs.fresh d.sr.l x.zT=zB.e R:=by rw [Q,T]; rfl
 have b:=b.yO (zk.Ok.loc (noX 0)) fun o m=>As _ _ _;exact b.rtA (⟨⟨A2,V,(x.zA.l.take (Mn.pos (x.zA.l.map zB.k) d.sr.l)++u::x.zA.l.drop (Mn.pos (x.zA.l.map zB.k) d.sr.l))⟩,x.zT⟩,noX 0) (by have O:=add_8 (x:=x) (d:=d) (z:=u) (A:=A2) (c:=V) C L M E Y; rw [B] at O; exact O h7 W)
theorem c_do1 {s:zB} {k:Addr} (i:Addr) (d:vC) (P0:Nat->Prop) {w:World} (n:∀ b,P0 b->b < w.heap.size) (r:zB.Ok P0 s w) (q:ve P0 k [.pointer (some ((Addr.add i 0).add 0))] w) (l:ve P0 i (qA d) w) (v:vC.Ok P0 d w)  :
    Calls prog 71 #[.agg (za s).toArray,.pointer (some k)] w (FU w P0 (fun z:zB=>.tuple #[.agg (za z).toArray,iV (Sh.forget s.e d.AG d.to).2]) (fun z=>z.e=(Sh.forget s.e d.AG d.to).1) (fun z S=>zB.Ok S z)):=by
 have f:=r.wf;have X:=v.wf;refine zp (Bh:=[.agg (za s).toArray,.pointer (some ((Addr.add k 0).add 0))]) func71 (Mem.AT n (dc (dp (zB.Ok.loc _) r) (dc (dp (ve.loc _ _) q) (dc (dp (ve.loc _ _) l) (dc (dp (vC.Ok.loc _) v) dn))))) ?_;refine (go 2) (yw fun Z=>zl fun b3=>?_);apply go 4;refine vV (uA 5 [0,1,2,3,4,5,6,7,8] [1,2,3,4,5] rfl fun x a=>?_);apply go 9;refine zc a (zi 9 rfl fun R g=>zZ (fun _ h=>h.DU 2 rfl) ?_);obtain ⟨G,J,O⟩:=f.sr;obtain ⟨D,Q,U⟩:=f.raw;obtain ⟨M,V,I⟩:=f.AD;obtain ⟨N,B,P⟩:=f.coarse;refine Qh (fun u=>.tuple (List.toArray [u,iV ((Sh.forget (zB.e s) d.AG d.to).2)])) ((Sh.forget (zB.e s) d.AG d.to).1) wn rfl call72 rfl (fun _ t _ c=>We t c.lt (c.sl 0 rfl) (c.sl 1 rfl) (c.sl 2 rfl) (c.sl 3 rfl)) fun W o T m A j E p K F y H L=>?_;apply go 1;refine kN g (yH 2 [10,11] rfl fun x a=>?_);apply go 2;refine zc a (zi 12 rfl fun R g=>?_);apply go 2;refine kN g (yH 0 [13] rfl fun x a=>?_);apply go 1;refine zc a ?_;refine zg q_3 ((go 1) ?_);refine (go 1) (yE fun Y C=>?_);exact C.uL (zB.mk ⟨W,o,((Sh.forget (zB.e s) d.AG d.to).1).zM⟩ ⟨T,m,((Sh.forget (zB.e s) d.AG d.to).1).raw⟩ ⟨A,j,((Sh.forget (zB.e s) d.AG d.to).1).AD⟩ ⟨E,p,((Sh.forget (zB.e s) d.AG d.to).1).coarse⟩ (((Sh.forget (zB.e s) d.AG d.to).1).zS) (((Sh.forget (zB.e s) d.AG d.to).1).zN) (((Sh.forget (zB.e s) d.AG d.to).1).zG) (((Sh.forget (zB.e s) d.AG d.to).1).zJ) (((Sh.forget (zB.e s) d.AG d.to).1).zE)) rfl rfl fun t c=>⟨c.sl 0 rfl,c.sl 1 rfl,c.sl 2 rfl,c.sl 3 rfl⟩
theorem c_do2 {s:zB} {k:Addr} (i:Addr) (d:vC) (P0:Nat->Prop) {w:World} (n:∀ b,P0 b->b < w.heap.size) (r:zB.Ok P0 s w) (q:ve P0 k [.pointer (some ((Addr.add i 0).add 0))] w) (l:ve P0 i (qA d) w) (v:vC.Ok P0 d w)  :
    Calls prog 73 #[.agg (za s).toArray,.pointer (some k)] w (FU w P0 (fun z:zB=>.tuple #[.agg (za z).toArray,iV (Sh.Ab s.e d.to).2]) (fun z=>z.e=(Sh.Ab s.e d.to).1) (fun z S=>zB.Ok S z)):=by
 have f:=r.wf;have X:=v.wf;refine zp (Bh:=[.agg (za s).toArray,.pointer (some ((Addr.add k 0).add 0))]) func73 (Mem.AT n (dc (dp (zB.Ok.loc _) r) (dc (dp (ve.loc _ _) q) (dc (dp (ve.loc _ _) l) (dc (dp (vC.Ok.loc _) v) dn))))) ?_;refine (go 2) (yw fun Z=>zl fun b3=>?_);apply go 4;refine vV (uA 5 [0,1,2,3,4] [1,2,3,4,5] rfl fun x a=>?_);apply go 5;refine zc a (zi 5 rfl fun R g=>zZ (fun _ h=>h.DU 2 rfl) ?_);obtain ⟨G,J,O⟩:=f.sr;obtain ⟨D,Q,U⟩:=f.raw;obtain ⟨M,V,I⟩:=f.AD;obtain ⟨N,B,P⟩:=f.coarse;refine Qh (fun u=>.tuple (List.toArray [u,iV ((Sh.Ab (zB.e s) d.to).2)])) ((Sh.Ab (zB.e s) d.to).1) wn rfl call74 rfl (fun _ t _ c=>c_roll t c.lt (c.sl 0 rfl) (c.sl 1 rfl) (c.sl 2 rfl) (c.sl 3 rfl)) fun W o T m A j E p K F y H L=>?_;apply go 1;refine kN g (yH 2 [6,7] rfl fun x a=>?_);apply go 2;refine zc a (zi 8 rfl fun R g=>?_);apply go 2;refine kN g (yH 0 [9] rfl fun x a=>?_);apply go 1;refine zc a ?_;refine zg q_3 ((go 1) ?_);refine (go 1) (yE fun Y C=>?_);exact C.uL (zB.mk ⟨W,o,((Sh.Ab (zB.e s) d.to).1).zM⟩ ⟨T,m,((Sh.Ab (zB.e s) d.to).1).raw⟩ ⟨A,j,((Sh.Ab (zB.e s) d.to).1).AD⟩ ⟨E,p,((Sh.Ab (zB.e s) d.to).1).coarse⟩ (((Sh.Ab (zB.e s) d.to).1).zS) (((Sh.Ab (zB.e s) d.to).1).zN) (((Sh.Ab (zB.e s) d.to).1).zG) (((Sh.Ab (zB.e s) d.to).1).zJ) (((Sh.Ab (zB.e s) d.to).1).zE)) rfl rfl fun t c=>⟨c.sl 0 rfl,c.sl 1 rfl,c.sl 2 rfl,c.sl 3 rfl⟩
theorem c_each {o:Nat} {x:yA} {f:Nat} {j:Array Value} {C:(Nat->Prop)->World->Prop} (g:Shelf->Shelf × Int) {r:Nat->Prop} {w:World} (K:Mem w ⟨AX [.blk o [x.zA.v,iV x.zT] 93,Row (x.zA.v) 50 9 za x.zA.l,AS zB.Ok x.zA.l,.pub C],r⟩ [.blk o [x.zA.v,iV x.zT] 93,Row (x.zA.v) 50 9 za x.zA.l,AS zB.Ok x.zA.l,.pub C] w) (N:ShFn prog f j C g) (M:x.zA.l.length<=8) :
    Calls prog 70 #[.pointer (some ⟨o,0,none⟩),.func (.func f) #[] j] w (Be w [.blk o [x.zA.v,iV x.zT] 93,Row (x.zA.v) 50 9 za x.zA.l,AS zB.Ok x.zA.l,.pub C] r (fun _:yA=>iV (Bs.each g x.e.zA).2) (fun z=>z.e=if (Bs.each g x.e.zA).2≠0 then x.e else ⟨(Bs.each g x.e.zA).1,x.zT⟩) (fun z=>[.blk o [z.zA.v,iV z.zT] 93,Row (z.zA.v) 50 9 za z.zA.l,AS zB.Ok z.zA.l,.pub C])):=by
 have t:∀ y ∈ x.zA.l,zB.Wf y:=fun y R=>((K.yU (i:=2) rfl) y R).wf;obtain ⟨X,Y,G⟩:=OD (K.row (i:=1) rfl);refine zp func70 K ?_;apply go 7;refine zr (za:zB->List Value) 50 9 (zZ (fun _ h=>h.FR zB.Ok.loc) ?_);apply go 16;refine qG (jE3 [0,1,14,15] fun (k:Nat) (a:List zB) (m:Value)=>[(5,m),(16,iV k)]) (jS3 fun k a m=>[.s 0 (AS zB.Ok a),.s 1 (Row m 50 9 za a)]) (fun k a m=>k<=x.zA.l.length∧(∀ y ∈ a,zB.Wf y)∧Bs.each g ((x.zA.l.take k).map zB.e)=(a.map zB.e,0)∧a.length=k) (fun k a m=>x.zA.l.length - k) 0 [] (Zs) ?_ (fun k a m d=>?_);exact ⟨Nat.zero_le _,fun x hx=>ja,rfl,rfl⟩;have u:=d.2.1;have a1:=d.2.2.2;refine yP 1 (l:=a) rfl fun A1 D E a0 P a3=>?_;subst E;refine (go 6) (zQ (fun T=>?_) fun T=>?_);apply go 6;obtain ⟨V,s1,J,c⟩:=elx G k;apply go 1;refine zV (ju 3 [s1.sr.v,s1.raw.v,s1.AD.v,s1.coarse.v,iV s1.zS,iV s1.zN,iV s1.zG,iV s1.zJ,iV s1.zE] AV rfl rfl J c rfl rfl agg50 BS) (zl fun b7=>?_);apply go 7;have Z:=t _ (mo c);refine zZ (fun _ h=>h.one 5 zB.Ok.loc rfl c) (Tq (β:=zB) (fun z=>.tuple #[.agg (za z).toArray,iV (g (zB.e s1)).2]) (fun z=>z.e=(g (zB.e s1)).1) (fun z S=>zB.Ok S z) (fun z=>zB.Ok.loc z) wn rfl rfl N.call rfl (fun B r _ A=>N.run s1 B r A.lt (A.at_ 0 _ rfl) (A.at_ 7 _ rfl)) fun p H=>vd 0 rfl (fun S w h=>zB.Ok.wf h) fun I=>?_);refine (go 3) (zl fun b8=>?_);refine (go 11) (zQ (fun q=>?_) fun q=>?_);refine (go 13) (zR fun B n=>?_);have b:(Bs.each g x.e.zA).2=(g s1.e).2:=JK c d.2.2.1 q;exact n.yz x (by rw [b]) (by rw [b,zP q]) (fun h=>h.sel [6,7,8,9] qD rfl);apply go 5;refine zf za ([p]:List zB) wn underlying23 BS rfl rfl rfl rfl qD qD rfl fun U=>zh 6 a ([p]:List zB) AV wn rfl rfl rfl (fun _ n=>(AM AV n 0 rfl)) underlying23 BS rfl rfl qQ rfl fun O F Q a2 W=>zZ (fun _ h=>h.Fw 5 2 zB.Ok.loc rfl rfl) ?_
 have L:∀ y9 ∈ (a++([p]:List zB)),zB.Wf y9:=fun x hx=>(yl.1 hx).elim (u x) fun h=>by rw [yf.1 h]; exact I
 apply go 7;refine zK (vJ (k + 1) (a++([p]:List zB)) (.slice O ((a++([p]:List zB)).length) F) ?_ ?_);exact ⟨qO,L,Hw c d.2.2.1 q H,by rw [uF,List.length_singleton]; omega⟩;omega;refine (go 21) (zR fun B n=>?_);have b:Bs.each g x.e.zA=(a.map zB.e,0):=JT d.2.2.1 qO;exact n.yz (⟨⟨A1,D,a⟩,x.zT⟩:yA) (by rw [b]) (by rw [b]; rfl) (fun h=>h.sel [2,1,0,5] qD rfl)
end
end Go.Proofs.YtgojhpocpajmlaaGreatDoor
