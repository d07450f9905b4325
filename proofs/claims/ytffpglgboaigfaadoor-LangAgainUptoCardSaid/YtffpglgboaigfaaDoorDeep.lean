/-
  Slices whose elements hold slices: where they lie is part of what is told, so that such elements are read as plain ones.
-/
import Derived.Test.YtffpglgboaigfaaDoorStar
namespace Go.Proofs.YtffpglgboaigfaaDoor
/-- a slice as it lies, and what it holds -/
structure SlX (α : Type) where (A : Option Addr) (c : Nat) (l : List α)
structure LineX where (sr : SlX Label) (sm : SlX Sample)
structure CellX where (sr : SlX Label) (value : Int)
structure SerX where (sr : SlX Label)
structure ValX where (vec : Bool) (n : Int) (cells : SlX CellX)
inductive ExprX where
  | mk (kind n range : Int) (word : ByteArray) (ms : SlX Match) (by_ : SlX ByteArray) (kids : SlX ExprX)
namespace ExprX
def kind : ExprX → Int | .mk k _ _ _ _ _ _ => k
def n : ExprX → Int | .mk _ n _ _ _ _ _ => n
def range : ExprX → Int | .mk _ _ r _ _ _ _ => r
def word : ExprX → ByteArray | .mk _ _ _ w _ _ _ => w
def ms : ExprX → SlX Match | .mk _ _ _ _ m _ _ => m
def by_ : ExprX → SlX ByteArray | .mk _ _ _ _ _ b _ => b
def kids : ExprX → SlX ExprX | .mk _ _ _ _ _ _ k => k
theorem kid_lt {e k : ExprX} (h : k ∈ e.kids.l) : SizeOf.sizeOf k < SizeOf.sizeOf e := by
  cases e with
  | mk a b c d f g ks =>
    have h1 : SizeOf.sizeOf k < SizeOf.sizeOf ks.l := List.sizeOf_lt_of_mem h
    have h2 : SizeOf.sizeOf ks.l < SizeOf.sizeOf ks := by cases ks; simp; omega
    have h3 : SizeOf.sizeOf ks < SizeOf.sizeOf (ExprX.mk a b c d f g ks) := by simp; omega
    omega
end ExprX
/-- what they are, wherever they lie -/
structure Line where (sr : List Label) (sm : List Sample)
structure Cell where (sr : List Label) (value : Int) deriving DecidableEq
inductive Expr where
  | mk (kind n range : Int) (word : ByteArray) (ms : List Match) (by_ : List ByteArray) (kids : List Expr)
namespace Expr
def kind : Expr → Int | .mk k _ _ _ _ _ _ => k
def n : Expr → Int | .mk _ n _ _ _ _ _ => n
def range : Expr → Int | .mk _ _ r _ _ _ _ => r
def word : Expr → ByteArray | .mk _ _ _ w _ _ _ => w
def ms : Expr → List Match | .mk _ _ _ _ m _ _ => m
def by_ : Expr → List ByteArray | .mk _ _ _ _ _ b _ => b
def kids : Expr → List Expr | .mk _ _ _ _ _ _ k => k
theorem kid_lt {e k : Expr} (h : k ∈ e.kids) : SizeOf.sizeOf k < SizeOf.sizeOf e := by
  cases e with
  | mk a b c d f g ks =>
    have h1 : SizeOf.sizeOf k < SizeOf.sizeOf ks := List.sizeOf_lt_of_mem h
    have h3 : SizeOf.sizeOf ks < SizeOf.sizeOf (Expr.mk a b c d f g ks) := by simp; omega
    omega
end Expr
def LineX.e (x : LineX) : Line := ⟨x.sr.l, x.sm.l⟩
def CellX.e (x : CellX) : Cell := ⟨x.sr.l, x.value⟩
/-- a number, or cells -/
structure Val where (vec : Bool) (n : Int) (cells : List Cell) deriving DecidableEq
def ValX.e (x : ValX) : Val := ⟨x.vec, x.n, x.cells.l.map CellX.e⟩
mutual
def ExprX.e : ExprX → Expr
  | .mk k n r w ms bs ks => .mk k n r w ms.l bs.l (ExprX.es ks.l)
def ExprX.es : List ExprX → List Expr
  | [] => []
  | x :: xs => ExprX.e x :: ExprX.es xs
end
theorem ExprX.es_map : ∀ l, ExprX.es l = l.map ExprX.e
  | [] => rfl
  | x :: xs => by rw [ExprX.es, List.map_cons, ExprX.es_map xs]
theorem ExprX.e_eq : ∀ (x : ExprX), x.e = .mk x.kind x.n x.range x.word x.ms.l x.by_.l (x.kids.l.map ExprX.e)
  | .mk .. => by rw [ExprX.e, ExprX.es_map]; rfl
namespace Ex
@[reducible] def SlX.v {α : Type} (s : SlX α) : Value := .slice s.A s.l.length s.c
@[reducible] def lineE (x : LineX) : List Value := [.slice x.sr.A x.sr.l.length x.sr.c, .slice x.sm.A x.sm.l.length x.sm.c]
@[reducible] def cellE (x : CellX) : List Value := [.slice x.sr.A x.sr.l.length x.sr.c, .int .i64 x.value]
@[reducible] def serE (x : SerX) : List Value := [.slice x.sr.A x.sr.l.length x.sr.c]
@[reducible] def exprE (x : ExprX) : List Value := [.int .i64 x.kind, .int .i64 x.n, .int .i64 x.range, .string x.word, .slice x.ms.A x.ms.l.length x.ms.c, .slice x.by_.A x.by_.l.length x.by_.c, .slice x.kids.A x.kids.l.length x.kids.c]
@[reducible] def valE (x : ValX) : List Value := [.bool x.vec, .int .i64 x.n, .slice x.cells.A x.cells.l.length x.cells.c]
theorem encValX : Enc valE 3 := .of (fun _ => rfl) (fun _ => rfl) rfl
theorem encLineX : Enc lineE 2 := .of (fun _ => rfl) (fun _ => rfl) rfl
theorem encCellX : Enc cellE 2 := .of (fun _ => rfl) (fun _ => rfl) rfl
theorem encSerX : Enc serE 1 := .of (fun _ => rfl) (fun _ => rfl) rfl
theorem encExprX : Enc exprE 7 := .of (fun _ => rfl) (fun _ => rfl) rfl
/-- a slice that lies as one may -/
structure Wf {α : Type} (s : SlX α) : Prop where
  le : s.l.length ≤ s.c
  max : s.c ≤ 9223372036854775807
  ad : s.l ≠ [] → ∃ ad, s.A = some ad
theorem FlatSl.wf {α : Type} {S : Nat → Prop} {k : Nat} {enc : α → List Value} {s : SlX α} {w : World} (h : FlatSl S k enc (.slice s.A s.l.length s.c) s.l w) : Wf s := by
  obtain ⟨A, c, e, h1, h2, h3⟩ := h.form
  injection e with e1 e2 e3
  subst e1 e3
  exact ⟨h1, h2, h3⟩
theorem FlatSl.x {α : Type} {S : Nat → Prop} {k : Nat} {enc : α → List Value} {v : Value} {l : List α} {w : World} (h : FlatSl S k enc v l w) : ∃ s : SlX α, s.l = l ∧ v = .slice s.A s.l.length s.c := by
  obtain ⟨A, c, e, h1, h2, h3⟩ := h.form
  exact ⟨⟨A, c, l⟩, rfl, e⟩
def okLabels (l : List Label) : Prop := ∀ x ∈ l, x.key.size ≤ 9223372036854775807 ∧ x.val.size ≤ 9223372036854775807
/-- the strings of an expression are no longer than strings may be -/
structure ExprX.Str (e : ExprX) : Prop where
  word : e.word.size ≤ 9223372036854775807
  ms : ∀ x ∈ e.ms.l, x.key.size ≤ 9223372036854775807 ∧ x.val.size ≤ 9223372036854775807
  by_ : ∀ x ∈ e.by_.l, x.size ≤ 9223372036854775807
structure LineX.Ok (S : Nat → Prop) (x : LineX) (w : World) : Prop where
  str : okLabels x.sr.l
  sr : FlatSl S 2 labelE (.slice x.sr.A x.sr.l.length x.sr.c) x.sr.l w
  sm : FlatSl S 2 sampleE (.slice x.sm.A x.sm.l.length x.sm.c) x.sm.l w
structure CellX.Ok (S : Nat → Prop) (x : CellX) (w : World) : Prop where
  sr : FlatSl S 2 labelE (.slice x.sr.A x.sr.l.length x.sr.c) x.sr.l w
structure ValX.Ok (S : Nat → Prop) (x : ValX) (w : World) : Prop where
  cells : FlatSl S 2 cellE (.slice x.cells.A x.cells.l.length x.cells.c) x.cells.l w
  all : ∀ c ∈ x.cells.l, CellX.Ok S c w
structure SerX.Ok (S : Nat → Prop) (x : SerX) (w : World) : Prop where
  sr : FlatSl S 2 labelE (.slice x.sr.A x.sr.l.length x.sr.c) x.sr.l w
inductive ExprX.Ok (S : Nat → Prop) : ExprX → World → Prop where
  | mk {e : ExprX} {w : World} (ms : FlatSl S 3 matchE (.slice e.ms.A e.ms.l.length e.ms.c) e.ms.l w) (by_ : FlatSl S 1 strE (.slice e.by_.A e.by_.l.length e.by_.c) e.by_.l w)
    (kids : FlatSl S 7 exprE (.slice e.kids.A e.kids.l.length e.kids.c) e.kids.l w) (all : ∀ k ∈ e.kids.l, ExprX.Ok S k w) (str : ExprX.Str e) : ExprX.Ok S e w
inductive ExprX.Wf : ExprX → Prop where
  | mk {e : ExprX} (ms : Ex.Wf e.ms) (by_ : Ex.Wf e.by_) (kids : Ex.Wf e.kids) (all : ∀ k ∈ e.kids.l, ExprX.Wf k) (str : ExprX.Str e) : ExprX.Wf e
theorem LineX.Ok.loc (x : LineX) : Loc (fun S => LineX.Ok S x) := fun S S' u u' hs hk h => ⟨h.str, FlatSl.loc _ _ _ _ S S' u u' hs hk h.sr, FlatSl.loc _ _ _ _ S S' u u' hs hk h.sm⟩
theorem CellX.Ok.loc (x : CellX) : Loc (fun S => CellX.Ok S x) := fun S S' u u' hs hk h => ⟨FlatSl.loc _ _ _ _ S S' u u' hs hk h.sr⟩
theorem SerX.Ok.loc (x : SerX) : Loc (fun S => SerX.Ok S x) := fun S S' u u' hs hk h => ⟨FlatSl.loc _ _ _ _ S S' u u' hs hk h.sr⟩
theorem ValX.Ok.loc (x : ValX) : Loc (fun S => ValX.Ok S x) := fun S S' u u' hs hk h => ⟨FlatSl.loc _ _ _ _ S S' u u' hs hk h.cells, fun c hc => CellX.Ok.loc c S S' u u' hs hk (h.all c hc)⟩
theorem ExprX.Ok.loc (x : ExprX) : Loc (fun S => ExprX.Ok S x) := fun S S' u u' hs hk h => by
  induction h with
  | mk ms bs kids _ str ih => exact .mk (FlatSl.loc _ _ _ _ S S' _ u' hs hk ms) (FlatSl.loc _ _ _ _ S S' _ u' hs hk bs) (FlatSl.loc _ _ _ _ S S' _ u' hs hk kids) (fun k hk' => ih k hk' hk) str
theorem ExprX.Ok.wf {S : Nat → Prop} {x : ExprX} {w : World} (h : ExprX.Ok S x w) : ExprX.Wf x := by
  induction h with
  | mk ms bs kids _ str ih => exact .mk (FlatSl.wf ms) (FlatSl.wf bs) (FlatSl.wf kids) ih str
theorem ExprX.Wf.ms {e : ExprX} (h : ExprX.Wf e) : Ex.Wf e.ms := by cases h; assumption
theorem ExprX.Wf.by_ {e : ExprX} (h : ExprX.Wf e) : Ex.Wf e.by_ := by cases h; assumption
theorem ExprX.Wf.kids {e : ExprX} (h : ExprX.Wf e) : Ex.Wf e.kids := by cases h; assumption
theorem ExprX.Wf.all {e : ExprX} (h : ExprX.Wf e) : ∀ k ∈ e.kids.l, ExprX.Wf k := by cases h; assumption
theorem ExprX.Wf.str {e : ExprX} (h : ExprX.Wf e) : ExprX.Str e := by cases h; assumption
theorem ExprX.Ok.ms {S : Nat → Prop} {e : ExprX} {w : World} (h : ExprX.Ok S e w) : FlatSl S 3 matchE (.slice e.ms.A e.ms.l.length e.ms.c) e.ms.l w := by cases h; assumption
theorem ExprX.Ok.by_ {S : Nat → Prop} {e : ExprX} {w : World} (h : ExprX.Ok S e w) : FlatSl S 1 strE (.slice e.by_.A e.by_.l.length e.by_.c) e.by_.l w := by cases h; assumption
theorem ExprX.Ok.kids {S : Nat → Prop} {e : ExprX} {w : World} (h : ExprX.Ok S e w) : FlatSl S 7 exprE (.slice e.kids.A e.kids.l.length e.kids.c) e.kids.l w := by cases h; assumption
theorem ExprX.Ok.all {S : Nat → Prop} {e : ExprX} {w : World} (h : ExprX.Ok S e w) : ∀ k ∈ e.kids.l, ExprX.Ok S k w := by cases h; assumption
theorem recX {C : ExprX → Prop} (h : ∀ e, (∀ k : ExprX, SizeOf.sizeOf k < SizeOf.sizeOf e → C k) → C e) (e : ExprX) : C e := by
  suffices ∀ n (e : ExprX), SizeOf.sizeOf e < n → C e from this _ e (Nat.lt_succ_self _)
  intro n
  induction n with
  | zero => intro e he; omega
  | succ n ih => intro e he; exact h e fun k hk => ih k (by omega)
structure LineX.Wf (x : LineX) : Prop where
  str : okLabels x.sr.l
  sr : Ex.Wf x.sr
  sm : Ex.Wf x.sm
structure CellX.Wf (x : CellX) : Prop where
  sr : Ex.Wf x.sr
structure ValX.Wf (x : ValX) : Prop where
  cells : Ex.Wf x.cells
  all : ∀ c ∈ x.cells.l, CellX.Wf c
structure SerX.Wf (x : SerX) : Prop where
  sr : Ex.Wf x.sr
theorem LineX.Ok.wf {S : Nat → Prop} {x : LineX} {w : World} (h : LineX.Ok S x w) : LineX.Wf x := ⟨h.str, FlatSl.wf h.sr, FlatSl.wf h.sm⟩
theorem CellX.Ok.wf {S : Nat → Prop} {x : CellX} {w : World} (h : CellX.Ok S x w) : CellX.Wf x := ⟨FlatSl.wf h.sr⟩
theorem ValX.Ok.wf {S : Nat → Prop} {x : ValX} {w : World} (h : ValX.Ok S x w) : ValX.Wf x := ⟨FlatSl.wf h.cells, fun c hc => (h.all c hc).wf⟩
theorem SerX.Ok.wf {S : Nat → Prop} {x : SerX} {w : World} (h : SerX.Ok S x w) : SerX.Wf x := ⟨FlatSl.wf h.sr⟩
/-! ## What is told of one, and of all -/
def okP {α : Type} (ok : (Nat → Prop) → α → World → Prop) (x : α) : Own := .pub (fun S => ok S x)
def allP {α : Type} (ok : (Nat → Prop) → α → World → Prop) (l : List α) : Own := .pub (fun S w => ∀ x ∈ l, ok S x w)
theorem all_loc {α : Type} {ok : (Nat → Prop) → α → World → Prop} (hl : ∀ x, Loc (fun S => ok S x)) (l : List α) : Loc (fun S w => ∀ x ∈ l, ok S x w) := fun S S' u u' hs hk h x hx => hl x S S' u u' hs hk (h x hx)
/-- the cells at an address, for good -/
def CelAt (S : Nat → Prop) (ad : Addr) (cs : List Value) (w : World) : Prop := S ad.block ∧ ∀ (j : Nat) (u : Value), cs[j]? = some u → w.cell? (ad.add j) = some u
def celP (ad : Addr) (cs : List Value) : Own := .pub (fun S => CelAt S ad cs)
theorem cell_keep {ad : Addr} {w w' : World} (h : w'.heap[ad.block]? = w.heap[ad.block]?) : w'.cell? ad = w.cell? ad := by
  unfold World.cell?; rw [h]
theorem CelAt.loc (ad : Addr) (cs : List Value) : Loc (fun S => CelAt S ad cs) := fun S S' u u' hs hk h => ⟨hs _ h.1, fun j v hv => by
  have : u'.heap[(ad.add j).block]? = u.heap[(ad.add j).block]? := by rw [add_block]; exact hk _ h.1
  rw [cell_keep this]; exact h.2 j v hv⟩
section
variable {P : Program} {N : Nat} {D : List Deferred} {E : Env} {S S' : World → Prop} {Q : Exit → Act → World → Prop} {K : Act → World → Prop} {w0 w w' : World} {M : Fp} {L L' : List Own}
  {ops : Array Oper} {rest : List Oper} {d : Nat} {ty T : TypeId} {pos : String} {aft : Array Edge} {g : Option (Nat × Bool)} {v u : Value} {x y : Operand} {α : Type} {ok : (Nat → Prop) → α → World → Prop} {F G : (Nat → Prop) → World → Prop}
theorem Mem.drop1 {o : Own} (h : Mem w0 M (o :: L) w) : Mem w0 M L w := h.emb (· + 1) (fun i j e => by omega) fun j o hj => by simpa using hj
theorem Mem.imp (h : Mem w0 M L w) (q : Nat) (hi : L[q]? = some (.pub F)) (hG : Loc G) (f : ∀ S, F S w → G S w) : Mem w0 M (.pub G :: L) w := h.note hG fun _ pp => f _ (pp.at_ q _ hi)
theorem c_opn {cd : Code} (f : ∀ w, S w → S' w) (h : WC P N D cd Q E S') : WC P N D cd Q E S := fun w hS => h w (f w hS)
theorem l_opn (f : ∀ w, S w → S' w) (h : WL P N D ops Q rest E S') : WL P N D ops Q rest E S := fun w hS => h w (f w hS)
theorem q_opn (f : ∀ w, S w → S' w) (f' : ∀ w, S' w → S w) (h : WQ P N D ops K rest E S') : WQ P N D ops K rest E S := by
  have : S = S' := funext fun w => propext ⟨f w, f' w⟩
  rw [this]; exact h
/-- one of all -/
theorem Mem.one (h : Mem w0 M L w) (q : Nat) {l : List α} {i : Nat} {a : α} (hl : ∀ x, Loc (fun S => ok S x)) (hi : L[q]? = some (allP ok l)) (ha : l[i]? = some a) : Mem w0 M (okP ok a :: L) w :=
  h.imp q hi (hl a) fun _ hF => hF a (List.mem_of_getElem? ha)
/-- what an expression holds -/
theorem Mem.exprX (h : Mem w0 M L w) (q : Nat) {e : ExprX} (hi : L[q]? = some (okP ExprX.Ok e)) :
    Mem w0 M (slP 3 matchE (.slice e.ms.A e.ms.l.length e.ms.c) e.ms.l :: slP 1 strE (.slice e.by_.A e.by_.l.length e.by_.c) e.by_.l :: slP 7 exprE (.slice e.kids.A e.kids.l.length e.kids.c) e.kids.l :: allP ExprX.Ok e.kids.l :: L) w := by
  have h1 := h.imp q hi (all_loc ExprX.Ok.loc e.kids.l) fun _ hF => ExprX.Ok.all hF
  have h2 := h1.imp (q + 1) hi (FlatSl.loc 7 exprE _ e.kids.l) fun _ hF => ExprX.Ok.kids hF
  have h3 := h2.imp (q + 2) hi (FlatSl.loc 1 strE _ e.by_.l) fun _ hF => ExprX.Ok.by_ hF
  exact h3.imp (q + 3) hi (FlatSl.loc 3 matchE _ e.ms.l) fun _ hF => ExprX.Ok.ms hF
theorem Mem.lineX (h : Mem w0 M L w) (q : Nat) {e : LineX} (hi : L[q]? = some (okP LineX.Ok e)) :
    Mem w0 M (slP 2 labelE (.slice e.sr.A e.sr.l.length e.sr.c) e.sr.l :: slP 2 sampleE (.slice e.sm.A e.sm.l.length e.sm.c) e.sm.l :: L) w := by
  have h1 := h.imp q hi (FlatSl.loc 2 sampleE _ e.sm.l) fun _ hF => LineX.Ok.sm hF
  exact h1.imp (q + 1) hi (FlatSl.loc 2 labelE _ e.sr.l) fun _ hF => LineX.Ok.sr hF
theorem Mem.cellX (h : Mem w0 M L w) (q : Nat) {e : CellX} (hi : L[q]? = some (okP CellX.Ok e)) : Mem w0 M (slP 2 labelE (.slice e.sr.A e.sr.l.length e.sr.c) e.sr.l :: L) w :=
  h.imp q hi (FlatSl.loc 2 labelE _ e.sr.l) fun _ hF => CellX.Ok.sr hF
theorem Mem.valX (h : Mem w0 M L w) (q : Nat) {e : ValX} (hi : L[q]? = some (okP ValX.Ok e)) : Mem w0 M (slP 2 cellE (.slice e.cells.A e.cells.l.length e.cells.c) e.cells.l :: allP CellX.Ok e.cells.l :: L) w := by
  have h1 := h.imp q hi (all_loc CellX.Ok.loc e.cells.l) fun _ hF => ValX.Ok.all hF
  exact h1.imp (q + 1) hi (FlatSl.loc 2 cellE _ e.cells.l) fun _ hF => ValX.Ok.cells hF
theorem Mem.serX (h : Mem w0 M L w) (q : Nat) {e : SerX} (hi : L[q]? = some (okP SerX.Ok e)) : Mem w0 M (slP 2 labelE (.slice e.sr.A e.sr.l.length e.sr.c) e.sr.l :: L) w :=
  h.imp q hi (FlatSl.loc 2 labelE _ e.sr.l) fun _ hF => SerX.Ok.sr hF
theorem Mem.drop4' {a b c d : Own} (h : Mem w0 M (a :: b :: c :: d :: L) w) : Mem w0 M L w := h.drop1.drop1.drop1.drop1
/-- a load from an address -/
theorem r_cel (q : Nat) {ad : Addr} {j : Nat} {cs : List Value} (hx : ev E x = some (.pointer (some ((ad.add 0).add j)))) (hL : L[q]? = some (celP ad cs)) (hu : cs[j]? = some u) (hf : flatT P T = true) : Runs P N D E (Mem w0 M L) (.load T x) ty u :=
  r_load1 hx hf fun _ h => (h.pubAt hL).2 j u hu
theorem Mem.fact {F : Prop} (hF : F) (h : Mem w0 M L w) : Mem w0 M (.pub (fun _ _ => F) :: L) w := h.note (F := fun _ _ => F) (fun _ _ _ _ _ _ h => h) fun _ _ => hF
theorem c_fact {F : Prop} {cd : Code} (h : F → WC P N D cd Q E (Mem w0 M L)) : WC P N D cd Q E (Mem w0 M (.pub (fun _ _ => F) :: L)) := fun w hS => by
  obtain ⟨Pb, pp⟩ := hS.pb
  exact h (pp.at_ 0 _ rfl) w hS.drop1
theorem rv_v {op : Op} (h : u = v) (r : Runs P N D E S op ty u) : Runs P N D E S op ty v := h ▸ r
theorem rv_b {op : Op} {b c : Bool} (h : b = c) (r : Runs P N D E S op ty (.bool b)) : Runs P N D E S op ty (.bool c) := h ▸ r
theorem cel_of {Sb : Nat → Prop} {k len c : Nat} {enc : α → List Value} {A : Option Addr} {l : List α} {ad : Addr} {i : Nat} {a : α} (h : FlatSl Sb k enc (.slice A len c) l w) (hA : A = some ad) (hi : l[i]? = some a) : CelAt Sb (ad.add (i * k)) (enc a) w := by
  obtain ⟨A', c', e, h1, h2, h3⟩ := h
  injection e with e1 e2 e3
  subst e1
  obtain ⟨ad', e, hb, hc⟩ := h3 (by intro e; subst e; cases hi)
  rw [hA] at e; injection e with e; subst e
  exact ⟨by rw [add_block]; exact hb, fun j u hu => hc i a hi j u hu⟩
/-! ## A block that is written, and what is only read -/
theorem Mem.ptrDats {P0 : Nat → Prop} {p : Nat} {cs : List Value} (hp : w.heap[p]? = some (.cells cs.toArray T (0, 0))) (hP : ∀ b, P0 b → b < w.heap.size ∧ b ≠ p) (h : datsL P0 L w) (hq : L.all Own.isPub = true := by rfl) : Mem w ⟨(· = p), P0⟩ (.blk p cs T :: L) w := by
  have hm := Mem.args (w := w) (P0 := P0) (fun b hb => (hP b hb).1) fun i o hi => h.at i o hi
  have hpub : ∀ (i : Nat) (o : Own), L[i]? = some o → ∃ F, o = .pub F := fun i o hi => by
    have := List.all_eq_true.1 hq o (List.mem_of_getElem? hi)
    cases o <;> first | exact ⟨_, rfl⟩ | cases this
  refine ⟨Fr.refl _ _, fun i o hi => ?_, fun i j o o' hi hj hij hmm b hb hb' => ?_, P0, fun b hb => .inl hb, fun b hb => (hP b hb).1, fun i o hi hmu b hb hf => ?_, fun i F hi => ?_⟩
  · cases i with
    | zero =>
      obtain rfl : Own.blk p cs T = o := by simpa using hi
      exact ⟨hp, fun b hb => by have hb : b = p := hb; subst hb; exact (Array.getElem?_eq_some_iff.1 hp).1, fun _ b hb => .inr hb⟩
    | succ i =>
      have hi : L[i]? = some o := by simpa using hi
      obtain ⟨h1, h2, h3⟩ := hm.ok i o hi
      obtain ⟨F, rfl⟩ := hpub i o hi
      exact ⟨h1, h2, fun e => by cases e⟩
  · cases i with
    | zero =>
      cases j with
      | zero => exact hij rfl
      | succ j =>
        have hj : L[j]? = some o' := by simpa using hj
        obtain ⟨F, rfl⟩ := hpub j o' hj
        exact hb'
    | succ i =>
      have hi : L[i]? = some o := by simpa using hi
      obtain ⟨F, rfl⟩ := hpub i o hi
      exact hb
  · cases i with
    | zero =>
      obtain rfl : Own.blk p cs T = o := by simpa using hi
      exact (hP b hb).2 hf
    | succ i =>
      have hi : L[i]? = some o := by simpa using hi
      obtain ⟨F, rfl⟩ := hpub i o hi
      cases hmu
  · cases i with
    | zero => simp at hi
    | succ i =>
      have hi : L[i]? = some (.pub F) := by simpa using hi
      exact (h.at i _ hi).2.2.2 F rfl
/-- hands back a value; a block turns -/
def RetM (w : World) (p : Nat) (T : TypeId) (v : Value) (cs : List Value) : Ending → World → Prop := fun e w' => e = .returned v ∧ Fr (· = p) w w' ∧ w'.heap[p]? = some (.cells cs.toArray T (0, 0))
theorem l_callM (i : Nat) {f p : Nat} {args : Array Operand} {ts : Array TypeId} {vs cs0 cs' : List Value} (hw : Want N D ops E g true) (hL : L[i]? = some (.blk p cs0 T)) (hargs : evs E args.toList = some vs)
    (hcall : ∀ vs w, (callFunc f vs).run P w = .ok (.enter f vs) w) (hd : Nat.blt d N = true)
    (hc : ∀ w Pb, Mem w0 M L w → Pubs w0 M L w Pb → Calls P f vs.toArray w (RetM w p T v cs'))
    (h : WL P N D ops Q rest ((d, v) :: E) (Mem w0 M (L.set i (.blk p cs' T)))) :
    WL P N D ops Q (⟨some d, .call { callee := .value (.func f), args := args, argTypes := ts }, ty, pos, aft, g⟩ :: rest) E (Mem w0 M L) :=
  l_call (Φ := fun u w' => u = v ∧ Mem w0 M (L.set i (.blk p cs' T)) w') hw (by rfl) hargs hcall hd (fun w hS => by
    obtain ⟨Pb, pp⟩ := hS.pb
    have hc' := hc w Pb hS pp
    simp only [Array.append_empty]
    refine hc'.mono fun e w' ⟨he, hf, hh⟩ => ⟨v, he, rfl, ?_⟩
    have hp : p < w.heap.size := (hS.ok i _ hL).2.1 p rfl
    exact hS.upd (o := .blk p cs0 T) (o' := .blk p cs' T) hL rfl hf hh fun b hb => ⟨.inl hb, by have hb' : b = p := hb; subst hb'; exact Nat.lt_of_lt_of_le hp hf.size⟩) (fun u w hw a ha => by obtain ⟨rfl, hm⟩ := hw; exact h w hm a ha)
theorem Mem.retM {w1 : World} {p : Nat} {P0 : Nat → Prop} {cs cs' : List Value} (h : Mem w ⟨(· = p), P0⟩ L w1) (i : Nat) (hL : L[i]? = some (.blk p cs T)) (hu : u = v) (hc : cs = cs') : RetM w p T v cs' (.returned u) w1 := by
  subst hu hc
  exact ⟨rfl, h.fr, h.blk hL⟩
/-- a block that is not written any more -/
theorem Mem.sealB {i b : Nat} {cs : List Value} (h : Mem w0 M L w) (hi : L[i]? = some (.blk b cs T)) (hM : M.m = no) : Mem w0 M (L.set i (celP ⟨b, 0, none⟩ cs)) w := by
  refine h.seal hi rfl (fun b' hb => ?_) (CelAt.loc _ _) fun Pb pp => ⟨.inr rfl, fun j u hu => ?_⟩
  · rcases (h.ok i _ hi).2.2 rfl b' hb with h1 | h1
    · exact .inl h1
    · rw [hM] at h1; exact h1.elim
  · rw [add_lit]
    have := h.cell (j := 0 + j) hi
    rw [this]; simpa using hu
theorem l_sealB (i : Nat) {b : Nat} {cs : List Value} (hi : L[i]? = some (.blk b cs T)) (hM : M.m = no) (h : WL P N D ops Q rest E (Mem w0 M (L.set i (celP ⟨b, 0, none⟩ cs)))) : WL P N D ops Q rest E (Mem w0 M L) :=
  fun w hS => h w (hS.sealB hi hM)
end
end Ex
end Go.Proofs.YtffpglgboaigfaaDoor
