/-
  Functions that tell series and sums, as values.
-/
import Derived.Test.YtffpglgboaigfaaDoorGive
namespace Go.Proofs.YtffpglgboaigfaaDoor
structure WinX where (sr : SlX SerX) (sm : SlX Sum)
namespace Ex
structure WinX.Ok (S : Nat → Prop) (z : WinX) (w : World) : Prop where
  sr : FlatSl S 1 serE (.slice z.sr.A z.sr.l.length z.sr.c) z.sr.l w
  all : ∀ x ∈ z.sr.l, SerX.Ok S x w
  sm : FlatSl S 7 sumE (.slice z.sm.A z.sm.l.length z.sm.c) z.sm.l w
theorem WinX.Ok.loc (x : WinX) : Loc (fun S => WinX.Ok S x) := fun S S' u u' hs hk h => ⟨FlatSl.loc _ _ _ _ S S' u u' hs hk h.sr, fun c hc => SerX.Ok.loc c S S' u u' hs hk (h.all c hc), FlatSl.loc _ _ _ _ S S' u u' hs hk h.sm⟩
structure WinX.Wf (x : WinX) : Prop where
  sr : Ex.Wf x.sr
  sm : Ex.Wf x.sm
  all : ∀ c ∈ x.sr.l, SerX.Wf c
theorem WinX.Ok.wf {S : Nat → Prop} {x : WinX} {w : World} (h : WinX.Ok S x w) : WinX.Wf x := ⟨FlatSl.wf h.sr, FlatSl.wf h.sm, fun c hc => (h.all c hc).wf⟩
@[reducible] def winV (err : Int) (z : WinX) : Value := .tuple #[.slice z.sr.A z.sr.l.length z.sr.c, .slice z.sm.A z.sm.l.length z.sm.c, .int .i64 err]
/-- series that match, and what they came to in a window; an error -/
abbrev Look := List Match → Int → Int → List (List Label × Sum) × Int
def WinX.is (z : WinX) (r : List (List Label × Sum)) : Prop := z.sr.l.map (fun x => x.sr.l) = r.map (·.1) ∧ z.sm.l = r.map (·.2)
/-- a function value that tells them; C: what it holds -/
structure WinFn (P : Program) (f : Nat) (cap : Array Value) (C : (Nat → Prop) → World → Prop) (lk : Look) : Prop where
  call : ∀ vs w, (callFunc f vs).run P w = .ok (.enter f vs) w
  loc : Loc C
  run : ∀ (ms : SlX Match) (a b : Int) (w : World) (P0 : Nat → Prop), (∀ x, P0 x → x < w.heap.size) → FlatSl P0 3 matchE (.slice ms.A ms.l.length ms.c) ms.l w → C P0 w → 0 ≤ a → b ≤ 1000000 →
    Calls P f (#[.slice ms.A ms.l.length ms.c, .int .i64 a, .int .i64 b] ++ cap) w (RetE w P0 (winV (lk ms.l a b).2) (fun z => WinX.is z (lk ms.l a b).1) (fun z S => WinX.Ok S z))
/-- .. cells of no value, in the reference -/
structure RefX where (cs : SlX CellX) (sm : SlX Sum)
structure RefX.Ok (S : Nat → Prop) (z : RefX) (w : World) : Prop where
  cs : FlatSl S 2 cellE (.slice z.cs.A z.cs.l.length z.cs.c) z.cs.l w
  all : ∀ x ∈ z.cs.l, CellX.Ok S x w
  sm : FlatSl S 7 sumE (.slice z.sm.A z.sm.l.length z.sm.c) z.sm.l w
theorem RefX.Ok.loc (x : RefX) : Loc (fun S => RefX.Ok S x) := fun S S' u u' hs hk h => ⟨FlatSl.loc _ _ _ _ S S' u u' hs hk h.cs, fun c hc => CellX.Ok.loc c S S' u u' hs hk (h.all c hc), FlatSl.loc _ _ _ _ S S' u u' hs hk h.sm⟩
structure RefX.Wf (x : RefX) : Prop where
  cs : Ex.Wf x.cs
  sm : Ex.Wf x.sm
  all : ∀ c ∈ x.cs.l, CellX.Wf c
theorem RefX.Ok.wf {S : Nat → Prop} {x : RefX} {w : World} (h : RefX.Ok S x w) : RefX.Wf x := ⟨FlatSl.wf h.cs, FlatSl.wf h.sm, fun c hc => (h.all c hc).wf⟩
@[reducible] def refV (err : Int) (z : RefX) : Value := .tuple #[.slice z.cs.A z.cs.l.length z.cs.c, .slice z.sm.A z.sm.l.length z.sm.c, .int .i64 err]
def RefX.is (z : RefX) (r : List (List Label × Sum)) : Prop := z.cs.l.map (fun x => x.sr.l) = r.map (·.1) ∧ z.sm.l = r.map (·.2)
structure RefFn (P : Program) (f : Nat) (cap : Array Value) (C : (Nat → Prop) → World → Prop) (lk : Look) : Prop where
  call : ∀ vs w, (callFunc f vs).run P w = .ok (.enter f vs) w
  loc : Loc C
  run : ∀ (ms : SlX Match) (a b : Int) (w : World) (P0 : Nat → Prop), (∀ x, P0 x → x < w.heap.size) → FlatSl P0 3 matchE (.slice ms.A ms.l.length ms.c) ms.l w → C P0 w → 0 ≤ a → b ≤ 1000000 →
    Calls P f (#[.slice ms.A ms.l.length ms.c, .int .i64 a, .int .i64 b] ++ cap) w (RetE w P0 (refV (lk ms.l a b).2) (fun z => RefX.is z (lk ms.l a b).1) (fun z S => RefX.Ok S z))
section
variable {P : Program} {N : Nat} {D : List Deferred} {E : Env} {S S' : World → Prop} {Q : Exit → Act → World → Prop} {K : Act → World → Prop} {w0 w w' : World} {M : Fp} {L L' : List Own}
  {ops : Array Oper} {rest : List Oper} {d : Nat} {ty T : TypeId} {pos : String} {aft : Array Edge} {g : Option (Nat × Bool)} {v u : Value} {x y : Operand} {α : Type} {ok : (Nat → Prop) → α → World → Prop} {F G : (Nat → Prop) → World → Prop}
/-- what needs no memory, of what is told -/
theorem l_get {p : Prop} (q : Nat) (hL : L[q]? = some (.pub F)) (hF : ∀ S w, F S w → p) (h : p → WL P N D ops Q rest E (Mem w0 M L)) : WL P N D ops Q rest E (Mem w0 M L) := fun w hS => h (hF _ _ (hS.pubAt hL)) w hS
theorem c_get {cd : Code} {p : Prop} (q : Nat) (hL : L[q]? = some (.pub F)) (hF : ∀ S w, F S w → p) (h : p → WC P N D cd Q E (Mem w0 M L)) : WC P N D cd Q E (Mem w0 M L) := fun w hS => h (hF _ _ (hS.pubAt hL)) w hS
theorem l_callE0 {β : Type} {f : Nat} {args : Array Operand} {ts : Array TypeId} {vs : List Value} (mk : β → Value) (pure : β → Prop) (F : β → (Nat → Prop) → World → Prop) (hl : ∀ z, Loc (F z)) (hw : Want N D ops E g true) (hargs : evs E args.toList = some vs)
    (hcall : ∀ vs w, (callFunc f vs).run P w = .ok (.enter f vs) w) (hd : Nat.blt d N = true)
    (hc : ∀ w Pb, Mem w0 M L w → Pubs w0 M L w Pb → Calls P f vs.toArray w (RetE w Pb mk pure F))
    (h : ∀ z, pure z → WL P N D ops Q rest ((d, mk z) :: E) (Mem w0 M (.pub (F z) :: L))) :
    WL P N D ops Q (⟨some d, .call { callee := .value (.func f), args := args, argTypes := ts }, ty, pos, aft, g⟩ :: rest) E (Mem w0 M L) :=
  l_callE mk pure F hl hw (cap := #[]) (by rfl) hargs hcall hd (fun w Pb hM pp => by simpa only [Array.append_empty] using hc w Pb hM pp) h
theorem Mem.okAny {α : Type} {ok : (Nat → Prop) → α → World → Prop} {x : α} (h : Mem w0 M L w) (hl : ∀ x, Loc (fun S => ok S x)) (hx : ∀ S w, ok S x w) : Mem w0 M (okP ok x :: L) w := h.note (hl x) fun _ _ => hx _ _
theorem Mem.winX (h : Mem w0 M L w) (q : Nat) {e : WinX} (hi : L[q]? = some (.pub (fun S => WinX.Ok S e))) : Mem w0 M (slP 1 serE (.slice e.sr.A e.sr.l.length e.sr.c) e.sr.l :: allP SerX.Ok e.sr.l :: slP 7 sumE (.slice e.sm.A e.sm.l.length e.sm.c) e.sm.l :: L) w := by
  have h1 := h.imp q hi (FlatSl.loc 7 sumE _ e.sm.l) fun _ hF => WinX.Ok.sm hF
  have h2 := h1.imp (q + 1) hi (all_loc SerX.Ok.loc e.sr.l) fun _ hF => WinX.Ok.all hF
  exact h2.imp (q + 2) hi (FlatSl.loc 1 serE _ e.sr.l) fun _ hF => WinX.Ok.sr hF
theorem Mem.refX (h : Mem w0 M L w) (q : Nat) {e : RefX} (hi : L[q]? = some (.pub (fun S => RefX.Ok S e))) : Mem w0 M (slP 2 cellE (.slice e.cs.A e.cs.l.length e.cs.c) e.cs.l :: allP CellX.Ok e.cs.l :: slP 7 sumE (.slice e.sm.A e.sm.l.length e.sm.c) e.sm.l :: L) w := by
  have h1 := h.imp q hi (FlatSl.loc 7 sumE _ e.sm.l) fun _ hF => RefX.Ok.sm hF
  have h2 := h1.imp (q + 1) hi (all_loc CellX.Ok.loc e.cs.l) fun _ hF => RefX.Ok.all hF
  exact h2.imp (q + 2) hi (FlatSl.loc 2 cellE _ e.cs.l) fun _ hF => RefX.Ok.cs hF
/-- one more of which it is told -/
theorem Mem.allSnoc {l : List α} {a : α} (h : Mem w0 M L w) (q q2 : Nat) (hl : ∀ x, Loc (fun S => ok S x)) (hi : L[q]? = some (allP ok l)) (hi2 : L[q2]? = some (okP ok a)) : Mem w0 M (allP ok (l ++ [a]) :: L) w :=
  h.note (all_loc hl _) fun Pb pp x hx => by
    rcases List.mem_append.1 hx with h1 | h1
    · exact pp.at_ q _ hi x h1
    · rw [List.mem_singleton.1 h1]; exact pp.at_ q2 _ hi2
/-- one more series -/
theorem Mem.allSer {l : List SerX} {sA : Option Addr} {sc : Nat} {sl : List Label} (h : Mem w0 M L w) (q q2 : Nat) (hi : L[q]? = some (allP SerX.Ok l)) (hi2 : L[q2]? = some (slP 2 labelE (.slice sA sl.length sc) sl)) : Mem w0 M (allP SerX.Ok (l ++ [SerX.mk ⟨sA, sc, sl⟩]) :: L) w :=
  h.note (all_loc SerX.Ok.loc _) fun Pb pp x hx => by
    rcases List.mem_append.1 hx with h1 | h1
    · exact pp.at_ q _ hi x h1
    · obtain rfl : x = SerX.mk ⟨sA, sc, sl⟩ := by simpa using h1
      exact ⟨pp.at_ q2 _ hi2⟩
end
end Ex
end Go.Proofs.YtffpglgboaigfaaDoor
