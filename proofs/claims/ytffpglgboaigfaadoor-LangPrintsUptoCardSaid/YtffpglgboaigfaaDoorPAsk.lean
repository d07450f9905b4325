/-
  Lines, and what is asked of them, in plain terms.
-/
import Derived.Test.YtffpglgboaigfaaDoorPEval
import Derived.Test.YtffpglgboaigfaaDoorPRoll
namespace Go.Proofs.YtffpglgboaigfaaDoor
namespace Mn
open Ex
/-! ## Right lines -/
structure OkLines (l : List LineX) : Prop where
  len : l.length ≤ 8
  sr : ∀ x ∈ l, Names.wrong x.sr.l = 0
  sm : ∀ x ∈ l, (Codec.wrong x.sm.l).err = 0
  inc : l.Pairwise fun x y => Names.compare x.sr.l y.sr.l < 0
theorem from_ok : ∀ (l : List LineX) (i : Nat) (p : Option (List Label)), (linesFrom i p l).err = 0 → (∀ x ∈ l, Names.wrong x.sr.l = 0 ∧ (Codec.wrong x.sm.l).err = 0) ∧ l.Pairwise (fun x y => Names.compare x.sr.l y.sr.l < 0) ∧ (∀ q, p = some q → ∀ x ∈ l, Names.compare q x.sr.l < 0)
  | [], _, _, _ => ⟨by simp, List.Pairwise.nil, by simp⟩
  | x :: r, i, p, h => by
    rw [linesFrom] at h
    split at h
    · rename_i h1; exact absurd h h1
    rename_i h1
    split at h
    · rename_i h2; exact absurd h h2
    rename_i h2
    split at h
    · cases h
    rename_i h3
    obtain ⟨a1, a2, a3⟩ := from_ok r (i + 1) (some x.sr.l) h
    have h4 := a3 _ rfl
    refine ⟨fun y hy => ?_, List.pairwise_cons.2 ⟨h4, a2⟩, ?_⟩
    · rcases List.mem_cons.1 hy with rfl | hy
      · exact ⟨Classical.not_not.1 h1, Classical.not_not.1 h2⟩
      · exact a1 y hy
    · rintro q rfl y hy
      have h5 : Names.compare q x.sr.l < 0 := by simp only [behind] at h3; omega
      rcases List.mem_cons.1 hy with rfl | hy
      · exact h5
      · exact Names.compare_is.trans _ _ _ h5 (h4 y hy)
theorem lines_ok {l : List LineX} (h : (lines l).err = 0) : OkLines l := by
  unfold lines at h
  split at h
  · cases h
  rename_i h0
  obtain ⟨h1, h2, _⟩ := from_ok l 0 none h
  exact ⟨by omega, fun x hx => (h1 x hx).1, fun x hx => (h1 x hx).2, h2⟩
theorem names_len {l : List Label} (h : Names.wrong l = 0) : l.length ≤ 4 := by
  unfold Names.wrong at h
  split at h
  · cases h
  · omega
theorem OkLines.sizes {l : List LineX} (h : OkLines l) : ∀ x ∈ l, x.sr.l.length ≤ 1048576 ∧ x.sm.l.length ≤ 1048576 := fun x hx => by
  have h1 := names_len (h.sr x hx)
  have h2 := (Codec.right_of (h.sm x hx)).len
  omega
theorem OkLines.vals {l : List LineX} (h : OkLines l) : ∀ x ∈ l, ∀ s ∈ x.sm.l, -1000000000 ≤ s.value ∧ s.value ≤ 1000000000 := fun x hx s hs => by
  have := (Codec.right_of (h.sm x hx)).rng s hs; omega
/-! ## What a window has -/
def inWin (a b : Int) (s : Sample) : Bool := decide (a ≤ s.time ∧ s.time < b)
def lookL (l : List Line) : Look := fun m a b => ((l.filter fun x => Names.matches_ x.sr m).map fun x => (x.sr, Agg.of (x.sm.filter (inWin a b))), 0)
theorem look_at {l : List LineX} {k : Nat} {s : LineX} {m : List Match} {a b : Int} (h : l[k]? = some s) : (lookL ((l.take (k + 1)).map LineX.e) m a b).1 = if Names.matches_ s.sr.l m = true then (lookL ((l.take k).map LineX.e) m a b).1 ++ [(s.sr.l, Agg.of (s.sm.l.filter (inWin a b)))] else (lookL ((l.take k).map LineX.e) m a b).1 := by
  unfold lookL
  rw [List.take_add_one, h, List.map_append, List.filter_append, List.map_append]
  simp only [Option.toList, List.map_cons, List.map_nil, List.filter_cons, List.filter_nil]
  split
  · rename_i h1; rw [if_pos (show Names.matches_ s.sr.l m = true from h1)]; rfl
  · rename_i h1; rw [if_neg (show ¬ Names.matches_ s.sr.l m = true from h1)]; simp
theorem filt_at {α : Type} {p : α → Bool} {l : List α} {k : Nat} {s : α} (h : l[k]? = some s) : (l.take (k + 1)).filter p = if p s = true then (l.take k).filter p ++ [s] else (l.take k).filter p := by
  rw [List.take_add_one, h, List.filter_append]
  simp only [Option.toList, List.filter_cons, List.filter_nil]
  split <;> simp
theorem win_t {a b : Int} {s : Sample} (h : a ≤ s.time ∧ s.time < b) : inWin a b s = true := by simp [inWin, h]
theorem win_f {a b : Int} {s : Sample} (h : ¬ (a ≤ s.time ∧ s.time < b)) : ¬ inWin a b s = true := by simp [inWin]; omega
/-! ## What sums come to is small -/
theorem rise_rng {a b : Int} (ha : -1000000000 ≤ a ∧ a ≤ 1000000000) (hb : -1000000000 ≤ b ∧ b ≤ 1000000000) : -2000000000 ≤ Agg.rise a b ∧ Agg.rise a b ≤ 2000000000 := by
  unfold Agg.rise
  split
  · omega
  · rw [wr_id (by omega) (by omega)]; omega
theorem rise_bnd : ∀ (l : List Sample), l.length ≤ 500 → (∀ x ∈ l, -1000000000 ≤ x.value ∧ x.value ≤ 1000000000) → -2000000000 * (l.length : Int) ≤ (Agg.of l).rise ∧ (Agg.of l).rise ≤ 2000000000 * (l.length : Int) := by
  intro l
  induction l using List.reverseRecOn' with
  | nil => intro _ _; decide
  | snoc l x ih =>
    intro hl hb
    have hlen : (l ++ [x]).length = l.length + 1 := by simp
    rw [hlen] at hl ⊢
    have h := ih (by omega) (fun y hy => hb y (by simp [hy]))
    have hx := hb x (by simp)
    rw [Agg.of_snoc]
    by_cases hne : l = []
    · subst hne
      have : Agg.join (Agg.of []) (Agg.one x.value) = Agg.one x.value := by simp [Agg.of, Agg.join, Sum.zero]
      rw [this]; simp [Agg.one]
    · have hf := Agg.fits l hne (by omega) (fun y hy => hb y (by simp [hy]))
      have hpos := List.length_pos_iff.2 hne
      have h4 := hf.l1; have h5 := hf.l2; have h6 := hf.m1; have h7 := hf.m2
      have hr := rise_rng (a := (Agg.of l).last) (b := x.value) (by omega) hx
      unfold Agg.join
      rw [if_neg (by rw [hf.count]; omega), if_neg (by simp [Agg.one])]
      simp only [Agg.one]
      have hw1 : wr ((Agg.of l).rise + Agg.rise (Agg.of l).last x.value) = (Agg.of l).rise + Agg.rise (Agg.of l).last x.value := wr_id (by omega) (by omega)
      rw [hw1, Int.add_zero, wr_id (by omega) (by omega)]
      omega
theorem value_bnd {l : List Sample} (hl : l.length ≤ 500) (hb : ∀ x ∈ l, -1000000000 ≤ x.value ∧ x.value ≤ 1000000000) (word : ByteArray) : -1125899906842624 ≤ (Agg.value word (Agg.of l)).1 ∧ (Agg.value word (Agg.of l)).1 ≤ 1125899906842624 := by
  by_cases hne : l = []
  · subst hne
    have : (Agg.value word (Agg.of [])).1 = 0 := by unfold Agg.value; rw [if_pos (by decide)]
    rw [this]; decide
  have h := Agg.fits l hne (by omega) hb
  have hr := rise_bnd l hl hb
  have hpos := List.length_pos_iff.2 hne
  have hc : ¬ (Agg.of l).count < 1 := by rw [h.count]; omega
  have hd := Agg.tdiv_between (t := (Agg.of l).total) (c := (Agg.of l).count) (by omega) h.s1 h.s2
  have h1 := h.m1; have h2 := h.m2; have h3 := h.f1; have h4 := h.f2; have h5 := h.l1; have h6 := h.l2; have h7 := h.count; have h8 := h.t1; have h9 := h.t2
  unfold Agg.value
  rw [if_neg hc, wr_id (by omega) (by omega)]
  (repeat' split) <;> dsimp only <;> omega
theorem good_lookL {l : List LineX} (h : OkLines l) : GoodLook (lookL (l.map LineX.e)) := fun m a b => by
  refine ⟨?_, fun t ht => ?_⟩
  · simp only [lookL, List.length_map]
    have h1 := List.length_filter_le (fun x : Line => Names.matches_ x.sr m) (l.map LineX.e)
    have h2 := h.len
    simp only [List.length_map] at h1
    omega
  · obtain ⟨x, hx, rfl⟩ := List.mem_map.1 ht
    obtain ⟨y, hy, rfl⟩ := List.mem_map.1 (List.mem_filter.1 hx).1
    refine ⟨(h.sizes y hy).1, fun word => value_bnd ?_ (fun s hs => h.vals y hy s (List.mem_filter.1 hs).1) word⟩
    exact Nat.le_trans (List.length_filter_le _ _) (Codec.right_of (h.sm y hy)).len
/-! ## All -/
def out (r : Val × Int) : List Cell × Int := if r.2 ≠ 0 then ([], r.2) else if r.1.vec = true then (r.1.cells, 0) else ([⟨[], r.1.n⟩], 0)
def ask (l : List LineX) (e : Expr) (t : Int) : List Cell × Int := if (lines l).err ≠ 0 then ([], (lines l).err) else if check e t ≠ 0 then ([], check e t) else out (eval (lookL (l.map LineX.e)) t e)
end Mn
namespace Ex
structure CelsX.Ok (S : Nat → Prop) (z : SlX CellX) (w : World) : Prop where
  cells : FlatSl S 2 cellE (.slice z.A z.l.length z.c) z.l w
  all : ∀ c ∈ z.l, CellX.Ok S c w
theorem CelsX.Ok.loc (x : SlX CellX) : Loc (fun S => CelsX.Ok S x) := fun S S' u u' hs hk h => ⟨FlatSl.loc _ _ _ _ S S' u u' hs hk h.cells, fun c hc => CellX.Ok.loc c S S' u u' hs hk (h.all c hc)⟩
structure CelsX.Wf (z : SlX CellX) : Prop where
  cells : Ex.Wf z
  all : ∀ c ∈ z.l, CellX.Wf c
theorem CelsX.Ok.wf {S : Nat → Prop} {x : SlX CellX} {w : World} (h : CelsX.Ok S x w) : CelsX.Wf x := ⟨FlatSl.wf h.cells, fun c hc => (h.all c hc).wf⟩
@[reducible] def celsV (err : Int) (z : SlX CellX) : Value := .tuple #[.slice z.A z.l.length z.c, .int .i64 err]
/-- what lines at an address are -/
structure LinesAt (lad : Addr) (A : Option Addr) (c : Nat) (l : List LineX) (S : Nat → Prop) (w : World) : Prop where
  cel : CelAt S lad [.slice A l.length c] w
  sl : FlatSl S 2 lineE (.slice A l.length c) l w
  all : ∀ x ∈ l, LineX.Ok S x w
theorem LinesAt.loc (lad : Addr) (A : Option Addr) (c : Nat) (l : List LineX) : Loc (LinesAt lad A c l) := fun S S' u u' hs hk h => ⟨CelAt.loc _ _ S S' u u' hs hk h.cel, FlatSl.loc _ _ _ _ S S' u u' hs hk h.sl, fun c hc => LineX.Ok.loc c S S' u u' hs hk (h.all c hc)⟩
end Ex
end Go.Proofs.YtffpglgboaigfaaDoor
