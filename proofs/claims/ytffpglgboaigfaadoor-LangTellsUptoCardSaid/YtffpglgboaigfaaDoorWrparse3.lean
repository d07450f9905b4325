/-
  Walks: what each function hands back.
-/
import Derived.Test.YtffpglgboaigfaaDoorWrparse2
import Derived.Test.YtffpglgboaigfaaDoorSeq
namespace Go.Proofs.YtffpglgboaigfaaDoor
open Ex
set_option linter.unusedVariables false
set_option linter.unusedSimpArgs false
set_option maxHeartbeats 20000000 in
theorem w_factor (p : Nat) (s : ByteArray) (i : Nat) (n be ba : Int) (d : Int) (N : Nat) (Pb : Nat → Prop) (w : World) (hG : Mem w ⟨fpOf [Wb 69 p s i n be ba], Pb⟩ [Wb 69 p s i n be ba] w) (hi : i ≤ s.size) (hs : s.size ≤ 2000) (hn : 0 ≤ n ∧ n ≤ 101) (hne : be = 0 → n ≤ 100) (hd : d + (N : Int) = 21) (hd1 : 1 ≤ d) (ih : ∀ M, N = M + 1 → XprR M) :
    Calls Tryd.prog 52 #[.pointer (some ⟨p, 0, none⟩), iV d] w (RetA w [Wb 69 p s i n be ba] Pb (fun z : ExprX × Nat × Int × Int × Int => .agg (exprE z.1).toArray) (fun z => Pz.Sim s be ba (Pz.fac s N ⟨i, n⟩) z.1.e ⟨z.2.1, z.2.2.1, z.2.2.2.1, z.2.2.2.2⟩ ∧ (0 ≤ z.2.2.1 ∧ z.2.2.1 ≤ 101) ∧ (z.2.2.2.1 = 0 → z.2.2.1 ≤ 100)) (fun z => [Wb 69 p s z.2.1 z.2.2.1 z.2.2.2.1 z.2.2.2.2, okI (z.2.2.2.1 = 0) z.1])) := by
 refine fstart (N := 167) (vals := [.pointer (some ⟨p, 0, none⟩), iV d]) (S := Mem w ⟨fpOf [Wb 69 p s i n be ba], Pb⟩ [Wb 69 p s i n be ba]) Tryd.func52 rfl rfl rfl hG ?_
 refine c_seq fun _ hK1 => ?_
 refine c_region ?_
 refine l_alloc wn inf26 rfl fun b4 => ?_
 refine l_nil (e_go hK1 ?_)
 refine c_seq fun _ hK2 => ?_
 refine c_seq fun _ hK3 => ?_
 refine c_region ?_
 refine l_val wn (r_move rfl) rfl ?_
 refine l_give (α := Unit) [Wb 69 p s i n be ba] [.blk b4 Zx 26] (fun _ : Unit => .bool (decide (be = 0))) (fun z1 => True) (fun z1 => [Wb 69 p s i n be ba]) (fun z1 => [Wb 69 p s i n be ba, .blk b4 Zx 26]) (fun _ => rfl) (fun _ h => h.sel [1, 0] (by decide) rfl) (fun _ => rfl) wn rfl rfl Tryd.call34 rfl (fun w1 Pb hG => w_ok p s i n be ba Pb w1 hG) fun z1 hz1 => ?_
 refine l_val wn (r_not rfl) rfl ?_
 refine l_nil (e_go hK3 ?_)
 refine c_cond rfl (fun h1 => ?_) (fun h1 => ?_)
 · refine c_seq fun _ hK4 => ?_
   refine c_region ?_
   refine l_val wn (r_build Zx pl26 inf26 rfl rfl) rfl ?_
   refine l_stn 1 wn rfl rfl rfl inf26 rfl rfl rfl ?_
   refine l_nil (e_go hK4 ?_)
   refine c_ret (e_then_r (e_ret1 (.inl rfl) Tryd.results52 (rv_cell 1 rfl rfl agg26 inf26 rfl) fun w1 hM => ?_))
   have hM := hM.okI0 (be = 0) (ExprX.mk 0 0 0 ⟨#[]⟩ ⟨none, 0, []⟩ ⟨none, 0, []⟩ ⟨none, 0, []⟩) h1
   exact hM.retA ((ExprX.mk 0 0 0 ⟨#[]⟩ ⟨none, 0, []⟩ ⟨none, 0, []⟩ ⟨none, 0, []⟩), i, n, be, ba) rfl ⟨show Pz.Sim s be ba (Pz.fac s N ⟨i, n⟩) ((ExprX.mk 0 0 0 ⟨#[]⟩ ⟨none, 0, []⟩ ⟨none, 0, []⟩ ⟨none, 0, []⟩)).e ⟨i, n, be, ba⟩ from (Pz.Sim.bad (r := ⟨i, n, be, ba⟩) (by show _ ≤ _; omega) h1 rfl rfl), by show 0 ≤ n ∧ n ≤ 101; omega, by show be = 0 → n ≤ 100; first | (intro h9; omega) | (intro h9; exact absurd h9 h1) | omega⟩ (fun h => h.sel [1, 0] (by decide) rfl)
 refine c_skip (e_go hK2 ?_)
 refine c_seq fun _ hK5 => ?_
 refine c_seq fun _ hK6 => ?_
 refine c_region ?_
 refine l_val wn (r_move rfl) rfl ?_
 refine l_val wn (r_gtr rfl rfl) rfl ?_
 refine l_nil (e_go hK6 ?_)
 refine c_cond rfl (fun h2 => ?_) (fun h2 => ?_)
 · refine c_seq fun _ hK7 => ?_
   refine c_region ?_
   refine l_val wn (r_move rfl) rfl ?_
   refine l_val wn (r_move rfl) rfl ?_
   refine l_val wn (r_nilCheck rfl) rfl ?_
   refine l_val wn (r_fa rfl fld69_1) rfl ?_
   refine l_val wn (r_lb 0 rfl rfl rfl flat3) rfl ?_
   refine l_give (α := (Int × Int)) [Wb 69 p s i n be ba] [.blk b4 Zx 26] (fun z : Int × Int => .tuple #[]) (fun z2 => (Pz.StopR be ba 4 (i : Int) z2)) (fun z2 => [Wb 69 p s i n z2.1 z2.2]) _ (fun _ => rfl) (fun _ h => h.sel [0, 1] (by decide) rfl) (fun _ => rfl) wn rfl rfl Tryd.call36 rfl (fun w1 Pb hG => w_stop p s i n be ba 4 (i : Int) Pb w1 hG ) fun z2 hz2 => ?_
   obtain ⟨be1, ba1⟩ := z2
   have hs1 : Pz.StopR be ba 4 (i : Int) (be1, ba1) := hz2
   try simp only at hs1
   refine l_as 23 (.tuple (List.toArray [])) [Wb 69 p s i n be1 ba1, .blk b4 Zx 26] ?_
   refine l_nil (e_go hK7 ?_)
   refine c_seq fun _ hK8 => ?_
   refine c_region ?_
   refine l_val wn (r_build Zx pl26 inf26 rfl rfl) rfl ?_
   refine l_stn 1 wn rfl rfl rfl inf26 rfl rfl rfl ?_
   refine l_nil (e_go hK8 ?_)
   refine c_ret (e_then_r (e_ret1 (.inl rfl) Tryd.results52 (rv_cell 1 rfl rfl agg26 inf26 rfl) fun w1 hM => ?_))
   have hM := hM.okI0 (be1 = 0) (ExprX.mk 0 0 0 ⟨#[]⟩ ⟨none, 0, []⟩ ⟨none, 0, []⟩ ⟨none, 0, []⟩) (hs1.ne (by decide))
   exact hM.retA ((ExprX.mk 0 0 0 ⟨#[]⟩ ⟨none, 0, []⟩ ⟨none, 0, []⟩ ⟨none, 0, []⟩), i, n, be1, ba1) rfl ⟨show Pz.Sim s be ba (Pz.fac s N ⟨i, n⟩) ((ExprX.mk 0 0 0 ⟨#[]⟩ ⟨none, 0, []⟩ ⟨none, 0, []⟩ ⟨none, 0, []⟩)).e ⟨i, n, be1, ba1⟩ from (by rw [show N = 0 by omega]; exact Pz.fac0_sim (Classical.not_not.1 h1) (by omega) hs1), by show 0 ≤ n ∧ n ≤ 101; omega, by show be1 = 0 → n ≤ 100; first | (intro h9; omega) | (intro h9; exact absurd h9 (hs1.ne (by decide))) | omega⟩ (fun h => h.sel [1, 0] (by decide) rfl)
 obtain ⟨M, rfl⟩ : ∃ M, N = M + 1 := ⟨N - 1, by omega⟩
 refine c_skip (e_go hK5 ?_)
 refine c_seq fun _ hK9 => ?_
 refine c_seq fun _ hK10 => ?_
 refine c_region ?_
 refine l_val wn (r_move rfl) rfl ?_
 refine l_give (α := (Bool × Nat)) [Wb 69 p s i n be ba] [.blk b4 Zx 26] (fun z : Bool × Nat => .bool z.1) (fun z3 => (Pz.SignR s ⟨#[40]⟩ be i z3)) (fun z3 => [Wb 69 p s z3.2 n be ba]) _ (fun _ => rfl) (fun _ h => h.sel [0, 1] (by decide) rfl) (fun _ => rfl) wn rfl rfl Tryd.call53 rfl (fun w1 Pb hG => w_sign p s i n be ba ⟨#[40]⟩ Pb w1 hG (by omega) (by omega) (by first | decide | omega)) fun z3 hz3 => ?_
 obtain ⟨bo1, j1⟩ := z3
 have hs2 : Pz.SignR s ⟨#[40]⟩ be i (bo1, j1) := hz3
 try simp only at hs2
 have hs2l : j1 ≤ s.size := hs2.1
 refine l_as 26 (.bool bo1) [Wb 69 p s j1 n be ba, .blk b4 Zx 26] ?_
 refine l_nil (e_go hK10 ?_)
 refine c_condb rfl (fun h3 => ?_) (fun h3 => ?_)
 · refine c_seq fun _ hK11 => ?_
   refine c_region ?_
   refine l_val wn (r_move rfl) rfl ?_
   refine l_val wn (r_move rfl) rfl ?_
   refine l_val wn (r_addn rfl rfl (by omega)) rfl ?_
   refine l_give (α := (ExprX × Nat × Int × Int × Int)) [Wb 69 p s j1 n be ba] [.blk b4 Zx 26] (fun z : ExprX × Nat × Int × Int × Int => .agg (exprE z.1).toArray) (fun z4 => (Pz.Sim s be ba (Pz.xpr s M ⟨j1, n⟩) z4.1.e ⟨z4.2.1, z4.2.2.1, z4.2.2.2.1, z4.2.2.2.2⟩ ∧ (0 ≤ z4.2.2.1 ∧ z4.2.2.1 ≤ 101) ∧ (z4.2.2.2.1 = 0 → z4.2.2.1 ≤ 100))) (fun z4 => [Wb 69 p s z4.2.1 z4.2.2.1 z4.2.2.2.1 z4.2.2.2.2, okI (z4.2.2.2.1 = 0) z4.1]) _ (fun _ => rfl) (fun _ h => h.sel [0, 1] (by decide) rfl) (fun _ => rfl) wn rfl rfl Tryd.call33 rfl (fun w1 Pb hG => (ih M rfl) p s j1 n be ba (d + 1) Pb w1 hG (by omega) (by omega) (by omega) (by omega) (by omega) (by omega)) fun z4 hz4 => ?_
   obtain ⟨x1, j2, m1, be2, ba2⟩ := z4
   have hs3 : Pz.Sim s be ba (Pz.xpr s M ⟨j1, n⟩) (x1, j2, m1, be2, ba2).1.e ⟨(x1, j2, m1, be2, ba2).2.1, (x1, j2, m1, be2, ba2).2.2.1, (x1, j2, m1, be2, ba2).2.2.2.1, (x1, j2, m1, be2, ba2).2.2.2.2⟩ ∧ (0 ≤ (x1, j2, m1, be2, ba2).2.2.1 ∧ (x1, j2, m1, be2, ba2).2.2.1 ≤ 101) ∧ ((x1, j2, m1, be2, ba2).2.2.2.1 = 0 → (x1, j2, m1, be2, ba2).2.2.1 ≤ 100) := hz4
   try simp only at hs3
   have hs3l : j2 ≤ s.size := hs3.1.1
   have hs3n := hs3.2.1
   have hs3m := hs3.2.2
   refine l_as 30 (.agg (List.toArray [iV x1.kind, iV x1.n, iV x1.range, .string x1.word, .slice x1.ms.A x1.ms.l.length x1.ms.c, .slice x1.by_.A x1.by_.l.length x1.by_.c, .slice x1.kids.A x1.kids.l.length x1.kids.c])) [Wb 69 p s j2 m1 be2 ba2, okI (be2 = 0) x1, .blk b4 Zx 26] ?_
   have hl_be2 : be2 = 0 → be = 0 := fun h9 => hs3.1.first h9
   refine l_alloc wn inf26 rfl fun b5 => ?_
   refine l_stn 0 wn rfl rfl rfl inf26 rfl rfl rfl ?_
   refine l_nil (e_go hK11 ?_)
   refine c_seq fun _ hK12 => ?_
   refine c_region ?_
   refine l_val wn (r_move rfl) rfl ?_
   refine l_give (α := (Nat × Int × Int)) [Wb 69 p s j2 m1 be2 ba2] [.blk b5 [iV x1.kind, iV x1.n, iV x1.range, .string x1.word, .slice x1.ms.A x1.ms.l.length x1.ms.c, .slice x1.by_.A x1.by_.l.length x1.by_.c, .slice x1.kids.A x1.kids.l.length x1.kids.c] 26, okI (be2 = 0) x1, .blk b4 Zx 26] (fun z : Nat × Int × Int => .tuple #[]) (fun z5 => (Pz.SimU s be2 ba2 (Pz.must s ⟨#[41]⟩ ⟨j2, m1⟩) ⟨z5.1, m1, z5.2.1, z5.2.2⟩)) (fun z5 => [Wb 69 p s z5.1 m1 z5.2.1 z5.2.2]) _ (fun _ => rfl) (fun _ h => h.sel [1, 0, 2, 3] (by decide) rfl) (fun _ => rfl) wn rfl rfl Tryd.call65 rfl (fun w1 Pb hG => w_need p s j2 m1 be2 ba2 ⟨#[41]⟩ Pb w1 hG (by omega) (by omega) (by first | decide | omega)) fun z5 hz5 => ?_
   obtain ⟨j3, be3, ba3⟩ := z5
   have hs4 : Pz.SimU s be2 ba2 (Pz.must s ⟨#[41]⟩ ⟨j2, m1⟩) ⟨(j3, be3, ba3).1, m1, (j3, be3, ba3).2.1, (j3, be3, ba3).2.2⟩ := hz5
   try simp only at hs4
   have hs4l : j3 ≤ s.size := hs4.1
   refine l_as 32 (.tuple (List.toArray [])) [Wb 69 p s j3 m1 be3 ba3, .blk b5 [iV x1.kind, iV x1.n, iV x1.range, .string x1.word, .slice x1.ms.A x1.ms.l.length x1.ms.c, .slice x1.by_.A x1.by_.l.length x1.by_.c, .slice x1.kids.A x1.kids.l.length x1.kids.c] 26, okI (be2 = 0) x1, .blk b4 Zx 26] ?_
   have hl_be3 : be3 = 0 → be2 = 0 := fun h9 => hs4.first h9
   refine l_nil (e_go hK12 ?_)
   refine c_seq fun _ hK13 => ?_
   refine c_region ?_
   refine l_val wn (r_lbn 1 [iV x1.kind, iV x1.n, iV x1.range, .string x1.word, .slice x1.ms.A x1.ms.l.length x1.ms.c, .slice x1.by_.A x1.by_.l.length x1.by_.c, .slice x1.kids.A x1.kids.l.length x1.kids.c] rfl rfl rfl rfl agg26 inf26) rfl ?_
   refine l_stn 3 wn rfl rfl rfl inf26 rfl rfl rfl ?_
   refine l_nil (e_go hK13 ?_)
   refine c_ret (e_then_r (e_ret1 (.inl rfl) Tryd.results52 (rv_cell 3 rfl rfl agg26 inf26 rfl) fun w1 hM => ?_))
   have hM := hM.okI2 (be3 = 0) 2 rfl (fun h9 => hs4.first h9)
   exact hM.retA (x1, j3, m1, be3, ba3) rfl ⟨show Pz.Sim s be ba (Pz.fac s (M + 1) ⟨i, n⟩) (x1).e ⟨j3, m1, be3, ba3⟩ from (by first | exact Pz.fac_par hs2 h3 hs3.1 hs4 | (rw [Pz.fac_succ]; exact Pz.fac_par hs2 h3 hs3.1 hs4) | (simp only [ExprX.e, ExprX.es, Pz.fac_succ]; exact Pz.fac_par hs2 h3 hs3.1 hs4)), by show 0 ≤ m1 ∧ m1 ≤ 101; omega, by show be3 = 0 → m1 ≤ 100; first | (intro h9; omega) | (intro h9; exact absurd h9 id) | omega⟩ (fun h => h.sel [1, 0] (by decide) rfl)
 refine c_skip (e_go hK9 ?_)
 refine c_seq fun _ hK14 => ?_
 refine c_region ?_
 refine l_val wn (r_move rfl) rfl ?_
 refine l_give (α := Nat) [Wb 69 p s j1 n be ba] [.blk b4 Zx 26] (fun _ : Nat => .tuple #[]) (fun j4 => (Pz.blank s j1 = j4 ∧ j1 ≤ j4 ∧ j4 ≤ s.size)) (fun j4 => [Wb 69 p s j4 n be ba]) (fun j4 => [Wb 69 p s j4 n be ba, .blk b4 Zx 26]) (fun _ => rfl) (fun _ h => h.sel [0, 1] (by decide) rfl) (fun _ => rfl) wn rfl rfl Tryd.call35 rfl (fun w1 Pb hG => w_skip p s j1 n be ba Pb w1 hG (by omega) (by omega)) fun j4 hz6 => ?_
 obtain ⟨hz6e, hz6a, hz6b⟩ := hz6
 refine l_nil (e_go hK14 ?_)
 refine c_seq fun _ hK15 => ?_
 refine c_region ?_
 refine l_val wn (r_move rfl) rfl ?_
 refine l_val wn (r_nilCheck rfl) rfl ?_
 refine l_val wn (r_fa rfl fld69_1) rfl ?_
 refine l_val wn (r_lb 0 rfl rfl rfl flat3) rfl ?_
 refine l_val wn (r_assign rfl) rfl ?_
 refine l_nil (e_go hK15 ?_)
 refine c_seq fun _ hK16 => ?_
 refine c_region ?_
 refine l_val wn (r_move rfl) rfl ?_
 refine l_give (α := (ByteArray × Nat × Int × Int)) [Wb 69 p s j4 n be ba] [.blk b4 Zx 26] (fun z : ByteArray × Nat × Int × Int => .string z.1) (fun z6 => ((Pz.Sim s be ba (Pz.word s ⟨j4, n⟩) z6.1 ⟨z6.2.1, n, z6.2.2.1, z6.2.2.2⟩) ∧ z6.1.size ≤ 2000)) (fun z6 => [Wb 69 p s z6.2.1 n z6.2.2.1 z6.2.2.2]) _ (fun _ => rfl) (fun _ h => h.sel [0, 1] (by decide) rfl) (fun _ => rfl) wn rfl rfl Tryd.call66 rfl (fun w1 Pb hG => w_word p s j4 n be ba  Pb w1 hG (by omega) (by omega)) fun z6 hz7 => ?_
 obtain ⟨wd1, j5, be4, ba4⟩ := z6
 have hs5 : (Pz.Sim s be ba (Pz.word s ⟨j4, n⟩) (wd1, j5, be4, ba4).1 ⟨(wd1, j5, be4, ba4).2.1, n, (wd1, j5, be4, ba4).2.2.1, (wd1, j5, be4, ba4).2.2.2⟩) ∧ (wd1, j5, be4, ba4).1.size ≤ 2000 := hz7
 try simp only at hs5
 have hs5l : j5 ≤ s.size := hs5.1.1
 have hs5z : wd1.size ≤ 2000 := hs5.2
 refine l_as 41 (.string wd1) [Wb 69 p s j5 n be4 ba4, .blk b4 Zx 26] ?_
 refine l_val wn (r_assign rfl) rfl ?_
 refine l_nil (e_go hK16 ?_)
 refine c_seq fun _ hK17 => ?_
 refine c_seq fun _ hK18 => ?_
 refine c_region ?_
 refine l_val wn (r_move rfl) rfl ?_
 refine l_give (α := Unit) [Wb 69 p s j5 n be4 ba4] [.blk b4 Zx 26] (fun _ : Unit => .bool (decide (be4 = 0))) (fun z7 => True) (fun z7 => [Wb 69 p s j5 n be4 ba4]) (fun z7 => [Wb 69 p s j5 n be4 ba4, .blk b4 Zx 26]) (fun _ => rfl) (fun _ h => h.sel [0, 1] (by decide) rfl) (fun _ => rfl) wn rfl rfl Tryd.call34 rfl (fun w1 Pb hG => w_ok p s j5 n be4 ba4 Pb w1 hG) fun z7 hz8 => ?_
 refine l_val wn (r_not rfl) rfl ?_
 refine l_nil (e_go hK18 ?_)
 refine c_cond rfl (fun h4 => ?_) (fun h4 => ?_)
 · refine c_seq fun _ hK19 => ?_
   refine c_region ?_
   refine l_val wn (r_build Zx pl26 inf26 rfl rfl) rfl ?_
   refine l_stn 1 wn rfl rfl rfl inf26 rfl rfl rfl ?_
   refine l_nil (e_go hK19 ?_)
   refine c_ret (e_then_r (e_ret1 (.inl rfl) Tryd.results52 (rv_cell 1 rfl rfl agg26 inf26 rfl) fun w1 hM => ?_))
   have hl_be4 : be4 = 0 → be = 0 := fun h9 => hs5.1.first h9
   have hM := hM.okI0 (be4 = 0) (ExprX.mk 0 0 0 ⟨#[]⟩ ⟨none, 0, []⟩ ⟨none, 0, []⟩ ⟨none, 0, []⟩) h4
   exact hM.retA ((ExprX.mk 0 0 0 ⟨#[]⟩ ⟨none, 0, []⟩ ⟨none, 0, []⟩ ⟨none, 0, []⟩), j5, n, be4, ba4) rfl ⟨show Pz.Sim s be ba (Pz.fac s (M + 1) ⟨i, n⟩) ((ExprX.mk 0 0 0 ⟨#[]⟩ ⟨none, 0, []⟩ ⟨none, 0, []⟩ ⟨none, 0, []⟩)).e ⟨j5, n, be4, ba4⟩ from (by first | exact Pz.fac_word hs2 (by simpa using h3) hz6e hs5.1 ((Pz.Sim.bad (r := ⟨j5, n, be4, ba4⟩) (by show _ ≤ _; omega) h4 rfl rfl)) | (rw [Pz.fac_succ]; exact Pz.fac_word hs2 (by simpa using h3) hz6e hs5.1 ((Pz.Sim.bad (r := ⟨j5, n, be4, ba4⟩) (by show _ ≤ _; omega) h4 rfl rfl))) | (simp only [ExprX.e, ExprX.es, Pz.fac_succ]; exact Pz.fac_word hs2 (by simpa using h3) hz6e hs5.1 ((Pz.Sim.bad (r := ⟨j5, n, be4, ba4⟩) (by show _ ≤ _; omega) h4 rfl rfl)))), by show 0 ≤ n ∧ n ≤ 101; omega, by show be4 = 0 → n ≤ 100; first | (intro h9; omega) | (intro h9; exact absurd h9 h4) | omega⟩ (fun h => h.sel [1, 0] (by decide) rfl)
 refine c_skip (e_go hK17 ?_)
 refine c_seq fun _ hK20 => ?_
 refine c_seq fun _ hK21 => ?_
 refine c_region ?_
 refine l_val wn (r_move rfl) rfl ?_
 refine l_val wn (r_seql rfl rfl) rfl ?_
 refine l_nil (e_go hK21 ?_)
 refine c_cond rfl (fun h5 => ?_) (fun h5 => ?_)
 · refine c_seq fun _ hK22 => ?_
   refine c_region ?_
   refine l_val wn (r_move rfl) rfl ?_
   refine l_give (α := (Int × Nat × Int × Int)) [Wb 69 p s j5 n be4 ba4] [.blk b4 Zx 26] (fun z : Int × Nat × Int × Int => iV z.1) (fun z8 => ((Pz.Sim s be4 ba4 (Pz.num s 0 1000000 ⟨j5, n⟩) z8.1 ⟨z8.2.1, n, z8.2.2.1, z8.2.2.2⟩))) (fun z8 => [Wb 69 p s z8.2.1 n z8.2.2.1 z8.2.2.2]) _ (fun _ => rfl) (fun _ h => h.sel [0, 1] (by decide) rfl) (fun _ => rfl) wn rfl rfl Tryd.call67 rfl (fun w1 Pb hG => w_num p s j5 n be4 ba4 0 1000000 Pb w1 hG (by omega) (by omega) (by omega) (by omega)) fun z8 hz9 => ?_
   obtain ⟨v1, j6, be5, ba5⟩ := z8
   have hs6 : (Pz.Sim s be4 ba4 (Pz.num s 0 1000000 ⟨j5, n⟩) (v1, j6, be5, ba5).1 ⟨(v1, j6, be5, ba5).2.1, n, (v1, j6, be5, ba5).2.2.1, (v1, j6, be5, ba5).2.2.2⟩) := hz9
   try simp only at hs6
   have hs6l : j6 ≤ s.size := hs6.1
   refine l_as 49 (iV v1) [Wb 69 p s j6 n be5 ba5, .blk b4 Zx 26] ?_
   refine l_val wn (r_assign rfl) rfl ?_
   refine l_nil (e_go hK22 ?_)
   refine c_seq fun _ hK23 => ?_
   refine c_seq fun _ hK24 => ?_
   refine c_region ?_
   refine l_val wn (r_move rfl) rfl ?_
   refine l_give (α := Unit) [Wb 69 p s j6 n be5 ba5] [.blk b4 Zx 26] (fun _ : Unit => .bool (decide (be5 = 0))) (fun z9 => True) (fun z9 => [Wb 69 p s j6 n be5 ba5]) (fun z9 => [Wb 69 p s j6 n be5 ba5, .blk b4 Zx 26]) (fun _ => rfl) (fun _ h => h.sel [0, 1] (by decide) rfl) (fun _ => rfl) wn rfl rfl Tryd.call34 rfl (fun w1 Pb hG => w_ok p s j6 n be5 ba5 Pb w1 hG) fun z9 hz10 => ?_
   refine l_val wn (r_not rfl) rfl ?_
   refine l_nil (e_go hK24 ?_)
   refine c_cond rfl (fun h6 => ?_) (fun h6 => ?_)
   · refine c_seq fun _ hK25 => ?_
     refine c_region ?_
     refine l_val wn (r_build Zx pl26 inf26 rfl rfl) rfl ?_
     refine l_stn 1 wn rfl rfl rfl inf26 rfl rfl rfl ?_
     refine l_nil (e_go hK25 ?_)
     refine c_ret (e_then_r (e_then_r (e_ret1 (.inl rfl) Tryd.results52 (rv_cell 1 rfl rfl agg26 inf26 rfl) fun w1 hM => ?_)))
     have hl_be4 : be4 = 0 → be = 0 := fun h9 => hs5.1.first h9
     have hl_be5 : be5 = 0 → be4 = 0 := fun h9 => hs6.first h9
     have hM := hM.okI0 (be5 = 0) (ExprX.mk 0 0 0 ⟨#[]⟩ ⟨none, 0, []⟩ ⟨none, 0, []⟩ ⟨none, 0, []⟩) h6
     exact hM.retA ((ExprX.mk 0 0 0 ⟨#[]⟩ ⟨none, 0, []⟩ ⟨none, 0, []⟩ ⟨none, 0, []⟩), j6, n, be5, ba5) rfl ⟨show Pz.Sim s be ba (Pz.fac s (M + 1) ⟨i, n⟩) ((ExprX.mk 0 0 0 ⟨#[]⟩ ⟨none, 0, []⟩ ⟨none, 0, []⟩ ⟨none, 0, []⟩)).e ⟨j6, n, be5, ba5⟩ from (by first | exact Pz.fac_word hs2 (by simpa using h3) hz6e hs5.1 (Pz.Sim.val (Pz.facW_num h5 hs6 (Pz.SimU.bad (r := ⟨j6, n, be5, ba5⟩) (by show _ ≤ _; omega) h6 rfl rfl)) h6) | (rw [Pz.fac_succ]; exact Pz.fac_word hs2 (by simpa using h3) hz6e hs5.1 (Pz.Sim.val (Pz.facW_num h5 hs6 (Pz.SimU.bad (r := ⟨j6, n, be5, ba5⟩) (by show _ ≤ _; omega) h6 rfl rfl)) h6)) | (simp only [ExprX.e, ExprX.es, Pz.fac_succ]; exact Pz.fac_word hs2 (by simpa using h3) hz6e hs5.1 (Pz.Sim.val (Pz.facW_num h5 hs6 (Pz.SimU.bad (r := ⟨j6, n, be5, ba5⟩) (by show _ ≤ _; omega) h6 rfl rfl)) h6))), by show 0 ≤ n ∧ n ≤ 101; omega, by show be5 = 0 → n ≤ 100; first | (intro h9; omega) | (intro h9; exact absurd h9 h6) | omega⟩ (fun h => h.sel [1, 0] (by decide) rfl)
   refine c_skip (e_go hK23 ?_)
   refine c_seq fun _ hK26 => ?_
   refine c_region ?_
   refine l_val wn (r_move rfl) rfl ?_
   refine l_val wn (r_move rfl) rfl ?_
   refine l_val wn (r_build [iV 1, iV v1, iV 0, .string ⟨#[]⟩, Zs, Zs, Zs] pl26 inf26 rfl rfl) rfl ?_
   have hl_be4 : be4 = 0 → be = 0 := fun h9 => hs5.1.first h9
   have hl_be5 : be5 = 0 → be4 = 0 := fun h9 => hs6.first h9
   have wz1 : wd1.size ≤ 12 := Pz.word_size (t := ⟨j4, n⟩) (by show _ ≤ s.size; omega) (hs5.1.ok_ (hs5.1.first (Classical.not_not.1 h4)) (Classical.not_not.1 h4))
   have hb0_1 : be5 = 0 := (Classical.not_not.1 h6)
   have hb0_2 : be4 = 0 := (Classical.not_not.1 h4)
   have hb0_3 : be = 0 := (Classical.not_not.1 h1)
   refine l_mem (fun _ h => h.exprG (k := 1) (n := v1) (r := 0) (wd := ⟨#[]⟩) (ms := ⟨none, 0, []⟩) (bs := ⟨none, 0, []⟩) (ks := ⟨none, 0, []⟩) (fun _ _ => FlatSl.nil_ _ _ _ _) (fun _ _ => FlatSl.nil_ _ _ _ _) (fun _ _ => FlatSl.nil_ _ _ _ _) (fun _ _ x hx => by cases hx) (by first | decide | omega) (fun x hx => by cases hx) (fun x hx => by cases hx)) ?_
   refine l_give (α := (Int × Int)) [Wb 69 p s j6 n be5 ba5] [okP ExprX.Ok (ExprX.mk 1 v1 0 ⟨#[]⟩ ⟨none, 0, []⟩ ⟨none, 0, []⟩ ⟨none, 0, []⟩), .blk b4 Zx 26] (fun _ : Int × Int => .agg (List.toArray [iV 1, iV v1, iV 0, .string ⟨#[]⟩, Zs, Zs, Zs])) (fun z10 => (Pz.SimU s be5 ba5 (Pz.node ⟨j6, n⟩) ⟨j6, n + 1, z10.1, z10.2⟩)) (fun z10 => [Wb 69 p s j6 (n + 1) z10.1 z10.2]) _ (fun _ => rfl) (fun _ h => h.sel [1, 0, 2] (by decide) rfl) (fun _ => rfl) wn rfl rfl Tryd.call54 rfl (fun w1 Pb hG => w_made p s j6 n be5 ba5 1 v1 0 ⟨#[]⟩ none 0 0 none 0 0 none 0 0 Pb w1 hG (by omega) (by omega) (by omega)) fun z10 hz11 => ?_
   obtain ⟨be6, ba6⟩ := z10
   have hs7 : Pz.SimU s be5 ba5 (Pz.node ⟨j6, n⟩) ⟨j6, n + 1, be6, ba6⟩ := hz11
   have hs7n : be6 = 0 → n + 1 ≤ 100 := fun h9 => by have h8 := (Pz.Fine.ok_ (Pz.node_fine (s := s) (t := ⟨j6, n⟩) (by show _ ≤ _; omega)) (hs7.ok_ (hs7.first h9) h9)).most (show n ≤ 100 by omega); exact h8
   refine l_as 57 (.agg (List.toArray [iV 1, iV v1, iV 0, .string ⟨#[]⟩, Zs, Zs, Zs])) [Wb 69 p s j6 (n + 1) be6 ba6, okP ExprX.Ok (ExprX.mk 1 v1 0 ⟨#[]⟩ ⟨none, 0, []⟩ ⟨none, 0, []⟩ ⟨none, 0, []⟩), .blk b4 Zx 26] ?_
   have hl_be6 : be6 = 0 → be5 = 0 := fun h9 => hs7.first h9
   refine l_stn 2 wn rfl rfl rfl inf26 rfl rfl rfl ?_
   refine l_nil (e_go hK26 ?_)
   refine c_ret (e_then_r (e_ret1 (.inl rfl) Tryd.results52 (rv_cell 2 rfl rfl agg26 inf26 rfl) fun w1 hM => ?_))
   have hM := hM.okI1 (be6 = 0) 1 rfl
   exact hM.retA ((ExprX.mk 1 v1 0 ⟨#[]⟩ ⟨none, 0, []⟩ ⟨none, 0, []⟩ ⟨none, 0, []⟩), j6, (n + 1), be6, ba6) rfl ⟨show Pz.Sim s be ba (Pz.fac s (M + 1) ⟨i, n⟩) ((ExprX.mk 1 v1 0 ⟨#[]⟩ ⟨none, 0, []⟩ ⟨none, 0, []⟩ ⟨none, 0, []⟩)).e ⟨j6, (n + 1), be6, ba6⟩ from (by first | exact Pz.fac_word hs2 (by simpa using h3) hz6e hs5.1 (Pz.facW_num h5 hs6 hs7) | (rw [Pz.fac_succ]; exact Pz.fac_word hs2 (by simpa using h3) hz6e hs5.1 (Pz.facW_num h5 hs6 hs7)) | (simp only [ExprX.e, ExprX.es, Pz.fac_succ]; exact Pz.fac_word hs2 (by simpa using h3) hz6e hs5.1 (Pz.facW_num h5 hs6 hs7))), by show 0 ≤ (n + 1) ∧ (n + 1) ≤ 101; omega, by show be6 = 0 → (n + 1) ≤ 100; first | (intro h9; omega) | (intro h9; exact absurd h9 id) | exact hs7n⟩ (fun h => h.sel [1, 0] (by decide) rfl)
 refine c_skip (e_go hK20 ?_)
 refine c_seq fun _ hK27 => ?_
 refine c_seq fun _ hK28 => ?_
 refine c_region ?_
 refine l_val wn (r_move rfl) rfl ?_
 refine l_val wn (r_sneq rfl rfl) rfl ?_
 refine l_nil (e_go hK28 ?_)
 refine c_cond rfl (fun h7 => ?_) (fun h7 => ?_)
 · refine c_seq fun _ hK29 => ?_
   refine c_seq fun _ hK30 => ?_
   refine c_region ?_
   refine l_val wn (r_move rfl) rfl ?_
   refine l_callL Agg.words wn rfl Tryd.call46 rfl (fun w1 hM => c_refWords  w1) fun A1 cp1 hc1 hm1 hA1 => ?_
   refine l_callF wn rfl Tryd.call45 rfl (fun w1 hM => c_refIn wd1 _ Agg.words w1 (RowSl encString hM 0 rfl)) ?_
   refine l_val wn (r_not rfl) rfl ?_
   refine l_nil (e_go hK30 ?_)
   refine c_cond rfl (fun h8 => ?_) (fun h8 => ?_)
   · refine c_seq fun _ hK31 => ?_
     refine c_region ?_
     refine l_val wn (r_move rfl) rfl ?_
     refine l_val wn (r_move rfl) rfl ?_
     refine l_give (α := (Int × Int)) [Wb 69 p s j5 n be4 ba4] [Row (.slice A1 Agg.words.length cp1) 9 1 strE Agg.words, .blk b4 Zx 26] (fun z : Int × Int => .tuple #[]) (fun z11 => (Pz.StopR be4 ba4 7 (j4 : Int) z11)) (fun z11 => [Wb 69 p s j5 n z11.1 z11.2]) _ (fun _ => rfl) (fun _ h => h.sel [1, 0, 2] (by decide) rfl) (fun _ => rfl) wn rfl rfl Tryd.call36 rfl (fun w1 Pb hG => w_stop p s j5 n be4 ba4 7 (j4 : Int) Pb w1 hG ) fun z11 hz12 => ?_
     obtain ⟨be7, ba7⟩ := z11
     have hs8 : Pz.StopR be4 ba4 7 (j4 : Int) (be7, ba7) := hz12
     try simp only at hs8
     refine l_as 66 (.tuple (List.toArray [])) [Wb 69 p s j5 n be7 ba7, Row (.slice A1 Agg.words.length cp1) 9 1 strE Agg.words, .blk b4 Zx 26] ?_
     refine l_nil (e_go hK31 ?_)
     refine c_seq fun _ hK32 => ?_
     refine c_region ?_
     refine l_val wn (r_build Zx pl26 inf26 rfl rfl) rfl ?_
     refine l_stn 2 wn rfl rfl rfl inf26 rfl rfl rfl ?_
     refine l_nil (e_go hK32 ?_)
     refine c_ret (e_then_r (e_then_r (e_ret1 (.inl rfl) Tryd.results52 (rv_cell 2 rfl rfl agg26 inf26 rfl) fun w1 hM => ?_)))
     have hl_be4 : be4 = 0 → be = 0 := fun h9 => hs5.1.first h9
     have hM := hM.okI0 (be7 = 0) (ExprX.mk 0 0 0 ⟨#[]⟩ ⟨none, 0, []⟩ ⟨none, 0, []⟩ ⟨none, 0, []⟩) (hs8.ne (by decide))
     exact hM.retA ((ExprX.mk 0 0 0 ⟨#[]⟩ ⟨none, 0, []⟩ ⟨none, 0, []⟩ ⟨none, 0, []⟩), j5, n, be7, ba7) rfl ⟨show Pz.Sim s be ba (Pz.fac s (M + 1) ⟨i, n⟩) ((ExprX.mk 0 0 0 ⟨#[]⟩ ⟨none, 0, []⟩ ⟨none, 0, []⟩ ⟨none, 0, []⟩)).e ⟨j5, n, be7, ba7⟩ from (by first | exact Pz.fac_word hs2 (by simpa using h3) hz6e hs5.1 (Pz.facW_no h5 h7 h8 (by omega) hs8) | (rw [Pz.fac_succ]; exact Pz.fac_word hs2 (by simpa using h3) hz6e hs5.1 (Pz.facW_no h5 h7 h8 (by omega) hs8)) | (simp only [ExprX.e, ExprX.es, Pz.fac_succ]; exact Pz.fac_word hs2 (by simpa using h3) hz6e hs5.1 (Pz.facW_no h5 h7 h8 (by omega) hs8))), by show 0 ≤ n ∧ n ≤ 101; omega, by show be7 = 0 → n ≤ 100; first | (intro h9; omega) | (intro h9; exact absurd h9 (hs8.ne (by decide))) | omega⟩ (fun h => h.sel [1, 0] (by decide) rfl)
   refine c_skip (e_go hK29 ?_)
   refine c_seq fun _ hK33 => ?_
   refine c_region ?_
   refine l_val wn (r_move rfl) rfl ?_
   refine l_val wn (r_move rfl) rfl ?_
   have hl_be4 : be4 = 0 → be = 0 := fun h9 => hs5.1.first h9
   have wz2 : wd1.size ≤ 12 := Pz.word_size (t := ⟨j4, n⟩) (by show _ ≤ s.size; omega) (hs5.1.ok_ (hs5.1.first (Classical.not_not.1 h4)) (Classical.not_not.1 h4))
   refine l_give (α := (ExprX × Nat × Int × Int × Int)) [Wb 69 p s j5 n be4 ba4] [Row (.slice A1 Agg.words.length cp1) 9 1 strE Agg.words, .blk b4 Zx 26] (fun z : ExprX × Nat × Int × Int × Int => .agg (exprE z.1).toArray) (fun z12 => (Pz.Sim s be4 ba4 (Pz.window s wd1 ⟨j5, n⟩) z12.1.e ⟨z12.2.1, z12.2.2.1, z12.2.2.2.1, z12.2.2.2.2⟩ ∧ (0 ≤ z12.2.2.1 ∧ z12.2.2.1 ≤ 101) ∧ (z12.2.2.2.1 = 0 → z12.2.2.1 ≤ 100))) (fun z12 => [Wb 69 p s z12.2.1 z12.2.2.1 z12.2.2.2.1 z12.2.2.2.2, okI (z12.2.2.2.1 = 0) z12.1]) _ (fun _ => rfl) (fun _ h => h.sel [1, 0, 2] (by decide) rfl) (fun _ => rfl) wn rfl rfl Tryd.call68 rfl (fun w1 Pb hG => w_window p s j5 n be4 ba4 wd1 Pb w1 hG (by omega) (by omega) (by omega) (by omega) (by omega)) fun z12 hz13 => ?_
   obtain ⟨x2, j7, m2, be8, ba8⟩ := z12
   have hs9 : Pz.Sim s be4 ba4 (Pz.window s wd1 ⟨j5, n⟩) (x2, j7, m2, be8, ba8).1.e ⟨(x2, j7, m2, be8, ba8).2.1, (x2, j7, m2, be8, ba8).2.2.1, (x2, j7, m2, be8, ba8).2.2.2.1, (x2, j7, m2, be8, ba8).2.2.2.2⟩ ∧ (0 ≤ (x2, j7, m2, be8, ba8).2.2.1 ∧ (x2, j7, m2, be8, ba8).2.2.1 ≤ 101) ∧ ((x2, j7, m2, be8, ba8).2.2.2.1 = 0 → (x2, j7, m2, be8, ba8).2.2.1 ≤ 100) := hz13
   try simp only at hs9
   have hs9l : j7 ≤ s.size := hs9.1.1
   have hs9n := hs9.2.1
   have hs9m := hs9.2.2
   refine l_as 70 (.agg (List.toArray [iV x2.kind, iV x2.n, iV x2.range, .string x2.word, .slice x2.ms.A x2.ms.l.length x2.ms.c, .slice x2.by_.A x2.by_.l.length x2.by_.c, .slice x2.kids.A x2.kids.l.length x2.kids.c])) [Wb 69 p s j7 m2 be8 ba8, okI (be8 = 0) x2, Row (.slice A1 Agg.words.length cp1) 9 1 strE Agg.words, .blk b4 Zx 26] ?_
   have hl_be8 : be8 = 0 → be4 = 0 := fun h9 => hs9.1.first h9
   refine l_stn 3 wn rfl rfl rfl inf26 rfl rfl rfl ?_
   refine l_nil (e_go hK33 ?_)
   refine c_ret (e_then_r (e_ret1 (.inl rfl) Tryd.results52 (rv_cell 3 rfl rfl agg26 inf26 rfl) fun w1 hM => ?_))
   have hM := hM.okI2 (be8 = 0) 1 rfl (fun h9 => h9)
   exact hM.retA (x2, j7, m2, be8, ba8) rfl ⟨show Pz.Sim s be ba (Pz.fac s (M + 1) ⟨i, n⟩) (x2).e ⟨j7, m2, be8, ba8⟩ from (by first | exact Pz.fac_word hs2 (by simpa using h3) hz6e hs5.1 (Pz.facW_win h5 h7 h8 hs9.1) | (rw [Pz.fac_succ]; exact Pz.fac_word hs2 (by simpa using h3) hz6e hs5.1 (Pz.facW_win h5 h7 h8 hs9.1)) | (simp only [ExprX.e, ExprX.es, Pz.fac_succ]; exact Pz.fac_word hs2 (by simpa using h3) hz6e hs5.1 (Pz.facW_win h5 h7 h8 hs9.1))), by show 0 ≤ m2 ∧ m2 ≤ 101; omega, by show be8 = 0 → m2 ≤ 100; first | (intro h9; omega) | (intro h9; exact absurd h9 id) | omega⟩ (fun h => h.sel [1, 0] (by decide) rfl)
 refine c_skip (e_go hK27 ?_)
 refine c_seq fun _ hK34 => ?_
 refine c_region ?_
 refine l_val wn (r_move rfl) rfl ?_
 refine l_give (α := Nat) [Wb 69 p s j5 n be4 ba4] [.blk b4 Zx 26] (fun _ : Nat => .tuple #[]) (fun j8 => (Pz.blank s j5 = j8 ∧ j5 ≤ j8 ∧ j8 ≤ s.size)) (fun j8 => [Wb 69 p s j8 n be4 ba4]) (fun j8 => [Wb 69 p s j8 n be4 ba4, .blk b4 Zx 26]) (fun _ => rfl) (fun _ h => h.sel [0, 1] (by decide) rfl) (fun _ => rfl) wn rfl rfl Tryd.call35 rfl (fun w1 Pb hG => w_skip p s j5 n be4 ba4 Pb w1 hG (by omega) (by omega)) fun j8 hz14 => ?_
 obtain ⟨hz14e, hz14a, hz14b⟩ := hz14
 refine l_nil (e_go hK34 ?_)
 refine c_seq fun _ hK35 => ?_
 refine c_region ?_
 refine l_val wn (r_move rfl) rfl ?_
 refine l_val wn (r_nilCheck rfl) rfl ?_
 refine l_val wn (r_fa rfl fld69_1) rfl ?_
 refine l_val wn (r_lb 0 rfl rfl rfl flat3) rfl ?_
 refine l_val wn (r_assign rfl) rfl ?_
 refine l_nil (e_go hK35 ?_)
 refine c_seq fun _ hK36 => ?_
 refine c_region ?_
 refine l_val wn (r_move rfl) rfl ?_
 refine l_give (α := (ByteArray × Nat × Int × Int)) [Wb 69 p s j8 n be4 ba4] [.blk b4 Zx 26] (fun z : ByteArray × Nat × Int × Int => .string z.1) (fun z13 => ((Pz.Sim s be4 ba4 (Pz.name s ⟨j8, n⟩) z13.1 ⟨z13.2.1, n, z13.2.2.1, z13.2.2.2⟩) ∧ z13.1.size ≤ 2000)) (fun z13 => [Wb 69 p s z13.2.1 n z13.2.2.1 z13.2.2.2]) _ (fun _ => rfl) (fun _ h => h.sel [0, 1] (by decide) rfl) (fun _ => rfl) wn rfl rfl Tryd.call69 rfl (fun w1 Pb hG => w_name p s j8 n be4 ba4  Pb w1 hG (by omega) (by omega)) fun z13 hz15 => ?_
 obtain ⟨wd2, j9, be9, ba9⟩ := z13
 have hs10 : (Pz.Sim s be4 ba4 (Pz.name s ⟨j8, n⟩) (wd2, j9, be9, ba9).1 ⟨(wd2, j9, be9, ba9).2.1, n, (wd2, j9, be9, ba9).2.2.1, (wd2, j9, be9, ba9).2.2.2⟩) ∧ (wd2, j9, be9, ba9).1.size ≤ 2000 := hz15
 try simp only at hs10
 have hs10l : j9 ≤ s.size := hs10.1.1
 have hs10z : wd2.size ≤ 2000 := hs10.2
 refine l_as 78 (.string wd2) [Wb 69 p s j9 n be9 ba9, .blk b4 Zx 26] ?_
 refine l_val wn (r_build [iV 3, iV 0, iV 0, .string wd2, Zs, Zs, Zs] pl26 inf26 rfl rfl) rfl ?_
 refine l_alloc wn inf26 rfl fun b9 => ?_
 refine l_stn 0 wn rfl rfl rfl inf26 rfl rfl rfl ?_
 refine l_nil (e_go hK36 ?_)
 refine c_seq fun _ hK37 => ?_
 refine c_seq fun _ hK38 => ?_
 refine c_nodes (Mem w ⟨fpOf [Wb 69 p s i n be ba], Pb⟩ [.blk b9 [iV 3, iV 0, iV 0, .string wd2, Zs, Zs, Zs] 26, Wb 69 p s j9 n be9 ba9, .blk b4 Zx 26]) mix (fun _ h => h.drew) rfl ?_
 refine n_run (f := 8) [0] rfl rfl (by kernel_rfl) (by kernel_rfl) (fun _ h => h) fun KS hKS => ?_
 refine s_val wn (r_move rfl) rfl ?_
 refine s_end hKS ?_
 refine n_step1 (f := 7) (i := 1) rfl (by kernel_rfl) ?_
 refine n_one (i := 1) rfl fun KN hKN => ?_
 refine l_give (α := Unit) [Wb 69 p s j9 n be9 ba9] [.blk b9 [iV 3, iV 0, iV 0, .string wd2, Zs, Zs, Zs] 26, .blk b4 Zx 26] (fun _ : Unit => .bool (decide (be9 = 0))) (fun z14 => True) (fun z14 => [Wb 69 p s j9 n be9 ba9]) (fun z14 => [Wb 69 p s j9 n be9 ba9, .blk b9 [iV 3, iV 0, iV 0, .string wd2, Zs, Zs, Zs] 26, .blk b4 Zx 26]) (fun _ => rfl) (fun _ h => h.sel [1, 0, 2] (by decide) rfl) (fun _ => rfl) wn rfl rfl Tryd.call34 rfl (fun w1 Pb hG => w_ok p s j9 n be9 ba9 Pb w1 hG) fun z14 hz16 => ?_
 refine l_nil (hKN _ _ (fun _ h => (h.sel [1, 0, 2] (by decide) rfl)) ?_)
 refine n_run (f := 4) [2, 3, 4] rfl rfl (by kernel_rfl) (by kernel_rfl) (fun _ h => (h.sel [1, 0, 2] (by decide) rfl)) fun KS hKS => ?_
 refine s_val wn (r_move rfl) rfl ?_
 refine s_case (t := 82) rfl (fun h9 => ?_) (fun h9 => ?_)
 · refine s_val (wg rfl rfl rfl) (r_fa rfl fld26_3) rfl ?_
   refine s_val (wg rfl rfl rfl) (r_lb 0 rfl rfl rfl flat9) rfl ?_
   refine s_end hKS ?_
   refine n_step1 (f := 3) (i := 5) rfl (by kernel_rfl) ?_
   refine n_one (i := 5) rfl fun KN hKN => ?_
   refine l_callL Lg.totals (wg rfl rfl rfl) rfl Tryd.call19 rfl (fun w1 hM => c_refTotals  w1) fun A2 cp2 hc2 hm2 hA2 => ?_
   refine l_nil (hKN _ _ (fun _ h => (h.sel [2, 1, 3] (by decide) rfl)) ?_)
   refine n_step1 (f := 2) (i := 6) rfl (by kernel_rfl) ?_
   refine n_one (i := 6) rfl fun KN hKN => ?_
   refine l_callF (wg rfl rfl rfl) rfl Tryd.call45 rfl (fun w1 hM => c_refIn wd2 _ Lg.totals w1 (RowSl encString hM 0 rfl)) ?_
   refine l_nil (hKN _ _ (fun _ h => (h.sel [2, 1, 3] (by decide) rfl)) ?_)
   refine n_run (f := 0) [7, 8] rfl rfl (by kernel_rfl) (by kernel_rfl) (fun _ h => (h.sel [2, 1, 3] (by decide) rfl)) fun KS hKS => ?_
   refine s_val (wg rfl rfl rfl) (r_not rfl) rfl ?_
   refine s_val wn (r_pick rfl rfl) rfl ?_
   refine s_end hKS ?_
   refine n_done (by kernel_rfl) (e_go hK38 ?_)
   refine c_cond rfl (fun h10 => ?_) (fun h10 => ?_)
   · refine c_region ?_
     refine l_val wn (r_move rfl) rfl ?_
     refine l_val wn (r_move rfl) rfl ?_
     refine l_give (α := (Int × Int)) [Wb 69 p s j9 n be9 ba9] [Row (.slice A2 Lg.totals.length cp2) 9 1 strE Lg.totals, .blk b9 [iV 3, iV 0, iV 0, .string wd2, Zs, Zs, Zs] 26, .blk b4 Zx 26] (fun z : Int × Int => .tuple #[]) (fun z15 => (Pz.StopR be9 ba9 7 (j8 : Int) z15)) (fun z15 => [Wb 69 p s j9 n z15.1 z15.2]) _ (fun _ => rfl) (fun _ h => h.sel [1, 0, 2, 3] (by decide) rfl) (fun _ => rfl) wn rfl rfl Tryd.call36 rfl (fun w1 Pb hG => w_stop p s j9 n be9 ba9 7 (j8 : Int) Pb w1 hG ) fun z15 hz17 => ?_
     obtain ⟨be10, ba10⟩ := z15
     have hs11 : Pz.StopR be9 ba9 7 (j8 : Int) (be10, ba10) := hz17
     try simp only at hs11
     refine l_as 91 (.tuple (List.toArray [])) [Wb 69 p s j9 n be10 ba10, Row (.slice A2 Lg.totals.length cp2) 9 1 strE Lg.totals, .blk b9 [iV 3, iV 0, iV 0, .string wd2, Zs, Zs, Zs] 26, .blk b4 Zx 26] ?_
     refine l_nil (e_go hK37 ?_)
     refine c_seq fun _ hK39 => ?_
     refine c_seq fun _ hK40 => ?_
     refine c_region ?_
     refine l_val wn (r_move rfl) rfl ?_
     refine l_give (α := Unit) [Wb 69 p s j9 n be10 ba10] [Row (.slice A2 Lg.totals.length cp2) 9 1 strE Lg.totals, .blk b9 [iV 3, iV 0, iV 0, .string wd2, Zs, Zs, Zs] 26, .blk b4 Zx 26] (fun _ : Unit => .bool (decide (be10 = 0))) (fun z16 => True) (fun z16 => [Wb 69 p s j9 n be10 ba10]) (fun z16 => [Wb 69 p s j9 n be10 ba10, Row (.slice A2 Lg.totals.length cp2) 9 1 strE Lg.totals, .blk b9 [iV 3, iV 0, iV 0, .string wd2, Zs, Zs, Zs] 26, .blk b4 Zx 26]) (fun _ => rfl) (fun _ h => h.sel [0, 1, 2, 3] (by decide) rfl) (fun _ => rfl) wn rfl rfl Tryd.call34 rfl (fun w1 Pb hG => w_ok p s j9 n be10 ba10 Pb w1 hG) fun z16 hz18 => ?_
     refine l_val wn (r_not rfl) rfl ?_
     refine l_nil (e_go hK40 ?_)
     refine c_true rfl (decide_eq_true (hs11.ne (by decide))) ?_
     refine c_seq fun _ hK41 => ?_
     refine c_region ?_
     refine l_val wn (r_lbn 2 [iV 3, iV 0, iV 0, .string wd2, Zs, Zs, Zs] rfl rfl rfl rfl agg26 inf26) rfl ?_
     refine l_stn 3 wn rfl rfl rfl inf26 rfl rfl rfl ?_
     refine l_nil (e_go hK41 ?_)
     refine c_ret (e_then_r (e_ret1 (.inl rfl) Tryd.results52 (rv_cell 3 rfl rfl agg26 inf26 rfl) fun w1 hM => ?_))
     have hl_be4 : be4 = 0 → be = 0 := fun h9 => hs5.1.first h9
     have hl_be9 : be9 = 0 → be4 = 0 := fun h9 => hs10.1.first h9
     have hM := hM.okI0 (be10 = 0) (ExprX.mk 3 0 0 wd2 ⟨none, 0, []⟩ ⟨none, 0, []⟩ ⟨none, 0, []⟩) (hs11.ne (by decide))
     exact hM.retA ((ExprX.mk 3 0 0 wd2 ⟨none, 0, []⟩ ⟨none, 0, []⟩ ⟨none, 0, []⟩), j9, n, be10, ba10) rfl ⟨show Pz.Sim s be ba (Pz.fac s (M + 1) ⟨i, n⟩) ((ExprX.mk 3 0 0 wd2 ⟨none, 0, []⟩ ⟨none, 0, []⟩ ⟨none, 0, []⟩)).e ⟨j9, n, be10, ba10⟩ from (by first | exact Pz.fac_word hs2 (by simpa using h3) hz6e hs5.1 (Pz.facW_all h7 (Pz.all_name hz14e hs10.1 (Pz.allW_no h10 (by omega) hs11))) | (rw [Pz.fac_succ]; exact Pz.fac_word hs2 (by simpa using h3) hz6e hs5.1 (Pz.facW_all h7 (Pz.all_name hz14e hs10.1 (Pz.allW_no h10 (by omega) hs11)))) | (simp only [ExprX.e, ExprX.es, Pz.fac_succ]; exact Pz.fac_word hs2 (by simpa using h3) hz6e hs5.1 (Pz.facW_all h7 (Pz.all_name hz14e hs10.1 (Pz.allW_no h10 (by omega) hs11))))), by show 0 ≤ n ∧ n ≤ 101; omega, by show be10 = 0 → n ≤ 100; first | (intro h9; omega) | (intro h9; exact absurd h9 (hs11.ne (by decide))) | omega⟩ (fun h => h.sel [1, 0] (by decide) rfl)
   refine c_skip (e_go hK37 ?_)
   refine c_seq fun _ hK42 => ?_
   refine c_seq fun _ hK43 => ?_
   refine c_region ?_
   refine l_val wn (r_move rfl) rfl ?_
   refine l_give (α := Unit) [Wb 69 p s j9 n be9 ba9] [Row (.slice A2 Lg.totals.length cp2) 9 1 strE Lg.totals, .blk b9 [iV 3, iV 0, iV 0, .string wd2, Zs, Zs, Zs] 26, .blk b4 Zx 26] (fun _ : Unit => .bool (decide (be9 = 0))) (fun z17 => True) (fun z17 => [Wb 69 p s j9 n be9 ba9]) (fun z17 => [Wb 69 p s j9 n be9 ba9, Row (.slice A2 Lg.totals.length cp2) 9 1 strE Lg.totals, .blk b9 [iV 3, iV 0, iV 0, .string wd2, Zs, Zs, Zs] 26, .blk b4 Zx 26]) (fun _ => rfl) (fun _ h => h.sel [1, 0, 2, 3] (by decide) rfl) (fun _ => rfl) wn rfl rfl Tryd.call34 rfl (fun w1 Pb hG => w_ok p s j9 n be9 ba9 Pb w1 hG) fun z17 hz19 => ?_
   refine l_val wn (r_not rfl) rfl ?_
   refine l_nil (e_go hK43 ?_)
   refine c_false rfl (decide_eq_false (fun g => g h9)) ?_
   refine c_skip (e_go hK42 ?_)
   refine c_seq fun _ hK44 => ?_
   refine c_region ?_
   refine l_val wn (r_move rfl) rfl ?_
   refine l_give (α := Nat) [Wb 69 p s j9 n be9 ba9] [Row (.slice A2 Lg.totals.length cp2) 9 1 strE Lg.totals, .blk b9 [iV 3, iV 0, iV 0, .string wd2, Zs, Zs, Zs] 26, .blk b4 Zx 26] (fun _ : Nat => .tuple #[]) (fun j10 => (Pz.blank s j9 = j10 ∧ j9 ≤ j10 ∧ j10 ≤ s.size)) (fun j10 => [Wb 69 p s j10 n be9 ba9]) (fun j10 => [Wb 69 p s j10 n be9 ba9, Row (.slice A2 Lg.totals.length cp2) 9 1 strE Lg.totals, .blk b9 [iV 3, iV 0, iV 0, .string wd2, Zs, Zs, Zs] 26, .blk b4 Zx 26]) (fun _ => rfl) (fun _ h => h.sel [0, 1, 2, 3] (by decide) rfl) (fun _ => rfl) wn rfl rfl Tryd.call35 rfl (fun w1 Pb hG => w_skip p s j9 n be9 ba9 Pb w1 hG (by omega) (by omega)) fun j10 hz20 => ?_
   obtain ⟨hz20e, hz20a, hz20b⟩ := hz20
   refine l_nil (e_go hK44 ?_)
   refine c_seq fun _ hK45 => ?_
   refine c_region ?_
   refine l_val wn (r_move rfl) rfl ?_
   refine l_val wn (r_nilCheck rfl) rfl ?_
   refine l_val wn (r_fa rfl fld69_1) rfl ?_
   refine l_val wn (r_lb 0 rfl rfl rfl flat3) rfl ?_
   refine l_val wn (r_assign rfl) rfl ?_
   refine l_nil (e_go hK45 ?_)
   refine c_seq fun _ hK46 => ?_
   refine c_region ?_
   refine l_val wn (r_move rfl) rfl ?_
   refine l_give (α := (ByteArray × Nat × Int × Int)) [Wb 69 p s j10 n be9 ba9] [Row (.slice A2 Lg.totals.length cp2) 9 1 strE Lg.totals, .blk b9 [iV 3, iV 0, iV 0, .string wd2, Zs, Zs, Zs] 26, .blk b4 Zx 26] (fun z : ByteArray × Nat × Int × Int => .string z.1) (fun z18 => ((Pz.Sim s be9 ba9 (Pz.word s ⟨j10, n⟩) z18.1 ⟨z18.2.1, n, z18.2.2.1, z18.2.2.2⟩) ∧ z18.1.size ≤ 2000)) (fun z18 => [Wb 69 p s z18.2.1 n z18.2.2.1 z18.2.2.2]) _ (fun _ => rfl) (fun _ h => h.sel [0, 1, 2, 3] (by decide) rfl) (fun _ => rfl) wn rfl rfl Tryd.call66 rfl (fun w1 Pb hG => w_word p s j10 n be9 ba9  Pb w1 hG (by omega) (by omega)) fun z18 hz21 => ?_
   obtain ⟨wd3, j11, be11, ba11⟩ := z18
   have hs12 : (Pz.Sim s be9 ba9 (Pz.word s ⟨j10, n⟩) (wd3, j11, be11, ba11).1 ⟨(wd3, j11, be11, ba11).2.1, n, (wd3, j11, be11, ba11).2.2.1, (wd3, j11, be11, ba11).2.2.2⟩) ∧ (wd3, j11, be11, ba11).1.size ≤ 2000 := hz21
   try simp only at hs12
   have hs12l : j11 ≤ s.size := hs12.1.1
   have hs12z : wd3.size ≤ 2000 := hs12.2
   refine l_as 103 (.string wd3) [Wb 69 p s j11 n be11 ba11, Row (.slice A2 Lg.totals.length cp2) 9 1 strE Lg.totals, .blk b9 [iV 3, iV 0, iV 0, .string wd2, Zs, Zs, Zs] 26, .blk b4 Zx 26] ?_
   refine l_val wn (r_assign rfl) rfl ?_
   refine l_nil (e_go hK46 ?_)
   refine c_seq2 fun PK1 hPK1 K47 hK47 => ?_
   have hR1 : ∀ (lB : List ByteArray) (jB : Nat) (beB : Int) (baB : Int) (rvB : Value) (htB : ∀ e r, Pz.Sim s beB baB (Pz.allTail s (Pz.xpr s M) wd2 lB ⟨jB, n⟩) e r → Pz.Sim s be11 ba11 (Pz.byT s (Pz.xpr s M) j10 wd2 wd3 ⟨j11, n⟩) e r) (hlB : jB ≤ s.size) (hsB : beB = 0 → ∀ x ∈ lB, x.size ≤ 12) (hfB : Pz.Fst be11 beB), ∀ w9, Mem w ⟨fpOf [Wb 69 p s i n be ba], Pb⟩ [Row rvB 9 1 strE lB, Wb 69 p s jB n beB baB, Row (.slice A2 Lg.totals.length cp2) 9 1 strE Lg.totals, .blk b9 [iV 3, iV 0, iV 0, .string wd2, Zs, rvB, Zs] 26, .blk b4 Zx 26] w9 → ∀ a9, Has 167 [] a9 [(0, .pointer (some ⟨p, 0, none⟩)), (1, iV d), (4, .pointer (some ⟨b4, 0, none⟩)), (9, .pointer (some ⟨b9, 0, none⟩))] → PK1 a9 w9 := by
     intro lB jB beB baB rvB htB hlB hsB hfB
     refine hPK1 [(0, .pointer (some ⟨p, 0, none⟩)), (1, iV d), (4, .pointer (some ⟨b4, 0, none⟩)), (9, .pointer (some ⟨b9, 0, none⟩))] (Mem w ⟨fpOf [Wb 69 p s i n be ba], Pb⟩ [Row rvB 9 1 strE lB, Wb 69 p s jB n beB baB, Row (.slice A2 Lg.totals.length cp2) 9 1 strE Lg.totals, .blk b9 [iV 3, iV 0, iV 0, .string wd2, Zs, rvB, Zs] 26, .blk b4 Zx 26]) ?_
     refine c_open 0 (l := lB) rfl fun A3 cp3 hv1 hc3 hm3 hA3 => ?_
     subst hv1
     refine c_seq fun _ hK48 => ?_
     refine c_region ?_
     refine l_val wn (r_move rfl) rfl ?_
     have hl_be4 : be4 = 0 → be = 0 := fun h9 => hs5.1.first h9
     have hl_be9 : be9 = 0 → be4 = 0 := fun h9 => hs10.1.first h9
     have hl_be11 : be11 = 0 → be9 = 0 := fun h9 => hs12.1.first h9
     have hl_beB : beB = 0 → be11 = 0 := fun h9 => hfB.first h9
     refine l_give (α := (Nat × Int × Int)) [Wb 69 p s jB n beB baB] [Row (.slice A3 lB.length cp3) 9 1 strE lB, Row (.slice A2 Lg.totals.length cp2) 9 1 strE Lg.totals, .blk b9 [iV 3, iV 0, iV 0, .string wd2, Zs, .slice A3 lB.length cp3, Zs] 26, .blk b4 Zx 26] (fun z : Nat × Int × Int => .tuple #[]) (fun z19 => (Pz.SimU s beB baB (Pz.must s ⟨#[40]⟩ ⟨jB, n⟩) ⟨z19.1, n, z19.2.1, z19.2.2⟩)) (fun z19 => [Wb 69 p s z19.1 n z19.2.1 z19.2.2]) _ (fun _ => rfl) (fun _ h => h.sel [1, 0, 2, 3, 4] (by decide) rfl) (fun _ => rfl) wn rfl rfl Tryd.call65 rfl (fun w1 Pb hG => w_need p s jB n beB baB ⟨#[40]⟩ Pb w1 hG (by omega) (by omega) (by first | decide | omega)) fun z19 hz22 => ?_
     obtain ⟨j12, be12, ba12⟩ := z19
     have hs13 : Pz.SimU s beB baB (Pz.must s ⟨#[40]⟩ ⟨jB, n⟩) ⟨(j12, be12, ba12).1, n, (j12, be12, ba12).2.1, (j12, be12, ba12).2.2⟩ := hz22
     try simp only at hs13
     have hs13l : j12 ≤ s.size := hs13.1
     refine l_as 150 (.tuple (List.toArray [])) [Wb 69 p s j12 n be12 ba12, Row (.slice A3 lB.length cp3) 9 1 strE lB, Row (.slice A2 Lg.totals.length cp2) 9 1 strE Lg.totals, .blk b9 [iV 3, iV 0, iV 0, .string wd2, Zs, .slice A3 lB.length cp3, Zs] 26, .blk b4 Zx 26] ?_
     have hl_be12 : be12 = 0 → beB = 0 := fun h9 => hs13.first h9
     refine l_nil (e_go hK48 ?_)
     refine c_seq fun _ hK49 => ?_
     refine c_region ?_
     refine l_val wn (r_move rfl) rfl ?_
     refine l_val wn (r_move rfl) rfl ?_
     refine l_val wn (r_addn rfl rfl (by omega)) rfl ?_
     refine l_give (α := (ExprX × Nat × Int × Int × Int)) [Wb 69 p s j12 n be12 ba12] [Row (.slice A3 lB.length cp3) 9 1 strE lB, Row (.slice A2 Lg.totals.length cp2) 9 1 strE Lg.totals, .blk b9 [iV 3, iV 0, iV 0, .string wd2, Zs, .slice A3 lB.length cp3, Zs] 26, .blk b4 Zx 26] (fun z : ExprX × Nat × Int × Int × Int => .agg (exprE z.1).toArray) (fun z20 => (Pz.Sim s be12 ba12 (Pz.xpr s M ⟨j12, n⟩) z20.1.e ⟨z20.2.1, z20.2.2.1, z20.2.2.2.1, z20.2.2.2.2⟩ ∧ (0 ≤ z20.2.2.1 ∧ z20.2.2.1 ≤ 101) ∧ (z20.2.2.2.1 = 0 → z20.2.2.1 ≤ 100))) (fun z20 => [Wb 69 p s z20.2.1 z20.2.2.1 z20.2.2.2.1 z20.2.2.2.2, okI (z20.2.2.2.1 = 0) z20.1]) _ (fun _ => rfl) (fun _ h => h.sel [0, 1, 2, 3, 4] (by decide) rfl) (fun _ => rfl) wn rfl rfl Tryd.call33 rfl (fun w1 Pb hG => (ih M rfl) p s j12 n be12 ba12 (d + 1) Pb w1 hG (by omega) (by omega) (by omega) (by omega) (by omega) (by omega)) fun z20 hz23 => ?_
     obtain ⟨x3, j13, m3, be13, ba13⟩ := z20
     have hs14 : Pz.Sim s be12 ba12 (Pz.xpr s M ⟨j12, n⟩) (x3, j13, m3, be13, ba13).1.e ⟨(x3, j13, m3, be13, ba13).2.1, (x3, j13, m3, be13, ba13).2.2.1, (x3, j13, m3, be13, ba13).2.2.2.1, (x3, j13, m3, be13, ba13).2.2.2.2⟩ ∧ (0 ≤ (x3, j13, m3, be13, ba13).2.2.1 ∧ (x3, j13, m3, be13, ba13).2.2.1 ≤ 101) ∧ ((x3, j13, m3, be13, ba13).2.2.2.1 = 0 → (x3, j13, m3, be13, ba13).2.2.1 ≤ 100) := hz23
     try simp only at hs14
     have hs14l : j13 ≤ s.size := hs14.1.1
     have hs14n := hs14.2.1
     have hs14m := hs14.2.2
     refine l_as 154 (.agg (List.toArray [iV x3.kind, iV x3.n, iV x3.range, .string x3.word, .slice x3.ms.A x3.ms.l.length x3.ms.c, .slice x3.by_.A x3.by_.l.length x3.by_.c, .slice x3.kids.A x3.kids.l.length x3.kids.c])) [Wb 69 p s j13 m3 be13 ba13, okI (be13 = 0) x3, Row (.slice A3 lB.length cp3) 9 1 strE lB, Row (.slice A2 Lg.totals.length cp2) 9 1 strE Lg.totals, .blk b9 [iV 3, iV 0, iV 0, .string wd2, Zs, .slice A3 lB.length cp3, Zs] 26, .blk b4 Zx 26] ?_
     have hl_be13 : be13 = 0 → be12 = 0 := fun h9 => hs14.1.first h9
     refine l_alloc wn inf26 rfl fun b11 => ?_
     refine l_stn 0 wn rfl rfl rfl inf26 rfl rfl rfl ?_
     refine l_nil (e_go hK49 ?_)
     refine c_seq fun _ hK50 => ?_
     refine c_region ?_
     refine l_val wn (r_move rfl) rfl ?_
     refine l_give (α := (Nat × Int × Int)) [Wb 69 p s j13 m3 be13 ba13] [.blk b11 [iV x3.kind, iV x3.n, iV x3.range, .string x3.word, .slice x3.ms.A x3.ms.l.length x3.ms.c, .slice x3.by_.A x3.by_.l.length x3.by_.c, .slice x3.kids.A x3.kids.l.length x3.kids.c] 26, okI (be13 = 0) x3, Row (.slice A3 lB.length cp3) 9 1 strE lB, Row (.slice A2 Lg.totals.length cp2) 9 1 strE Lg.totals, .blk b9 [iV 3, iV 0, iV 0, .string wd2, Zs, .slice A3 lB.length cp3, Zs] 26, .blk b4 Zx 26] (fun z : Nat × Int × Int => .tuple #[]) (fun z21 => (Pz.SimU s be13 ba13 (Pz.must s ⟨#[41]⟩ ⟨j13, m3⟩) ⟨z21.1, m3, z21.2.1, z21.2.2⟩)) (fun z21 => [Wb 69 p s z21.1 m3 z21.2.1 z21.2.2]) _ (fun _ => rfl) (fun _ h => h.sel [1, 0, 2, 3, 4, 5, 6] (by decide) rfl) (fun _ => rfl) wn rfl rfl Tryd.call65 rfl (fun w1 Pb hG => w_need p s j13 m3 be13 ba13 ⟨#[41]⟩ Pb w1 hG (by omega) (by omega) (by first | decide | omega)) fun z21 hz24 => ?_
     obtain ⟨j14, be14, ba14⟩ := z21
     have hs15 : Pz.SimU s be13 ba13 (Pz.must s ⟨#[41]⟩ ⟨j13, m3⟩) ⟨(j14, be14, ba14).1, m3, (j14, be14, ba14).2.1, (j14, be14, ba14).2.2⟩ := hz24
     try simp only at hs15
     have hs15l : j14 ≤ s.size := hs15.1
     refine l_as 156 (.tuple (List.toArray [])) [Wb 69 p s j14 m3 be14 ba14, .blk b11 [iV x3.kind, iV x3.n, iV x3.range, .string x3.word, .slice x3.ms.A x3.ms.l.length x3.ms.c, .slice x3.by_.A x3.by_.l.length x3.by_.c, .slice x3.kids.A x3.kids.l.length x3.kids.c] 26, okI (be13 = 0) x3, Row (.slice A3 lB.length cp3) 9 1 strE lB, Row (.slice A2 Lg.totals.length cp2) 9 1 strE Lg.totals, .blk b9 [iV 3, iV 0, iV 0, .string wd2, Zs, .slice A3 lB.length cp3, Zs] 26, .blk b4 Zx 26] ?_
     have hl_be14 : be14 = 0 → be13 = 0 := fun h9 => hs15.first h9
     refine l_nil (e_go hK50 ?_)
     refine c_seq fun _ hK51 => ?_
     refine c_seq fun _ hK52 => ?_
     refine c_region ?_
     refine l_val wn (r_move rfl) rfl ?_
     refine l_give (α := Unit) [Wb 69 p s j14 m3 be14 ba14] [.blk b11 [iV x3.kind, iV x3.n, iV x3.range, .string x3.word, .slice x3.ms.A x3.ms.l.length x3.ms.c, .slice x3.by_.A x3.by_.l.length x3.by_.c, .slice x3.kids.A x3.kids.l.length x3.kids.c] 26, okI (be13 = 0) x3, Row (.slice A3 lB.length cp3) 9 1 strE lB, Row (.slice A2 Lg.totals.length cp2) 9 1 strE Lg.totals, .blk b9 [iV 3, iV 0, iV 0, .string wd2, Zs, .slice A3 lB.length cp3, Zs] 26, .blk b4 Zx 26] (fun _ : Unit => .bool (decide (be14 = 0))) (fun z22 => True) (fun z22 => [Wb 69 p s j14 m3 be14 ba14]) (fun z22 => [Wb 69 p s j14 m3 be14 ba14, .blk b11 [iV x3.kind, iV x3.n, iV x3.range, .string x3.word, .slice x3.ms.A x3.ms.l.length x3.ms.c, .slice x3.by_.A x3.by_.l.length x3.by_.c, .slice x3.kids.A x3.kids.l.length x3.kids.c] 26, okI (be13 = 0) x3, Row (.slice A3 lB.length cp3) 9 1 strE lB, Row (.slice A2 Lg.totals.length cp2) 9 1 strE Lg.totals, .blk b9 [iV 3, iV 0, iV 0, .string wd2, Zs, .slice A3 lB.length cp3, Zs] 26, .blk b4 Zx 26]) (fun _ => rfl) (fun _ h => h.sel [0, 1, 2, 3, 4, 5, 6] (by decide) rfl) (fun _ => rfl) wn rfl rfl Tryd.call34 rfl (fun w1 Pb hG => w_ok p s j14 m3 be14 ba14 Pb w1 hG) fun z22 hz25 => ?_
     refine l_val wn (r_not rfl) rfl ?_
     refine l_nil (e_go hK52 ?_)
     refine c_cond rfl (fun h11 => ?_) (fun h11 => ?_)
     ·
       refine c_seq fun _ hK53 => ?_
       refine c_region ?_
       refine l_val wn (r_lbn 5 [iV 3, iV 0, iV 0, .string wd2, Zs, .slice A3 lB.length cp3, Zs] rfl rfl rfl rfl agg26 inf26) rfl ?_
       refine l_stn 6 wn rfl rfl rfl inf26 rfl rfl rfl ?_
       refine l_nil (e_go hK53 ?_)
       refine c_ret (e_then_r (e_ret1 (.inl rfl) Tryd.results52 (rv_cell 6 rfl rfl agg26 inf26 rfl) fun w1 hM => ?_))
       have hM := hM.okI0 (be14 = 0) (ExprX.mk 3 0 0 wd2 ⟨none, 0, []⟩ ⟨A3, cp3, lB⟩ ⟨none, 0, []⟩) h11
       exact hM.retA ((ExprX.mk 3 0 0 wd2 ⟨none, 0, []⟩ ⟨A3, cp3, lB⟩ ⟨none, 0, []⟩), j14, m3, be14, ba14) rfl ⟨show Pz.Sim s be ba (Pz.fac s (M + 1) ⟨i, n⟩) ((ExprX.mk 3 0 0 wd2 ⟨none, 0, []⟩ ⟨A3, cp3, lB⟩ ⟨none, 0, []⟩)).e ⟨j14, m3, be14, ba14⟩ from (by first | exact Pz.fac_word hs2 (by simpa using h3) hz6e hs5.1 (Pz.facW_all h7 (Pz.all_name hz14e hs10.1 (Pz.allW_word h10 hz20e hs12.1 (htB _ _ (Pz.Sim.val (Pz.tail_sim hs13 hs14.1 hs15 (Pz.SimU.bad (r := ⟨j14, m3, be14, ba14⟩) (by show _ ≤ _; omega) h11 rfl rfl)) h11))))) | (rw [Pz.fac_succ]; exact Pz.fac_word hs2 (by simpa using h3) hz6e hs5.1 (Pz.facW_all h7 (Pz.all_name hz14e hs10.1 (Pz.allW_word h10 hz20e hs12.1 (htB _ _ (Pz.Sim.val (Pz.tail_sim hs13 hs14.1 hs15 (Pz.SimU.bad (r := ⟨j14, m3, be14, ba14⟩) (by show _ ≤ _; omega) h11 rfl rfl)) h11)))))) | (simp only [ExprX.e, ExprX.es, Pz.fac_succ]; exact Pz.fac_word hs2 (by simpa using h3) hz6e hs5.1 (Pz.facW_all h7 (Pz.all_name hz14e hs10.1 (Pz.allW_word h10 hz20e hs12.1 (htB _ _ (Pz.Sim.val (Pz.tail_sim hs13 hs14.1 hs15 (Pz.SimU.bad (r := ⟨j14, m3, be14, ba14⟩) (by show _ ≤ _; omega) h11 rfl rfl)) h11))))))), by show 0 ≤ m3 ∧ m3 ≤ 101; omega, by show be14 = 0 → m3 ≤ 100; first | (intro h9; omega) | (intro h9; exact absurd h9 h11) | omega⟩ (fun h => h.sel [1, 0] (by decide) rfl)
     ·
       refine c_skip (e_go hK51 ?_)
       refine c_seq fun _ hK54 => ?_
       refine c_region ?_
       refine l_val wn (r_lbn 1 [iV x3.kind, iV x3.n, iV x3.range, .string x3.word, .slice x3.ms.A x3.ms.l.length x3.ms.c, .slice x3.by_.A x3.by_.l.length x3.by_.c, .slice x3.kids.A x3.kids.l.length x3.kids.c] rfl rfl rfl rfl agg26 inf26) rfl ?_
       refine l_bsL exprE ([x3] : List ExprX) wn Tryd.underlying24 inf26 rfl rfl rfl rfl (by decide) (by decide) rfl fun b162 => ?_
       refine l_val wn (r_fa rfl fld26_6) rfl ?_
       refine l_st1 6 wn rfl rfl rfl rfl inf24 rfl rfl ?_
       refine l_nil (e_go hK54 ?_)
       refine c_seq fun _ hK55 => ?_
       refine c_region ?_
       refine l_val wn (r_move rfl) rfl ?_
       refine l_val wn (r_lbn 6 [iV 3, iV 0, iV 0, .string wd2, Zs, .slice A3 lB.length cp3, .slice (some ⟨b162, 0, none⟩) 1 1] rfl rfl rfl rfl agg26 inf26) rfl ?_
       have wz3 : wd1.size ≤ 12 := Pz.word_size (t := ⟨j4, n⟩) (by show _ ≤ s.size; omega) (hs5.1.ok_ (hs5.1.first (Classical.not_not.1 h4)) (Classical.not_not.1 h4))
       have wz4 : wd2.size ≤ 12 := Pz.name_size (t := ⟨j8, n⟩) (by show _ ≤ s.size; omega) (hs10.1.ok_ (hs10.1.first h9) h9)
       have wz5 : wd3.size ≤ 12 := Pz.word_size (t := ⟨j10, n⟩) (by show _ ≤ s.size; omega) (hs12.1.ok_ (hs12.1.first (hfB.first (hs13.first (hs14.1.first (hs15.first (Classical.not_not.1 h11)))))) (hfB.first (hs13.first (hs14.1.first (hs15.first (Classical.not_not.1 h11))))))
       refine l_mem (fun _ h => h.okOf 3 rfl (hs15.first (Classical.not_not.1 h11))) ?_
       have hb0_4 : be14 = 0 := (Classical.not_not.1 h11)
       have hb0_5 : be13 = 0 := (hs15.first (Classical.not_not.1 h11))
       have hb0_6 : be12 = 0 := (hs14.1.first (hs15.first (Classical.not_not.1 h11)))
       have hb0_7 : beB = 0 := (hs13.first (hs14.1.first (hs15.first (Classical.not_not.1 h11))))
       have hb0_8 : be11 = 0 := (hfB.first (hs13.first (hs14.1.first (hs15.first (Classical.not_not.1 h11)))))
       have hb0_9 : be9 = 0 := h9
       have hb0_10 : be4 = 0 := (Classical.not_not.1 h4)
       have hb0_11 : be = 0 := (Classical.not_not.1 h1)
       refine l_sealX 5 2 encString rfl rfl (fp1) ?_
       refine l_sealX 1 2 encExprX rfl rfl (fp1) ?_
       refine l_mem (fun _ h => h.exprG (k := 3) (n := 0) (r := 0) (wd := wd2) (ms := ⟨none, 0, []⟩) (bs := ⟨A3, cp3, lB⟩) (ks := ⟨(some ⟨b162, 0, none⟩), 1, ([x3] : List ExprX)⟩) (fun _ _ => FlatSl.nil_ _ _ _ _) (fun _ pp => pp.sl 5 rfl) (fun _ pp => pp.sl 1 rfl) (fun _ pp x hx => by simp only [List.mem_cons, List.not_mem_nil, or_false] at hx; rcases hx with rfl <;> first | exact pp.at_ 0 _ rfl) (by first | decide | omega) (fun x hx => by cases hx) (fun x hx => by have := hsB (hs13.first (hs14.1.first (hs15.first (Classical.not_not.1 h11)))) x hx; omega)) ?_
       refine l_give (α := (Int × Int)) [Wb 69 p s j14 m3 be14 ba14] [okP ExprX.Ok (ExprX.mk 3 0 0 wd2 ⟨none, 0, []⟩ ⟨A3, cp3, lB⟩ ⟨(some ⟨b162, 0, none⟩), 1, ([x3] : List ExprX)⟩), okP ExprX.Ok x3, slP 7 exprE (.slice (some ⟨b162, 0, none⟩) 1 1) ([x3] : List ExprX), .blk b11 [iV x3.kind, iV x3.n, iV x3.range, .string x3.word, .slice x3.ms.A x3.ms.l.length x3.ms.c, .slice x3.by_.A x3.by_.l.length x3.by_.c, .slice x3.kids.A x3.kids.l.length x3.kids.c] 26, okI (be13 = 0) x3, slP 1 strE (.slice A3 lB.length cp3) lB, Row (.slice A2 Lg.totals.length cp2) 9 1 strE Lg.totals, .blk b9 [iV 3, iV 0, iV 0, .string wd2, Zs, .slice A3 lB.length cp3, .slice (some ⟨b162, 0, none⟩) 1 1] 26, .blk b4 Zx 26] (fun _ : Int × Int => .agg (List.toArray [iV 3, iV 0, iV 0, .string wd2, Zs, .slice A3 lB.length cp3, .slice (some ⟨b162, 0, none⟩) 1 1])) (fun z23 => (Pz.SimU s be14 ba14 (Pz.node ⟨j14, m3⟩) ⟨j14, m3 + 1, z23.1, z23.2⟩)) (fun z23 => [Wb 69 p s j14 (m3 + 1) z23.1 z23.2]) _ (fun _ => rfl) (fun _ h => h.sel [3, 0, 1, 2, 4, 5, 6, 7, 8, 9] (by decide) rfl) (fun _ => rfl) wn rfl rfl Tryd.call54 rfl (fun w1 Pb hG => w_made p s j14 m3 be14 ba14 3 0 0 wd2 none 0 0 A3 lB.length cp3 (some ⟨b162, 0, none⟩) 1 1 Pb w1 hG (by omega) (by omega) (by omega)) fun z23 hz26 => ?_
       obtain ⟨be15, ba15⟩ := z23
       have hs16 : Pz.SimU s be14 ba14 (Pz.node ⟨j14, m3⟩) ⟨j14, m3 + 1, be15, ba15⟩ := hz26
       have hs16n : be15 = 0 → m3 + 1 ≤ 100 := fun h9 => by have h8 := (Pz.Fine.ok_ (Pz.node_fine (s := s) (t := ⟨j14, m3⟩) (by show _ ≤ _; omega)) (hs16.ok_ (hs16.first h9) h9)).most (show m3 ≤ 100 by omega); exact h8
       refine l_as 166 (.agg (List.toArray [iV 3, iV 0, iV 0, .string wd2, Zs, .slice A3 lB.length cp3, .slice (some ⟨b162, 0, none⟩) 1 1])) [Wb 69 p s j14 (m3 + 1) be15 ba15, okP ExprX.Ok (ExprX.mk 3 0 0 wd2 ⟨none, 0, []⟩ ⟨A3, cp3, lB⟩ ⟨(some ⟨b162, 0, none⟩), 1, ([x3] : List ExprX)⟩), okP ExprX.Ok x3, slP 7 exprE (.slice (some ⟨b162, 0, none⟩) 1 1) ([x3] : List ExprX), .blk b11 [iV x3.kind, iV x3.n, iV x3.range, .string x3.word, .slice x3.ms.A x3.ms.l.length x3.ms.c, .slice x3.by_.A x3.by_.l.length x3.by_.c, .slice x3.kids.A x3.kids.l.length x3.kids.c] 26, okI (be13 = 0) x3, slP 1 strE (.slice A3 lB.length cp3) lB, Row (.slice A2 Lg.totals.length cp2) 9 1 strE Lg.totals, .blk b9 [iV 3, iV 0, iV 0, .string wd2, Zs, .slice A3 lB.length cp3, .slice (some ⟨b162, 0, none⟩) 1 1] 26, .blk b4 Zx 26] ?_
       have hl_be15 : be15 = 0 → be14 = 0 := fun h9 => hs16.first h9
       refine l_stn 9 wn rfl rfl rfl inf26 rfl rfl rfl ?_
       refine l_nil (e_go hK55 ?_)
       refine c_ret (e_ret1 (.inl rfl) Tryd.results52 (rv_cell 9 rfl rfl agg26 inf26 rfl) fun w1 hM => ?_)
       have hM := hM.okI1 (be15 = 0) 1 rfl
       exact hM.retA ((ExprX.mk 3 0 0 wd2 ⟨none, 0, []⟩ ⟨A3, cp3, lB⟩ ⟨(some ⟨b162, 0, none⟩), 1, ([x3] : List ExprX)⟩), j14, (m3 + 1), be15, ba15) rfl ⟨show Pz.Sim s be ba (Pz.fac s (M + 1) ⟨i, n⟩) ((ExprX.mk 3 0 0 wd2 ⟨none, 0, []⟩ ⟨A3, cp3, lB⟩ ⟨(some ⟨b162, 0, none⟩), 1, ([x3] : List ExprX)⟩)).e ⟨j14, (m3 + 1), be15, ba15⟩ from (by first | exact Pz.fac_word hs2 (by simpa using h3) hz6e hs5.1 (Pz.facW_all h7 (Pz.all_name hz14e hs10.1 (Pz.allW_word h10 hz20e hs12.1 (htB _ _ (Pz.tail_sim hs13 hs14.1 hs15 hs16))))) | (rw [Pz.fac_succ]; exact Pz.fac_word hs2 (by simpa using h3) hz6e hs5.1 (Pz.facW_all h7 (Pz.all_name hz14e hs10.1 (Pz.allW_word h10 hz20e hs12.1 (htB _ _ (Pz.tail_sim hs13 hs14.1 hs15 hs16)))))) | (simp only [ExprX.e, ExprX.es, Pz.fac_succ]; exact Pz.fac_word hs2 (by simpa using h3) hz6e hs5.1 (Pz.facW_all h7 (Pz.all_name hz14e hs10.1 (Pz.allW_word h10 hz20e hs12.1 (htB _ _ (Pz.tail_sim hs13 hs14.1 hs15 hs16))))))), by show 0 ≤ (m3 + 1) ∧ (m3 + 1) ≤ 101; omega, by show be15 = 0 → (m3 + 1) ≤ 100; first | (intro h9; omega) | (intro h9; exact absurd h9 id) | exact hs16n⟩ (fun h => h.sel [1, 0] (by decide) rfl)
   refine c_seq fun _ hK56 => ?_
   refine c_region ?_
   refine l_val wn (r_move rfl) rfl ?_
   refine l_give (α := Unit) [Wb 69 p s j11 n be11 ba11] [Row (.slice A2 Lg.totals.length cp2) 9 1 strE Lg.totals, .blk b9 [iV 3, iV 0, iV 0, .string wd2, Zs, Zs, Zs] 26, .blk b4 Zx 26] (fun _ : Unit => .bool (decide (be11 = 0))) (fun z24 => True) (fun z24 => [Wb 69 p s j11 n be11 ba11]) (fun z24 => [Wb 69 p s j11 n be11 ba11, Row (.slice A2 Lg.totals.length cp2) 9 1 strE Lg.totals, .blk b9 [iV 3, iV 0, iV 0, .string wd2, Zs, Zs, Zs] 26, .blk b4 Zx 26]) (fun _ => rfl) (fun _ h => h.sel [0, 1, 2, 3] (by decide) rfl) (fun _ => rfl) wn rfl rfl Tryd.call34 rfl (fun w1 Pb hG => w_ok p s j11 n be11 ba11 Pb w1 hG) fun z24 hz27 => ?_
   refine l_val wn (r_move rfl) rfl ?_
   refine l_case (t := 106) rfl (fun h12 => ?_) (fun h12 => ?_)
   · refine l_val (wg rfl rfl rfl) (r_move rfl) rfl ?_
     refine l_val (wg rfl rfl rfl) (r_sneq rfl rfl) rfl ?_
     refine l_val wn (r_pick rfl rfl) rfl ?_
     refine l_val wn (r_move rfl) rfl ?_
     refine l_case (t := 110) rfl (fun h13 => ?_) (fun h13 => ?_)
     · refine l_val (wg rfl rfl rfl) (r_move rfl) rfl ?_
       refine l_val (wg rfl rfl rfl) (r_sneq rfl rfl) rfl ?_
       refine l_val wn (r_pick rfl rfl) rfl ?_
       refine l_nil (e_go hK56 ?_)
       refine c_cond rfl (fun h14 => ?_) (fun h14 => ?_)
       · refine c_region ?_
         refine l_val wn (r_move rfl) rfl ?_
         refine l_val wn (r_move rfl) rfl ?_
         refine l_give (α := (Int × Int)) [Wb 69 p s j11 n be11 ba11] [Row (.slice A2 Lg.totals.length cp2) 9 1 strE Lg.totals, .blk b9 [iV 3, iV 0, iV 0, .string wd2, Zs, Zs, Zs] 26, .blk b4 Zx 26] (fun z : Int × Int => .tuple #[]) (fun z25 => (Pz.StopR be11 ba11 2 (j10 : Int) z25)) (fun z25 => [Wb 69 p s j11 n z25.1 z25.2]) _ (fun _ => rfl) (fun _ h => h.sel [0, 1, 2, 3] (by decide) rfl) (fun _ => rfl) wn rfl rfl Tryd.call36 rfl (fun w1 Pb hG => w_stop p s j11 n be11 ba11 2 (j10 : Int) Pb w1 hG ) fun z25 hz28 => ?_
         obtain ⟨be16, ba16⟩ := z25
         have hs17 : Pz.StopR be11 ba11 2 (j10 : Int) (be16, ba16) := hz28
         try simp only at hs17
         refine l_as 116 (.tuple (List.toArray [])) [Wb 69 p s j11 n be16 ba16, Row (.slice A2 Lg.totals.length cp2) 9 1 strE Lg.totals, .blk b9 [iV 3, iV 0, iV 0, .string wd2, Zs, Zs, Zs] 26, .blk b4 Zx 26] ?_
         refine l_nil (e_go2 hK47 ?_)
         refine c_seq fun _ hK57 => ?_
         refine c_region ?_
         refine l_val wn (r_move rfl) rfl ?_
         refine l_give (α := Unit) [Wb 69 p s j11 n be16 ba16] [Row (.slice A2 Lg.totals.length cp2) 9 1 strE Lg.totals, .blk b9 [iV 3, iV 0, iV 0, .string wd2, Zs, Zs, Zs] 26, .blk b4 Zx 26] (fun _ : Unit => .bool (decide (be16 = 0))) (fun z26 => True) (fun z26 => [Wb 69 p s j11 n be16 ba16]) (fun z26 => [Wb 69 p s j11 n be16 ba16, Row (.slice A2 Lg.totals.length cp2) 9 1 strE Lg.totals, .blk b9 [iV 3, iV 0, iV 0, .string wd2, Zs, Zs, Zs] 26, .blk b4 Zx 26]) (fun _ => rfl) (fun _ h => h.sel [0, 1, 2, 3] (by decide) rfl) (fun _ => rfl) wn rfl rfl Tryd.call34 rfl (fun w1 Pb hG => w_ok p s j11 n be16 ba16 Pb w1 hG) fun z26 hz29 => ?_
         refine l_val wn (r_move rfl) rfl ?_
         refine l_litf (t := 119) rfl (hs17.ne (by decide)) ?_
         refine l_skip (wg rfl rfl rfl) rfl ?_
         refine l_skip (wg rfl rfl rfl) rfl ?_
         refine l_val wn (r_pick rfl rfl) rfl ?_
         refine l_nil (e_go hK57 ?_)
         refine c_false rfl rfl ?_
         refine c_mem (fun _ h => h.nilRow ByteArray 9 1 strE) ?_
         refine c_skip (e_cut (hR1 [] j11 be16 ba16 (Zs) (fun e r h => Pz.Sim.over (Pz.byT_form h13 h14 (by omega) hs17 (e := .mk 0 0 0 ⟨#[]⟩ [] [] [])) (hs17.ne (by decide)) h) (by omega) (fun h9 => absurd h9 (hs17.ne (by decide))) (⟨fun h9 => absurd h9 (hs17.ne (by decide))⟩)) (sc rfl (sc rfl (sc rfl (sc rfl sn)))) (fun _ h => h))
       refine c_skip (e_go2 hK47 ?_)
       refine c_seq fun _ hK58 => ?_
       refine c_region ?_
       refine l_val wn (r_move rfl) rfl ?_
       refine l_give (α := Unit) [Wb 69 p s j11 n be11 ba11] [Row (.slice A2 Lg.totals.length cp2) 9 1 strE Lg.totals, .blk b9 [iV 3, iV 0, iV 0, .string wd2, Zs, Zs, Zs] 26, .blk b4 Zx 26] (fun _ : Unit => .bool (decide (be11 = 0))) (fun z27 => True) (fun z27 => [Wb 69 p s j11 n be11 ba11]) (fun z27 => [Wb 69 p s j11 n be11 ba11, Row (.slice A2 Lg.totals.length cp2) 9 1 strE Lg.totals, .blk b9 [iV 3, iV 0, iV 0, .string wd2, Zs, Zs, Zs] 26, .blk b4 Zx 26]) (fun _ => rfl) (fun _ h => h.sel [0, 1, 2, 3] (by decide) rfl) (fun _ => rfl) wn rfl rfl Tryd.call34 rfl (fun w1 Pb hG => w_ok p s j11 n be11 ba11 Pb w1 hG) fun z27 hz30 => ?_
       refine l_val wn (r_move rfl) rfl ?_
       refine l_litt (t := 119) rfl h12 ?_
       refine l_val (wg rfl rfl rfl) (r_move rfl) rfl ?_
       refine l_val (wg rfl rfl rfl) (r_seql rfl rfl) rfl ?_
       refine l_val wn (r_pick rfl rfl) rfl ?_
       refine l_nil (e_go hK58 ?_)
       refine c_true rfl (decide_eq_true (Classical.not_not.1 h14)) ?_
       refine c_seq fun _ hK59 => ?_
       refine c_nodes (Mem w ⟨fpOf [Wb 69 p s i n be ba], Pb⟩ [Row (.slice A2 Lg.totals.length cp2) 9 1 strE Lg.totals, .blk b4 Zx 26]) mix (fun _ h => h.drew) rfl ?_
       refine n_run (f := 6) [0, 2] rfl rfl (by kernel_rfl) (by kernel_rfl) (fun _ h => (h.sel [1, 3] (by decide) rfl)) fun KS hKS => ?_
       refine s_val wn (r_fa rfl fld26_5) rfl ?_
       refine s_val wn (r_move rfl) rfl ?_
       refine s_end hKS ?_
       refine n_step2 (f := 5) (i := 1) (j := 3) rfl (by kernel_rfl) ?_ ?_
       · refine n_one (i := 1) rfl fun KN hKN => ?_
         refine l_val wn (r_lb 2 rfl rfl rfl flat23) rfl ?_
         refine l_nil (hKN _ _ (fun _ h => (h.sel [1, 3] (by decide) rfl)) ?_)
         refine n_step1 (f := 4) (i := 3) rfl (by kernel_rfl) ?_
         refine n_one (i := 3) rfl fun KN hKN => ?_
         refine l_give (α := (ByteArray × Nat × Int × Int)) [Wb 69 p s j11 n be11 ba11] [Row (.slice A2 Lg.totals.length cp2) 9 1 strE Lg.totals, .blk b9 [iV 3, iV 0, iV 0, .string wd2, Zs, Zs, Zs] 26, .blk b4 Zx 26] (fun z : ByteArray × Nat × Int × Int => .string z.1) (fun z28 => ((Pz.Sim s be11 ba11 (Pz.name s ⟨j11, n⟩) z28.1 ⟨z28.2.1, n, z28.2.2.1, z28.2.2.2⟩) ∧ z28.1.size ≤ 2000)) (fun z28 => [Wb 69 p s z28.2.1 n z28.2.2.1 z28.2.2.2]) _ (fun _ => rfl) (fun _ h => h.sel [0, 1, 2, 3] (by decide) rfl) (fun _ => rfl) wn rfl rfl Tryd.call69 rfl (fun w1 Pb hG => w_name p s j11 n be11 ba11  Pb w1 hG (by omega) (by omega)) fun z28 hz31 => ?_
         obtain ⟨wd4, j15, be17, ba17⟩ := z28
         have hs18 : (Pz.Sim s be11 ba11 (Pz.name s ⟨j11, n⟩) (wd4, j15, be17, ba17).1 ⟨(wd4, j15, be17, ba17).2.1, n, (wd4, j15, be17, ba17).2.2.1, (wd4, j15, be17, ba17).2.2.2⟩) ∧ (wd4, j15, be17, ba17).1.size ≤ 2000 := hz31
         try simp only at hs18
         have hs18l : j15 ≤ s.size := hs18.1.1
         have hs18z : wd4.size ≤ 2000 := hs18.2
         refine l_as 126 (.string wd4) [Wb 69 p s j15 n be17 ba17, Row (.slice A2 Lg.totals.length cp2) 9 1 strE Lg.totals, .blk b9 [iV 3, iV 0, iV 0, .string wd2, Zs, Zs, Zs] 26, .blk b4 Zx 26] ?_
         refine l_nil (hKN _ _ (fun _ h => (h.sel [1, 3] (by decide) rfl)) ?_)
         refine n_step1 (f := 3) (i := 4) rfl (by kernel_rfl) ?_
         refine n_one (i := 4) rfl fun KN hKN => ?_
         refine l_bsL strE ([wd4] : List ByteArray) wn Tryd.underlying23 inf9 rfl rfl rfl rfl (by decide) (by decide) rfl fun b127 => ?_
         refine l_nil (hKN _ _ (fun _ h => (h.sel [2, 4] (by decide) rfl)) ?_)
         refine n_step1 (f := 2) (i := 5) rfl (by kernel_rfl) ?_
         refine n_one (i := 5) rfl fun KN hKN => ?_
         refine l_nilRow (strE : ByteArray → List Value) 9 1 ?_
         refine l_app 0 ([] : List ByteArray) ([wd4] : List ByteArray) encString wn rfl rfl rfl (fun _ hM => (RowSl encString hM 1 rfl)) Tryd.underlying23 inf9 rfl rfl (by simp only [List.length_append, List.length_cons, List.length_nil]; omega) rfl fun A4 cp4 hc4 hm4 hA4 => ?_
         refine l_nil (hKN _ _ (fun _ h => (h.sel [3, 5] (by decide) rfl)) ?_)
         refine n_run (f := 1) [6] rfl rfl (by kernel_rfl) (by kernel_rfl) (fun _ h => (h.sel [3, 5] (by decide) rfl)) fun KS hKS => ?_
         refine s_val wn (r_fa rfl fld26_5) rfl ?_
         refine s_end hKS ?_
         refine n_step1 (f := 0) (i := 7) rfl (by kernel_rfl) ?_
         refine n_one (i := 7) rfl fun KN hKN => ?_
         refine l_st1 4 wn rfl rfl rfl rfl inf23 rfl rfl ?_
         refine l_nil (hKN _ _ (fun _ h => (h.sel [3, 5] (by decide) rfl)) ?_)
         refine n_done (by kernel_rfl) (e_go hK59 ?_)
         refine c_block ?_
         refine c_loop6 (fun (l : List ByteArray) (k : Nat) (bl : Int) (al : Int) (q : Nat) (rv : Value) => [(0, .pointer (some ⟨p, 0, none⟩)), (1, iV d), (4, .pointer (some ⟨b4, 0, none⟩)), (9, .pointer (some ⟨b9, 0, none⟩))]) (fun (l : List ByteArray) (k : Nat) (bl : Int) (al : Int) (q : Nat) (rv : Value) => [Row rv 9 1 strE l, Row (.slice (some ⟨b127, 0, none⟩) 1 1) 9 1 strE ([wd4] : List ByteArray), Wb 69 p s k n bl al, Row (.slice A2 Lg.totals.length cp2) 9 1 strE Lg.totals, .blk b9 [iV 3, iV 0, iV 0, .string wd2, Zs, rv, Zs] 26, .blk b4 Zx 26]) (fun (l : List ByteArray) (k : Nat) (bl : Int) (al : Int) (q : Nat) (rv : Value) => (∀ b r, Pz.Sim s bl al (Pz.byL s (q + 1) l ⟨k, n⟩) b r → Pz.Sim s be17 ba17 (Pz.byL s 5 [wd4] ⟨j15, n⟩) b r) ∧ l.length + q = 5 ∧ l.length ≤ 4 ∧ k ≤ s.size) (fun (l : List ByteArray) (k : Nat) (bl : Int) (al : Int) (q : Nat) (rv : Value) => q) (([] : List ByteArray) ++ ([wd4] : List ByteArray)) j15 be17 ba17 4 (.slice A4 ((([] : List ByteArray) ++ ([wd4] : List ByteArray)).length) cp4) (sc rfl (sc rfl (sc rfl (sc rfl sn)))) (fun _ h => h) ?_ (fun l k bl al q rv hI1 => ?_)
         · exact ⟨fun _ _ h => h, rfl, by simp, by omega⟩
         refine c_open 0 (l := l) rfl fun A5 cp5 hv2 hc5 hm5 hA5 => ?_
         subst hv2
         refine c_seq fun _ hK60 => ?_
         refine c_seq fun _ hK61 => ?_
         refine c_region ?_
         refine l_val wn (r_move rfl) rfl ?_
         refine l_give (α := (Bool × Nat)) [Wb 69 p s k n bl al] [Row (.slice A5 l.length cp5) 9 1 strE l, Row (.slice (some ⟨b127, 0, none⟩) 1 1) 9 1 strE ([wd4] : List ByteArray), Row (.slice A2 Lg.totals.length cp2) 9 1 strE Lg.totals, .blk b9 [iV 3, iV 0, iV 0, .string wd2, Zs, .slice A5 l.length cp5, Zs] 26, .blk b4 Zx 26] (fun z : Bool × Nat => .bool z.1) (fun z29 => (Pz.SignR s ⟨#[44]⟩ bl k z29)) (fun z29 => [Wb 69 p s z29.2 n bl al]) _ (fun _ => rfl) (fun _ h => h.sel [2, 0, 1, 3, 4, 5] (by decide) rfl) (fun _ => rfl) wn rfl rfl Tryd.call53 rfl (fun w1 Pb hG => w_sign p s k n bl al ⟨#[44]⟩ Pb w1 hG (by omega) (by omega) (by first | decide | omega)) fun z29 hz32 => ?_
         obtain ⟨bo2, j16⟩ := z29
         have hs19 : Pz.SignR s ⟨#[44]⟩ bl k (bo2, j16) := hz32
         try simp only at hs19
         have hs19l : j16 ≤ s.size := hs19.1
         refine l_as 131 (.bool bo2) [Wb 69 p s j16 n bl al, Row (.slice A5 l.length cp5) 9 1 strE l, Row (.slice (some ⟨b127, 0, none⟩) 1 1) 9 1 strE ([wd4] : List ByteArray), Row (.slice A2 Lg.totals.length cp2) 9 1 strE Lg.totals, .blk b9 [iV 3, iV 0, iV 0, .string wd2, Zs, .slice A5 l.length cp5, Zs] 26, .blk b4 Zx 26] ?_
         refine l_nil (e_go hK61 ?_)
         refine c_condb rfl (fun h15 => ?_) (fun h15 => ?_)
         · refine c_skip (e_go hK60 ?_)
           refine c_block ?_
           refine c_seq fun _ hK62 => ?_
           refine c_seq fun _ hK63 => ?_
           refine c_region ?_
           refine l_val wn (r_fa rfl fld26_5) rfl ?_
           refine l_val wn (r_lb 4 rfl rfl rfl flat23) rfl ?_
           refine l_val wn (r_len rfl Tryd.underlying23) rfl ?_
           refine l_val wn (r_geq rfl rfl) rfl ?_
           refine l_nil (e_go hK63 ?_)
           refine c_cond rfl (fun h16 => ?_) (fun h16 => ?_)
           · refine c_seq fun _ hK64 => ?_
             refine c_region ?_
             refine l_val wn (r_move rfl) rfl ?_
             refine l_val wn (r_move rfl) rfl ?_
             refine l_val wn (r_nilCheck rfl) rfl ?_
             refine l_val wn (r_fa rfl fld69_1) rfl ?_
             refine l_val wn (r_lb 0 rfl rfl rfl flat3) rfl ?_
             refine l_give (α := (Int × Int)) [Wb 69 p s j16 n bl al] [Row (.slice A5 l.length cp5) 9 1 strE l, Row (.slice (some ⟨b127, 0, none⟩) 1 1) 9 1 strE ([wd4] : List ByteArray), Row (.slice A2 Lg.totals.length cp2) 9 1 strE Lg.totals, .blk b9 [iV 3, iV 0, iV 0, .string wd2, Zs, .slice A5 l.length cp5, Zs] 26, .blk b4 Zx 26] (fun z : Int × Int => .tuple #[]) (fun z30 => (Pz.StopR bl al 5 (j16 : Int) z30)) (fun z30 => [Wb 69 p s j16 n z30.1 z30.2]) _ (fun _ => rfl) (fun _ h => h.sel [0, 1, 2, 3, 4, 5] (by decide) rfl) (fun _ => rfl) wn rfl rfl Tryd.call36 rfl (fun w1 Pb hG => w_stop p s j16 n bl al 5 (j16 : Int) Pb w1 hG ) fun z30 hz33 => ?_
             obtain ⟨be18, ba18⟩ := z30
             have hs20 : Pz.StopR bl al 5 (j16 : Int) (be18, ba18) := hz33
             try simp only at hs20
             refine l_as 141 (.tuple (List.toArray [])) [Wb 69 p s j16 n be18 ba18, Row (.slice A5 l.length cp5) 9 1 strE l, Row (.slice (some ⟨b127, 0, none⟩) 1 1) 9 1 strE ([wd4] : List ByteArray), Row (.slice A2 Lg.totals.length cp2) 9 1 strE Lg.totals, .blk b9 [iV 3, iV 0, iV 0, .string wd2, Zs, .slice A5 l.length cp5, Zs] 26, .blk b4 Zx 26] ?_
             refine l_nil (e_go hK64 ?_)
             have hlB9 : Pz.Sim s be17 ba17 (Pz.byL s 5 [wd4] ⟨j15, n⟩) l ⟨j16, n, be18, ba18⟩ := Pz.bl_many hI1.1 hs19 h15 h16 (by omega) hs20
             refine c_exit (e_then_x (e_in_miss rfl (e_loop6_x (e_in_hit (e_cut (hR1 l j16 be18 ba18 (.slice A5 l.length cp5) (fun e r h => Pz.byT_by (Classical.not_not.1 h14) hs18.1 hlB9 h) (by omega) (fun h9 => Pz.byL_size 5 (t := ⟨j15, n⟩) (by show _ ≤ s.size; omega) (hlB9.ok_ (hlB9.first h9) h9) (fun y hy => by rw [List.mem_singleton.1 hy]; exact Pz.name_size (t := ⟨j11, n⟩) (by show _ ≤ s.size; omega) (hs18.1.ok_ (hs18.1.first (hlB9.first h9)) (hlB9.first h9)))) (⟨fun h9 => hs18.1.first (hlB9.first h9)⟩)) (sc rfl (sc rfl (sc rfl (sc rfl sn)))) (fun _ h => (h.sel [1, 0, 3, 4, 5] (by decide) rfl)))))))
           refine c_skip (e_go hK62 ?_)
           refine c_nodes (Mem w ⟨fpOf [Wb 69 p s i n be ba], Pb⟩ [Row (.slice (some ⟨b127, 0, none⟩) 1 1) 9 1 strE ([wd4] : List ByteArray), Row (.slice A2 Lg.totals.length cp2) 9 1 strE Lg.totals, .blk b4 Zx 26]) mix (fun _ h => h.drew) rfl ?_
           refine n_run (f := 6) [0, 2] rfl rfl (by kernel_rfl) (by kernel_rfl) (fun _ h => (h.sel [2, 3, 5] (by decide) rfl)) fun KS hKS => ?_
           refine s_val wn (r_fa rfl fld26_5) rfl ?_
           refine s_val wn (r_move rfl) rfl ?_
           refine s_end hKS ?_
           refine n_step2 (f := 5) (i := 1) (j := 3) rfl (by kernel_rfl) ?_ ?_
           · refine n_one (i := 1) rfl fun KN hKN => ?_
             refine l_val wn (r_lb 4 rfl rfl rfl flat23) rfl ?_
             refine l_nil (hKN _ _ (fun _ h => (h.sel [2, 3, 5] (by decide) rfl)) ?_)
             refine n_step1 (f := 4) (i := 3) rfl (by kernel_rfl) ?_
             refine n_one (i := 3) rfl fun KN hKN => ?_
             refine l_give (α := (ByteArray × Nat × Int × Int)) [Wb 69 p s j16 n bl al] [Row (.slice A5 l.length cp5) 9 1 strE l, Row (.slice (some ⟨b127, 0, none⟩) 1 1) 9 1 strE ([wd4] : List ByteArray), Row (.slice A2 Lg.totals.length cp2) 9 1 strE Lg.totals, .blk b9 [iV 3, iV 0, iV 0, .string wd2, Zs, .slice A5 l.length cp5, Zs] 26, .blk b4 Zx 26] (fun z : ByteArray × Nat × Int × Int => .string z.1) (fun z31 => ((Pz.Sim s bl al (Pz.name s ⟨j16, n⟩) z31.1 ⟨z31.2.1, n, z31.2.2.1, z31.2.2.2⟩) ∧ z31.1.size ≤ 2000)) (fun z31 => [Wb 69 p s z31.2.1 n z31.2.2.1 z31.2.2.2]) _ (fun _ => rfl) (fun _ h => h.sel [0, 1, 2, 3, 4, 5] (by decide) rfl) (fun _ => rfl) wn rfl rfl Tryd.call69 rfl (fun w1 Pb hG => w_name p s j16 n bl al  Pb w1 hG (by omega) (by omega)) fun z31 hz34 => ?_
             obtain ⟨wd5, j17, be19, ba19⟩ := z31
             have hs21 : (Pz.Sim s bl al (Pz.name s ⟨j16, n⟩) (wd5, j17, be19, ba19).1 ⟨(wd5, j17, be19, ba19).2.1, n, (wd5, j17, be19, ba19).2.2.1, (wd5, j17, be19, ba19).2.2.2⟩) ∧ (wd5, j17, be19, ba19).1.size ≤ 2000 := hz34
             try simp only at hs21
             have hs21l : j17 ≤ s.size := hs21.1.1
             have hs21z : wd5.size ≤ 2000 := hs21.2
             refine l_as 145 (.string wd5) [Wb 69 p s j17 n be19 ba19, Row (.slice A5 l.length cp5) 9 1 strE l, Row (.slice (some ⟨b127, 0, none⟩) 1 1) 9 1 strE ([wd4] : List ByteArray), Row (.slice A2 Lg.totals.length cp2) 9 1 strE Lg.totals, .blk b9 [iV 3, iV 0, iV 0, .string wd2, Zs, .slice A5 l.length cp5, Zs] 26, .blk b4 Zx 26] ?_
             refine l_nil (hKN _ _ (fun _ h => (h.sel [2, 3, 5] (by decide) rfl)) ?_)
             refine n_step1 (f := 3) (i := 4) rfl (by kernel_rfl) ?_
             refine n_one (i := 4) rfl fun KN hKN => ?_
             refine l_bsL strE ([wd5] : List ByteArray) wn Tryd.underlying23 inf9 rfl rfl rfl rfl (by decide) (by decide) rfl fun b146 => ?_
             refine l_nil (hKN _ _ (fun _ h => (h.sel [3, 4, 6] (by decide) rfl)) ?_)
             refine n_step1 (f := 2) (i := 5) rfl (by kernel_rfl) ?_
             refine n_one (i := 5) rfl fun KN hKN => ?_
             refine l_app 2 l ([wd5] : List ByteArray) encString wn rfl rfl rfl (fun _ hM => (RowSl encString hM 0 rfl)) Tryd.underlying23 inf9 rfl rfl (by simp only [List.length_append, List.length_cons, List.length_nil]; omega) rfl fun A6 cp6 hc6 hm6 hA6 => ?_
             refine l_nil (hKN _ _ (fun _ h => (h.sel [3, 4, 6] (by decide) rfl)) ?_)
             refine n_run (f := 1) [6] rfl rfl (by kernel_rfl) (by kernel_rfl) (fun _ h => (h.sel [3, 4, 6] (by decide) rfl)) fun KS hKS => ?_
             refine s_val wn (r_fa rfl fld26_5) rfl ?_
             refine s_end hKS ?_
             refine n_step1 (f := 0) (i := 7) rfl (by kernel_rfl) ?_
             refine n_one (i := 7) rfl fun KN hKN => ?_
             refine l_st1 5 wn rfl rfl rfl rfl inf23 rfl rfl ?_
             refine l_nil (hKN _ _ (fun _ h => (h.sel [3, 4, 6] (by decide) rfl)) ?_)
             refine n_done (by kernel_rfl) (e_in_n (e_round6 (l ++ ([wd5] : List ByteArray)) j17 be19 ba19 (q - 1) (.slice A6 ((l ++ ([wd5] : List ByteArray)).length) cp6) (sc rfl (sc rfl (sc rfl (sc rfl sn)))) (fun _ h => (h.sel [2, 3, 1, 4, 5, 6] (by decide) rfl)) ?_ ?_))
             · exact ⟨by rw [show q - 1 + 1 = q by omega]; exact Pz.bl_next hI1.1 hs19 h15 h16 hs21.1, by simp only [List.length_append, List.length_cons, List.length_nil]; omega, by simp only [List.length_append, List.length_cons, List.length_nil]; omega, by omega⟩
             omega
           refine n_one (i := 3) rfl fun KN hKN => ?_
           refine l_give (α := (ByteArray × Nat × Int × Int)) [Wb 69 p s j16 n bl al] [Row (.slice A5 l.length cp5) 9 1 strE l, Row (.slice (some ⟨b127, 0, none⟩) 1 1) 9 1 strE ([wd4] : List ByteArray), Row (.slice A2 Lg.totals.length cp2) 9 1 strE Lg.totals, .blk b9 [iV 3, iV 0, iV 0, .string wd2, Zs, .slice A5 l.length cp5, Zs] 26, .blk b4 Zx 26] (fun z : ByteArray × Nat × Int × Int => .string z.1) (fun z32 => ((Pz.Sim s bl al (Pz.name s ⟨j16, n⟩) z32.1 ⟨z32.2.1, n, z32.2.2.1, z32.2.2.2⟩) ∧ z32.1.size ≤ 2000)) (fun z32 => [Wb 69 p s z32.2.1 n z32.2.2.1 z32.2.2.2]) _ (fun _ => rfl) (fun _ h => h.sel [0, 1, 2, 3, 4, 5] (by decide) rfl) (fun _ => rfl) wn rfl rfl Tryd.call69 rfl (fun w1 Pb hG => w_name p s j16 n bl al  Pb w1 hG (by omega) (by omega)) fun z32 hz35 => ?_
           obtain ⟨wd6, j18, be20, ba20⟩ := z32
           have hs22 : (Pz.Sim s bl al (Pz.name s ⟨j16, n⟩) (wd6, j18, be20, ba20).1 ⟨(wd6, j18, be20, ba20).2.1, n, (wd6, j18, be20, ba20).2.2.1, (wd6, j18, be20, ba20).2.2.2⟩) ∧ (wd6, j18, be20, ba20).1.size ≤ 2000 := hz35
           try simp only at hs22
           have hs22l : j18 ≤ s.size := hs22.1.1
           have hs22z : wd6.size ≤ 2000 := hs22.2
           refine l_as 145 (.string wd6) [Wb 69 p s j18 n be20 ba20, Row (.slice A5 l.length cp5) 9 1 strE l, Row (.slice (some ⟨b127, 0, none⟩) 1 1) 9 1 strE ([wd4] : List ByteArray), Row (.slice A2 Lg.totals.length cp2) 9 1 strE Lg.totals, .blk b9 [iV 3, iV 0, iV 0, .string wd2, Zs, .slice A5 l.length cp5, Zs] 26, .blk b4 Zx 26] ?_
           refine l_nil (hKN _ _ (fun _ h => (h.sel [2, 3, 5] (by decide) rfl)) ?_)
           refine n_step2 (f := 4) (i := 1) (j := 4) rfl (by kernel_rfl) ?_ ?_
           · refine n_one (i := 1) rfl fun KN hKN => ?_
             refine l_val wn (r_lb 4 rfl rfl rfl flat23) rfl ?_
             refine l_nil (hKN _ _ (fun _ h => (h.sel [2, 3, 5] (by decide) rfl)) ?_)
             refine n_step1 (f := 3) (i := 4) rfl (by kernel_rfl) ?_
             refine n_one (i := 4) rfl fun KN hKN => ?_
             refine l_bsL strE ([wd6] : List ByteArray) wn Tryd.underlying23 inf9 rfl rfl rfl rfl (by decide) (by decide) rfl fun b146 => ?_
             refine l_nil (hKN _ _ (fun _ h => (h.sel [3, 4, 6] (by decide) rfl)) ?_)
             refine n_step1 (f := 2) (i := 5) rfl (by kernel_rfl) ?_
             refine n_one (i := 5) rfl fun KN hKN => ?_
             refine l_app 2 l ([wd6] : List ByteArray) encString wn rfl rfl rfl (fun _ hM => (RowSl encString hM 0 rfl)) Tryd.underlying23 inf9 rfl rfl (by simp only [List.length_append, List.length_cons, List.length_nil]; omega) rfl fun A7 cp7 hc7 hm7 hA7 => ?_
             refine l_nil (hKN _ _ (fun _ h => (h.sel [3, 4, 6] (by decide) rfl)) ?_)
             refine n_run (f := 1) [6] rfl rfl (by kernel_rfl) (by kernel_rfl) (fun _ h => (h.sel [3, 4, 6] (by decide) rfl)) fun KS hKS => ?_
             refine s_val wn (r_fa rfl fld26_5) rfl ?_
             refine s_end hKS ?_
             refine n_step1 (f := 0) (i := 7) rfl (by kernel_rfl) ?_
             refine n_one (i := 7) rfl fun KN hKN => ?_
             refine l_st1 5 wn rfl rfl rfl rfl inf23 rfl rfl ?_
             refine l_nil (hKN _ _ (fun _ h => (h.sel [3, 4, 6] (by decide) rfl)) ?_)
             refine n_done (by kernel_rfl) (e_in_n (e_round6 (l ++ ([wd6] : List ByteArray)) j18 be20 ba20 (q - 1) (.slice A7 ((l ++ ([wd6] : List ByteArray)).length) cp7) (sc rfl (sc rfl (sc rfl (sc rfl sn)))) (fun _ h => (h.sel [2, 3, 1, 4, 5, 6] (by decide) rfl)) ?_ ?_))
             · exact ⟨by rw [show q - 1 + 1 = q by omega]; exact Pz.bl_next hI1.1 hs19 h15 h16 hs22.1, by simp only [List.length_append, List.length_cons, List.length_nil]; omega, by simp only [List.length_append, List.length_cons, List.length_nil]; omega, by omega⟩
             omega
           refine n_one (i := 4) rfl fun KN hKN => ?_
           refine l_bsL strE ([wd6] : List ByteArray) wn Tryd.underlying23 inf9 rfl rfl rfl rfl (by decide) (by decide) rfl fun b146 => ?_
           refine l_nil (hKN _ _ (fun _ h => (h.sel [3, 4, 6] (by decide) rfl)) ?_)
           refine n_step1 (f := 3) (i := 1) rfl (by kernel_rfl) ?_
           refine n_one (i := 1) rfl fun KN hKN => ?_
           refine l_val wn (r_lb 5 rfl rfl rfl flat23) rfl ?_
           refine l_nil (hKN _ _ (fun _ h => (h.sel [3, 4, 6] (by decide) rfl)) ?_)
           refine n_step1 (f := 2) (i := 5) rfl (by kernel_rfl) ?_
           refine n_one (i := 5) rfl fun KN hKN => ?_
           refine l_app 2 l ([wd6] : List ByteArray) encString wn rfl rfl rfl (fun _ hM => (RowSl encString hM 0 rfl)) Tryd.underlying23 inf9 rfl rfl (by simp only [List.length_append, List.length_cons, List.length_nil]; omega) rfl fun A8 cp8 hc8 hm8 hA8 => ?_
           refine l_nil (hKN _ _ (fun _ h => (h.sel [3, 4, 6] (by decide) rfl)) ?_)
           refine n_run (f := 1) [6] rfl rfl (by kernel_rfl) (by kernel_rfl) (fun _ h => (h.sel [3, 4, 6] (by decide) rfl)) fun KS hKS => ?_
           refine s_val wn (r_fa rfl fld26_5) rfl ?_
           refine s_end hKS ?_
           refine n_step1 (f := 0) (i := 7) rfl (by kernel_rfl) ?_
           refine n_one (i := 7) rfl fun KN hKN => ?_
           refine l_st1 5 wn rfl rfl rfl rfl inf23 rfl rfl ?_
           refine l_nil (hKN _ _ (fun _ h => (h.sel [3, 4, 6] (by decide) rfl)) ?_)
           refine n_done (by kernel_rfl) (e_in_n (e_round6 (l ++ ([wd6] : List ByteArray)) j18 be20 ba20 (q - 1) (.slice A8 ((l ++ ([wd6] : List ByteArray)).length) cp8) (sc rfl (sc rfl (sc rfl (sc rfl sn)))) (fun _ h => (h.sel [2, 3, 1, 4, 5, 6] (by decide) rfl)) ?_ ?_))
           · exact ⟨by rw [show q - 1 + 1 = q by omega]; exact Pz.bl_next hI1.1 hs19 h15 h16 hs22.1, by simp only [List.length_append, List.length_cons, List.length_nil]; omega, by simp only [List.length_append, List.length_cons, List.length_nil]; omega, by omega⟩
           omega
         have hlB9 : Pz.Sim s be17 ba17 (Pz.byL s 5 [wd4] ⟨j15, n⟩) l ⟨j16, n, bl, al⟩ := Pz.bl_done hI1.1 hs19 (by simpa using h15)
         refine c_exit (e_then_x (e_loop6_x (e_in_hit (e_cut (hR1 l j16 bl al (.slice A5 l.length cp5) (fun e r h => Pz.byT_by (Classical.not_not.1 h14) hs18.1 hlB9 h) (by omega) (fun h9 => Pz.byL_size 5 (t := ⟨j15, n⟩) (by show _ ≤ s.size; omega) (hlB9.ok_ (hlB9.first h9) h9) (fun y hy => by rw [List.mem_singleton.1 hy]; exact Pz.name_size (t := ⟨j11, n⟩) (by show _ ≤ s.size; omega) (hs18.1.ok_ (hs18.1.first (hlB9.first h9)) (hlB9.first h9)))) (⟨fun h9 => hs18.1.first (hlB9.first h9)⟩)) (sc rfl (sc rfl (sc rfl (sc rfl sn)))) (fun _ h => (h.sel [1, 0, 3, 4, 5] (by decide) rfl))))))
       refine n_one (i := 3) rfl fun KN hKN => ?_
       refine l_give (α := (ByteArray × Nat × Int × Int)) [Wb 69 p s j11 n be11 ba11] [Row (.slice A2 Lg.totals.length cp2) 9 1 strE Lg.totals, .blk b9 [iV 3, iV 0, iV 0, .string wd2, Zs, Zs, Zs] 26, .blk b4 Zx 26] (fun z : ByteArray × Nat × Int × Int => .string z.1) (fun z33 => ((Pz.Sim s be11 ba11 (Pz.name s ⟨j11, n⟩) z33.1 ⟨z33.2.1, n, z33.2.2.1, z33.2.2.2⟩) ∧ z33.1.size ≤ 2000)) (fun z33 => [Wb 69 p s z33.2.1 n z33.2.2.1 z33.2.2.2]) _ (fun _ => rfl) (fun _ h => h.sel [0, 1, 2, 3] (by decide) rfl) (fun _ => rfl) wn rfl rfl Tryd.call69 rfl (fun w1 Pb hG => w_name p s j11 n be11 ba11  Pb w1 hG (by omega) (by omega)) fun z33 hz36 => ?_
       obtain ⟨wd7, j19, be21, ba21⟩ := z33
       have hs23 : (Pz.Sim s be11 ba11 (Pz.name s ⟨j11, n⟩) (wd7, j19, be21, ba21).1 ⟨(wd7, j19, be21, ba21).2.1, n, (wd7, j19, be21, ba21).2.2.1, (wd7, j19, be21, ba21).2.2.2⟩) ∧ (wd7, j19, be21, ba21).1.size ≤ 2000 := hz36
       try simp only at hs23
       have hs23l : j19 ≤ s.size := hs23.1.1
       have hs23z : wd7.size ≤ 2000 := hs23.2
       refine l_as 126 (.string wd7) [Wb 69 p s j19 n be21 ba21, Row (.slice A2 Lg.totals.length cp2) 9 1 strE Lg.totals, .blk b9 [iV 3, iV 0, iV 0, .string wd2, Zs, Zs, Zs] 26, .blk b4 Zx 26] ?_
       refine l_nil (hKN _ _ (fun _ h => (h.sel [1, 3] (by decide) rfl)) ?_)
       refine n_step2 (f := 4) (i := 1) (j := 4) rfl (by kernel_rfl) ?_ ?_
       · refine n_one (i := 1) rfl fun KN hKN => ?_
         refine l_val wn (r_lb 2 rfl rfl rfl flat23) rfl ?_
         refine l_nil (hKN _ _ (fun _ h => (h.sel [1, 3] (by decide) rfl)) ?_)
         refine n_step1 (f := 3) (i := 4) rfl (by kernel_rfl) ?_
         refine n_one (i := 4) rfl fun KN hKN => ?_
         refine l_bsL strE ([wd7] : List ByteArray) wn Tryd.underlying23 inf9 rfl rfl rfl rfl (by decide) (by decide) rfl fun b127 => ?_
         refine l_nil (hKN _ _ (fun _ h => (h.sel [2, 4] (by decide) rfl)) ?_)
         refine n_step1 (f := 2) (i := 5) rfl (by kernel_rfl) ?_
         refine n_one (i := 5) rfl fun KN hKN => ?_
         refine l_nilRow (strE : ByteArray → List Value) 9 1 ?_
         refine l_app 0 ([] : List ByteArray) ([wd7] : List ByteArray) encString wn rfl rfl rfl (fun _ hM => (RowSl encString hM 1 rfl)) Tryd.underlying23 inf9 rfl rfl (by simp only [List.length_append, List.length_cons, List.length_nil]; omega) rfl fun A9 cp9 hc9 hm9 hA9 => ?_
         refine l_nil (hKN _ _ (fun _ h => (h.sel [3, 5] (by decide) rfl)) ?_)
         refine n_run (f := 1) [6] rfl rfl (by kernel_rfl) (by kernel_rfl) (fun _ h => (h.sel [3, 5] (by decide) rfl)) fun KS hKS => ?_
         refine s_val wn (r_fa rfl fld26_5) rfl ?_
         refine s_end hKS ?_
         refine n_step1 (f := 0) (i := 7) rfl (by kernel_rfl) ?_
         refine n_one (i := 7) rfl fun KN hKN => ?_
         refine l_st1 4 wn rfl rfl rfl rfl inf23 rfl rfl ?_
         refine l_nil (hKN _ _ (fun _ h => (h.sel [3, 5] (by decide) rfl)) ?_)
         refine n_done (by kernel_rfl) (e_go hK59 ?_)
         refine c_block ?_
         refine c_loop6 (fun (l : List ByteArray) (k : Nat) (bl : Int) (al : Int) (q : Nat) (rv : Value) => [(0, .pointer (some ⟨p, 0, none⟩)), (1, iV d), (4, .pointer (some ⟨b4, 0, none⟩)), (9, .pointer (some ⟨b9, 0, none⟩))]) (fun (l : List ByteArray) (k : Nat) (bl : Int) (al : Int) (q : Nat) (rv : Value) => [Row rv 9 1 strE l, Row (.slice (some ⟨b127, 0, none⟩) 1 1) 9 1 strE ([wd7] : List ByteArray), Wb 69 p s k n bl al, Row (.slice A2 Lg.totals.length cp2) 9 1 strE Lg.totals, .blk b9 [iV 3, iV 0, iV 0, .string wd2, Zs, rv, Zs] 26, .blk b4 Zx 26]) (fun (l : List ByteArray) (k : Nat) (bl : Int) (al : Int) (q : Nat) (rv : Value) => (∀ b r, Pz.Sim s bl al (Pz.byL s (q + 1) l ⟨k, n⟩) b r → Pz.Sim s be21 ba21 (Pz.byL s 5 [wd7] ⟨j19, n⟩) b r) ∧ l.length + q = 5 ∧ l.length ≤ 4 ∧ k ≤ s.size) (fun (l : List ByteArray) (k : Nat) (bl : Int) (al : Int) (q : Nat) (rv : Value) => q) (([] : List ByteArray) ++ ([wd7] : List ByteArray)) j19 be21 ba21 4 (.slice A9 ((([] : List ByteArray) ++ ([wd7] : List ByteArray)).length) cp9) (sc rfl (sc rfl (sc rfl (sc rfl sn)))) (fun _ h => h) ?_ (fun l k bl al q rv hI2 => ?_)
         · exact ⟨fun _ _ h => h, rfl, by simp, by omega⟩
         refine c_open 0 (l := l) rfl fun A10 cp10 hv3 hc10 hm10 hA10 => ?_
         subst hv3
         refine c_seq fun _ hK65 => ?_
         refine c_seq fun _ hK66 => ?_
         refine c_region ?_
         refine l_val wn (r_move rfl) rfl ?_
         refine l_give (α := (Bool × Nat)) [Wb 69 p s k n bl al] [Row (.slice A10 l.length cp10) 9 1 strE l, Row (.slice (some ⟨b127, 0, none⟩) 1 1) 9 1 strE ([wd7] : List ByteArray), Row (.slice A2 Lg.totals.length cp2) 9 1 strE Lg.totals, .blk b9 [iV 3, iV 0, iV 0, .string wd2, Zs, .slice A10 l.length cp10, Zs] 26, .blk b4 Zx 26] (fun z : Bool × Nat => .bool z.1) (fun z34 => (Pz.SignR s ⟨#[44]⟩ bl k z34)) (fun z34 => [Wb 69 p s z34.2 n bl al]) _ (fun _ => rfl) (fun _ h => h.sel [2, 0, 1, 3, 4, 5] (by decide) rfl) (fun _ => rfl) wn rfl rfl Tryd.call53 rfl (fun w1 Pb hG => w_sign p s k n bl al ⟨#[44]⟩ Pb w1 hG (by omega) (by omega) (by first | decide | omega)) fun z34 hz37 => ?_
         obtain ⟨bo3, j20⟩ := z34
         have hs24 : Pz.SignR s ⟨#[44]⟩ bl k (bo3, j20) := hz37
         try simp only at hs24
         have hs24l : j20 ≤ s.size := hs24.1
         refine l_as 131 (.bool bo3) [Wb 69 p s j20 n bl al, Row (.slice A10 l.length cp10) 9 1 strE l, Row (.slice (some ⟨b127, 0, none⟩) 1 1) 9 1 strE ([wd7] : List ByteArray), Row (.slice A2 Lg.totals.length cp2) 9 1 strE Lg.totals, .blk b9 [iV 3, iV 0, iV 0, .string wd2, Zs, .slice A10 l.length cp10, Zs] 26, .blk b4 Zx 26] ?_
         refine l_nil (e_go hK66 ?_)
         refine c_condb rfl (fun h17 => ?_) (fun h17 => ?_)
         · refine c_skip (e_go hK65 ?_)
           refine c_block ?_
           refine c_seq fun _ hK67 => ?_
           refine c_seq fun _ hK68 => ?_
           refine c_region ?_
           refine l_val wn (r_fa rfl fld26_5) rfl ?_
           refine l_val wn (r_lb 4 rfl rfl rfl flat23) rfl ?_
           refine l_val wn (r_len rfl Tryd.underlying23) rfl ?_
           refine l_val wn (r_geq rfl rfl) rfl ?_
           refine l_nil (e_go hK68 ?_)
           refine c_cond rfl (fun h18 => ?_) (fun h18 => ?_)
           · refine c_seq fun _ hK69 => ?_
             refine c_region ?_
             refine l_val wn (r_move rfl) rfl ?_
             refine l_val wn (r_move rfl) rfl ?_
             refine l_val wn (r_nilCheck rfl) rfl ?_
             refine l_val wn (r_fa rfl fld69_1) rfl ?_
             refine l_val wn (r_lb 0 rfl rfl rfl flat3) rfl ?_
             refine l_give (α := (Int × Int)) [Wb 69 p s j20 n bl al] [Row (.slice A10 l.length cp10) 9 1 strE l, Row (.slice (some ⟨b127, 0, none⟩) 1 1) 9 1 strE ([wd7] : List ByteArray), Row (.slice A2 Lg.totals.length cp2) 9 1 strE Lg.totals, .blk b9 [iV 3, iV 0, iV 0, .string wd2, Zs, .slice A10 l.length cp10, Zs] 26, .blk b4 Zx 26] (fun z : Int × Int => .tuple #[]) (fun z35 => (Pz.StopR bl al 5 (j20 : Int) z35)) (fun z35 => [Wb 69 p s j20 n z35.1 z35.2]) _ (fun _ => rfl) (fun _ h => h.sel [0, 1, 2, 3, 4, 5] (by decide) rfl) (fun _ => rfl) wn rfl rfl Tryd.call36 rfl (fun w1 Pb hG => w_stop p s j20 n bl al 5 (j20 : Int) Pb w1 hG ) fun z35 hz38 => ?_
             obtain ⟨be22, ba22⟩ := z35
             have hs25 : Pz.StopR bl al 5 (j20 : Int) (be22, ba22) := hz38
             try simp only at hs25
             refine l_as 141 (.tuple (List.toArray [])) [Wb 69 p s j20 n be22 ba22, Row (.slice A10 l.length cp10) 9 1 strE l, Row (.slice (some ⟨b127, 0, none⟩) 1 1) 9 1 strE ([wd7] : List ByteArray), Row (.slice A2 Lg.totals.length cp2) 9 1 strE Lg.totals, .blk b9 [iV 3, iV 0, iV 0, .string wd2, Zs, .slice A10 l.length cp10, Zs] 26, .blk b4 Zx 26] ?_
             refine l_nil (e_go hK69 ?_)
             have hlB9 : Pz.Sim s be21 ba21 (Pz.byL s 5 [wd7] ⟨j19, n⟩) l ⟨j20, n, be22, ba22⟩ := Pz.bl_many hI2.1 hs24 h17 h18 (by omega) hs25
             refine c_exit (e_then_x (e_in_miss rfl (e_loop6_x (e_in_hit (e_cut (hR1 l j20 be22 ba22 (.slice A10 l.length cp10) (fun e r h => Pz.byT_by (Classical.not_not.1 h14) hs23.1 hlB9 h) (by omega) (fun h9 => Pz.byL_size 5 (t := ⟨j19, n⟩) (by show _ ≤ s.size; omega) (hlB9.ok_ (hlB9.first h9) h9) (fun y hy => by rw [List.mem_singleton.1 hy]; exact Pz.name_size (t := ⟨j11, n⟩) (by show _ ≤ s.size; omega) (hs23.1.ok_ (hs23.1.first (hlB9.first h9)) (hlB9.first h9)))) (⟨fun h9 => hs23.1.first (hlB9.first h9)⟩)) (sc rfl (sc rfl (sc rfl (sc rfl sn)))) (fun _ h => (h.sel [1, 0, 3, 4, 5] (by decide) rfl)))))))
           refine c_skip (e_go hK67 ?_)
           refine c_nodes (Mem w ⟨fpOf [Wb 69 p s i n be ba], Pb⟩ [Row (.slice (some ⟨b127, 0, none⟩) 1 1) 9 1 strE ([wd7] : List ByteArray), Row (.slice A2 Lg.totals.length cp2) 9 1 strE Lg.totals, .blk b4 Zx 26]) mix (fun _ h => h.drew) rfl ?_
           refine n_run (f := 6) [0, 2] rfl rfl (by kernel_rfl) (by kernel_rfl) (fun _ h => (h.sel [2, 3, 5] (by decide) rfl)) fun KS hKS => ?_
           refine s_val wn (r_fa rfl fld26_5) rfl ?_
           refine s_val wn (r_move rfl) rfl ?_
           refine s_end hKS ?_
           refine n_step2 (f := 5) (i := 1) (j := 3) rfl (by kernel_rfl) ?_ ?_
           · refine n_one (i := 1) rfl fun KN hKN => ?_
             refine l_val wn (r_lb 4 rfl rfl rfl flat23) rfl ?_
             refine l_nil (hKN _ _ (fun _ h => (h.sel [2, 3, 5] (by decide) rfl)) ?_)
             refine n_step1 (f := 4) (i := 3) rfl (by kernel_rfl) ?_
             refine n_one (i := 3) rfl fun KN hKN => ?_
             refine l_give (α := (ByteArray × Nat × Int × Int)) [Wb 69 p s j20 n bl al] [Row (.slice A10 l.length cp10) 9 1 strE l, Row (.slice (some ⟨b127, 0, none⟩) 1 1) 9 1 strE ([wd7] : List ByteArray), Row (.slice A2 Lg.totals.length cp2) 9 1 strE Lg.totals, .blk b9 [iV 3, iV 0, iV 0, .string wd2, Zs, .slice A10 l.length cp10, Zs] 26, .blk b4 Zx 26] (fun z : ByteArray × Nat × Int × Int => .string z.1) (fun z36 => ((Pz.Sim s bl al (Pz.name s ⟨j20, n⟩) z36.1 ⟨z36.2.1, n, z36.2.2.1, z36.2.2.2⟩) ∧ z36.1.size ≤ 2000)) (fun z36 => [Wb 69 p s z36.2.1 n z36.2.2.1 z36.2.2.2]) _ (fun _ => rfl) (fun _ h => h.sel [0, 1, 2, 3, 4, 5] (by decide) rfl) (fun _ => rfl) wn rfl rfl Tryd.call69 rfl (fun w1 Pb hG => w_name p s j20 n bl al  Pb w1 hG (by omega) (by omega)) fun z36 hz39 => ?_
             obtain ⟨wd8, j21, be23, ba23⟩ := z36
             have hs26 : (Pz.Sim s bl al (Pz.name s ⟨j20, n⟩) (wd8, j21, be23, ba23).1 ⟨(wd8, j21, be23, ba23).2.1, n, (wd8, j21, be23, ba23).2.2.1, (wd8, j21, be23, ba23).2.2.2⟩) ∧ (wd8, j21, be23, ba23).1.size ≤ 2000 := hz39
             try simp only at hs26
             have hs26l : j21 ≤ s.size := hs26.1.1
             have hs26z : wd8.size ≤ 2000 := hs26.2
             refine l_as 145 (.string wd8) [Wb 69 p s j21 n be23 ba23, Row (.slice A10 l.length cp10) 9 1 strE l, Row (.slice (some ⟨b127, 0, none⟩) 1 1) 9 1 strE ([wd7] : List ByteArray), Row (.slice A2 Lg.totals.length cp2) 9 1 strE Lg.totals, .blk b9 [iV 3, iV 0, iV 0, .string wd2, Zs, .slice A10 l.length cp10, Zs] 26, .blk b4 Zx 26] ?_
             refine l_nil (hKN _ _ (fun _ h => (h.sel [2, 3, 5] (by decide) rfl)) ?_)
             refine n_step1 (f := 3) (i := 4) rfl (by kernel_rfl) ?_
             refine n_one (i := 4) rfl fun KN hKN => ?_
             refine l_bsL strE ([wd8] : List ByteArray) wn Tryd.underlying23 inf9 rfl rfl rfl rfl (by decide) (by decide) rfl fun b146 => ?_
             refine l_nil (hKN _ _ (fun _ h => (h.sel [3, 4, 6] (by decide) rfl)) ?_)
             refine n_step1 (f := 2) (i := 5) rfl (by kernel_rfl) ?_
             refine n_one (i := 5) rfl fun KN hKN => ?_
             refine l_app 2 l ([wd8] : List ByteArray) encString wn rfl rfl rfl (fun _ hM => (RowSl encString hM 0 rfl)) Tryd.underlying23 inf9 rfl rfl (by simp only [List.length_append, List.length_cons, List.length_nil]; omega) rfl fun A11 cp11 hc11 hm11 hA11 => ?_
             refine l_nil (hKN _ _ (fun _ h => (h.sel [3, 4, 6] (by decide) rfl)) ?_)
             refine n_run (f := 1) [6] rfl rfl (by kernel_rfl) (by kernel_rfl) (fun _ h => (h.sel [3, 4, 6] (by decide) rfl)) fun KS hKS => ?_
             refine s_val wn (r_fa rfl fld26_5) rfl ?_
             refine s_end hKS ?_
             refine n_step1 (f := 0) (i := 7) rfl (by kernel_rfl) ?_
             refine n_one (i := 7) rfl fun KN hKN => ?_
             refine l_st1 5 wn rfl rfl rfl rfl inf23 rfl rfl ?_
             refine l_nil (hKN _ _ (fun _ h => (h.sel [3, 4, 6] (by decide) rfl)) ?_)
             refine n_done (by kernel_rfl) (e_in_n (e_round6 (l ++ ([wd8] : List ByteArray)) j21 be23 ba23 (q - 1) (.slice A11 ((l ++ ([wd8] : List ByteArray)).length) cp11) (sc rfl (sc rfl (sc rfl (sc rfl sn)))) (fun _ h => (h.sel [2, 3, 1, 4, 5, 6] (by decide) rfl)) ?_ ?_))
             · exact ⟨by rw [show q - 1 + 1 = q by omega]; exact Pz.bl_next hI2.1 hs24 h17 h18 hs26.1, by simp only [List.length_append, List.length_cons, List.length_nil]; omega, by simp only [List.length_append, List.length_cons, List.length_nil]; omega, by omega⟩
             omega
           refine n_one (i := 3) rfl fun KN hKN => ?_
           refine l_give (α := (ByteArray × Nat × Int × Int)) [Wb 69 p s j20 n bl al] [Row (.slice A10 l.length cp10) 9 1 strE l, Row (.slice (some ⟨b127, 0, none⟩) 1 1) 9 1 strE ([wd7] : List ByteArray), Row (.slice A2 Lg.totals.length cp2) 9 1 strE Lg.totals, .blk b9 [iV 3, iV 0, iV 0, .string wd2, Zs, .slice A10 l.length cp10, Zs] 26, .blk b4 Zx 26] (fun z : ByteArray × Nat × Int × Int => .string z.1) (fun z37 => ((Pz.Sim s bl al (Pz.name s ⟨j20, n⟩) z37.1 ⟨z37.2.1, n, z37.2.2.1, z37.2.2.2⟩) ∧ z37.1.size ≤ 2000)) (fun z37 => [Wb 69 p s z37.2.1 n z37.2.2.1 z37.2.2.2]) _ (fun _ => rfl) (fun _ h => h.sel [0, 1, 2, 3, 4, 5] (by decide) rfl) (fun _ => rfl) wn rfl rfl Tryd.call69 rfl (fun w1 Pb hG => w_name p s j20 n bl al  Pb w1 hG (by omega) (by omega)) fun z37 hz40 => ?_
           obtain ⟨wd9, j22, be24, ba24⟩ := z37
           have hs27 : (Pz.Sim s bl al (Pz.name s ⟨j20, n⟩) (wd9, j22, be24, ba24).1 ⟨(wd9, j22, be24, ba24).2.1, n, (wd9, j22, be24, ba24).2.2.1, (wd9, j22, be24, ba24).2.2.2⟩) ∧ (wd9, j22, be24, ba24).1.size ≤ 2000 := hz40
           try simp only at hs27
           have hs27l : j22 ≤ s.size := hs27.1.1
           have hs27z : wd9.size ≤ 2000 := hs27.2
           refine l_as 145 (.string wd9) [Wb 69 p s j22 n be24 ba24, Row (.slice A10 l.length cp10) 9 1 strE l, Row (.slice (some ⟨b127, 0, none⟩) 1 1) 9 1 strE ([wd7] : List ByteArray), Row (.slice A2 Lg.totals.length cp2) 9 1 strE Lg.totals, .blk b9 [iV 3, iV 0, iV 0, .string wd2, Zs, .slice A10 l.length cp10, Zs] 26, .blk b4 Zx 26] ?_
           refine l_nil (hKN _ _ (fun _ h => (h.sel [2, 3, 5] (by decide) rfl)) ?_)
           refine n_step2 (f := 4) (i := 1) (j := 4) rfl (by kernel_rfl) ?_ ?_
           · refine n_one (i := 1) rfl fun KN hKN => ?_
             refine l_val wn (r_lb 4 rfl rfl rfl flat23) rfl ?_
             refine l_nil (hKN _ _ (fun _ h => (h.sel [2, 3, 5] (by decide) rfl)) ?_)
             refine n_step1 (f := 3) (i := 4) rfl (by kernel_rfl) ?_
             refine n_one (i := 4) rfl fun KN hKN => ?_
             refine l_bsL strE ([wd9] : List ByteArray) wn Tryd.underlying23 inf9 rfl rfl rfl rfl (by decide) (by decide) rfl fun b146 => ?_
             refine l_nil (hKN _ _ (fun _ h => (h.sel [3, 4, 6] (by decide) rfl)) ?_)
             refine n_step1 (f := 2) (i := 5) rfl (by kernel_rfl) ?_
             refine n_one (i := 5) rfl fun KN hKN => ?_
             refine l_app 2 l ([wd9] : List ByteArray) encString wn rfl rfl rfl (fun _ hM => (RowSl encString hM 0 rfl)) Tryd.underlying23 inf9 rfl rfl (by simp only [List.length_append, List.length_cons, List.length_nil]; omega) rfl fun A12 cp12 hc12 hm12 hA12 => ?_
             refine l_nil (hKN _ _ (fun _ h => (h.sel [3, 4, 6] (by decide) rfl)) ?_)
             refine n_run (f := 1) [6] rfl rfl (by kernel_rfl) (by kernel_rfl) (fun _ h => (h.sel [3, 4, 6] (by decide) rfl)) fun KS hKS => ?_
             refine s_val wn (r_fa rfl fld26_5) rfl ?_
             refine s_end hKS ?_
             refine n_step1 (f := 0) (i := 7) rfl (by kernel_rfl) ?_
             refine n_one (i := 7) rfl fun KN hKN => ?_
             refine l_st1 5 wn rfl rfl rfl rfl inf23 rfl rfl ?_
             refine l_nil (hKN _ _ (fun _ h => (h.sel [3, 4, 6] (by decide) rfl)) ?_)
             refine n_done (by kernel_rfl) (e_in_n (e_round6 (l ++ ([wd9] : List ByteArray)) j22 be24 ba24 (q - 1) (.slice A12 ((l ++ ([wd9] : List ByteArray)).length) cp12) (sc rfl (sc rfl (sc rfl (sc rfl sn)))) (fun _ h => (h.sel [2, 3, 1, 4, 5, 6] (by decide) rfl)) ?_ ?_))
             · exact ⟨by rw [show q - 1 + 1 = q by omega]; exact Pz.bl_next hI2.1 hs24 h17 h18 hs27.1, by simp only [List.length_append, List.length_cons, List.length_nil]; omega, by simp only [List.length_append, List.length_cons, List.length_nil]; omega, by omega⟩
             omega
           refine n_one (i := 4) rfl fun KN hKN => ?_
           refine l_bsL strE ([wd9] : List ByteArray) wn Tryd.underlying23 inf9 rfl rfl rfl rfl (by decide) (by decide) rfl fun b146 => ?_
           refine l_nil (hKN _ _ (fun _ h => (h.sel [3, 4, 6] (by decide) rfl)) ?_)
           refine n_step1 (f := 3) (i := 1) rfl (by kernel_rfl) ?_
           refine n_one (i := 1) rfl fun KN hKN => ?_
           refine l_val wn (r_lb 5 rfl rfl rfl flat23) rfl ?_
           refine l_nil (hKN _ _ (fun _ h => (h.sel [3, 4, 6] (by decide) rfl)) ?_)
           refine n_step1 (f := 2) (i := 5) rfl (by kernel_rfl) ?_
           refine n_one (i := 5) rfl fun KN hKN => ?_
           refine l_app 2 l ([wd9] : List ByteArray) encString wn rfl rfl rfl (fun _ hM => (RowSl encString hM 0 rfl)) Tryd.underlying23 inf9 rfl rfl (by simp only [List.length_append, List.length_cons, List.length_nil]; omega) rfl fun A13 cp13 hc13 hm13 hA13 => ?_
           refine l_nil (hKN _ _ (fun _ h => (h.sel [3, 4, 6] (by decide) rfl)) ?_)
           refine n_run (f := 1) [6] rfl rfl (by kernel_rfl) (by kernel_rfl) (fun _ h => (h.sel [3, 4, 6] (by decide) rfl)) fun KS hKS => ?_
           refine s_val wn (r_fa rfl fld26_5) rfl ?_
           refine s_end hKS ?_
           refine n_step1 (f := 0) (i := 7) rfl (by kernel_rfl) ?_
           refine n_one (i := 7) rfl fun KN hKN => ?_
           refine l_st1 5 wn rfl rfl rfl rfl inf23 rfl rfl ?_
           refine l_nil (hKN _ _ (fun _ h => (h.sel [3, 4, 6] (by decide) rfl)) ?_)
           refine n_done (by kernel_rfl) (e_in_n (e_round6 (l ++ ([wd9] : List ByteArray)) j22 be24 ba24 (q - 1) (.slice A13 ((l ++ ([wd9] : List ByteArray)).length) cp13) (sc rfl (sc rfl (sc rfl (sc rfl sn)))) (fun _ h => (h.sel [2, 3, 1, 4, 5, 6] (by decide) rfl)) ?_ ?_))
           · exact ⟨by rw [show q - 1 + 1 = q by omega]; exact Pz.bl_next hI2.1 hs24 h17 h18 hs27.1, by simp only [List.length_append, List.length_cons, List.length_nil]; omega, by simp only [List.length_append, List.length_cons, List.length_nil]; omega, by omega⟩
           omega
         have hlB9 : Pz.Sim s be21 ba21 (Pz.byL s 5 [wd7] ⟨j19, n⟩) l ⟨j20, n, bl, al⟩ := Pz.bl_done hI2.1 hs24 (by simpa using h17)
         refine c_exit (e_then_x (e_loop6_x (e_in_hit (e_cut (hR1 l j20 bl al (.slice A10 l.length cp10) (fun e r h => Pz.byT_by (Classical.not_not.1 h14) hs23.1 hlB9 h) (by omega) (fun h9 => Pz.byL_size 5 (t := ⟨j19, n⟩) (by show _ ≤ s.size; omega) (hlB9.ok_ (hlB9.first h9) h9) (fun y hy => by rw [List.mem_singleton.1 hy]; exact Pz.name_size (t := ⟨j11, n⟩) (by show _ ≤ s.size; omega) (hs23.1.ok_ (hs23.1.first (hlB9.first h9)) (hlB9.first h9)))) (⟨fun h9 => hs23.1.first (hlB9.first h9)⟩)) (sc rfl (sc rfl (sc rfl (sc rfl sn)))) (fun _ h => (h.sel [1, 0, 3, 4, 5] (by decide) rfl))))))
       refine n_one (i := 4) rfl fun KN hKN => ?_
       refine l_bsL strE ([wd7] : List ByteArray) wn Tryd.underlying23 inf9 rfl rfl rfl rfl (by decide) (by decide) rfl fun b127 => ?_
       refine l_nil (hKN _ _ (fun _ h => (h.sel [2, 4] (by decide) rfl)) ?_)
       refine n_step1 (f := 3) (i := 1) rfl (by kernel_rfl) ?_
       refine n_one (i := 1) rfl fun KN hKN => ?_
       refine l_val wn (r_lb 3 rfl rfl rfl flat23) rfl ?_
       refine l_nil (hKN _ _ (fun _ h => (h.sel [2, 4] (by decide) rfl)) ?_)
       refine n_step1 (f := 2) (i := 5) rfl (by kernel_rfl) ?_
       refine n_one (i := 5) rfl fun KN hKN => ?_
       refine l_nilRow (strE : ByteArray → List Value) 9 1 ?_
       refine l_app 0 ([] : List ByteArray) ([wd7] : List ByteArray) encString wn rfl rfl rfl (fun _ hM => (RowSl encString hM 1 rfl)) Tryd.underlying23 inf9 rfl rfl (by simp only [List.length_append, List.length_cons, List.length_nil]; omega) rfl fun A14 cp14 hc14 hm14 hA14 => ?_
       refine l_nil (hKN _ _ (fun _ h => (h.sel [3, 5] (by decide) rfl)) ?_)
       refine n_run (f := 1) [6] rfl rfl (by kernel_rfl) (by kernel_rfl) (fun _ h => (h.sel [3, 5] (by decide) rfl)) fun KS hKS => ?_
       refine s_val wn (r_fa rfl fld26_5) rfl ?_
       refine s_end hKS ?_
       refine n_step1 (f := 0) (i := 7) rfl (by kernel_rfl) ?_
       refine n_one (i := 7) rfl fun KN hKN => ?_
       refine l_st1 4 wn rfl rfl rfl rfl inf23 rfl rfl ?_
       refine l_nil (hKN _ _ (fun _ h => (h.sel [3, 5] (by decide) rfl)) ?_)
       refine n_done (by kernel_rfl) (e_go hK59 ?_)
       refine c_block ?_
       refine c_loop6 (fun (l : List ByteArray) (k : Nat) (bl : Int) (al : Int) (q : Nat) (rv : Value) => [(0, .pointer (some ⟨p, 0, none⟩)), (1, iV d), (4, .pointer (some ⟨b4, 0, none⟩)), (9, .pointer (some ⟨b9, 0, none⟩))]) (fun (l : List ByteArray) (k : Nat) (bl : Int) (al : Int) (q : Nat) (rv : Value) => [Row rv 9 1 strE l, Row (.slice (some ⟨b127, 0, none⟩) 1 1) 9 1 strE ([wd7] : List ByteArray), Wb 69 p s k n bl al, Row (.slice A2 Lg.totals.length cp2) 9 1 strE Lg.totals, .blk b9 [iV 3, iV 0, iV 0, .string wd2, Zs, rv, Zs] 26, .blk b4 Zx 26]) (fun (l : List ByteArray) (k : Nat) (bl : Int) (al : Int) (q : Nat) (rv : Value) => (∀ b r, Pz.Sim s bl al (Pz.byL s (q + 1) l ⟨k, n⟩) b r → Pz.Sim s be21 ba21 (Pz.byL s 5 [wd7] ⟨j19, n⟩) b r) ∧ l.length + q = 5 ∧ l.length ≤ 4 ∧ k ≤ s.size) (fun (l : List ByteArray) (k : Nat) (bl : Int) (al : Int) (q : Nat) (rv : Value) => q) (([] : List ByteArray) ++ ([wd7] : List ByteArray)) j19 be21 ba21 4 (.slice A14 ((([] : List ByteArray) ++ ([wd7] : List ByteArray)).length) cp14) (sc rfl (sc rfl (sc rfl (sc rfl sn)))) (fun _ h => h) ?_ (fun l k bl al q rv hI3 => ?_)
       · exact ⟨fun _ _ h => h, rfl, by simp, by omega⟩
       refine c_open 0 (l := l) rfl fun A15 cp15 hv4 hc15 hm15 hA15 => ?_
       subst hv4
       refine c_seq fun _ hK70 => ?_
       refine c_seq fun _ hK71 => ?_
       refine c_region ?_
       refine l_val wn (r_move rfl) rfl ?_
       refine l_give (α := (Bool × Nat)) [Wb 69 p s k n bl al] [Row (.slice A15 l.length cp15) 9 1 strE l, Row (.slice (some ⟨b127, 0, none⟩) 1 1) 9 1 strE ([wd7] : List ByteArray), Row (.slice A2 Lg.totals.length cp2) 9 1 strE Lg.totals, .blk b9 [iV 3, iV 0, iV 0, .string wd2, Zs, .slice A15 l.length cp15, Zs] 26, .blk b4 Zx 26] (fun z : Bool × Nat => .bool z.1) (fun z38 => (Pz.SignR s ⟨#[44]⟩ bl k z38)) (fun z38 => [Wb 69 p s z38.2 n bl al]) _ (fun _ => rfl) (fun _ h => h.sel [2, 0, 1, 3, 4, 5] (by decide) rfl) (fun _ => rfl) wn rfl rfl Tryd.call53 rfl (fun w1 Pb hG => w_sign p s k n bl al ⟨#[44]⟩ Pb w1 hG (by omega) (by omega) (by first | decide | omega)) fun z38 hz41 => ?_
       obtain ⟨bo4, j23⟩ := z38
       have hs28 : Pz.SignR s ⟨#[44]⟩ bl k (bo4, j23) := hz41
       try simp only at hs28
       have hs28l : j23 ≤ s.size := hs28.1
       refine l_as 131 (.bool bo4) [Wb 69 p s j23 n bl al, Row (.slice A15 l.length cp15) 9 1 strE l, Row (.slice (some ⟨b127, 0, none⟩) 1 1) 9 1 strE ([wd7] : List ByteArray), Row (.slice A2 Lg.totals.length cp2) 9 1 strE Lg.totals, .blk b9 [iV 3, iV 0, iV 0, .string wd2, Zs, .slice A15 l.length cp15, Zs] 26, .blk b4 Zx 26] ?_
       refine l_nil (e_go hK71 ?_)
       refine c_condb rfl (fun h19 => ?_) (fun h19 => ?_)
       · refine c_skip (e_go hK70 ?_)
         refine c_block ?_
         refine c_seq fun _ hK72 => ?_
         refine c_seq fun _ hK73 => ?_
         refine c_region ?_
         refine l_val wn (r_fa rfl fld26_5) rfl ?_
         refine l_val wn (r_lb 4 rfl rfl rfl flat23) rfl ?_
         refine l_val wn (r_len rfl Tryd.underlying23) rfl ?_
         refine l_val wn (r_geq rfl rfl) rfl ?_
         refine l_nil (e_go hK73 ?_)
         refine c_cond rfl (fun h20 => ?_) (fun h20 => ?_)
         · refine c_seq fun _ hK74 => ?_
           refine c_region ?_
           refine l_val wn (r_move rfl) rfl ?_
           refine l_val wn (r_move rfl) rfl ?_
           refine l_val wn (r_nilCheck rfl) rfl ?_
           refine l_val wn (r_fa rfl fld69_1) rfl ?_
           refine l_val wn (r_lb 0 rfl rfl rfl flat3) rfl ?_
           refine l_give (α := (Int × Int)) [Wb 69 p s j23 n bl al] [Row (.slice A15 l.length cp15) 9 1 strE l, Row (.slice (some ⟨b127, 0, none⟩) 1 1) 9 1 strE ([wd7] : List ByteArray), Row (.slice A2 Lg.totals.length cp2) 9 1 strE Lg.totals, .blk b9 [iV 3, iV 0, iV 0, .string wd2, Zs, .slice A15 l.length cp15, Zs] 26, .blk b4 Zx 26] (fun z : Int × Int => .tuple #[]) (fun z39 => (Pz.StopR bl al 5 (j23 : Int) z39)) (fun z39 => [Wb 69 p s j23 n z39.1 z39.2]) _ (fun _ => rfl) (fun _ h => h.sel [0, 1, 2, 3, 4, 5] (by decide) rfl) (fun _ => rfl) wn rfl rfl Tryd.call36 rfl (fun w1 Pb hG => w_stop p s j23 n bl al 5 (j23 : Int) Pb w1 hG ) fun z39 hz42 => ?_
           obtain ⟨be25, ba25⟩ := z39
           have hs29 : Pz.StopR bl al 5 (j23 : Int) (be25, ba25) := hz42
           try simp only at hs29
           refine l_as 141 (.tuple (List.toArray [])) [Wb 69 p s j23 n be25 ba25, Row (.slice A15 l.length cp15) 9 1 strE l, Row (.slice (some ⟨b127, 0, none⟩) 1 1) 9 1 strE ([wd7] : List ByteArray), Row (.slice A2 Lg.totals.length cp2) 9 1 strE Lg.totals, .blk b9 [iV 3, iV 0, iV 0, .string wd2, Zs, .slice A15 l.length cp15, Zs] 26, .blk b4 Zx 26] ?_
           refine l_nil (e_go hK74 ?_)
           have hlB9 : Pz.Sim s be21 ba21 (Pz.byL s 5 [wd7] ⟨j19, n⟩) l ⟨j23, n, be25, ba25⟩ := Pz.bl_many hI3.1 hs28 h19 h20 (by omega) hs29
           refine c_exit (e_then_x (e_in_miss rfl (e_loop6_x (e_in_hit (e_cut (hR1 l j23 be25 ba25 (.slice A15 l.length cp15) (fun e r h => Pz.byT_by (Classical.not_not.1 h14) hs23.1 hlB9 h) (by omega) (fun h9 => Pz.byL_size 5 (t := ⟨j19, n⟩) (by show _ ≤ s.size; omega) (hlB9.ok_ (hlB9.first h9) h9) (fun y hy => by rw [List.mem_singleton.1 hy]; exact Pz.name_size (t := ⟨j11, n⟩) (by show _ ≤ s.size; omega) (hs23.1.ok_ (hs23.1.first (hlB9.first h9)) (hlB9.first h9)))) (⟨fun h9 => hs23.1.first (hlB9.first h9)⟩)) (sc rfl (sc rfl (sc rfl (sc rfl sn)))) (fun _ h => (h.sel [1, 0, 3, 4, 5] (by decide) rfl)))))))
         refine c_skip (e_go hK72 ?_)
         refine c_nodes (Mem w ⟨fpOf [Wb 69 p s i n be ba], Pb⟩ [Row (.slice (some ⟨b127, 0, none⟩) 1 1) 9 1 strE ([wd7] : List ByteArray), Row (.slice A2 Lg.totals.length cp2) 9 1 strE Lg.totals, .blk b4 Zx 26]) mix (fun _ h => h.drew) rfl ?_
         refine n_run (f := 6) [0, 2] rfl rfl (by kernel_rfl) (by kernel_rfl) (fun _ h => (h.sel [2, 3, 5] (by decide) rfl)) fun KS hKS => ?_
         refine s_val wn (r_fa rfl fld26_5) rfl ?_
         refine s_val wn (r_move rfl) rfl ?_
         refine s_end hKS ?_
         refine n_step2 (f := 5) (i := 1) (j := 3) rfl (by kernel_rfl) ?_ ?_
         · refine n_one (i := 1) rfl fun KN hKN => ?_
           refine l_val wn (r_lb 4 rfl rfl rfl flat23) rfl ?_
           refine l_nil (hKN _ _ (fun _ h => (h.sel [2, 3, 5] (by decide) rfl)) ?_)
           refine n_step1 (f := 4) (i := 3) rfl (by kernel_rfl) ?_
           refine n_one (i := 3) rfl fun KN hKN => ?_
           refine l_give (α := (ByteArray × Nat × Int × Int)) [Wb 69 p s j23 n bl al] [Row (.slice A15 l.length cp15) 9 1 strE l, Row (.slice (some ⟨b127, 0, none⟩) 1 1) 9 1 strE ([wd7] : List ByteArray), Row (.slice A2 Lg.totals.length cp2) 9 1 strE Lg.totals, .blk b9 [iV 3, iV 0, iV 0, .string wd2, Zs, .slice A15 l.length cp15, Zs] 26, .blk b4 Zx 26] (fun z : ByteArray × Nat × Int × Int => .string z.1) (fun z40 => ((Pz.Sim s bl al (Pz.name s ⟨j23, n⟩) z40.1 ⟨z40.2.1, n, z40.2.2.1, z40.2.2.2⟩) ∧ z40.1.size ≤ 2000)) (fun z40 => [Wb 69 p s z40.2.1 n z40.2.2.1 z40.2.2.2]) _ (fun _ => rfl) (fun _ h => h.sel [0, 1, 2, 3, 4, 5] (by decide) rfl) (fun _ => rfl) wn rfl rfl Tryd.call69 rfl (fun w1 Pb hG => w_name p s j23 n bl al  Pb w1 hG (by omega) (by omega)) fun z40 hz43 => ?_
           obtain ⟨wd10, j24, be26, ba26⟩ := z40
           have hs30 : (Pz.Sim s bl al (Pz.name s ⟨j23, n⟩) (wd10, j24, be26, ba26).1 ⟨(wd10, j24, be26, ba26).2.1, n, (wd10, j24, be26, ba26).2.2.1, (wd10, j24, be26, ba26).2.2.2⟩) ∧ (wd10, j24, be26, ba26).1.size ≤ 2000 := hz43
           try simp only at hs30
           have hs30l : j24 ≤ s.size := hs30.1.1
           have hs30z : wd10.size ≤ 2000 := hs30.2
           refine l_as 145 (.string wd10) [Wb 69 p s j24 n be26 ba26, Row (.slice A15 l.length cp15) 9 1 strE l, Row (.slice (some ⟨b127, 0, none⟩) 1 1) 9 1 strE ([wd7] : List ByteArray), Row (.slice A2 Lg.totals.length cp2) 9 1 strE Lg.totals, .blk b9 [iV 3, iV 0, iV 0, .string wd2, Zs, .slice A15 l.length cp15, Zs] 26, .blk b4 Zx 26] ?_
           refine l_nil (hKN _ _ (fun _ h => (h.sel [2, 3, 5] (by decide) rfl)) ?_)
           refine n_step1 (f := 3) (i := 4) rfl (by kernel_rfl) ?_
           refine n_one (i := 4) rfl fun KN hKN => ?_
           refine l_bsL strE ([wd10] : List ByteArray) wn Tryd.underlying23 inf9 rfl rfl rfl rfl (by decide) (by decide) rfl fun b146 => ?_
           refine l_nil (hKN _ _ (fun _ h => (h.sel [3, 4, 6] (by decide) rfl)) ?_)
           refine n_step1 (f := 2) (i := 5) rfl (by kernel_rfl) ?_
           refine n_one (i := 5) rfl fun KN hKN => ?_
           refine l_app 2 l ([wd10] : List ByteArray) encString wn rfl rfl rfl (fun _ hM => (RowSl encString hM 0 rfl)) Tryd.underlying23 inf9 rfl rfl (by simp only [List.length_append, List.length_cons, List.length_nil]; omega) rfl fun A16 cp16 hc16 hm16 hA16 => ?_
           refine l_nil (hKN _ _ (fun _ h => (h.sel [3, 4, 6] (by decide) rfl)) ?_)
           refine n_run (f := 1) [6] rfl rfl (by kernel_rfl) (by kernel_rfl) (fun _ h => (h.sel [3, 4, 6] (by decide) rfl)) fun KS hKS => ?_
           refine s_val wn (r_fa rfl fld26_5) rfl ?_
           refine s_end hKS ?_
           refine n_step1 (f := 0) (i := 7) rfl (by kernel_rfl) ?_
           refine n_one (i := 7) rfl fun KN hKN => ?_
           refine l_st1 5 wn rfl rfl rfl rfl inf23 rfl rfl ?_
           refine l_nil (hKN _ _ (fun _ h => (h.sel [3, 4, 6] (by decide) rfl)) ?_)
           refine n_done (by kernel_rfl) (e_in_n (e_round6 (l ++ ([wd10] : List ByteArray)) j24 be26 ba26 (q - 1) (.slice A16 ((l ++ ([wd10] : List ByteArray)).length) cp16) (sc rfl (sc rfl (sc rfl (sc rfl sn)))) (fun _ h => (h.sel [2, 3, 1, 4, 5, 6] (by decide) rfl)) ?_ ?_))
           · exact ⟨by rw [show q - 1 + 1 = q by omega]; exact Pz.bl_next hI3.1 hs28 h19 h20 hs30.1, by simp only [List.length_append, List.length_cons, List.length_nil]; omega, by simp only [List.length_append, List.length_cons, List.length_nil]; omega, by omega⟩
           omega
         refine n_one (i := 3) rfl fun KN hKN => ?_
         refine l_give (α := (ByteArray × Nat × Int × Int)) [Wb 69 p s j23 n bl al] [Row (.slice A15 l.length cp15) 9 1 strE l, Row (.slice (some ⟨b127, 0, none⟩) 1 1) 9 1 strE ([wd7] : List ByteArray), Row (.slice A2 Lg.totals.length cp2) 9 1 strE Lg.totals, .blk b9 [iV 3, iV 0, iV 0, .string wd2, Zs, .slice A15 l.length cp15, Zs] 26, .blk b4 Zx 26] (fun z : ByteArray × Nat × Int × Int => .string z.1) (fun z41 => ((Pz.Sim s bl al (Pz.name s ⟨j23, n⟩) z41.1 ⟨z41.2.1, n, z41.2.2.1, z41.2.2.2⟩) ∧ z41.1.size ≤ 2000)) (fun z41 => [Wb 69 p s z41.2.1 n z41.2.2.1 z41.2.2.2]) _ (fun _ => rfl) (fun _ h => h.sel [0, 1, 2, 3, 4, 5] (by decide) rfl) (fun _ => rfl) wn rfl rfl Tryd.call69 rfl (fun w1 Pb hG => w_name p s j23 n bl al  Pb w1 hG (by omega) (by omega)) fun z41 hz44 => ?_
         obtain ⟨wd11, j25, be27, ba27⟩ := z41
         have hs31 : (Pz.Sim s bl al (Pz.name s ⟨j23, n⟩) (wd11, j25, be27, ba27).1 ⟨(wd11, j25, be27, ba27).2.1, n, (wd11, j25, be27, ba27).2.2.1, (wd11, j25, be27, ba27).2.2.2⟩) ∧ (wd11, j25, be27, ba27).1.size ≤ 2000 := hz44
         try simp only at hs31
         have hs31l : j25 ≤ s.size := hs31.1.1
         have hs31z : wd11.size ≤ 2000 := hs31.2
         refine l_as 145 (.string wd11) [Wb 69 p s j25 n be27 ba27, Row (.slice A15 l.length cp15) 9 1 strE l, Row (.slice (some ⟨b127, 0, none⟩) 1 1) 9 1 strE ([wd7] : List ByteArray), Row (.slice A2 Lg.totals.length cp2) 9 1 strE Lg.totals, .blk b9 [iV 3, iV 0, iV 0, .string wd2, Zs, .slice A15 l.length cp15, Zs] 26, .blk b4 Zx 26] ?_
         refine l_nil (hKN _ _ (fun _ h => (h.sel [2, 3, 5] (by decide) rfl)) ?_)
         refine n_step2 (f := 4) (i := 1) (j := 4) rfl (by kernel_rfl) ?_ ?_
         · refine n_one (i := 1) rfl fun KN hKN => ?_
           refine l_val wn (r_lb 4 rfl rfl rfl flat23) rfl ?_
           refine l_nil (hKN _ _ (fun _ h => (h.sel [2, 3, 5] (by decide) rfl)) ?_)
           refine n_step1 (f := 3) (i := 4) rfl (by kernel_rfl) ?_
           refine n_one (i := 4) rfl fun KN hKN => ?_
           refine l_bsL strE ([wd11] : List ByteArray) wn Tryd.underlying23 inf9 rfl rfl rfl rfl (by decide) (by decide) rfl fun b146 => ?_
           refine l_nil (hKN _ _ (fun _ h => (h.sel [3, 4, 6] (by decide) rfl)) ?_)
           refine n_step1 (f := 2) (i := 5) rfl (by kernel_rfl) ?_
           refine n_one (i := 5) rfl fun KN hKN => ?_
           refine l_app 2 l ([wd11] : List ByteArray) encString wn rfl rfl rfl (fun _ hM => (RowSl encString hM 0 rfl)) Tryd.underlying23 inf9 rfl rfl (by simp only [List.length_append, List.length_cons, List.length_nil]; omega) rfl fun A17 cp17 hc17 hm17 hA17 => ?_
           refine l_nil (hKN _ _ (fun _ h => (h.sel [3, 4, 6] (by decide) rfl)) ?_)
           refine n_run (f := 1) [6] rfl rfl (by kernel_rfl) (by kernel_rfl) (fun _ h => (h.sel [3, 4, 6] (by decide) rfl)) fun KS hKS => ?_
           refine s_val wn (r_fa rfl fld26_5) rfl ?_
           refine s_end hKS ?_
           refine n_step1 (f := 0) (i := 7) rfl (by kernel_rfl) ?_
           refine n_one (i := 7) rfl fun KN hKN => ?_
           refine l_st1 5 wn rfl rfl rfl rfl inf23 rfl rfl ?_
           refine l_nil (hKN _ _ (fun _ h => (h.sel [3, 4, 6] (by decide) rfl)) ?_)
           refine n_done (by kernel_rfl) (e_in_n (e_round6 (l ++ ([wd11] : List ByteArray)) j25 be27 ba27 (q - 1) (.slice A17 ((l ++ ([wd11] : List ByteArray)).length) cp17) (sc rfl (sc rfl (sc rfl (sc rfl sn)))) (fun _ h => (h.sel [2, 3, 1, 4, 5, 6] (by decide) rfl)) ?_ ?_))
           · exact ⟨by rw [show q - 1 + 1 = q by omega]; exact Pz.bl_next hI3.1 hs28 h19 h20 hs31.1, by simp only [List.length_append, List.length_cons, List.length_nil]; omega, by simp only [List.length_append, List.length_cons, List.length_nil]; omega, by omega⟩
           omega
         refine n_one (i := 4) rfl fun KN hKN => ?_
         refine l_bsL strE ([wd11] : List ByteArray) wn Tryd.underlying23 inf9 rfl rfl rfl rfl (by decide) (by decide) rfl fun b146 => ?_
         refine l_nil (hKN _ _ (fun _ h => (h.sel [3, 4, 6] (by decide) rfl)) ?_)
         refine n_step1 (f := 3) (i := 1) rfl (by kernel_rfl) ?_
         refine n_one (i := 1) rfl fun KN hKN => ?_
         refine l_val wn (r_lb 5 rfl rfl rfl flat23) rfl ?_
         refine l_nil (hKN _ _ (fun _ h => (h.sel [3, 4, 6] (by decide) rfl)) ?_)
         refine n_step1 (f := 2) (i := 5) rfl (by kernel_rfl) ?_
         refine n_one (i := 5) rfl fun KN hKN => ?_
         refine l_app 2 l ([wd11] : List ByteArray) encString wn rfl rfl rfl (fun _ hM => (RowSl encString hM 0 rfl)) Tryd.underlying23 inf9 rfl rfl (by simp only [List.length_append, List.length_cons, List.length_nil]; omega) rfl fun A18 cp18 hc18 hm18 hA18 => ?_
         refine l_nil (hKN _ _ (fun _ h => (h.sel [3, 4, 6] (by decide) rfl)) ?_)
         refine n_run (f := 1) [6] rfl rfl (by kernel_rfl) (by kernel_rfl) (fun _ h => (h.sel [3, 4, 6] (by decide) rfl)) fun KS hKS => ?_
         refine s_val wn (r_fa rfl fld26_5) rfl ?_
         refine s_end hKS ?_
         refine n_step1 (f := 0) (i := 7) rfl (by kernel_rfl) ?_
         refine n_one (i := 7) rfl fun KN hKN => ?_
         refine l_st1 5 wn rfl rfl rfl rfl inf23 rfl rfl ?_
         refine l_nil (hKN _ _ (fun _ h => (h.sel [3, 4, 6] (by decide) rfl)) ?_)
         refine n_done (by kernel_rfl) (e_in_n (e_round6 (l ++ ([wd11] : List ByteArray)) j25 be27 ba27 (q - 1) (.slice A18 ((l ++ ([wd11] : List ByteArray)).length) cp18) (sc rfl (sc rfl (sc rfl (sc rfl sn)))) (fun _ h => (h.sel [2, 3, 1, 4, 5, 6] (by decide) rfl)) ?_ ?_))
         · exact ⟨by rw [show q - 1 + 1 = q by omega]; exact Pz.bl_next hI3.1 hs28 h19 h20 hs31.1, by simp only [List.length_append, List.length_cons, List.length_nil]; omega, by simp only [List.length_append, List.length_cons, List.length_nil]; omega, by omega⟩
         omega
       have hlB9 : Pz.Sim s be21 ba21 (Pz.byL s 5 [wd7] ⟨j19, n⟩) l ⟨j23, n, bl, al⟩ := Pz.bl_done hI3.1 hs28 (by simpa using h19)
       refine c_exit (e_then_x (e_loop6_x (e_in_hit (e_cut (hR1 l j23 bl al (.slice A15 l.length cp15) (fun e r h => Pz.byT_by (Classical.not_not.1 h14) hs23.1 hlB9 h) (by omega) (fun h9 => Pz.byL_size 5 (t := ⟨j19, n⟩) (by show _ ≤ s.size; omega) (hlB9.ok_ (hlB9.first h9) h9) (fun y hy => by rw [List.mem_singleton.1 hy]; exact Pz.name_size (t := ⟨j11, n⟩) (by show _ ≤ s.size; omega) (hs23.1.ok_ (hs23.1.first (hlB9.first h9)) (hlB9.first h9)))) (⟨fun h9 => hs23.1.first (hlB9.first h9)⟩)) (sc rfl (sc rfl (sc rfl (sc rfl sn)))) (fun _ h => (h.sel [1, 0, 3, 4, 5] (by decide) rfl))))))
     refine l_skip (wg rfl rfl rfl) rfl ?_
     refine l_skip (wg rfl rfl rfl) rfl ?_
     refine l_val wn (r_pick rfl rfl) rfl ?_
     refine l_nil (e_go hK56 ?_)
     refine c_false rfl rfl ?_
     refine c_skip (e_go2 hK47 ?_)
     refine c_seq fun _ hK75 => ?_
     refine c_region ?_
     refine l_val wn (r_move rfl) rfl ?_
     refine l_give (α := Unit) [Wb 69 p s j11 n be11 ba11] [Row (.slice A2 Lg.totals.length cp2) 9 1 strE Lg.totals, .blk b9 [iV 3, iV 0, iV 0, .string wd2, Zs, Zs, Zs] 26, .blk b4 Zx 26] (fun _ : Unit => .bool (decide (be11 = 0))) (fun z42 => True) (fun z42 => [Wb 69 p s j11 n be11 ba11]) (fun z42 => [Wb 69 p s j11 n be11 ba11, Row (.slice A2 Lg.totals.length cp2) 9 1 strE Lg.totals, .blk b9 [iV 3, iV 0, iV 0, .string wd2, Zs, Zs, Zs] 26, .blk b4 Zx 26]) (fun _ => rfl) (fun _ h => h.sel [0, 1, 2, 3] (by decide) rfl) (fun _ => rfl) wn rfl rfl Tryd.call34 rfl (fun w1 Pb hG => w_ok p s j11 n be11 ba11 Pb w1 hG) fun z42 hz45 => ?_
     refine l_val wn (r_move rfl) rfl ?_
     refine l_litt (t := 119) rfl h12 ?_
     refine l_val (wg rfl rfl rfl) (r_move rfl) rfl ?_
     refine l_val (wg rfl rfl rfl) (r_seql rfl rfl) rfl ?_
     refine l_val wn (r_pick rfl rfl) rfl ?_
     refine l_nil (e_go hK75 ?_)
     refine c_false rfl (decide_eq_false (by rw [Classical.not_not.1 h13]; decide)) ?_
     refine c_mem (fun _ h => h.nilRow ByteArray 9 1 strE) ?_
     refine c_skip (e_cut (hR1 [] j11 be11 ba11 (Zs) (fun e r h => Pz.byT_none (Classical.not_not.1 h13) h) (by omega) (fun _ y hy => by cases hy) (⟨fun h9 => h9⟩)) (sc rfl (sc rfl (sc rfl (sc rfl sn)))) (fun _ h => h))
   refine l_skip (wg rfl rfl rfl) rfl ?_
   refine l_skip (wg rfl rfl rfl) rfl ?_
   refine l_val wn (r_pick rfl rfl) rfl ?_
   refine l_val wn (r_move rfl) rfl ?_
   refine l_skip (wg rfl rfl rfl) rfl ?_
   refine l_skip (wg rfl rfl rfl) rfl ?_
   refine l_val wn (r_pick rfl rfl) rfl ?_
   refine l_nil (e_go hK56 ?_)
   refine c_false rfl rfl ?_
   refine c_skip (e_go2 hK47 ?_)
   refine c_seq fun _ hK76 => ?_
   refine c_region ?_
   refine l_val wn (r_move rfl) rfl ?_
   refine l_give (α := Unit) [Wb 69 p s j11 n be11 ba11] [Row (.slice A2 Lg.totals.length cp2) 9 1 strE Lg.totals, .blk b9 [iV 3, iV 0, iV 0, .string wd2, Zs, Zs, Zs] 26, .blk b4 Zx 26] (fun _ : Unit => .bool (decide (be11 = 0))) (fun z43 => True) (fun z43 => [Wb 69 p s j11 n be11 ba11]) (fun z43 => [Wb 69 p s j11 n be11 ba11, Row (.slice A2 Lg.totals.length cp2) 9 1 strE Lg.totals, .blk b9 [iV 3, iV 0, iV 0, .string wd2, Zs, Zs, Zs] 26, .blk b4 Zx 26]) (fun _ => rfl) (fun _ h => h.sel [0, 1, 2, 3] (by decide) rfl) (fun _ => rfl) wn rfl rfl Tryd.call34 rfl (fun w1 Pb hG => w_ok p s j11 n be11 ba11 Pb w1 hG) fun z43 hz46 => ?_
   refine l_val wn (r_move rfl) rfl ?_
   refine l_litf (t := 119) rfl h12 ?_
   refine l_skip (wg rfl rfl rfl) rfl ?_
   refine l_skip (wg rfl rfl rfl) rfl ?_
   refine l_val wn (r_pick rfl rfl) rfl ?_
   refine l_nil (e_go hK76 ?_)
   refine c_false rfl rfl ?_
   refine c_mem (fun _ h => h.nilRow ByteArray 9 1 strE) ?_
   refine c_skip (e_cut (hR1 [] j11 be11 ba11 (Zs) (fun e r h => Pz.Sim.over (Pz.Sim.bad (r := ⟨j11, n, be11, ba11⟩) (a := .mk 0 0 0 ⟨#[]⟩ [] [] []) (by show _ ≤ _; omega) (h12) rfl rfl) (h12) h) (by omega) (fun h9 => absurd h9 (h12)) (⟨fun h9 => absurd h9 (h12)⟩)) (sc rfl (sc rfl (sc rfl (sc rfl sn)))) (fun _ h => h))
 refine s_skip (wg rfl rfl rfl) rfl ?_
 refine s_skip (wg rfl rfl rfl) rfl ?_
 refine s_end hKS ?_
 refine n_step1 (f := 3) (i := 5) rfl (by kernel_rfl) ?_
 refine n_one (i := 5) rfl fun KN hKN => ?_
 refine l_skip (wg rfl rfl rfl) rfl ?_
 refine l_nil (hKN _ _ (fun _ h => (h.sel [1, 0, 2] (by decide) rfl)) ?_)
 refine n_step1 (f := 2) (i := 6) rfl (by kernel_rfl) ?_
 refine n_one (i := 6) rfl fun KN hKN => ?_
 refine l_skip (wg rfl rfl rfl) rfl ?_
 refine l_nil (hKN _ _ (fun _ h => (h.sel [1, 0, 2] (by decide) rfl)) ?_)
 refine n_run (f := 0) [7, 8] rfl rfl (by kernel_rfl) (by kernel_rfl) (fun _ h => (h.sel [1, 0, 2] (by decide) rfl)) fun KS hKS => ?_
 refine s_skip (wg rfl rfl rfl) rfl ?_
 refine s_val wn (r_pick rfl rfl) rfl ?_
 refine s_end hKS ?_
 refine n_done (by kernel_rfl) (e_go hK38 ?_)
 refine c_false rfl rfl ?_
 refine c_skip (e_go hK37 ?_)
 refine c_seq fun _ hK77 => ?_
 refine c_seq fun _ hK78 => ?_
 refine c_region ?_
 refine l_val wn (r_move rfl) rfl ?_
 refine l_give (α := Unit) [Wb 69 p s j9 n be9 ba9] [.blk b9 [iV 3, iV 0, iV 0, .string wd2, Zs, Zs, Zs] 26, .blk b4 Zx 26] (fun _ : Unit => .bool (decide (be9 = 0))) (fun z44 => True) (fun z44 => [Wb 69 p s j9 n be9 ba9]) (fun z44 => [Wb 69 p s j9 n be9 ba9, .blk b9 [iV 3, iV 0, iV 0, .string wd2, Zs, Zs, Zs] 26, .blk b4 Zx 26]) (fun _ => rfl) (fun _ h => h.sel [0, 1, 2] (by decide) rfl) (fun _ => rfl) wn rfl rfl Tryd.call34 rfl (fun w1 Pb hG => w_ok p s j9 n be9 ba9 Pb w1 hG) fun z44 hz47 => ?_
 refine l_val wn (r_not rfl) rfl ?_
 refine l_nil (e_go hK78 ?_)
 refine c_true rfl (decide_eq_true h9) ?_
 refine c_seq fun _ hK79 => ?_
 refine c_region ?_
 refine l_val wn (r_lbn 1 [iV 3, iV 0, iV 0, .string wd2, Zs, Zs, Zs] rfl rfl rfl rfl agg26 inf26) rfl ?_
 refine l_stn 2 wn rfl rfl rfl inf26 rfl rfl rfl ?_
 refine l_nil (e_go hK79 ?_)
 refine c_ret (e_then_r (e_ret1 (.inl rfl) Tryd.results52 (rv_cell 2 rfl rfl agg26 inf26 rfl) fun w1 hM => ?_))
 have hl_be4 : be4 = 0 → be = 0 := fun h9 => hs5.1.first h9
 have hl_be9 : be9 = 0 → be4 = 0 := fun h9 => hs10.1.first h9
 have hM := hM.okI0 (be9 = 0) (ExprX.mk 3 0 0 wd2 ⟨none, 0, []⟩ ⟨none, 0, []⟩ ⟨none, 0, []⟩) h9
 exact hM.retA ((ExprX.mk 3 0 0 wd2 ⟨none, 0, []⟩ ⟨none, 0, []⟩ ⟨none, 0, []⟩), j9, n, be9, ba9) rfl ⟨show Pz.Sim s be ba (Pz.fac s (M + 1) ⟨i, n⟩) ((ExprX.mk 3 0 0 wd2 ⟨none, 0, []⟩ ⟨none, 0, []⟩ ⟨none, 0, []⟩)).e ⟨j9, n, be9, ba9⟩ from (by first | exact Pz.fac_word hs2 (by simpa using h3) hz6e hs5.1 (Pz.facW_all h7 (Pz.all_name hz14e hs10.1 ((Pz.Sim.bad (r := ⟨j9, n, be9, ba9⟩) (by show _ ≤ _; omega) h9 rfl rfl)))) | (rw [Pz.fac_succ]; exact Pz.fac_word hs2 (by simpa using h3) hz6e hs5.1 (Pz.facW_all h7 (Pz.all_name hz14e hs10.1 ((Pz.Sim.bad (r := ⟨j9, n, be9, ba9⟩) (by show _ ≤ _; omega) h9 rfl rfl))))) | (simp only [ExprX.e, ExprX.es, Pz.fac_succ]; exact Pz.fac_word hs2 (by simpa using h3) hz6e hs5.1 (Pz.facW_all h7 (Pz.all_name hz14e hs10.1 ((Pz.Sim.bad (r := ⟨j9, n, be9, ba9⟩) (by show _ ≤ _; omega) h9 rfl rfl)))))), by show 0 ≤ n ∧ n ≤ 101; omega, by show be9 = 0 → n ≤ 100; first | (intro h9; omega) | (intro h9; exact absurd h9 h9) | omega⟩ (fun h => h.sel [1, 0] (by decide) rfl)

theorem facs_of {N : Nat} (ih : FacR N) : FacS N := fun p s i n be ba d Pb w hG hi hs hn hne hd hd1 => w_sum2 p s i n be ba d N Pb w hG hi hs hn hne hd hd1 ih
theorem trmr_of {N : Nat} (ih : FacS N) : TrmR N := fun p s i n be ba d Pb w hG hi hs hn hne hd hd1 => w_sum1 p s i n be ba d N Pb w hG hi hs hn hne hd hd1 ih
theorem xprr_of {N : Nat} (ih : TrmR N) : XprR N := fun p s i n be ba d Pb w hG hi hs hn hne hd hd1 => w_sum0 p s i n be ba d N Pb w hG hi hs hn hne hd hd1 ih
theorem facr_all : ∀ N, FacR N
  | 0 => fun p s i n be ba d Pb w hG hi hs hn hne hd hd1 => w_factor p s i n be ba d 0 Pb w hG hi hs hn hne hd hd1 (fun M h => by omega)
  | N + 1 => fun p s i n be ba d Pb w hG hi hs hn hne hd hd1 => w_factor p s i n be ba d (N + 1) Pb w hG hi hs hn hne hd hd1 (fun M h => by obtain rfl : N = M := (by omega); exact xprr_of (trmr_of (facs_of (facr_all N))))
theorem xprr_all (N : Nat) : XprR N := xprr_of (trmr_of (facs_of (facr_all N)))

end Go.Proofs.YtffpglgboaigfaaDoor
