/-
  Walks: what each function hands back.
-/
import Derived.Test.YtffpglgboaigfaaDoorWparse
namespace Go.Proofs.YtffpglgboaigfaaDoor
open Ex
set_option linter.unusedVariables false
set_option linter.unusedSimpArgs false
set_option maxHeartbeats 1000000 in
theorem c_window (p : Nat) (s : ByteArray) (i : Nat) (n : Int) (word : ByteArray) (Pb : Nat → Prop) (w : World) (hG : Mem w ⟨fpOf [Rb 64 p s i n, .pub ErrV], Pb⟩ [Rb 64 p s i n, .pub ErrV] w) (hi : i ≤ s.size) (hs : s.size ≤ 2000) (hn : 0 ≤ n ∧ n ≤ 100) (hwd : word.size ≤ 12) :
    Calls Tryd.prog 80 #[.pointer (some ⟨p, 0, none⟩), .string word] w (RetX w [Rb 64 p s i n, .pub ErrV] Pb 61 (fun z : ExprX × Pz.St => .agg (exprE z.1).toArray) (fun z => Pz.window s word ⟨i, n⟩ = .ok (z.1.e, z.2) ∧ Pz.Good s ⟨i, n⟩ z.2) (fun z => [Rb 64 p s z.2.at_ z.2.nd, .pub ErrV, okP ExprX.Ok z.1]) (fun f => Pz.window s word ⟨i, n⟩ = .no f)) := by
 refine fstart (N := 46) (vals := [.pointer (some ⟨p, 0, none⟩), .string word]) (S := Mem w ⟨fpOf [Rb 64 p s i n, .pub ErrV], Pb⟩ [Rb 64 p s i n, .pub ErrV]) Tryd.func80 rfl rfl rfl hG ?_
 refine c_seq fun _ hK1 => ?_
 refine c_region ?_
 refine l_alloc wn inf26 rfl fun b4 => ?_
 refine l_nil (e_go hK1 ?_)
 refine c_seq fun _ hK2 => ?_
 refine c_region ?_
 refine l_val wn (r_move rfl) rfl ?_
 refine l_giveX (α := Pz.St) (PT := 61) [Rb 64 p s i n, .pub ErrV] [.blk b4 Zx 26] (fun z : Pz.St => .tuple #[]) (fun z1 => Pz.must s ⟨#[40]⟩ ⟨i, n⟩ = .ok z1 ∧ Pz.Good s ⟨i, n⟩ z1) (fun z1 => [Rb 64 p s z1.at_ z1.nd, .pub ErrV]) _ (fun f1 => Pz.must s ⟨#[40]⟩ ⟨i, n⟩ = .no f1) (fun _ => rfl) (fun _ h => h.sel [1, 2, 0] (by decide) rfl) (fun _ => rfl) wn rfl rfl Tryd.call76 rfl (fun w1 Pb hG => c_must p s i n ⟨#[40]⟩ Pb w1 hG (by omega) (by omega) (by omega) ) ?_ fun z1 hz1 => ?_
 · intro f1 hf1
   refine e_then_p (e_body_p fun w1 hM => ?_)
   exact hM.retPan f1 (by first | (simp only [Pz.then_ok, Pz.then_no, Pz.St.go, if_true, if_false, Bool.false_eq_true, Bool.true_eq_false, not_true_eq_false, not_false_eq_true, ne_eq, and_true, true_and, and_false, false_and, and_self, not_and, Pz.window, ExprX.e, ExprX.es, hf1]; done) | simp [Pz.then_ok, Pz.then_no, Pz.St.go, if_true, if_false, Bool.false_eq_true, Bool.true_eq_false, not_true_eq_false, not_false_eq_true, ne_eq, and_true, true_and, and_false, false_and, and_self, not_and, Pz.window, ExprX.e, ExprX.es, hf1])
 obtain ⟨j1, m1⟩ := z1
 have he1 : Pz.must s ⟨#[40]⟩ ⟨i, n⟩ = .ok ⟨j1, m1⟩ := hz1.1
 have ga1 : j1 ≤ s.size := hz1.2.at_
 have gm1 : n ≤ m1 := hz1.2.mono
 have gn1 : m1 ≤ 100 := hz1.2.most (show n ≤ 100 by omega)
 refine l_as 7 (.tuple (List.toArray [])) [Rb 64 p s j1 m1, .pub ErrV, .blk b4 Zx 26] ?_
 refine l_nil (e_go hK2 ?_)
 refine c_seq fun _ hK3 => ?_
 refine c_region ?_
 refine l_val wn (r_move rfl) rfl ?_
 refine l_giveX (α := Pz.St) (PT := 61) [Rb 64 p s j1 m1, .pub ErrV] [.blk b4 Zx 26] (fun z : Pz.St => .tuple #[]) (fun z2 => Pz.must s ⟨#[123]⟩ ⟨j1, m1⟩ = .ok z2 ∧ Pz.Good s ⟨j1, m1⟩ z2) (fun z2 => [Rb 64 p s z2.at_ z2.nd, .pub ErrV]) _ (fun f2 => Pz.must s ⟨#[123]⟩ ⟨j1, m1⟩ = .no f2) (fun _ => rfl) (fun _ h => h.sel [0, 1, 2] (by decide) rfl) (fun _ => rfl) wn rfl rfl Tryd.call76 rfl (fun w1 Pb hG => c_must p s j1 m1 ⟨#[123]⟩ Pb w1 hG (by omega) (by omega) (by omega) ) ?_ fun z2 hz2 => ?_
 · intro f2 hf2
   refine e_then_p (e_body_p fun w1 hM => ?_)
   exact hM.retPan f2 (by first | (simp only [Pz.then_ok, Pz.then_no, Pz.St.go, if_true, if_false, Bool.false_eq_true, Bool.true_eq_false, not_true_eq_false, not_false_eq_true, ne_eq, and_true, true_and, and_false, false_and, and_self, not_and, Pz.window, ExprX.e, ExprX.es, he1, hf2]; done) | simp [Pz.then_ok, Pz.then_no, Pz.St.go, if_true, if_false, Bool.false_eq_true, Bool.true_eq_false, not_true_eq_false, not_false_eq_true, ne_eq, and_true, true_and, and_false, false_and, and_self, not_and, Pz.window, ExprX.e, ExprX.es, he1, hf2])
 obtain ⟨j2, m2⟩ := z2
 have he2 : Pz.must s ⟨#[123]⟩ ⟨j1, m1⟩ = .ok ⟨j2, m2⟩ := hz2.1
 have ga2 : j2 ≤ s.size := hz2.2.at_
 have gm2 : m1 ≤ m2 := hz2.2.mono
 have gn2 : m2 ≤ 100 := hz2.2.most (show m1 ≤ 100 by omega)
 refine l_as 9 (.tuple (List.toArray [])) [Rb 64 p s j2 m2, .pub ErrV, .blk b4 Zx 26] ?_
 refine l_nil (e_go hK3 ?_)
 refine c_seq fun _ hK4 => ?_
 refine c_region ?_
 refine l_val wn (r_move rfl) rfl ?_
 refine l_val wn (r_build [iV 2, iV 0, iV 0, .string word, Zs, Zs, Zs] pl26 inf26 rfl rfl) rfl ?_
 refine l_alloc wn inf26 rfl fun b5 => ?_
 refine l_stn 0 wn rfl rfl rfl inf26 rfl rfl rfl ?_
 refine l_nil (e_go hK4 ?_)
 refine c_seq fun _ hK5 => ?_
 refine c_block ?_
 refine c_mem (fun _ h => h.nilRow Match 74 3 matchE) ?_
 refine c_loop5 (fun (ms : List Match) (k : Nat) (m : Int) (q : Nat) (rv : Value) => [(0, .pointer (some ⟨p, 0, none⟩)), (4, .pointer (some ⟨b4, 0, none⟩)), (5, .pointer (some ⟨b5, 0, none⟩))]) (fun (ms : List Match) (k : Nat) (m : Int) (q : Nat) (rv : Value) => [Row rv 74 3 matchE ms, .blk b5 [iV 2, iV 0, iV 0, .string word, rv, Zs, Zs] 26, Rb 64 p s k m, .pub ErrV, .blk b4 Zx 26]) (fun (ms : List Match) (k : Nat) (m : Int) (q : Nat) (rv : Value) => Pz.winL s 6 [] ⟨j2, m2⟩ = Pz.winL s (q + 1) ms ⟨k, m⟩ ∧ ms.length + q = 5 ∧ k ≤ s.size ∧ m2 ≤ m ∧ m ≤ 100) (fun (ms : List Match) (k : Nat) (m : Int) (q : Nat) (rv : Value) => q) [] j2 m2 5 (Zs) (sc rfl (sc rfl (sc rfl sn))) (fun _ h => h) ?_ (fun ms k m q rv hI1 => ?_)
 · exact ⟨rfl, rfl, by omega, by omega, by omega⟩
 refine c_open 0 (l := ms) rfl fun A1 cp1 hv1 hc1 hm1 hA1 => ?_
 subst hv1
 refine c_seq fun _ hK6 => ?_
 refine c_seq fun _ hK7 => ?_
 refine c_region ?_
 refine l_val wn (r_move rfl) rfl ?_
 refine l_give (α := (Bool × Nat)) [Rb 64 p s k m, .pub ErrV] [Row (.slice A1 ms.length cp1) 74 3 matchE ms, .blk b5 [iV 2, iV 0, iV 0, .string word, .slice A1 ms.length cp1, Zs, Zs] 26, .blk b4 Zx 26] (fun z : Bool × Nat => .bool z.1) (fun z3 => (Pz.eat s ⟨#[125]⟩ k = z3 ∧ k ≤ z3.2 ∧ z3.2 ≤ s.size)) (fun z3 => [Rb 64 p s z3.2 m, .pub ErrV]) _ (fun _ => rfl) (fun _ h => h.sel [2, 3, 0, 1, 4] (by decide) rfl) (fun _ => rfl) wn rfl rfl Tryd.call50 rfl (fun w1 Pb hG => c_eat p s k m ⟨#[125]⟩ Pb w1 hG (by omega) (by omega)) fun z3 hz3 => ?_
 obtain ⟨bo1, j3⟩ := z3
 have he3 : Pz.eat s ⟨#[125]⟩ k = (bo1, j3) := hz3.1
 have hz3a : k ≤ j3 := hz3.2.1
 have hz3b : j3 ≤ s.size := hz3.2.2
 refine l_as 13 (.bool bo1) [Rb 64 p s j3 m, .pub ErrV, Row (.slice A1 ms.length cp1) 74 3 matchE ms, .blk b5 [iV 2, iV 0, iV 0, .string word, .slice A1 ms.length cp1, Zs, Zs] 26, .blk b4 Zx 26] ?_
 refine l_val wn (r_notb rfl) rfl ?_
 refine l_nil (e_go hK7 ?_)
 refine c_condb rfl (fun h1 => ?_) (fun h1 => ?_)
 · have g1 : bo1 = false := by simpa using h1
   have hx1 := Pz.win_more hI1.1 (by rw [he3, g1])
   refine c_skip (e_go hK6 ?_)
   refine c_block ?_
   refine c_seq fun _ hK8 => ?_
   refine c_seq fun _ hK9 => ?_
   refine c_region ?_
   refine l_val wn (r_fa rfl fld26_4) rfl ?_
   refine l_val wn (r_lb 3 rfl rfl rfl flat22) rfl ?_
   refine l_val wn (r_len rfl Tryd.underlying22) rfl ?_
   refine l_val wn (r_gtr rfl rfl) rfl ?_
   refine l_nil (e_go hK9 ?_)
   refine c_cond rfl (fun h2 => ?_) (fun h2 => ?_)
   · refine c_region ?_
     refine l_val wn (r_move rfl) rfl ?_
     refine l_giveX (α := Pz.St) (PT := 61) [Rb 64 p s j3 m, .pub ErrV] [Row (.slice A1 ms.length cp1) 74 3 matchE ms, .blk b5 [iV 2, iV 0, iV 0, .string word, .slice A1 ms.length cp1, Zs, Zs] 26, .blk b4 Zx 26] (fun z : Pz.St => .tuple #[]) (fun z4 => Pz.must s ⟨#[44]⟩ ⟨j3, m⟩ = .ok z4 ∧ Pz.Good s ⟨j3, m⟩ z4) (fun z4 => [Rb 64 p s z4.at_ z4.nd, .pub ErrV]) _ (fun f3 => Pz.must s ⟨#[44]⟩ ⟨j3, m⟩ = .no f3) (fun _ => rfl) (fun _ h => h.sel [0, 1, 2, 3, 4] (by decide) rfl) (fun _ => rfl) wn rfl rfl Tryd.call76 rfl (fun w1 Pb hG => c_must p s j3 m ⟨#[44]⟩ Pb w1 hG (by omega) (by omega) (by omega) ) ?_ fun z4 hz4 => ?_
     · intro f3 hf3
       refine e_then_p (e_in_p (e_loop5_p (e_in_p (e_then_p (e_body_p fun w1 hM => ?_)))))
       have hY := hx1.trans (by rw [Pz.win_sep' h2 hf3, Pz.then_no])
       exact hM.retPan f3 (by simp only [Pz.then_ok, Pz.then_no, Pz.St.go, if_true, if_false, Bool.false_eq_true, Bool.true_eq_false, not_true_eq_false, not_false_eq_true, ne_eq, and_true, true_and, and_false, false_and, and_self, not_and, Pz.window, ExprX.e, ExprX.es, he1, he2, he3, g1, hY])
     obtain ⟨j4, m3⟩ := z4
     have he4 : Pz.must s ⟨#[44]⟩ ⟨j3, m⟩ = .ok ⟨j4, m3⟩ := hz4.1
     have ga3 : j4 ≤ s.size := hz4.2.at_
     have gm3 : m ≤ m3 := hz4.2.mono
     have gn3 : m3 ≤ 100 := hz4.2.most (show m ≤ 100 by omega)
     refine l_as 20 (.tuple (List.toArray [])) [Rb 64 p s j4 m3, .pub ErrV, Row (.slice A1 ms.length cp1) 74 3 matchE ms, .blk b5 [iV 2, iV 0, iV 0, .string word, .slice A1 ms.length cp1, Zs, Zs] 26, .blk b4 Zx 26] ?_
     refine l_nil (e_go hK8 ?_)
     refine c_seq fun _ hK10 => ?_
     refine c_seq fun _ hK11 => ?_
     refine c_region ?_
     refine l_val wn (r_fa rfl fld26_4) rfl ?_
     refine l_val wn (r_lb 3 rfl rfl rfl flat22) rfl ?_
     refine l_val wn (r_len rfl Tryd.underlying22) rfl ?_
     refine l_val wn (r_eql rfl rfl) rfl ?_
     refine l_nil (e_go hK11 ?_)
     refine c_cond rfl (fun h3 => ?_) (fun h3 => ?_)
     · refine c_region ?_
       refine l_val wn (r_move rfl) rfl ?_
       refine l_giveX (α := Unit) (PT := 61) [Rb 64 p s j4 m3, .pub ErrV] [Row (.slice A1 ms.length cp1) 74 3 matchE ms, .blk b5 [iV 2, iV 0, iV 0, .string word, .slice A1 ms.length cp1, Zs, Zs] 26, .blk b4 Zx 26] (fun _ : Unit => .tuple #[]) (fun z5 => False) (fun z5 => [Rb 64 p s j4 m3, .pub ErrV]) (fun z5 => [Rb 64 p s j4 m3, .pub ErrV, Row (.slice A1 ms.length cp1) 74 3 matchE ms, .blk b5 [iV 2, iV 0, iV 0, .string word, .slice A1 ms.length cp1, Zs, Zs] 26, .blk b4 Zx 26]) (fun f4 => f4 = (5, (j4 : Int))) (fun _ => rfl) (fun _ h => h.sel [0, 1, 2, 3, 4] (by decide) rfl) (fun _ => rfl) wn rfl rfl Tryd.call32 rfl (fun w1 Pb hG => c_fail p s j4 m3 5 Pb w1 hG) ?_ fun z5 hz5 => ?_
       · intro f4 hf4
         refine e_then_p (e_in_p (e_loop5_p (e_in_p (e_then_p (e_body_p fun w1 hM => ?_)))))
         have hY := Pz.win_many hx1 (Pz.win_sep' h2 he4) h3
         exact hM.retPan f4 (by simp only [Pz.then_ok, Pz.then_no, Pz.St.go, if_true, if_false, Bool.false_eq_true, Bool.true_eq_false, not_true_eq_false, not_false_eq_true, ne_eq, and_true, true_and, and_false, false_and, and_self, not_and, Pz.window, ExprX.e, ExprX.es, he1, he2, he3, g1, he4, hY, hf4])
       exact hz5.elim
     refine c_skip (e_go hK10 ?_)
     refine c_nodes (Mem w ⟨fpOf [Rb 64 p s i n, .pub ErrV], Pb⟩ [.pub ErrV, .blk b4 Zx 26]) mix (fun _ h => h.drew) rfl ?_
     refine n_run (f := 6) [0, 2] rfl rfl (by kernel_rfl) (by kernel_rfl) (fun _ h => (h.sel [1, 4] (by decide) rfl)) fun KS hKS => ?_
     refine s_val wn (r_fa rfl fld26_4) rfl ?_
     refine s_val wn (r_move rfl) rfl ?_
     refine s_end hKS ?_
     refine n_step2 (f := 5) (i := 1) (j := 3) rfl (by kernel_rfl) ?_ ?_
     · refine n_oneX (i := 1) rfl fun KN hKN hPN => ?_
       refine l_val wn (r_lb 3 rfl rfl rfl flat22) rfl ?_
       refine l_nil (hKN _ _ (fun _ h => (h.sel [1, 4] (by decide) rfl)) ?_)
       refine n_step1 (f := 4) (i := 3) rfl (by kernel_rfl) ?_
       refine n_oneX (i := 3) rfl fun KN hKN hPN => ?_
       refine l_giveX (α := Match × Pz.St) (PT := 61) [Rb 64 p s j4 m3, .pub ErrV] [Row (.slice A1 ms.length cp1) 74 3 matchE ms, .blk b5 [iV 2, iV 0, iV 0, .string word, .slice A1 ms.length cp1, Zs, Zs] 26, .blk b4 Zx 26] (fun z : Match × Pz.St => .agg (matchE z.1).toArray) (fun z6 => Pz.match_ s ⟨j4, m3⟩ = .ok z6 ∧ Pz.Good s ⟨j4, m3⟩ z6.2) (fun z6 => [Rb 64 p s z6.2.at_ z6.2.nd, .pub ErrV]) _ (fun f5 => Pz.match_ s ⟨j4, m3⟩ = .no f5) (fun _ => rfl) (fun _ h => h.sel [0, 1, 2, 3, 4] (by decide) rfl) (fun _ => rfl) wn rfl rfl Tryd.call89 rfl (fun w1 Pb hG => c_pmatch p s j4 m3  Pb w1 hG (by omega) (by omega) (by omega) ) ?_ fun z6 hz6 => ?_
       · intro f5 hf5
         refine e_node_p hPN (e_in_p (e_loop5_p (e_in_p (e_then_p (e_body_p fun w1 hM => ?_)))))
         have hY := Pz.win_next hx1 (Pz.win_sep' h2 he4) h3 hf5
         rw [Pz.then_no] at hY
         exact hM.retPan f5 (by simp only [Pz.then_ok, Pz.then_no, Pz.St.go, if_true, if_false, Bool.false_eq_true, Bool.true_eq_false, not_true_eq_false, not_false_eq_true, ne_eq, and_true, true_and, and_false, false_and, and_self, not_and, Pz.window, ExprX.e, ExprX.es, he1, he2, he3, g1, he4, hY])
       obtain ⟨mt1, j5, m4⟩ := z6
       have he5 : Pz.match_ s ⟨j4, m3⟩ = .ok (mt1, ⟨j5, m4⟩) := hz6.1
       have ga4 : j5 ≤ s.size := hz6.2.at_
       have gm4 : m3 ≤ m4 := hz6.2.mono
       have gn4 : m4 ≤ 100 := hz6.2.most (show m3 ≤ 100 by omega)
       refine l_as 30 (.agg (List.toArray [iV mt1.kind, .string mt1.key, .string mt1.val])) [Rb 64 p s j5 m4, .pub ErrV, Row (.slice A1 ms.length cp1) 74 3 matchE ms, .blk b5 [iV 2, iV 0, iV 0, .string word, .slice A1 ms.length cp1, Zs, Zs] 26, .blk b4 Zx 26] ?_
       refine l_nil (hKN _ _ (fun _ h => (h.sel [1, 4] (by decide) rfl)) ?_)
       refine n_step1 (f := 3) (i := 4) rfl (by kernel_rfl) ?_
       refine n_oneX (i := 4) rfl fun KN hKN hPN => ?_
       refine l_bsL matchE ([mt1] : List Match) wn Tryd.underlying22 inf74 rfl rfl rfl rfl (by decide) (by decide) rfl fun b31 => ?_
       refine l_nil (hKN _ _ (fun _ h => (h.sel [2, 5] (by decide) rfl)) ?_)
       refine n_step1 (f := 2) (i := 5) rfl (by kernel_rfl) ?_
       refine n_oneX (i := 5) rfl fun KN hKN hPN => ?_
       refine l_app 3 ms ([mt1] : List Match) encMatch wn rfl rfl rfl (fun _ hM => (RowSl encMatch hM 0 rfl)) Tryd.underlying22 inf74 rfl rfl (by simp only [List.length_append, List.length_cons, List.length_nil]; omega) rfl fun A2 cp2 hc2 hm2 hA2 => ?_
       refine l_nil (hKN _ _ (fun _ h => (h.sel [2, 5] (by decide) rfl)) ?_)
       refine n_run (f := 1) [6] rfl rfl (by kernel_rfl) (by kernel_rfl) (fun _ h => (h.sel [2, 5] (by decide) rfl)) fun KS hKS => ?_
       refine s_val wn (r_fa rfl fld26_4) rfl ?_
       refine s_end hKS ?_
       refine n_step1 (f := 0) (i := 7) rfl (by kernel_rfl) ?_
       refine n_oneX (i := 7) rfl fun KN hKN hPN => ?_
       refine l_st1 4 wn rfl rfl rfl rfl inf22 rfl rfl ?_
       refine l_nil (hKN _ _ (fun _ h => (h.sel [2, 5] (by decide) rfl)) ?_)
       refine n_done (by kernel_rfl) (e_in_n (e_round5 (ms ++ ([mt1] : List Match)) j5 m4 (q - 1) (.slice A2 ((ms ++ ([mt1] : List Match)).length) cp2) (sc rfl (sc rfl (sc rfl sn))) (fun _ h => (h.sel [3, 4, 1, 2, 5] (by decide) rfl)) ?_ ?_))
       · have hY := Pz.win_next hx1 (Pz.win_sep' h2 he4) h3 he5
         rw [Pz.then_ok] at hY
         exact ⟨hY.trans (by rw [show q - 1 + 1 = q by omega]), by simp only [List.length_append, List.length_cons, List.length_nil]; omega, by omega, by omega, by omega⟩
       omega
     refine n_oneX (i := 3) rfl fun KN hKN hPN => ?_
     refine l_giveX (α := Match × Pz.St) (PT := 61) [Rb 64 p s j4 m3, .pub ErrV] [Row (.slice A1 ms.length cp1) 74 3 matchE ms, .blk b5 [iV 2, iV 0, iV 0, .string word, .slice A1 ms.length cp1, Zs, Zs] 26, .blk b4 Zx 26] (fun z : Match × Pz.St => .agg (matchE z.1).toArray) (fun z7 => Pz.match_ s ⟨j4, m3⟩ = .ok z7 ∧ Pz.Good s ⟨j4, m3⟩ z7.2) (fun z7 => [Rb 64 p s z7.2.at_ z7.2.nd, .pub ErrV]) _ (fun f6 => Pz.match_ s ⟨j4, m3⟩ = .no f6) (fun _ => rfl) (fun _ h => h.sel [0, 1, 2, 3, 4] (by decide) rfl) (fun _ => rfl) wn rfl rfl Tryd.call89 rfl (fun w1 Pb hG => c_pmatch p s j4 m3  Pb w1 hG (by omega) (by omega) (by omega) ) ?_ fun z7 hz7 => ?_
     · intro f6 hf6
       refine e_node_p hPN (e_in_p (e_loop5_p (e_in_p (e_then_p (e_body_p fun w1 hM => ?_)))))
       have hY := Pz.win_next hx1 (Pz.win_sep' h2 he4) h3 hf6
       rw [Pz.then_no] at hY
       exact hM.retPan f6 (by simp only [Pz.then_ok, Pz.then_no, Pz.St.go, if_true, if_false, Bool.false_eq_true, Bool.true_eq_false, not_true_eq_false, not_false_eq_true, ne_eq, and_true, true_and, and_false, false_and, and_self, not_and, Pz.window, ExprX.e, ExprX.es, he1, he2, he3, g1, he4, hY])
     obtain ⟨mt2, j6, m5⟩ := z7
     have he6 : Pz.match_ s ⟨j4, m3⟩ = .ok (mt2, ⟨j6, m5⟩) := hz7.1
     have ga5 : j6 ≤ s.size := hz7.2.at_
     have gm5 : m3 ≤ m5 := hz7.2.mono
     have gn5 : m5 ≤ 100 := hz7.2.most (show m3 ≤ 100 by omega)
     refine l_as 30 (.agg (List.toArray [iV mt2.kind, .string mt2.key, .string mt2.val])) [Rb 64 p s j6 m5, .pub ErrV, Row (.slice A1 ms.length cp1) 74 3 matchE ms, .blk b5 [iV 2, iV 0, iV 0, .string word, .slice A1 ms.length cp1, Zs, Zs] 26, .blk b4 Zx 26] ?_
     refine l_nil (hKN _ _ (fun _ h => (h.sel [1, 4] (by decide) rfl)) ?_)
     refine n_step2 (f := 4) (i := 1) (j := 4) rfl (by kernel_rfl) ?_ ?_
     · refine n_oneX (i := 1) rfl fun KN hKN hPN => ?_
       refine l_val wn (r_lb 3 rfl rfl rfl flat22) rfl ?_
       refine l_nil (hKN _ _ (fun _ h => (h.sel [1, 4] (by decide) rfl)) ?_)
       refine n_step1 (f := 3) (i := 4) rfl (by kernel_rfl) ?_
       refine n_oneX (i := 4) rfl fun KN hKN hPN => ?_
       refine l_bsL matchE ([mt2] : List Match) wn Tryd.underlying22 inf74 rfl rfl rfl rfl (by decide) (by decide) rfl fun b31 => ?_
       refine l_nil (hKN _ _ (fun _ h => (h.sel [2, 5] (by decide) rfl)) ?_)
       refine n_step1 (f := 2) (i := 5) rfl (by kernel_rfl) ?_
       refine n_oneX (i := 5) rfl fun KN hKN hPN => ?_
       refine l_app 3 ms ([mt2] : List Match) encMatch wn rfl rfl rfl (fun _ hM => (RowSl encMatch hM 0 rfl)) Tryd.underlying22 inf74 rfl rfl (by simp only [List.length_append, List.length_cons, List.length_nil]; omega) rfl fun A3 cp3 hc3 hm3 hA3 => ?_
       refine l_nil (hKN _ _ (fun _ h => (h.sel [2, 5] (by decide) rfl)) ?_)
       refine n_run (f := 1) [6] rfl rfl (by kernel_rfl) (by kernel_rfl) (fun _ h => (h.sel [2, 5] (by decide) rfl)) fun KS hKS => ?_
       refine s_val wn (r_fa rfl fld26_4) rfl ?_
       refine s_end hKS ?_
       refine n_step1 (f := 0) (i := 7) rfl (by kernel_rfl) ?_
       refine n_oneX (i := 7) rfl fun KN hKN hPN => ?_
       refine l_st1 4 wn rfl rfl rfl rfl inf22 rfl rfl ?_
       refine l_nil (hKN _ _ (fun _ h => (h.sel [2, 5] (by decide) rfl)) ?_)
       refine n_done (by kernel_rfl) (e_in_n (e_round5 (ms ++ ([mt2] : List Match)) j6 m5 (q - 1) (.slice A3 ((ms ++ ([mt2] : List Match)).length) cp3) (sc rfl (sc rfl (sc rfl sn))) (fun _ h => (h.sel [3, 4, 1, 2, 5] (by decide) rfl)) ?_ ?_))
       · have hY := Pz.win_next hx1 (Pz.win_sep' h2 he4) h3 he6
         rw [Pz.then_ok] at hY
         exact ⟨hY.trans (by rw [show q - 1 + 1 = q by omega]), by simp only [List.length_append, List.length_cons, List.length_nil]; omega, by omega, by omega, by omega⟩
       omega
     refine n_oneX (i := 4) rfl fun KN hKN hPN => ?_
     refine l_bsL matchE ([mt2] : List Match) wn Tryd.underlying22 inf74 rfl rfl rfl rfl (by decide) (by decide) rfl fun b31 => ?_
     refine l_nil (hKN _ _ (fun _ h => (h.sel [2, 5] (by decide) rfl)) ?_)
     refine n_step1 (f := 3) (i := 1) rfl (by kernel_rfl) ?_
     refine n_oneX (i := 1) rfl fun KN hKN hPN => ?_
     refine l_val wn (r_lb 4 rfl rfl rfl flat22) rfl ?_
     refine l_nil (hKN _ _ (fun _ h => (h.sel [2, 5] (by decide) rfl)) ?_)
     refine n_step1 (f := 2) (i := 5) rfl (by kernel_rfl) ?_
     refine n_oneX (i := 5) rfl fun KN hKN hPN => ?_
     refine l_app 3 ms ([mt2] : List Match) encMatch wn rfl rfl rfl (fun _ hM => (RowSl encMatch hM 0 rfl)) Tryd.underlying22 inf74 rfl rfl (by simp only [List.length_append, List.length_cons, List.length_nil]; omega) rfl fun A4 cp4 hc4 hm4 hA4 => ?_
     refine l_nil (hKN _ _ (fun _ h => (h.sel [2, 5] (by decide) rfl)) ?_)
     refine n_run (f := 1) [6] rfl rfl (by kernel_rfl) (by kernel_rfl) (fun _ h => (h.sel [2, 5] (by decide) rfl)) fun KS hKS => ?_
     refine s_val wn (r_fa rfl fld26_4) rfl ?_
     refine s_end hKS ?_
     refine n_step1 (f := 0) (i := 7) rfl (by kernel_rfl) ?_
     refine n_oneX (i := 7) rfl fun KN hKN hPN => ?_
     refine l_st1 4 wn rfl rfl rfl rfl inf22 rfl rfl ?_
     refine l_nil (hKN _ _ (fun _ h => (h.sel [2, 5] (by decide) rfl)) ?_)
     refine n_done (by kernel_rfl) (e_in_n (e_round5 (ms ++ ([mt2] : List Match)) j6 m5 (q - 1) (.slice A4 ((ms ++ ([mt2] : List Match)).length) cp4) (sc rfl (sc rfl (sc rfl sn))) (fun _ h => (h.sel [3, 4, 1, 2, 5] (by decide) rfl)) ?_ ?_))
     · have hY := Pz.win_next hx1 (Pz.win_sep' h2 he4) h3 he6
       rw [Pz.then_ok] at hY
       exact ⟨hY.trans (by rw [show q - 1 + 1 = q by omega]), by simp only [List.length_append, List.length_cons, List.length_nil]; omega, by omega, by omega, by omega⟩
     omega
   refine c_skip (e_go hK8 ?_)
   refine c_seq fun _ hK12 => ?_
   refine c_seq fun _ hK13 => ?_
   refine c_region ?_
   refine l_val wn (r_fa rfl fld26_4) rfl ?_
   refine l_val wn (r_lb 3 rfl rfl rfl flat22) rfl ?_
   refine l_val wn (r_len rfl Tryd.underlying22) rfl ?_
   refine l_val wn (r_eql rfl rfl) rfl ?_
   refine l_nil (e_go hK13 ?_)
   refine c_cond rfl (fun h4 => ?_) (fun h4 => ?_)
   · refine c_region ?_
     refine l_val wn (r_move rfl) rfl ?_
     refine l_giveX (α := Unit) (PT := 61) [Rb 64 p s j3 m, .pub ErrV] [Row (.slice A1 ms.length cp1) 74 3 matchE ms, .blk b5 [iV 2, iV 0, iV 0, .string word, .slice A1 ms.length cp1, Zs, Zs] 26, .blk b4 Zx 26] (fun _ : Unit => .tuple #[]) (fun z8 => False) (fun z8 => [Rb 64 p s j3 m, .pub ErrV]) (fun z8 => [Rb 64 p s j3 m, .pub ErrV, Row (.slice A1 ms.length cp1) 74 3 matchE ms, .blk b5 [iV 2, iV 0, iV 0, .string word, .slice A1 ms.length cp1, Zs, Zs] 26, .blk b4 Zx 26]) (fun f7 => f7 = (5, (j3 : Int))) (fun _ => rfl) (fun _ h => h.sel [0, 1, 2, 3, 4] (by decide) rfl) (fun _ => rfl) wn rfl rfl Tryd.call32 rfl (fun w1 Pb hG => c_fail p s j3 m 5 Pb w1 hG) ?_ fun z8 hz8 => ?_
     · intro f7 hf7
       refine e_then_p (e_in_p (e_loop5_p (e_in_p (e_then_p (e_body_p fun w1 hM => ?_)))))
       have hY := Pz.win_many hx1 (Pz.win_sep h2) h4
       exact hM.retPan f7 (by simp only [Pz.then_ok, Pz.then_no, Pz.St.go, if_true, if_false, Bool.false_eq_true, Bool.true_eq_false, not_true_eq_false, not_false_eq_true, ne_eq, and_true, true_and, and_false, false_and, and_self, not_and, Pz.window, ExprX.e, ExprX.es, he1, he2, he3, g1, hY, hf7])
     exact hz8.elim
   refine c_skip (e_go hK12 ?_)
   refine c_nodes (Mem w ⟨fpOf [Rb 64 p s i n, .pub ErrV], Pb⟩ [.pub ErrV, .blk b4 Zx 26]) mix (fun _ h => h.drew) rfl ?_
   refine n_run (f := 6) [0, 2] rfl rfl (by kernel_rfl) (by kernel_rfl) (fun _ h => (h.sel [1, 4] (by decide) rfl)) fun KS hKS => ?_
   refine s_val wn (r_fa rfl fld26_4) rfl ?_
   refine s_val wn (r_move rfl) rfl ?_
   refine s_end hKS ?_
   refine n_step2 (f := 5) (i := 1) (j := 3) rfl (by kernel_rfl) ?_ ?_
   · refine n_oneX (i := 1) rfl fun KN hKN hPN => ?_
     refine l_val wn (r_lb 3 rfl rfl rfl flat22) rfl ?_
     refine l_nil (hKN _ _ (fun _ h => (h.sel [1, 4] (by decide) rfl)) ?_)
     refine n_step1 (f := 4) (i := 3) rfl (by kernel_rfl) ?_
     refine n_oneX (i := 3) rfl fun KN hKN hPN => ?_
     refine l_giveX (α := Match × Pz.St) (PT := 61) [Rb 64 p s j3 m, .pub ErrV] [Row (.slice A1 ms.length cp1) 74 3 matchE ms, .blk b5 [iV 2, iV 0, iV 0, .string word, .slice A1 ms.length cp1, Zs, Zs] 26, .blk b4 Zx 26] (fun z : Match × Pz.St => .agg (matchE z.1).toArray) (fun z9 => Pz.match_ s ⟨j3, m⟩ = .ok z9 ∧ Pz.Good s ⟨j3, m⟩ z9.2) (fun z9 => [Rb 64 p s z9.2.at_ z9.2.nd, .pub ErrV]) _ (fun f8 => Pz.match_ s ⟨j3, m⟩ = .no f8) (fun _ => rfl) (fun _ h => h.sel [0, 1, 2, 3, 4] (by decide) rfl) (fun _ => rfl) wn rfl rfl Tryd.call89 rfl (fun w1 Pb hG => c_pmatch p s j3 m  Pb w1 hG (by omega) (by omega) (by omega) ) ?_ fun z9 hz9 => ?_
     · intro f8 hf8
       refine e_node_p hPN (e_in_p (e_loop5_p (e_in_p (e_then_p (e_body_p fun w1 hM => ?_)))))
       have hY := Pz.win_next hx1 (Pz.win_sep h2) h4 hf8
       rw [Pz.then_no] at hY
       exact hM.retPan f8 (by simp only [Pz.then_ok, Pz.then_no, Pz.St.go, if_true, if_false, Bool.false_eq_true, Bool.true_eq_false, not_true_eq_false, not_false_eq_true, ne_eq, and_true, true_and, and_false, false_and, and_self, not_and, Pz.window, ExprX.e, ExprX.es, he1, he2, he3, g1, hY])
     obtain ⟨mt3, j7, m6⟩ := z9
     have he7 : Pz.match_ s ⟨j3, m⟩ = .ok (mt3, ⟨j7, m6⟩) := hz9.1
     have ga6 : j7 ≤ s.size := hz9.2.at_
     have gm6 : m ≤ m6 := hz9.2.mono
     have gn6 : m6 ≤ 100 := hz9.2.most (show m ≤ 100 by omega)
     refine l_as 30 (.agg (List.toArray [iV mt3.kind, .string mt3.key, .string mt3.val])) [Rb 64 p s j7 m6, .pub ErrV, Row (.slice A1 ms.length cp1) 74 3 matchE ms, .blk b5 [iV 2, iV 0, iV 0, .string word, .slice A1 ms.length cp1, Zs, Zs] 26, .blk b4 Zx 26] ?_
     refine l_nil (hKN _ _ (fun _ h => (h.sel [1, 4] (by decide) rfl)) ?_)
     refine n_step1 (f := 3) (i := 4) rfl (by kernel_rfl) ?_
     refine n_oneX (i := 4) rfl fun KN hKN hPN => ?_
     refine l_bsL matchE ([mt3] : List Match) wn Tryd.underlying22 inf74 rfl rfl rfl rfl (by decide) (by decide) rfl fun b31 => ?_
     refine l_nil (hKN _ _ (fun _ h => (h.sel [2, 5] (by decide) rfl)) ?_)
     refine n_step1 (f := 2) (i := 5) rfl (by kernel_rfl) ?_
     refine n_oneX (i := 5) rfl fun KN hKN hPN => ?_
     refine l_app 3 ms ([mt3] : List Match) encMatch wn rfl rfl rfl (fun _ hM => (RowSl encMatch hM 0 rfl)) Tryd.underlying22 inf74 rfl rfl (by simp only [List.length_append, List.length_cons, List.length_nil]; omega) rfl fun A5 cp5 hc5 hm5 hA5 => ?_
     refine l_nil (hKN _ _ (fun _ h => (h.sel [2, 5] (by decide) rfl)) ?_)
     refine n_run (f := 1) [6] rfl rfl (by kernel_rfl) (by kernel_rfl) (fun _ h => (h.sel [2, 5] (by decide) rfl)) fun KS hKS => ?_
     refine s_val wn (r_fa rfl fld26_4) rfl ?_
     refine s_end hKS ?_
     refine n_step1 (f := 0) (i := 7) rfl (by kernel_rfl) ?_
     refine n_oneX (i := 7) rfl fun KN hKN hPN => ?_
     refine l_st1 4 wn rfl rfl rfl rfl inf22 rfl rfl ?_
     refine l_nil (hKN _ _ (fun _ h => (h.sel [2, 5] (by decide) rfl)) ?_)
     refine n_done (by kernel_rfl) (e_in_n (e_round5 (ms ++ ([mt3] : List Match)) j7 m6 (q - 1) (.slice A5 ((ms ++ ([mt3] : List Match)).length) cp5) (sc rfl (sc rfl (sc rfl sn))) (fun _ h => (h.sel [3, 4, 1, 2, 5] (by decide) rfl)) ?_ ?_))
     · have hY := Pz.win_next hx1 (Pz.win_sep h2) h4 he7
       rw [Pz.then_ok] at hY
       exact ⟨hY.trans (by rw [show q - 1 + 1 = q by omega]), by simp only [List.length_append, List.length_cons, List.length_nil]; omega, by omega, by omega, by omega⟩
     omega
   refine n_oneX (i := 3) rfl fun KN hKN hPN => ?_
   refine l_giveX (α := Match × Pz.St) (PT := 61) [Rb 64 p s j3 m, .pub ErrV] [Row (.slice A1 ms.length cp1) 74 3 matchE ms, .blk b5 [iV 2, iV 0, iV 0, .string word, .slice A1 ms.length cp1, Zs, Zs] 26, .blk b4 Zx 26] (fun z : Match × Pz.St => .agg (matchE z.1).toArray) (fun z10 => Pz.match_ s ⟨j3, m⟩ = .ok z10 ∧ Pz.Good s ⟨j3, m⟩ z10.2) (fun z10 => [Rb 64 p s z10.2.at_ z10.2.nd, .pub ErrV]) _ (fun f9 => Pz.match_ s ⟨j3, m⟩ = .no f9) (fun _ => rfl) (fun _ h => h.sel [0, 1, 2, 3, 4] (by decide) rfl) (fun _ => rfl) wn rfl rfl Tryd.call89 rfl (fun w1 Pb hG => c_pmatch p s j3 m  Pb w1 hG (by omega) (by omega) (by omega) ) ?_ fun z10 hz10 => ?_
   · intro f9 hf9
     refine e_node_p hPN (e_in_p (e_loop5_p (e_in_p (e_then_p (e_body_p fun w1 hM => ?_)))))
     have hY := Pz.win_next hx1 (Pz.win_sep h2) h4 hf9
     rw [Pz.then_no] at hY
     exact hM.retPan f9 (by simp only [Pz.then_ok, Pz.then_no, Pz.St.go, if_true, if_false, Bool.false_eq_true, Bool.true_eq_false, not_true_eq_false, not_false_eq_true, ne_eq, and_true, true_and, and_false, false_and, and_self, not_and, Pz.window, ExprX.e, ExprX.es, he1, he2, he3, g1, hY])
   obtain ⟨mt4, j8, m7⟩ := z10
   have he8 : Pz.match_ s ⟨j3, m⟩ = .ok (mt4, ⟨j8, m7⟩) := hz10.1
   have ga7 : j8 ≤ s.size := hz10.2.at_
   have gm7 : m ≤ m7 := hz10.2.mono
   have gn7 : m7 ≤ 100 := hz10.2.most (show m ≤ 100 by omega)
   refine l_as 30 (.agg (List.toArray [iV mt4.kind, .string mt4.key, .string mt4.val])) [Rb 64 p s j8 m7, .pub ErrV, Row (.slice A1 ms.length cp1) 74 3 matchE ms, .blk b5 [iV 2, iV 0, iV 0, .string word, .slice A1 ms.length cp1, Zs, Zs] 26, .blk b4 Zx 26] ?_
   refine l_nil (hKN _ _ (fun _ h => (h.sel [1, 4] (by decide) rfl)) ?_)
   refine n_step2 (f := 4) (i := 1) (j := 4) rfl (by kernel_rfl) ?_ ?_
   · refine n_oneX (i := 1) rfl fun KN hKN hPN => ?_
     refine l_val wn (r_lb 3 rfl rfl rfl flat22) rfl ?_
     refine l_nil (hKN _ _ (fun _ h => (h.sel [1, 4] (by decide) rfl)) ?_)
     refine n_step1 (f := 3) (i := 4) rfl (by kernel_rfl) ?_
     refine n_oneX (i := 4) rfl fun KN hKN hPN => ?_
     refine l_bsL matchE ([mt4] : List Match) wn Tryd.underlying22 inf74 rfl rfl rfl rfl (by decide) (by decide) rfl fun b31 => ?_
     refine l_nil (hKN _ _ (fun _ h => (h.sel [2, 5] (by decide) rfl)) ?_)
     refine n_step1 (f := 2) (i := 5) rfl (by kernel_rfl) ?_
     refine n_oneX (i := 5) rfl fun KN hKN hPN => ?_
     refine l_app 3 ms ([mt4] : List Match) encMatch wn rfl rfl rfl (fun _ hM => (RowSl encMatch hM 0 rfl)) Tryd.underlying22 inf74 rfl rfl (by simp only [List.length_append, List.length_cons, List.length_nil]; omega) rfl fun A6 cp6 hc6 hm6 hA6 => ?_
     refine l_nil (hKN _ _ (fun _ h => (h.sel [2, 5] (by decide) rfl)) ?_)
     refine n_run (f := 1) [6] rfl rfl (by kernel_rfl) (by kernel_rfl) (fun _ h => (h.sel [2, 5] (by decide) rfl)) fun KS hKS => ?_
     refine s_val wn (r_fa rfl fld26_4) rfl ?_
     refine s_end hKS ?_
     refine n_step1 (f := 0) (i := 7) rfl (by kernel_rfl) ?_
     refine n_oneX (i := 7) rfl fun KN hKN hPN => ?_
     refine l_st1 4 wn rfl rfl rfl rfl inf22 rfl rfl ?_
     refine l_nil (hKN _ _ (fun _ h => (h.sel [2, 5] (by decide) rfl)) ?_)
     refine n_done (by kernel_rfl) (e_in_n (e_round5 (ms ++ ([mt4] : List Match)) j8 m7 (q - 1) (.slice A6 ((ms ++ ([mt4] : List Match)).length) cp6) (sc rfl (sc rfl (sc rfl sn))) (fun _ h => (h.sel [3, 4, 1, 2, 5] (by decide) rfl)) ?_ ?_))
     · have hY := Pz.win_next hx1 (Pz.win_sep h2) h4 he8
       rw [Pz.then_ok] at hY
       exact ⟨hY.trans (by rw [show q - 1 + 1 = q by omega]), by simp only [List.length_append, List.length_cons, List.length_nil]; omega, by omega, by omega, by omega⟩
     omega
   refine n_oneX (i := 4) rfl fun KN hKN hPN => ?_
   refine l_bsL matchE ([mt4] : List Match) wn Tryd.underlying22 inf74 rfl rfl rfl rfl (by decide) (by decide) rfl fun b31 => ?_
   refine l_nil (hKN _ _ (fun _ h => (h.sel [2, 5] (by decide) rfl)) ?_)
   refine n_step1 (f := 3) (i := 1) rfl (by kernel_rfl) ?_
   refine n_oneX (i := 1) rfl fun KN hKN hPN => ?_
   refine l_val wn (r_lb 4 rfl rfl rfl flat22) rfl ?_
   refine l_nil (hKN _ _ (fun _ h => (h.sel [2, 5] (by decide) rfl)) ?_)
   refine n_step1 (f := 2) (i := 5) rfl (by kernel_rfl) ?_
   refine n_oneX (i := 5) rfl fun KN hKN hPN => ?_
   refine l_app 3 ms ([mt4] : List Match) encMatch wn rfl rfl rfl (fun _ hM => (RowSl encMatch hM 0 rfl)) Tryd.underlying22 inf74 rfl rfl (by simp only [List.length_append, List.length_cons, List.length_nil]; omega) rfl fun A7 cp7 hc7 hm7 hA7 => ?_
   refine l_nil (hKN _ _ (fun _ h => (h.sel [2, 5] (by decide) rfl)) ?_)
   refine n_run (f := 1) [6] rfl rfl (by kernel_rfl) (by kernel_rfl) (fun _ h => (h.sel [2, 5] (by decide) rfl)) fun KS hKS => ?_
   refine s_val wn (r_fa rfl fld26_4) rfl ?_
   refine s_end hKS ?_
   refine n_step1 (f := 0) (i := 7) rfl (by kernel_rfl) ?_
   refine n_oneX (i := 7) rfl fun KN hKN hPN => ?_
   refine l_st1 4 wn rfl rfl rfl rfl inf22 rfl rfl ?_
   refine l_nil (hKN _ _ (fun _ h => (h.sel [2, 5] (by decide) rfl)) ?_)
   refine n_done (by kernel_rfl) (e_in_n (e_round5 (ms ++ ([mt4] : List Match)) j8 m7 (q - 1) (.slice A7 ((ms ++ ([mt4] : List Match)).length) cp7) (sc rfl (sc rfl (sc rfl sn))) (fun _ h => (h.sel [3, 4, 1, 2, 5] (by decide) rfl)) ?_ ?_))
   · have hY := Pz.win_next hx1 (Pz.win_sep h2) h4 he8
     rw [Pz.then_ok] at hY
     exact ⟨hY.trans (by rw [show q - 1 + 1 = q by omega]), by simp only [List.length_append, List.length_cons, List.length_nil]; omega, by omega, by omega, by omega⟩
   omega
 have g2 : bo1 = true := by simpa using h1
 have hx2 := Pz.win_done hI1.1 (by rw [he3, g2])
 refine c_exit (e_then_x (e_loop5_x (e_in_hit (e_go hK5 ?_))))
 refine c_seq fun _ hK14 => ?_
 refine c_region ?_
 refine l_val wn (r_move rfl) rfl ?_
 refine l_giveX (α := Pz.St) (PT := 61) [Rb 64 p s j3 m, .pub ErrV] [Row (.slice A1 ms.length cp1) 74 3 matchE ms, .blk b5 [iV 2, iV 0, iV 0, .string word, .slice A1 ms.length cp1, Zs, Zs] 26, .blk b4 Zx 26] (fun z : Pz.St => .tuple #[]) (fun z11 => Pz.must s ⟨#[91]⟩ ⟨j3, m⟩ = .ok z11 ∧ Pz.Good s ⟨j3, m⟩ z11) (fun z11 => [Rb 64 p s z11.at_ z11.nd, .pub ErrV]) _ (fun f10 => Pz.must s ⟨#[91]⟩ ⟨j3, m⟩ = .no f10) (fun _ => rfl) (fun _ h => h.sel [0, 1, 2, 3, 4] (by decide) rfl) (fun _ => rfl) wn rfl rfl Tryd.call76 rfl (fun w1 Pb hG => c_must p s j3 m ⟨#[91]⟩ Pb w1 hG (by omega) (by omega) (by omega) ) ?_ fun z11 hz11 => ?_
 · intro f10 hf10
   refine e_then_p (e_body_p fun w1 hM => ?_)
   exact hM.retPan f10 (by first | (simp only [Pz.then_ok, Pz.then_no, Pz.St.go, if_true, if_false, Bool.false_eq_true, Bool.true_eq_false, not_true_eq_false, not_false_eq_true, ne_eq, and_true, true_and, and_false, false_and, and_self, not_and, Pz.window, ExprX.e, ExprX.es, he1, he2, he3, g2, hx2, h1, hf10]; done) | simp [Pz.then_ok, Pz.then_no, Pz.St.go, if_true, if_false, Bool.false_eq_true, Bool.true_eq_false, not_true_eq_false, not_false_eq_true, ne_eq, and_true, true_and, and_false, false_and, and_self, not_and, Pz.window, ExprX.e, ExprX.es, he1, he2, he3, g2, hx2, h1, hf10])
 obtain ⟨j9, m8⟩ := z11
 have he9 : Pz.must s ⟨#[91]⟩ ⟨j3, m⟩ = .ok ⟨j9, m8⟩ := hz11.1
 have ga8 : j9 ≤ s.size := hz11.2.at_
 have gm8 : m ≤ m8 := hz11.2.mono
 have gn8 : m8 ≤ 100 := hz11.2.most (show m ≤ 100 by omega)
 refine l_as 35 (.tuple (List.toArray [])) [Rb 64 p s j9 m8, .pub ErrV, Row (.slice A1 ms.length cp1) 74 3 matchE ms, .blk b5 [iV 2, iV 0, iV 0, .string word, .slice A1 ms.length cp1, Zs, Zs] 26, .blk b4 Zx 26] ?_
 refine l_nil (e_go hK14 ?_)
 refine c_seq fun _ hK15 => ?_
 refine c_region ?_
 refine l_val wn (r_move rfl) rfl ?_
 refine l_giveX (α := Int × Pz.St) (PT := 61) [Rb 64 p s j9 m8, .pub ErrV] [Row (.slice A1 ms.length cp1) 74 3 matchE ms, .blk b5 [iV 2, iV 0, iV 0, .string word, .slice A1 ms.length cp1, Zs, Zs] 26, .blk b4 Zx 26] (fun z : Int × Pz.St => iV z.1) (fun z12 => Pz.num s 1 100000 ⟨j9, m8⟩ = .ok z12 ∧ Pz.Good s ⟨j9, m8⟩ z12.2) (fun z12 => [Rb 64 p s z12.2.at_ z12.2.nd, .pub ErrV]) _ (fun f11 => Pz.num s 1 100000 ⟨j9, m8⟩ = .no f11) (fun _ => rfl) (fun _ h => h.sel [0, 1, 2, 3, 4] (by decide) rfl) (fun _ => rfl) wn rfl rfl Tryd.call79 rfl (fun w1 Pb hG => c_num p s j9 m8 1 100000 Pb w1 hG (by omega) (by omega) (by omega) (by omega)) ?_ fun z12 hz12 => ?_
 · intro f11 hf11
   refine e_then_p (e_body_p fun w1 hM => ?_)
   exact hM.retPan f11 (by first | (simp only [Pz.then_ok, Pz.then_no, Pz.St.go, if_true, if_false, Bool.false_eq_true, Bool.true_eq_false, not_true_eq_false, not_false_eq_true, ne_eq, and_true, true_and, and_false, false_and, and_self, not_and, Pz.window, ExprX.e, ExprX.es, he1, he2, he3, g2, hx2, he9, h1, hf11]; done) | simp [Pz.then_ok, Pz.then_no, Pz.St.go, if_true, if_false, Bool.false_eq_true, Bool.true_eq_false, not_true_eq_false, not_false_eq_true, ne_eq, and_true, true_and, and_false, false_and, and_self, not_and, Pz.window, ExprX.e, ExprX.es, he1, he2, he3, g2, hx2, he9, h1, hf11])
 obtain ⟨v1, j10, m9⟩ := z12
 have he10 : Pz.num s 1 100000 ⟨j9, m8⟩ = .ok (v1, ⟨j10, m9⟩) := hz12.1
 have ga9 : j10 ≤ s.size := hz12.2.at_
 have gm9 : m8 ≤ m9 := hz12.2.mono
 have gn9 : m9 ≤ 100 := hz12.2.most (show m8 ≤ 100 by omega)
 refine l_as 37 (iV v1) [Rb 64 p s j10 m9, .pub ErrV, Row (.slice A1 ms.length cp1) 74 3 matchE ms, .blk b5 [iV 2, iV 0, iV 0, .string word, .slice A1 ms.length cp1, Zs, Zs] 26, .blk b4 Zx 26] ?_
 refine l_val wn (r_fa rfl fld26_2) rfl ?_
 refine l_st1 3 wn rfl rfl rfl rfl inf3 rfl rfl ?_
 refine l_nil (e_go hK15 ?_)
 refine c_seq fun _ hK16 => ?_
 refine c_region ?_
 refine l_val wn (r_move rfl) rfl ?_
 refine l_giveX (α := Pz.St) (PT := 61) [Rb 64 p s j10 m9, .pub ErrV] [Row (.slice A1 ms.length cp1) 74 3 matchE ms, .blk b5 [iV 2, iV 0, iV v1, .string word, .slice A1 ms.length cp1, Zs, Zs] 26, .blk b4 Zx 26] (fun z : Pz.St => .tuple #[]) (fun z13 => Pz.must s ⟨#[93]⟩ ⟨j10, m9⟩ = .ok z13 ∧ Pz.Good s ⟨j10, m9⟩ z13) (fun z13 => [Rb 64 p s z13.at_ z13.nd, .pub ErrV]) _ (fun f12 => Pz.must s ⟨#[93]⟩ ⟨j10, m9⟩ = .no f12) (fun _ => rfl) (fun _ h => h.sel [0, 1, 2, 3, 4] (by decide) rfl) (fun _ => rfl) wn rfl rfl Tryd.call76 rfl (fun w1 Pb hG => c_must p s j10 m9 ⟨#[93]⟩ Pb w1 hG (by omega) (by omega) (by omega) ) ?_ fun z13 hz13 => ?_
 · intro f12 hf12
   refine e_then_p (e_body_p fun w1 hM => ?_)
   exact hM.retPan f12 (by first | (simp only [Pz.then_ok, Pz.then_no, Pz.St.go, if_true, if_false, Bool.false_eq_true, Bool.true_eq_false, not_true_eq_false, not_false_eq_true, ne_eq, and_true, true_and, and_false, false_and, and_self, not_and, Pz.window, ExprX.e, ExprX.es, he1, he2, he3, g2, hx2, he9, he10, h1, hf12]; done) | simp [Pz.then_ok, Pz.then_no, Pz.St.go, if_true, if_false, Bool.false_eq_true, Bool.true_eq_false, not_true_eq_false, not_false_eq_true, ne_eq, and_true, true_and, and_false, false_and, and_self, not_and, Pz.window, ExprX.e, ExprX.es, he1, he2, he3, g2, hx2, he9, he10, h1, hf12])
 obtain ⟨j11, m10⟩ := z13
 have he11 : Pz.must s ⟨#[93]⟩ ⟨j10, m9⟩ = .ok ⟨j11, m10⟩ := hz13.1
 have ga10 : j11 ≤ s.size := hz13.2.at_
 have gm10 : m9 ≤ m10 := hz13.2.mono
 have gn10 : m10 ≤ 100 := hz13.2.most (show m9 ≤ 100 by omega)
 refine l_as 40 (.tuple (List.toArray [])) [Rb 64 p s j11 m10, .pub ErrV, Row (.slice A1 ms.length cp1) 74 3 matchE ms, .blk b5 [iV 2, iV 0, iV v1, .string word, .slice A1 ms.length cp1, Zs, Zs] 26, .blk b4 Zx 26] ?_
 refine l_nil (e_go hK16 ?_)
 refine c_seq fun _ hK17 => ?_
 refine c_region ?_
 refine l_val wn (r_move rfl) rfl ?_
 refine l_giveX (α := Pz.St) (PT := 61) [Rb 64 p s j11 m10, .pub ErrV] [Row (.slice A1 ms.length cp1) 74 3 matchE ms, .blk b5 [iV 2, iV 0, iV v1, .string word, .slice A1 ms.length cp1, Zs, Zs] 26, .blk b4 Zx 26] (fun z : Pz.St => .tuple #[]) (fun z14 => Pz.must s ⟨#[41]⟩ ⟨j11, m10⟩ = .ok z14 ∧ Pz.Good s ⟨j11, m10⟩ z14) (fun z14 => [Rb 64 p s z14.at_ z14.nd, .pub ErrV]) _ (fun f13 => Pz.must s ⟨#[41]⟩ ⟨j11, m10⟩ = .no f13) (fun _ => rfl) (fun _ h => h.sel [0, 1, 2, 3, 4] (by decide) rfl) (fun _ => rfl) wn rfl rfl Tryd.call76 rfl (fun w1 Pb hG => c_must p s j11 m10 ⟨#[41]⟩ Pb w1 hG (by omega) (by omega) (by omega) ) ?_ fun z14 hz14 => ?_
 · intro f13 hf13
   refine e_then_p (e_body_p fun w1 hM => ?_)
   exact hM.retPan f13 (by first | (simp only [Pz.then_ok, Pz.then_no, Pz.St.go, if_true, if_false, Bool.false_eq_true, Bool.true_eq_false, not_true_eq_false, not_false_eq_true, ne_eq, and_true, true_and, and_false, false_and, and_self, not_and, Pz.window, ExprX.e, ExprX.es, he1, he2, he3, g2, hx2, he9, he10, he11, h1, hf13]; done) | simp [Pz.then_ok, Pz.then_no, Pz.St.go, if_true, if_false, Bool.false_eq_true, Bool.true_eq_false, not_true_eq_false, not_false_eq_true, ne_eq, and_true, true_and, and_false, false_and, and_self, not_and, Pz.window, ExprX.e, ExprX.es, he1, he2, he3, g2, hx2, he9, he10, he11, h1, hf13])
 obtain ⟨j12, m11⟩ := z14
 have he12 : Pz.must s ⟨#[41]⟩ ⟨j11, m10⟩ = .ok ⟨j12, m11⟩ := hz14.1
 have ga11 : j12 ≤ s.size := hz14.2.at_
 have gm11 : m10 ≤ m11 := hz14.2.mono
 have gn11 : m11 ≤ 100 := hz14.2.most (show m10 ≤ 100 by omega)
 refine l_as 42 (.tuple (List.toArray [])) [Rb 64 p s j12 m11, .pub ErrV, Row (.slice A1 ms.length cp1) 74 3 matchE ms, .blk b5 [iV 2, iV 0, iV v1, .string word, .slice A1 ms.length cp1, Zs, Zs] 26, .blk b4 Zx 26] ?_
 refine l_nil (e_go hK17 ?_)
 refine c_seq fun _ hK18 => ?_
 refine c_region ?_
 refine l_val wn (r_move rfl) rfl ?_
 refine l_val wn (r_lbn 3 [iV 2, iV 0, iV v1, .string word, .slice A1 ms.length cp1, Zs, Zs] rfl rfl rfl rfl agg26 inf26) rfl ?_
 refine l_sealX 2 0 encMatch rfl rfl (fp2) ?_
 refine l_mem (fun _ h => h.exprG (k := 2) (n := 0) (r := v1) (wd := word) (ms := ⟨A1, cp1, ms⟩) (bs := ⟨none, 0, []⟩) (ks := ⟨none, 0, []⟩) (fun _ pp => pp.sl 2 rfl) (fun _ _ => FlatSl.nil_ _ _ _ _) (fun _ _ => FlatSl.nil_ _ _ _ _) (fun _ _ x hx => by cases hx) (by first | decide | omega) (fun x hx => by have := Pz.winL_size 6 (by show _ ≤ s.size; omega) hx2 (fun _ h => by cases h) x hx; omega) (fun x hx => by cases hx)) ?_
 refine l_giveX (α := Unit) (PT := 61) [Rb 64 p s j12 m11, .pub ErrV] [okP ExprX.Ok (ExprX.mk 2 0 v1 word ⟨A1, cp1, ms⟩ ⟨none, 0, []⟩ ⟨none, 0, []⟩), slP 3 matchE (.slice A1 ms.length cp1) ms, .blk b5 [iV 2, iV 0, iV v1, .string word, .slice A1 ms.length cp1, Zs, Zs] 26, .blk b4 Zx 26] (fun _ : Unit => .agg (List.toArray [iV 2, iV 0, iV v1, .string word, .slice A1 ms.length cp1, Zs, Zs])) (fun z15 => m11 + 1 ≤ 100) (fun z15 => [Rb 64 p s j12 (m11 + 1), .pub ErrV]) (fun z15 => [Rb 64 p s j12 (m11 + 1), .pub ErrV, okP ExprX.Ok (ExprX.mk 2 0 v1 word ⟨A1, cp1, ms⟩ ⟨none, 0, []⟩ ⟨none, 0, []⟩), slP 3 matchE (.slice A1 ms.length cp1) ms, .blk b5 [iV 2, iV 0, iV v1, .string word, .slice A1 ms.length cp1, Zs, Zs] 26, .blk b4 Zx 26]) (fun f14 => Pz.node ⟨j12, m11⟩ = .no f14) (fun _ => rfl) (fun _ h => h.sel [1, 2, 0, 3, 4, 5] (by decide) rfl) (fun _ => rfl) wn rfl rfl Tryd.call51 rfl (fun w1 Pb hG => c_node p s j12 m11 2 0 v1 word A1 ms.length cp1 none 0 0 none 0 0 Pb w1 hG (by omega) (by omega) (by omega)) ?_ fun z15 hz15 => ?_
 · intro f14 hf14
   refine e_then_p (e_body_p fun w1 hM => ?_)
   exact hM.retPan f14 (by first | (simp only [Pz.then_ok, Pz.then_no, Pz.St.go, if_true, if_false, Bool.false_eq_true, Bool.true_eq_false, not_true_eq_false, not_false_eq_true, ne_eq, and_true, true_and, and_false, false_and, and_self, not_and, Pz.window, ExprX.e, ExprX.es, he1, he2, he3, g2, hx2, he9, he10, he11, he12, h1, hf14]; done) | simp [Pz.then_ok, Pz.then_no, Pz.St.go, if_true, if_false, Bool.false_eq_true, Bool.true_eq_false, not_true_eq_false, not_false_eq_true, ne_eq, and_true, true_and, and_false, false_and, and_self, not_and, Pz.window, ExprX.e, ExprX.es, he1, he2, he3, g2, hx2, he9, he10, he11, he12, h1, hf14])
 have he13 : Pz.node ⟨j12, m11⟩ = .ok ⟨j12, m11 + 1⟩ := Pz.node_yes hz15
 refine l_stn 5 wn rfl rfl rfl inf26 rfl rfl rfl ?_
 refine l_nil (e_go hK18 ?_)
 refine c_ret (e_ret1 (.inl rfl) Tryd.results80 (rv_cell 5 rfl rfl agg26 inf26 rfl) fun w1 hM => ?_)
 have h9 : Pz.window s word ⟨i, n⟩ = .ok ((ExprX.mk 2 0 v1 word ⟨A1, cp1, ms⟩ ⟨none, 0, []⟩ ⟨none, 0, []⟩).e, ⟨j12, (m11 + 1)⟩) := by first | (simp only [Pz.then_ok, Pz.then_no, Pz.St.go, if_true, if_false, Bool.false_eq_true, Bool.true_eq_false, not_true_eq_false, not_false_eq_true, ne_eq, and_true, true_and, and_false, false_and, and_self, not_and, Pz.window, ExprX.e, ExprX.es, he1, he2, he3, g2, hx2, he9, he10, he11, he12, he13, h1]; done) | simp [Pz.then_ok, Pz.then_no, Pz.St.go, if_true, if_false, Bool.false_eq_true, Bool.true_eq_false, not_true_eq_false, not_false_eq_true, ne_eq, and_true, true_and, and_false, false_and, and_self, not_and, Pz.window, ExprX.e, ExprX.es, he1, he2, he3, g2, hx2, he9, he10, he11, he12, he13, h1]
 exact hM.retX (((ExprX.mk 2 0 v1 word ⟨A1, cp1, ms⟩ ⟨none, 0, []⟩ ⟨none, 0, []⟩), ⟨j12, (m11 + 1)⟩) : ExprX × Pz.St) rfl ⟨h9, (Pz.window_fine _ hi).ok_ h9⟩ (fun h => h.sel [0, 1, 2] (by decide) rfl)

def FacC (N : Nat) : Prop := ∀ (p : Nat) (s : ByteArray) (i : Nat) (n d : Int) (Pb : Nat → Prop) (w : World) (hG : Mem w ⟨fpOf [Rb 64 p s i n, .pub ErrV], Pb⟩ [Rb 64 p s i n, .pub ErrV] w) (hi : i ≤ s.size) (hs : s.size ≤ 2000) (hn : 0 ≤ n ∧ n ≤ 100) (hd : d + (N : Int) = 21) (hd1 : 1 ≤ d),
    Calls Tryd.prog 63 #[.pointer (some ⟨p, 0, none⟩), iV d] w (RetX w [Rb 64 p s i n, .pub ErrV] Pb 61 (fun z : ExprX × Pz.St => .agg (exprE z.1).toArray) (fun z => Pz.fac s N ⟨i, n⟩ = .ok (z.1.e, z.2) ∧ Pz.Good s ⟨i, n⟩ z.2) (fun z => [Rb 64 p s z.2.at_ z.2.nd, .pub ErrV, okP ExprX.Ok z.1]) (fun f => Pz.fac s N ⟨i, n⟩ = .no f))
def TrmC (N : Nat) : Prop := ∀ (p : Nat) (s : ByteArray) (i : Nat) (n d : Int) (Pb : Nat → Prop) (w : World) (hG : Mem w ⟨fpOf [Rb 64 p s i n, .pub ErrV], Pb⟩ [Rb 64 p s i n, .pub ErrV] w) (hi : i ≤ s.size) (hs : s.size ≤ 2000) (hn : 0 ≤ n ∧ n ≤ 100) (hd : d + (N : Int) = 21) (hd1 : 1 ≤ d),
    Calls Tryd.prog 49 #[.pointer (some ⟨p, 0, none⟩), iV d] w (RetX w [Rb 64 p s i n, .pub ErrV] Pb 61 (fun z : ExprX × Pz.St => .agg (exprE z.1).toArray) (fun z => Pz.trm s N ⟨i, n⟩ = .ok (z.1.e, z.2) ∧ Pz.Good s ⟨i, n⟩ z.2) (fun z => [Rb 64 p s z.2.at_ z.2.nd, .pub ErrV, okP ExprX.Ok z.1]) (fun f => Pz.trm s N ⟨i, n⟩ = .no f))
def XprC (N : Nat) : Prop := ∀ (p : Nat) (s : ByteArray) (i : Nat) (n d : Int) (Pb : Nat → Prop) (w : World) (hG : Mem w ⟨fpOf [Rb 64 p s i n, .pub ErrV], Pb⟩ [Rb 64 p s i n, .pub ErrV] w) (hi : i ≤ s.size) (hs : s.size ≤ 2000) (hn : 0 ≤ n ∧ n ≤ 100) (hd : d + (N : Int) = 21) (hd1 : 1 ≤ d),
    Calls Tryd.prog 30 #[.pointer (some ⟨p, 0, none⟩), iV d] w (RetX w [Rb 64 p s i n, .pub ErrV] Pb 61 (fun z : ExprX × Pz.St => .agg (exprE z.1).toArray) (fun z => Pz.xpr s N ⟨i, n⟩ = .ok (z.1.e, z.2) ∧ Pz.Good s ⟨i, n⟩ z.2) (fun z => [Rb 64 p s z.2.at_ z.2.nd, .pub ErrV, okP ExprX.Ok z.1]) (fun f => Pz.xpr s N ⟨i, n⟩ = .no f))

set_option maxHeartbeats 20000000 in
theorem c_all (p : Nat) (s : ByteArray) (i : Nat) (n : Int) (d : Int) (N : Nat) (Pb : Nat → Prop) (w : World) (hG : Mem w ⟨fpOf [Rb 64 p s i n, .pub ErrV], Pb⟩ [Rb 64 p s i n, .pub ErrV] w) (hi : i ≤ s.size) (hs : s.size ≤ 2000) (hn : 0 ≤ n ∧ n ≤ 100) (hd : d + 1 + (N : Int) = 21) (hd1 : 1 ≤ d) (ih : XprC N) :
    Calls Tryd.prog 78 #[.pointer (some ⟨p, 0, none⟩), iV d] w (RetX w [Rb 64 p s i n, .pub ErrV] Pb 61 (fun z : ExprX × Pz.St => .agg (exprE z.1).toArray) (fun z => Pz.all s (Pz.xpr s N) ⟨i, n⟩ = .ok (z.1.e, z.2) ∧ Pz.Good s ⟨i, n⟩ z.2) (fun z => [Rb 64 p s z.2.at_ z.2.nd, .pub ErrV, okP ExprX.Ok z.1]) (fun f => Pz.all s (Pz.xpr s N) ⟨i, n⟩ = .no f)) := by
 refine fstart (N := 85) (vals := [.pointer (some ⟨p, 0, none⟩), iV d]) (S := Mem w ⟨fpOf [Rb 64 p s i n, .pub ErrV], Pb⟩ [Rb 64 p s i n, .pub ErrV]) Tryd.func78 rfl rfl rfl hG ?_
 refine c_seq fun _ hK1 => ?_
 refine c_region ?_
 refine l_alloc wn inf26 rfl fun b4 => ?_
 refine l_nil (e_go hK1 ?_)
 refine c_seq fun _ hK2 => ?_
 refine c_region ?_
 refine l_val wn (r_move rfl) rfl ?_
 refine l_give (α := Nat) [Rb 64 p s i n, .pub ErrV] [.blk b4 Zx 26] (fun _ => .tuple #[]) (fun j1 => (Pz.blank s i = j1 ∧ i ≤ j1 ∧ j1 ≤ s.size)) (fun j1 => [Rb 64 p s j1 n, .pub ErrV]) (fun j1 => [Rb 64 p s j1 n, .pub ErrV, .blk b4 Zx 26]) (fun _ => rfl) (fun _ h => h.sel [1, 2, 0] (by decide) rfl) (fun _ => rfl) wn rfl rfl Tryd.call31 rfl (fun w1 Pb hG => c_blank p s i n Pb w1 hG (by omega) (by omega)) fun j1 hz1 => ?_
 obtain ⟨hz1e, hz1a, hz1b⟩ := hz1
 refine l_nil (e_go hK2 ?_)
 refine c_seq fun _ hK3 => ?_
 refine c_region ?_
 refine l_val wn (r_move rfl) rfl ?_
 refine l_val wn (r_nilCheck rfl) rfl ?_
 refine l_val wn (r_fa rfl fld64_1) rfl ?_
 refine l_val wn (r_lb 0 rfl rfl rfl flat3) rfl ?_
 refine l_val wn (r_assign rfl) rfl ?_
 refine l_nil (e_go hK3 ?_)
 refine c_seq fun _ hK4 => ?_
 refine c_region ?_
 refine l_val wn (r_move rfl) rfl ?_
 refine l_giveX (α := ByteArray × Pz.St) (PT := 61) [Rb 64 p s j1 n, .pub ErrV] [.blk b4 Zx 26] (fun z : ByteArray × Pz.St => .string z.1) (fun z1 => Pz.name s ⟨j1, n⟩ = .ok z1 ∧ Pz.Good s ⟨j1, n⟩ z1.2) (fun z1 => [Rb 64 p s z1.2.at_ z1.2.nd, .pub ErrV]) _ (fun f1 => Pz.name s ⟨j1, n⟩ = .no f1) (fun _ => rfl) (fun _ h => h.sel [0, 1, 2] (by decide) rfl) (fun _ => rfl) wn rfl rfl Tryd.call87 rfl (fun w1 Pb hG => c_name p s j1 n  Pb w1 hG (by omega) (by omega) (by omega) ) ?_ fun z1 hz2 => ?_
 · intro f1 hf1
   refine e_then_p (e_body_p fun w1 hM => ?_)
   exact hM.retPan f1 (by first | (simp only [Pz.then_ok, Pz.then_no, Pz.St.go, if_true, if_false, Bool.false_eq_true, Bool.true_eq_false, not_true_eq_false, not_false_eq_true, ne_eq, and_true, true_and, and_false, false_and, and_self, not_and, Pz.all, Pz.bys, Pz.allTail, ExprX.e, ExprX.es, hz1e, hf1]; done) | simp [Pz.then_ok, Pz.then_no, Pz.St.go, if_true, if_false, Bool.false_eq_true, Bool.true_eq_false, not_true_eq_false, not_false_eq_true, ne_eq, and_true, true_and, and_false, false_and, and_self, not_and, Pz.all, Pz.bys, Pz.allTail, ExprX.e, ExprX.es, hz1e, hf1])
 obtain ⟨wd1, j2, m1⟩ := z1
 have he1 : Pz.name s ⟨j1, n⟩ = .ok (wd1, ⟨j2, m1⟩) := hz2.1
 have ga1 : j2 ≤ s.size := hz2.2.at_
 have gm1 : n ≤ m1 := hz2.2.mono
 have gn1 : m1 ≤ 100 := hz2.2.most (show n ≤ 100 by omega)
 have wz1 : wd1.size ≤ 12 := Pz.name_size (t := ⟨j1, n⟩) (show j1 ≤ _ by omega) he1
 refine l_as 15 (.string wd1) [Rb 64 p s j2 m1, .pub ErrV, .blk b4 Zx 26] ?_
 refine l_val wn (r_build [iV 3, iV 0, iV 0, .string wd1, Zs, Zs, Zs] pl26 inf26 rfl rfl) rfl ?_
 refine l_alloc wn inf26 rfl fun b6 => ?_
 refine l_stn 0 wn rfl rfl rfl inf26 rfl rfl rfl ?_
 refine l_nil (e_go hK4 ?_)
 refine c_seq fun _ hK5 => ?_
 refine c_seq fun _ hK6 => ?_
 refine c_nodes (Mem w ⟨fpOf [Rb 64 p s i n, .pub ErrV], Pb⟩ [.blk b6 [iV 3, iV 0, iV 0, .string wd1, Zs, Zs, Zs] 26, Rb 64 p s j2 m1, .pub ErrV, .blk b4 Zx 26]) mix (fun _ h => h.drew) rfl ?_
 refine n_run (f := 3) [1, 2] rfl rfl (by kernel_rfl) (by kernel_rfl) (fun _ h => h) fun KS hKS => ?_
 refine s_val wn (r_fa rfl fld26_3) rfl ?_
 refine s_val wn (r_lb 0 rfl rfl rfl flat9) rfl ?_
 refine s_end hKS ?_
 refine n_step1 (f := 2) (i := 0) rfl (by kernel_rfl) ?_
 refine n_oneX (i := 0) rfl fun KN hKN hPN => ?_
 refine l_callL Lg.totals wn rfl Tryd.call18 rfl (fun w1 hM => c_Totals  w1) fun A1 cp1 hc1 hm1 hA1 => ?_
 refine l_nil (hKN _ _ (fun _ h => (h.sel [1, 2, 3, 4] (by decide) rfl)) ?_)
 refine n_step1 (f := 1) (i := 3) rfl (by kernel_rfl) ?_
 refine n_oneX (i := 3) rfl fun KN hKN hPN => ?_
 refine l_callF wn rfl Tryd.call59 rfl (fun w1 hM => c_contains _ Lg.totals wd1 w1 (RowSl encString hM 0 rfl)) ?_
 refine l_nil (hKN _ _ (fun _ h => (h.sel [1, 2, 3, 4] (by decide) rfl)) ?_)
 refine n_run (f := 0) [4] rfl rfl (by kernel_rfl) (by kernel_rfl) (fun _ h => (h.sel [1, 2, 3, 4] (by decide) rfl)) fun KS hKS => ?_
 refine s_val wn (r_not rfl) rfl ?_
 refine s_end hKS ?_
 refine n_done (by kernel_rfl) (e_go hK6 ?_)
 refine c_cond rfl (fun h1 => ?_) (fun h1 => ?_)
 · refine c_seq fun _ hK7 => ?_
   refine c_region ?_
   refine l_val wn (r_move rfl) rfl ?_
   refine l_val wn (r_move rfl) rfl ?_
   refine l_val wn (r_nilCheck rfl) rfl ?_
   refine l_val wn (r_fa rfl fld64_1) rfl ?_
   refine l_st1 2 wn rfl rfl rfl rfl inf3 rfl rfl ?_
   refine l_nil (e_go hK7 ?_)
   refine c_region ?_
   refine l_val wn (r_move rfl) rfl ?_
   refine l_giveX (α := Unit) (PT := 61) [Rb 64 p s j1 m1, .pub ErrV] [Row (.slice A1 Lg.totals.length cp1) 9 1 strE Lg.totals, .blk b6 [iV 3, iV 0, iV 0, .string wd1, Zs, Zs, Zs] 26, .blk b4 Zx 26] (fun _ : Unit => .tuple #[]) (fun z2 => False) (fun z2 => [Rb 64 p s j1 m1, .pub ErrV]) (fun z2 => [Rb 64 p s j1 m1, .pub ErrV, Row (.slice A1 Lg.totals.length cp1) 9 1 strE Lg.totals, .blk b6 [iV 3, iV 0, iV 0, .string wd1, Zs, Zs, Zs] 26, .blk b4 Zx 26]) (fun f2 => f2 = (7, (j1 : Int))) (fun _ => rfl) (fun _ h => h.sel [2, 3, 0, 1, 4] (by decide) rfl) (fun _ => rfl) wn rfl rfl Tryd.call32 rfl (fun w1 Pb hG => c_fail p s j1 m1 7 Pb w1 hG) ?_ fun z2 hz3 => ?_
   · intro f2 hf2
     refine e_then_p (e_body_p fun w1 hM => ?_)
     exact hM.retPan f2 (by first | (simp only [Pz.then_ok, Pz.then_no, Pz.St.go, if_true, if_false, Bool.false_eq_true, Bool.true_eq_false, not_true_eq_false, not_false_eq_true, ne_eq, and_true, true_and, and_false, false_and, and_self, not_and, Pz.all, Pz.bys, Pz.allTail, ExprX.e, ExprX.es, hz1e, he1, h1, hf2]; done) | simp [Pz.then_ok, Pz.then_no, Pz.St.go, if_true, if_false, Bool.false_eq_true, Bool.true_eq_false, not_true_eq_false, not_false_eq_true, ne_eq, and_true, true_and, and_false, false_and, and_self, not_and, Pz.all, Pz.bys, Pz.allTail, ExprX.e, ExprX.es, hz1e, he1, h1, hf2])
   exact hz3.elim
 refine c_skip (e_go hK5 ?_)
 refine c_seq fun _ hK8 => ?_
 refine c_region ?_
 refine l_val wn (r_move rfl) rfl ?_
 refine l_give (α := Nat) [Rb 64 p s j2 m1, .pub ErrV] [Row (.slice A1 Lg.totals.length cp1) 9 1 strE Lg.totals, .blk b6 [iV 3, iV 0, iV 0, .string wd1, Zs, Zs, Zs] 26, .blk b4 Zx 26] (fun _ => .tuple #[]) (fun j3 => (Pz.blank s j2 = j3 ∧ j2 ≤ j3 ∧ j3 ≤ s.size)) (fun j3 => [Rb 64 p s j3 m1, .pub ErrV]) (fun j3 => [Rb 64 p s j3 m1, .pub ErrV, Row (.slice A1 Lg.totals.length cp1) 9 1 strE Lg.totals, .blk b6 [iV 3, iV 0, iV 0, .string wd1, Zs, Zs, Zs] 26, .blk b4 Zx 26]) (fun _ => rfl) (fun _ h => h.sel [2, 3, 0, 1, 4] (by decide) rfl) (fun _ => rfl) wn rfl rfl Tryd.call31 rfl (fun w1 Pb hG => c_blank p s j2 m1 Pb w1 hG (by omega) (by omega)) fun j3 hz4 => ?_
 obtain ⟨hz4e, hz4a, hz4b⟩ := hz4
 refine l_nil (e_go hK8 ?_)
 refine c_seq fun _ hK9 => ?_
 refine c_region ?_
 refine l_val wn (r_move rfl) rfl ?_
 refine l_val wn (r_nilCheck rfl) rfl ?_
 refine l_val wn (r_fa rfl fld64_1) rfl ?_
 refine l_val wn (r_lb 0 rfl rfl rfl flat3) rfl ?_
 refine l_val wn (r_assign rfl) rfl ?_
 refine l_nil (e_go hK9 ?_)
 refine c_seq fun _ hK10 => ?_
 refine c_seq fun _ hK11 => ?_
 refine c_region ?_
 refine l_val wn (r_move rfl) rfl ?_
 refine l_giveX (α := ByteArray × Pz.St) (PT := 61) [Rb 64 p s j3 m1, .pub ErrV] [Row (.slice A1 Lg.totals.length cp1) 9 1 strE Lg.totals, .blk b6 [iV 3, iV 0, iV 0, .string wd1, Zs, Zs, Zs] 26, .blk b4 Zx 26] (fun z : ByteArray × Pz.St => .string z.1) (fun z3 => Pz.word s ⟨j3, m1⟩ = .ok z3 ∧ Pz.Good s ⟨j3, m1⟩ z3.2) (fun z3 => [Rb 64 p s z3.2.at_ z3.2.nd, .pub ErrV]) _ (fun f3 => Pz.word s ⟨j3, m1⟩ = .no f3) (fun _ => rfl) (fun _ h => h.sel [0, 1, 2, 3, 4] (by decide) rfl) (fun _ => rfl) wn rfl rfl Tryd.call77 rfl (fun w1 Pb hG => c_word p s j3 m1  Pb w1 hG (by omega) (by omega) (by omega) ) ?_ fun z3 hz5 => ?_
 · intro f3 hf3
   refine e_then_p (e_then_p (e_body_p fun w1 hM => ?_))
   exact hM.retPan f3 (by first | (simp only [Pz.then_ok, Pz.then_no, Pz.St.go, if_true, if_false, Bool.false_eq_true, Bool.true_eq_false, not_true_eq_false, not_false_eq_true, ne_eq, and_true, true_and, and_false, false_and, and_self, not_and, Pz.all, Pz.bys, Pz.allTail, ExprX.e, ExprX.es, hz1e, he1, hz4e, h1, hf3]; done) | simp [Pz.then_ok, Pz.then_no, Pz.St.go, if_true, if_false, Bool.false_eq_true, Bool.true_eq_false, not_true_eq_false, not_false_eq_true, ne_eq, and_true, true_and, and_false, false_and, and_self, not_and, Pz.all, Pz.bys, Pz.allTail, ExprX.e, ExprX.es, hz1e, he1, hz4e, h1, hf3])
 obtain ⟨wd2, j4, m2⟩ := z3
 have he2 : Pz.word s ⟨j3, m1⟩ = .ok (wd2, ⟨j4, m2⟩) := hz5.1
 have ga2 : j4 ≤ s.size := hz5.2.at_
 have gm2 : m1 ≤ m2 := hz5.2.mono
 have gn2 : m2 ≤ 100 := hz5.2.most (show m1 ≤ 100 by omega)
 have wz2 : wd2.size ≤ 12 := Pz.word_size (t := ⟨j3, m1⟩) (show j3 ≤ _ by omega) he2
 refine l_as 35 (.string wd2) [Rb 64 p s j4 m2, .pub ErrV, Row (.slice A1 Lg.totals.length cp1) 9 1 strE Lg.totals, .blk b6 [iV 3, iV 0, iV 0, .string wd1, Zs, Zs, Zs] 26, .blk b4 Zx 26] ?_
 refine l_val wn (r_assign rfl) rfl ?_
 refine l_nil (e_go hK11 ?_)
 refine c_seq fun _ hK12 => ?_
 refine c_region ?_
 refine l_val wn (r_move rfl) rfl ?_
 refine l_val wn (r_sneq rfl rfl) rfl ?_
 refine l_val wn (r_move rfl) rfl ?_
 refine l_case (t := 38) rfl (fun h2 => ?_) (fun h2 => ?_)
 · have g1 : (wd2 = ⟨#[]⟩) = False := eq_false h2
   refine l_val (wg rfl rfl rfl) (r_move rfl) rfl ?_
   refine l_val (wg rfl rfl rfl) (r_sneq rfl rfl) rfl ?_
   refine l_val wn (r_pick rfl rfl) rfl ?_
   refine l_nil (e_go hK12 ?_)
   refine c_cond rfl (fun h3 => ?_) (fun h3 => ?_)
   · have g2 : (wd2 = ⟨#[98, 121]⟩) = False := eq_false h3
     refine c_seq fun _ hK13 => ?_
     refine c_region ?_
     refine l_val wn (r_move rfl) rfl ?_
     refine l_val wn (r_move rfl) rfl ?_
     refine l_val wn (r_nilCheck rfl) rfl ?_
     refine l_val wn (r_fa rfl fld64_1) rfl ?_
     refine l_st1 0 wn rfl rfl rfl rfl inf3 rfl rfl ?_
     refine l_nil (e_go hK13 ?_)
     refine c_region ?_
     refine l_val wn (r_move rfl) rfl ?_
     refine l_giveX (α := Unit) (PT := 61) [Rb 64 p s j3 m2, .pub ErrV] [Row (.slice A1 Lg.totals.length cp1) 9 1 strE Lg.totals, .blk b6 [iV 3, iV 0, iV 0, .string wd1, Zs, Zs, Zs] 26, .blk b4 Zx 26] (fun _ : Unit => .tuple #[]) (fun z4 => False) (fun z4 => [Rb 64 p s j3 m2, .pub ErrV]) (fun z4 => [Rb 64 p s j3 m2, .pub ErrV, Row (.slice A1 Lg.totals.length cp1) 9 1 strE Lg.totals, .blk b6 [iV 3, iV 0, iV 0, .string wd1, Zs, Zs, Zs] 26, .blk b4 Zx 26]) (fun f4 => f4 = (2, (j3 : Int))) (fun _ => rfl) (fun _ h => h.sel [0, 1, 2, 3, 4] (by decide) rfl) (fun _ => rfl) wn rfl rfl Tryd.call32 rfl (fun w1 Pb hG => c_fail p s j3 m2 2 Pb w1 hG) ?_ fun z4 hz6 => ?_
     · intro f4 hf4
       refine e_then_p (e_body_p fun w1 hM => ?_)
       exact hM.retPan f4 (by first | (simp only [Pz.then_ok, Pz.then_no, Pz.St.go, if_true, if_false, Bool.false_eq_true, Bool.true_eq_false, not_true_eq_false, not_false_eq_true, ne_eq, and_true, true_and, and_false, false_and, and_self, not_and, Pz.all, Pz.bys, Pz.allTail, ExprX.e, ExprX.es, hz1e, he1, hz4e, he2, g1, g2, h1, hf4]; done) | simp [Pz.then_ok, Pz.then_no, Pz.St.go, if_true, if_false, Bool.false_eq_true, Bool.true_eq_false, not_true_eq_false, not_false_eq_true, ne_eq, and_true, true_and, and_false, false_and, and_self, not_and, Pz.all, Pz.bys, Pz.allTail, ExprX.e, ExprX.es, hz1e, he1, hz4e, he2, g1, g2, h1, hf4])
     exact hz6.elim
   have g3 : (wd2 = ⟨#[98, 121]⟩) = True := eq_true (Classical.not_not.1 h3)
   refine c_seq fun _ hK14 => ?_
   refine c_region ?_
   refine l_val wn (r_move rfl) rfl ?_
   refine l_val wn (r_seql rfl rfl) rfl ?_
   refine l_nil (e_go hK14 ?_)
   refine c_true rfl (decide_eq_true (Classical.not_not.1 h3)) ?_
   refine c_seq fun _ hK15 => ?_
   refine c_nodes (Mem w ⟨fpOf [Rb 64 p s i n, .pub ErrV], Pb⟩ [.pub ErrV, Row (.slice A1 Lg.totals.length cp1) 9 1 strE Lg.totals, .blk b4 Zx 26]) mix (fun _ h => h.drew) rfl ?_
   refine n_run (f := 6) [0, 2] rfl rfl (by kernel_rfl) (by kernel_rfl) (fun _ h => (h.sel [1, 2, 4] (by decide) rfl)) fun KS hKS => ?_
   refine s_val wn (r_fa rfl fld26_5) rfl ?_
   refine s_val wn (r_move rfl) rfl ?_
   refine s_end hKS ?_
   refine n_step2 (f := 5) (i := 1) (j := 3) rfl (by kernel_rfl) ?_ ?_
   · refine n_oneX (i := 1) rfl fun KN hKN hPN => ?_
     refine l_val wn (r_lb 3 rfl rfl rfl flat23) rfl ?_
     refine l_nil (hKN _ _ (fun _ h => (h.sel [1, 2, 4] (by decide) rfl)) ?_)
     refine n_step1 (f := 4) (i := 3) rfl (by kernel_rfl) ?_
     refine n_oneX (i := 3) rfl fun KN hKN hPN => ?_
     refine l_giveX (α := ByteArray × Pz.St) (PT := 61) [Rb 64 p s j4 m2, .pub ErrV] [Row (.slice A1 Lg.totals.length cp1) 9 1 strE Lg.totals, .blk b6 [iV 3, iV 0, iV 0, .string wd1, Zs, Zs, Zs] 26, .blk b4 Zx 26] (fun z : ByteArray × Pz.St => .string z.1) (fun z5 => Pz.name s ⟨j4, m2⟩ = .ok z5 ∧ Pz.Good s ⟨j4, m2⟩ z5.2) (fun z5 => [Rb 64 p s z5.2.at_ z5.2.nd, .pub ErrV]) _ (fun f5 => Pz.name s ⟨j4, m2⟩ = .no f5) (fun _ => rfl) (fun _ h => h.sel [0, 1, 2, 3, 4] (by decide) rfl) (fun _ => rfl) wn rfl rfl Tryd.call87 rfl (fun w1 Pb hG => c_name p s j4 m2  Pb w1 hG (by omega) (by omega) (by omega) ) ?_ fun z5 hz7 => ?_
     · intro f5 hf5
       refine e_node_p hPN (e_then_p (e_then_p (e_body_p fun w1 hM => ?_)))
       exact hM.retPan f5 (by first | (simp only [Pz.then_ok, Pz.then_no, Pz.St.go, if_true, if_false, Bool.false_eq_true, Bool.true_eq_false, not_true_eq_false, not_false_eq_true, ne_eq, and_true, true_and, and_false, false_and, and_self, not_and, Pz.all, Pz.bys, Pz.allTail, ExprX.e, ExprX.es, hz1e, he1, hz4e, he2, g1, g3, h1, hf5]; done) | simp [Pz.then_ok, Pz.then_no, Pz.St.go, if_true, if_false, Bool.false_eq_true, Bool.true_eq_false, not_true_eq_false, not_false_eq_true, ne_eq, and_true, true_and, and_false, false_and, and_self, not_and, Pz.all, Pz.bys, Pz.allTail, ExprX.e, ExprX.es, hz1e, he1, hz4e, he2, g1, g3, h1, hf5])
     obtain ⟨wd3, j5, m3⟩ := z5
     have he3 : Pz.name s ⟨j4, m2⟩ = .ok (wd3, ⟨j5, m3⟩) := hz7.1
     have ga3 : j5 ≤ s.size := hz7.2.at_
     have gm3 : m2 ≤ m3 := hz7.2.mono
     have gn3 : m3 ≤ 100 := hz7.2.most (show m2 ≤ 100 by omega)
     have wz3 : wd3.size ≤ 12 := Pz.name_size (t := ⟨j4, m2⟩) (show j4 ≤ _ by omega) he3
     refine l_as 53 (.string wd3) [Rb 64 p s j5 m3, .pub ErrV, Row (.slice A1 Lg.totals.length cp1) 9 1 strE Lg.totals, .blk b6 [iV 3, iV 0, iV 0, .string wd1, Zs, Zs, Zs] 26, .blk b4 Zx 26] ?_
     refine l_nil (hKN _ _ (fun _ h => (h.sel [1, 2, 4] (by decide) rfl)) ?_)
     refine n_step1 (f := 3) (i := 4) rfl (by kernel_rfl) ?_
     refine n_oneX (i := 4) rfl fun KN hKN hPN => ?_
     refine l_bsL strE ([wd3] : List ByteArray) wn Tryd.underlying23 inf9 rfl rfl rfl rfl (by decide) (by decide) rfl fun b54 => ?_
     refine l_nil (hKN _ _ (fun _ h => (h.sel [2, 3, 5] (by decide) rfl)) ?_)
     refine n_step1 (f := 2) (i := 5) rfl (by kernel_rfl) ?_
     refine n_oneX (i := 5) rfl fun KN hKN hPN => ?_
     refine l_nilRow (strE : ByteArray → List Value) 9 1 ?_
     refine l_app 0 ([] : List ByteArray) ([wd3] : List ByteArray) encString wn rfl rfl rfl (fun _ hM => (RowSl encString hM 1 rfl)) Tryd.underlying23 inf9 rfl rfl (by simp only [List.length_append, List.length_cons, List.length_nil]; omega) rfl fun A2 cp2 hc2 hm2 hA2 => ?_
     refine l_nil (hKN _ _ (fun _ h => (h.sel [3, 4, 6] (by decide) rfl)) ?_)
     refine n_run (f := 1) [6] rfl rfl (by kernel_rfl) (by kernel_rfl) (fun _ h => (h.sel [3, 4, 6] (by decide) rfl)) fun KS hKS => ?_
     refine s_val wn (r_fa rfl fld26_5) rfl ?_
     refine s_end hKS ?_
     refine n_step1 (f := 0) (i := 7) rfl (by kernel_rfl) ?_
     refine n_oneX (i := 7) rfl fun KN hKN hPN => ?_
     refine l_st1 5 wn rfl rfl rfl rfl inf23 rfl rfl ?_
     refine l_nil (hKN _ _ (fun _ h => (h.sel [3, 4, 6] (by decide) rfl)) ?_)
     refine n_done (by kernel_rfl) (e_go hK15 ?_)
     refine c_block ?_
     refine c_loop5 (fun (l : List ByteArray) (k : Nat) (m : Int) (q : Nat) (rv : Value) => [(0, .pointer (some ⟨p, 0, none⟩)), (1, iV d), (4, .pointer (some ⟨b4, 0, none⟩)), (6, .pointer (some ⟨b6, 0, none⟩))]) (fun (l : List ByteArray) (k : Nat) (m : Int) (q : Nat) (rv : Value) => [Row rv 9 1 strE l, Row (.slice (some ⟨b54, 0, none⟩) 1 1) 9 1 strE ([wd3] : List ByteArray), Rb 64 p s k m, .pub ErrV, Row (.slice A1 Lg.totals.length cp1) 9 1 strE Lg.totals, .blk b6 [iV 3, iV 0, iV 0, .string wd1, Zs, rv, Zs] 26, .blk b4 Zx 26]) (fun (l : List ByteArray) (k : Nat) (m : Int) (q : Nat) (rv : Value) => Pz.byL s 5 [wd3] ⟨j5, m3⟩ = Pz.byL s (q + 1) l ⟨k, m⟩ ∧ l.length + q = 5 ∧ l.length ≤ 4 ∧ k ≤ s.size ∧ m3 ≤ m ∧ m ≤ 100) (fun (l : List ByteArray) (k : Nat) (m : Int) (q : Nat) (rv : Value) => q) (([] : List ByteArray) ++ ([wd3] : List ByteArray)) j5 m3 4 (.slice A2 ((([] : List ByteArray) ++ ([wd3] : List ByteArray)).length) cp2) (sc rfl (sc rfl (sc rfl (sc rfl sn)))) (fun _ h => h) ?_ (fun l k m q rv hI1 => ?_)
     · exact ⟨rfl, rfl, by simp, by omega, by omega, by omega⟩
     refine c_open 0 (l := l) rfl fun A3 cp3 hv1 hc3 hm3 hA3 => ?_
     subst hv1
     refine c_seq fun _ hK16 => ?_
     refine c_seq fun _ hK17 => ?_
     refine c_region ?_
     refine l_val wn (r_move rfl) rfl ?_
     refine l_give (α := (Bool × Nat)) [Rb 64 p s k m, .pub ErrV] [Row (.slice A3 l.length cp3) 9 1 strE l, Row (.slice (some ⟨b54, 0, none⟩) 1 1) 9 1 strE ([wd3] : List ByteArray), Row (.slice A1 Lg.totals.length cp1) 9 1 strE Lg.totals, .blk b6 [iV 3, iV 0, iV 0, .string wd1, Zs, .slice A3 l.length cp3, Zs] 26, .blk b4 Zx 26] (fun z : Bool × Nat => .bool z.1) (fun z6 => (Pz.eat s ⟨#[44]⟩ k = z6 ∧ k ≤ z6.2 ∧ z6.2 ≤ s.size)) (fun z6 => [Rb 64 p s z6.2 m, .pub ErrV]) _ (fun _ => rfl) (fun _ h => h.sel [2, 3, 0, 1, 4, 5, 6] (by decide) rfl) (fun _ => rfl) wn rfl rfl Tryd.call50 rfl (fun w1 Pb hG => c_eat p s k m ⟨#[44]⟩ Pb w1 hG (by omega) (by omega)) fun z6 hz8 => ?_
     obtain ⟨bo1, j6⟩ := z6
     have he4 : Pz.eat s ⟨#[44]⟩ k = (bo1, j6) := hz8.1
     have hz8a : k ≤ j6 := hz8.2.1
     have hz8b : j6 ≤ s.size := hz8.2.2
     refine l_as 58 (.bool bo1) [Rb 64 p s j6 m, .pub ErrV, Row (.slice A3 l.length cp3) 9 1 strE l, Row (.slice (some ⟨b54, 0, none⟩) 1 1) 9 1 strE ([wd3] : List ByteArray), Row (.slice A1 Lg.totals.length cp1) 9 1 strE Lg.totals, .blk b6 [iV 3, iV 0, iV 0, .string wd1, Zs, .slice A3 l.length cp3, Zs] 26, .blk b4 Zx 26] ?_
     refine l_nil (e_go hK17 ?_)
     refine c_condb rfl (fun h4 => ?_) (fun h4 => ?_)
     · have hx1 := hI1.1
       refine c_skip (e_go hK16 ?_)
       refine c_block ?_
       refine c_seq fun _ hK18 => ?_
       refine c_seq fun _ hK19 => ?_
       refine c_region ?_
       refine l_val wn (r_fa rfl fld26_5) rfl ?_
       refine l_val wn (r_lb 5 rfl rfl rfl flat23) rfl ?_
       refine l_val wn (r_len rfl Tryd.underlying23) rfl ?_
       refine l_val wn (r_eql rfl rfl) rfl ?_
       refine l_nil (e_go hK19 ?_)
       refine c_cond rfl (fun h5 => ?_) (fun h5 => ?_)
       · refine c_region ?_
         refine l_val wn (r_move rfl) rfl ?_
         refine l_giveX (α := Unit) (PT := 61) [Rb 64 p s j6 m, .pub ErrV] [Row (.slice A3 l.length cp3) 9 1 strE l, Row (.slice (some ⟨b54, 0, none⟩) 1 1) 9 1 strE ([wd3] : List ByteArray), Row (.slice A1 Lg.totals.length cp1) 9 1 strE Lg.totals, .blk b6 [iV 3, iV 0, iV 0, .string wd1, Zs, .slice A3 l.length cp3, Zs] 26, .blk b4 Zx 26] (fun _ : Unit => .tuple #[]) (fun z7 => False) (fun z7 => [Rb 64 p s j6 m, .pub ErrV]) (fun z7 => [Rb 64 p s j6 m, .pub ErrV, Row (.slice A3 l.length cp3) 9 1 strE l, Row (.slice (some ⟨b54, 0, none⟩) 1 1) 9 1 strE ([wd3] : List ByteArray), Row (.slice A1 Lg.totals.length cp1) 9 1 strE Lg.totals, .blk b6 [iV 3, iV 0, iV 0, .string wd1, Zs, .slice A3 l.length cp3, Zs] 26, .blk b4 Zx 26]) (fun f6 => f6 = (5, (j6 : Int))) (fun _ => rfl) (fun _ h => h.sel [0, 1, 2, 3, 4, 5, 6] (by decide) rfl) (fun _ => rfl) wn rfl rfl Tryd.call32 rfl (fun w1 Pb hG => c_fail p s j6 m 5 Pb w1 hG) ?_ fun z7 hz9 => ?_
         · intro f6 hf6
           refine e_then_p (e_in_p (e_loop5_p (e_in_p (e_then_p (e_body_p fun w1 hM => ?_)))))
           have hY := Pz.by_many hx1 (by rw [he4, h4]) h5
           exact hM.retPan f6 (by simp only [Pz.then_ok, Pz.then_no, Pz.St.go, if_true, if_false, Bool.false_eq_true, Bool.true_eq_false, not_true_eq_false, not_false_eq_true, ne_eq, and_true, true_and, and_false, false_and, and_self, not_and, Pz.all, Pz.bys, Pz.allTail, ExprX.e, ExprX.es, hz1e, he1, hz4e, he2, g1, g3, he3, he4, h1, hY, hf6])
         exact hz9.elim
       refine c_skip (e_go hK18 ?_)
       refine c_nodes (Mem w ⟨fpOf [Rb 64 p s i n, .pub ErrV], Pb⟩ [.pub ErrV, Row (.slice (some ⟨b54, 0, none⟩) 1 1) 9 1 strE ([wd3] : List ByteArray), Row (.slice A1 Lg.totals.length cp1) 9 1 strE Lg.totals, .blk b4 Zx 26]) mix (fun _ h => h.drew) rfl ?_
       refine n_run (f := 6) [0, 2] rfl rfl (by kernel_rfl) (by kernel_rfl) (fun _ h => (h.sel [1, 3, 4, 6] (by decide) rfl)) fun KS hKS => ?_
       refine s_val wn (r_fa rfl fld26_5) rfl ?_
       refine s_val wn (r_move rfl) rfl ?_
       refine s_end hKS ?_
       refine n_step2 (f := 5) (i := 1) (j := 3) rfl (by kernel_rfl) ?_ ?_
       · refine n_oneX (i := 1) rfl fun KN hKN hPN => ?_
         refine l_val wn (r_lb 5 rfl rfl rfl flat23) rfl ?_
         refine l_nil (hKN _ _ (fun _ h => (h.sel [1, 3, 4, 6] (by decide) rfl)) ?_)
         refine n_step1 (f := 4) (i := 3) rfl (by kernel_rfl) ?_
         refine n_oneX (i := 3) rfl fun KN hKN hPN => ?_
         refine l_giveX (α := ByteArray × Pz.St) (PT := 61) [Rb 64 p s j6 m, .pub ErrV] [Row (.slice A3 l.length cp3) 9 1 strE l, Row (.slice (some ⟨b54, 0, none⟩) 1 1) 9 1 strE ([wd3] : List ByteArray), Row (.slice A1 Lg.totals.length cp1) 9 1 strE Lg.totals, .blk b6 [iV 3, iV 0, iV 0, .string wd1, Zs, .slice A3 l.length cp3, Zs] 26, .blk b4 Zx 26] (fun z : ByteArray × Pz.St => .string z.1) (fun z8 => Pz.name s ⟨j6, m⟩ = .ok z8 ∧ Pz.Good s ⟨j6, m⟩ z8.2) (fun z8 => [Rb 64 p s z8.2.at_ z8.2.nd, .pub ErrV]) _ (fun f7 => Pz.name s ⟨j6, m⟩ = .no f7) (fun _ => rfl) (fun _ h => h.sel [0, 1, 2, 3, 4, 5, 6] (by decide) rfl) (fun _ => rfl) wn rfl rfl Tryd.call87 rfl (fun w1 Pb hG => c_name p s j6 m  Pb w1 hG (by omega) (by omega) (by omega) ) ?_ fun z8 hz10 => ?_
         · intro f7 hf7
           refine e_node_p hPN (e_in_p (e_loop5_p (e_in_p (e_then_p (e_body_p fun w1 hM => ?_)))))
           have hY := Pz.by_next hx1 (by rw [he4, h4]) h5 hf7
           rw [Pz.then_no] at hY
           exact hM.retPan f7 (by simp only [Pz.then_ok, Pz.then_no, Pz.St.go, if_true, if_false, Bool.false_eq_true, Bool.true_eq_false, not_true_eq_false, not_false_eq_true, ne_eq, and_true, true_and, and_false, false_and, and_self, not_and, Pz.all, Pz.bys, Pz.allTail, ExprX.e, ExprX.es, hz1e, he1, hz4e, he2, g1, g3, he3, he4, h1, hY])
         obtain ⟨wd4, j7, m4⟩ := z8
         have he5 : Pz.name s ⟨j6, m⟩ = .ok (wd4, ⟨j7, m4⟩) := hz10.1
         have ga4 : j7 ≤ s.size := hz10.2.at_
         have gm4 : m ≤ m4 := hz10.2.mono
         have gn4 : m4 ≤ 100 := hz10.2.most (show m ≤ 100 by omega)
         have wz4 : wd4.size ≤ 12 := Pz.name_size (t := ⟨j6, m⟩) (show j6 ≤ _ by omega) he5
         refine l_as 68 (.string wd4) [Rb 64 p s j7 m4, .pub ErrV, Row (.slice A3 l.length cp3) 9 1 strE l, Row (.slice (some ⟨b54, 0, none⟩) 1 1) 9 1 strE ([wd3] : List ByteArray), Row (.slice A1 Lg.totals.length cp1) 9 1 strE Lg.totals, .blk b6 [iV 3, iV 0, iV 0, .string wd1, Zs, .slice A3 l.length cp3, Zs] 26, .blk b4 Zx 26] ?_
         refine l_nil (hKN _ _ (fun _ h => (h.sel [1, 3, 4, 6] (by decide) rfl)) ?_)
         refine n_step1 (f := 3) (i := 4) rfl (by kernel_rfl) ?_
         refine n_oneX (i := 4) rfl fun KN hKN hPN => ?_
         refine l_bsL strE ([wd4] : List ByteArray) wn Tryd.underlying23 inf9 rfl rfl rfl rfl (by decide) (by decide) rfl fun b69 => ?_
         refine l_nil (hKN _ _ (fun _ h => (h.sel [2, 4, 5, 7] (by decide) rfl)) ?_)
         refine n_step1 (f := 2) (i := 5) rfl (by kernel_rfl) ?_
         refine n_oneX (i := 5) rfl fun KN hKN hPN => ?_
         refine l_app 3 l ([wd4] : List ByteArray) encString wn rfl rfl rfl (fun _ hM => (RowSl encString hM 0 rfl)) Tryd.underlying23 inf9 rfl rfl (by simp only [List.length_append, List.length_cons, List.length_nil]; omega) rfl fun A4 cp4 hc4 hm4 hA4 => ?_
         refine l_nil (hKN _ _ (fun _ h => (h.sel [2, 4, 5, 7] (by decide) rfl)) ?_)
         refine n_run (f := 1) [6] rfl rfl (by kernel_rfl) (by kernel_rfl) (fun _ h => (h.sel [2, 4, 5, 7] (by decide) rfl)) fun KS hKS => ?_
         refine s_val wn (r_fa rfl fld26_5) rfl ?_
         refine s_end hKS ?_
         refine n_step1 (f := 0) (i := 7) rfl (by kernel_rfl) ?_
         refine n_oneX (i := 7) rfl fun KN hKN hPN => ?_
         refine l_st1 6 wn rfl rfl rfl rfl inf23 rfl rfl ?_
         refine l_nil (hKN _ _ (fun _ h => (h.sel [2, 4, 5, 7] (by decide) rfl)) ?_)
         refine n_done (by kernel_rfl) (e_in_n (e_round5 (l ++ ([wd4] : List ByteArray)) j7 m4 (q - 1) (.slice A4 ((l ++ ([wd4] : List ByteArray)).length) cp4) (sc rfl (sc rfl (sc rfl (sc rfl sn)))) (fun _ h => (h.sel [3, 4, 1, 2, 5, 6, 7] (by decide) rfl)) ?_ ?_))
         · have hY := Pz.by_next hx1 (by rw [he4, h4]) h5 he5
           rw [Pz.then_ok] at hY
           exact ⟨hY.trans (by rw [show q - 1 + 1 = q by omega]), by simp only [List.length_append, List.length_cons, List.length_nil]; omega, by simp only [List.length_append, List.length_cons, List.length_nil]; omega, by omega, by omega, by omega⟩
         omega
       refine n_oneX (i := 3) rfl fun KN hKN hPN => ?_
       refine l_giveX (α := ByteArray × Pz.St) (PT := 61) [Rb 64 p s j6 m, .pub ErrV] [Row (.slice A3 l.length cp3) 9 1 strE l, Row (.slice (some ⟨b54, 0, none⟩) 1 1) 9 1 strE ([wd3] : List ByteArray), Row (.slice A1 Lg.totals.length cp1) 9 1 strE Lg.totals, .blk b6 [iV 3, iV 0, iV 0, .string wd1, Zs, .slice A3 l.length cp3, Zs] 26, .blk b4 Zx 26] (fun z : ByteArray × Pz.St => .string z.1) (fun z9 => Pz.name s ⟨j6, m⟩ = .ok z9 ∧ Pz.Good s ⟨j6, m⟩ z9.2) (fun z9 => [Rb 64 p s z9.2.at_ z9.2.nd, .pub ErrV]) _ (fun f8 => Pz.name s ⟨j6, m⟩ = .no f8) (fun _ => rfl) (fun _ h => h.sel [0, 1, 2, 3, 4, 5, 6] (by decide) rfl) (fun _ => rfl) wn rfl rfl Tryd.call87 rfl (fun w1 Pb hG => c_name p s j6 m  Pb w1 hG (by omega) (by omega) (by omega) ) ?_ fun z9 hz11 => ?_
       · intro f8 hf8
         refine e_node_p hPN (e_in_p (e_loop5_p (e_in_p (e_then_p (e_body_p fun w1 hM => ?_)))))
         have hY := Pz.by_next hx1 (by rw [he4, h4]) h5 hf8
         rw [Pz.then_no] at hY
         exact hM.retPan f8 (by simp only [Pz.then_ok, Pz.then_no, Pz.St.go, if_true, if_false, Bool.false_eq_true, Bool.true_eq_false, not_true_eq_false, not_false_eq_true, ne_eq, and_true, true_and, and_false, false_and, and_self, not_and, Pz.all, Pz.bys, Pz.allTail, ExprX.e, ExprX.es, hz1e, he1, hz4e, he2, g1, g3, he3, he4, h1, hY])
       obtain ⟨wd5, j8, m5⟩ := z9
       have he6 : Pz.name s ⟨j6, m⟩ = .ok (wd5, ⟨j8, m5⟩) := hz11.1
       have ga5 : j8 ≤ s.size := hz11.2.at_
       have gm5 : m ≤ m5 := hz11.2.mono
       have gn5 : m5 ≤ 100 := hz11.2.most (show m ≤ 100 by omega)
       have wz5 : wd5.size ≤ 12 := Pz.name_size (t := ⟨j6, m⟩) (show j6 ≤ _ by omega) he6
       refine l_as 68 (.string wd5) [Rb 64 p s j8 m5, .pub ErrV, Row (.slice A3 l.length cp3) 9 1 strE l, Row (.slice (some ⟨b54, 0, none⟩) 1 1) 9 1 strE ([wd3] : List ByteArray), Row (.slice A1 Lg.totals.length cp1) 9 1 strE Lg.totals, .blk b6 [iV 3, iV 0, iV 0, .string wd1, Zs, .slice A3 l.length cp3, Zs] 26, .blk b4 Zx 26] ?_
       refine l_nil (hKN _ _ (fun _ h => (h.sel [1, 3, 4, 6] (by decide) rfl)) ?_)
       refine n_step2 (f := 4) (i := 1) (j := 4) rfl (by kernel_rfl) ?_ ?_
       · refine n_oneX (i := 1) rfl fun KN hKN hPN => ?_
         refine l_val wn (r_lb 5 rfl rfl rfl flat23) rfl ?_
         refine l_nil (hKN _ _ (fun _ h => (h.sel [1, 3, 4, 6] (by decide) rfl)) ?_)
         refine n_step1 (f := 3) (i := 4) rfl (by kernel_rfl) ?_
         refine n_oneX (i := 4) rfl fun KN hKN hPN => ?_
         refine l_bsL strE ([wd5] : List ByteArray) wn Tryd.underlying23 inf9 rfl rfl rfl rfl (by decide) (by decide) rfl fun b69 => ?_
         refine l_nil (hKN _ _ (fun _ h => (h.sel [2, 4, 5, 7] (by decide) rfl)) ?_)
         refine n_step1 (f := 2) (i := 5) rfl (by kernel_rfl) ?_
         refine n_oneX (i := 5) rfl fun KN hKN hPN => ?_
         refine l_app 3 l ([wd5] : List ByteArray) encString wn rfl rfl rfl (fun _ hM => (RowSl encString hM 0 rfl)) Tryd.underlying23 inf9 rfl rfl (by simp only [List.length_append, List.length_cons, List.length_nil]; omega) rfl fun A5 cp5 hc5 hm5 hA5 => ?_
         refine l_nil (hKN _ _ (fun _ h => (h.sel [2, 4, 5, 7] (by decide) rfl)) ?_)
         refine n_run (f := 1) [6] rfl rfl (by kernel_rfl) (by kernel_rfl) (fun _ h => (h.sel [2, 4, 5, 7] (by decide) rfl)) fun KS hKS => ?_
         refine s_val wn (r_fa rfl fld26_5) rfl ?_
         refine s_end hKS ?_
         refine n_step1 (f := 0) (i := 7) rfl (by kernel_rfl) ?_
         refine n_oneX (i := 7) rfl fun KN hKN hPN => ?_
         refine l_st1 6 wn rfl rfl rfl rfl inf23 rfl rfl ?_
         refine l_nil (hKN _ _ (fun _ h => (h.sel [2, 4, 5, 7] (by decide) rfl)) ?_)
         refine n_done (by kernel_rfl) (e_in_n (e_round5 (l ++ ([wd5] : List ByteArray)) j8 m5 (q - 1) (.slice A5 ((l ++ ([wd5] : List ByteArray)).length) cp5) (sc rfl (sc rfl (sc rfl (sc rfl sn)))) (fun _ h => (h.sel [3, 4, 1, 2, 5, 6, 7] (by decide) rfl)) ?_ ?_))
         · have hY := Pz.by_next hx1 (by rw [he4, h4]) h5 he6
           rw [Pz.then_ok] at hY
           exact ⟨hY.trans (by rw [show q - 1 + 1 = q by omega]), by simp only [List.length_append, List.length_cons, List.length_nil]; omega, by simp only [List.length_append, List.length_cons, List.length_nil]; omega, by omega, by omega, by omega⟩
         omega
       refine n_oneX (i := 4) rfl fun KN hKN hPN => ?_
       refine l_bsL strE ([wd5] : List ByteArray) wn Tryd.underlying23 inf9 rfl rfl rfl rfl (by decide) (by decide) rfl fun b69 => ?_
       refine l_nil (hKN _ _ (fun _ h => (h.sel [2, 4, 5, 7] (by decide) rfl)) ?_)
       refine n_step1 (f := 3) (i := 1) rfl (by kernel_rfl) ?_
       refine n_oneX (i := 1) rfl fun KN hKN hPN => ?_
       refine l_val wn (r_lb 6 rfl rfl rfl flat23) rfl ?_
       refine l_nil (hKN _ _ (fun _ h => (h.sel [2, 4, 5, 7] (by decide) rfl)) ?_)
       refine n_step1 (f := 2) (i := 5) rfl (by kernel_rfl) ?_
       refine n_oneX (i := 5) rfl fun KN hKN hPN => ?_
       refine l_app 3 l ([wd5] : List ByteArray) encString wn rfl rfl rfl (fun _ hM => (RowSl encString hM 0 rfl)) Tryd.underlying23 inf9 rfl rfl (by simp only [List.length_append, List.length_cons, List.length_nil]; omega) rfl fun A6 cp6 hc6 hm6 hA6 => ?_
       refine l_nil (hKN _ _ (fun _ h => (h.sel [2, 4, 5, 7] (by decide) rfl)) ?_)
       refine n_run (f := 1) [6] rfl rfl (by kernel_rfl) (by kernel_rfl) (fun _ h => (h.sel [2, 4, 5, 7] (by decide) rfl)) fun KS hKS => ?_
       refine s_val wn (r_fa rfl fld26_5) rfl ?_
       refine s_end hKS ?_
       refine n_step1 (f := 0) (i := 7) rfl (by kernel_rfl) ?_
       refine n_oneX (i := 7) rfl fun KN hKN hPN => ?_
       refine l_st1 6 wn rfl rfl rfl rfl inf23 rfl rfl ?_
       refine l_nil (hKN _ _ (fun _ h => (h.sel [2, 4, 5, 7] (by decide) rfl)) ?_)
       refine n_done (by kernel_rfl) (e_in_n (e_round5 (l ++ ([wd5] : List ByteArray)) j8 m5 (q - 1) (.slice A6 ((l ++ ([wd5] : List ByteArray)).length) cp6) (sc rfl (sc rfl (sc rfl (sc rfl sn)))) (fun _ h => (h.sel [3, 4, 1, 2, 5, 6, 7] (by decide) rfl)) ?_ ?_))
       · have hY := Pz.by_next hx1 (by rw [he4, h4]) h5 he6
         rw [Pz.then_ok] at hY
         exact ⟨hY.trans (by rw [show q - 1 + 1 = q by omega]), by simp only [List.length_append, List.length_cons, List.length_nil]; omega, by simp only [List.length_append, List.length_cons, List.length_nil]; omega, by omega, by omega, by omega⟩
       omega
     have g4 : bo1 = false := by simpa using h4
     have hx2 := Pz.by_done hI1.1 (by rw [he4, g4])
     refine c_exit (e_then_x (e_loop5_x (e_in_hit (e_go hK10 ?_))))
     refine c_seq fun _ hK20 => ?_
     refine c_region ?_
     refine l_val wn (r_move rfl) rfl ?_
     refine l_giveX (α := Pz.St) (PT := 61) [Rb 64 p s j6 m, .pub ErrV] [Row (.slice A3 l.length cp3) 9 1 strE l, Row (.slice (some ⟨b54, 0, none⟩) 1 1) 9 1 strE ([wd3] : List ByteArray), Row (.slice A1 Lg.totals.length cp1) 9 1 strE Lg.totals, .blk b6 [iV 3, iV 0, iV 0, .string wd1, Zs, .slice A3 l.length cp3, Zs] 26, .blk b4 Zx 26] (fun z : Pz.St => .tuple #[]) (fun z10 => Pz.must s ⟨#[40]⟩ ⟨j6, m⟩ = .ok z10 ∧ Pz.Good s ⟨j6, m⟩ z10) (fun z10 => [Rb 64 p s z10.at_ z10.nd, .pub ErrV]) _ (fun f9 => Pz.must s ⟨#[40]⟩ ⟨j6, m⟩ = .no f9) (fun _ => rfl) (fun _ h => h.sel [0, 1, 2, 3, 4, 5, 6] (by decide) rfl) (fun _ => rfl) wn rfl rfl Tryd.call76 rfl (fun w1 Pb hG => c_must p s j6 m ⟨#[40]⟩ Pb w1 hG (by omega) (by omega) (by omega) ) ?_ fun z10 hz12 => ?_
     · intro f9 hf9
       refine e_then_p (e_body_p fun w1 hM => ?_)
       exact hM.retPan f9 (by first | (simp only [Pz.then_ok, Pz.then_no, Pz.St.go, if_true, if_false, Bool.false_eq_true, Bool.true_eq_false, not_true_eq_false, not_false_eq_true, ne_eq, and_true, true_and, and_false, false_and, and_self, not_and, Pz.all, Pz.bys, Pz.allTail, ExprX.e, ExprX.es, hz1e, he1, hz4e, he2, g1, g3, he3, he4, g4, hx2, h1, h4, hf9]; done) | simp [Pz.then_ok, Pz.then_no, Pz.St.go, if_true, if_false, Bool.false_eq_true, Bool.true_eq_false, not_true_eq_false, not_false_eq_true, ne_eq, and_true, true_and, and_false, false_and, and_self, not_and, Pz.all, Pz.bys, Pz.allTail, ExprX.e, ExprX.es, hz1e, he1, hz4e, he2, g1, g3, he3, he4, g4, hx2, h1, h4, hf9])
     obtain ⟨j9, m6⟩ := z10
     have he7 : Pz.must s ⟨#[40]⟩ ⟨j6, m⟩ = .ok ⟨j9, m6⟩ := hz12.1
     have ga6 : j9 ≤ s.size := hz12.2.at_
     have gm6 : m ≤ m6 := hz12.2.mono
     have gn6 : m6 ≤ 100 := hz12.2.most (show m ≤ 100 by omega)
     refine l_as 73 (.tuple (List.toArray [])) [Rb 64 p s j9 m6, .pub ErrV, Row (.slice A3 l.length cp3) 9 1 strE l, Row (.slice (some ⟨b54, 0, none⟩) 1 1) 9 1 strE ([wd3] : List ByteArray), Row (.slice A1 Lg.totals.length cp1) 9 1 strE Lg.totals, .blk b6 [iV 3, iV 0, iV 0, .string wd1, Zs, .slice A3 l.length cp3, Zs] 26, .blk b4 Zx 26] ?_
     refine l_nil (e_go hK20 ?_)
     refine c_seq fun _ hK21 => ?_
     refine c_region ?_
     refine l_val wn (r_move rfl) rfl ?_
     refine l_val wn (r_move rfl) rfl ?_
     refine l_val wn (r_addn rfl rfl (by omega)) rfl ?_
     refine l_giveX (α := ExprX × Pz.St) (PT := 61) [Rb 64 p s j9 m6, .pub ErrV] [Row (.slice A3 l.length cp3) 9 1 strE l, Row (.slice (some ⟨b54, 0, none⟩) 1 1) 9 1 strE ([wd3] : List ByteArray), Row (.slice A1 Lg.totals.length cp1) 9 1 strE Lg.totals, .blk b6 [iV 3, iV 0, iV 0, .string wd1, Zs, .slice A3 l.length cp3, Zs] 26, .blk b4 Zx 26] (fun z : ExprX × Pz.St => .agg (exprE z.1).toArray) (fun z11 => Pz.xpr s N ⟨j9, m6⟩ = .ok (z11.1.e, z11.2) ∧ Pz.Good s ⟨j9, m6⟩ z11.2) (fun z11 => [Rb 64 p s z11.2.at_ z11.2.nd, .pub ErrV, okP ExprX.Ok z11.1]) _ (fun f10 => Pz.xpr s N ⟨j9, m6⟩ = .no f10) (fun _ => rfl) (fun _ h => h.sel [0, 1, 2, 3, 4, 5, 6] (by decide) rfl) (fun _ => rfl) wn rfl rfl Tryd.call30 rfl (fun w1 Pb hG => ih p s j9 m6 (d + 1) Pb w1 hG (by omega) (by omega) (by omega) (by omega) (by omega)) ?_ fun z11 hz13 => ?_
     · intro f10 hf10
       refine e_then_p (e_body_p fun w1 hM => ?_)
       exact hM.retPan f10 (by first | (simp only [Pz.then_ok, Pz.then_no, Pz.St.go, if_true, if_false, Bool.false_eq_true, Bool.true_eq_false, not_true_eq_false, not_false_eq_true, ne_eq, and_true, true_and, and_false, false_and, and_self, not_and, Pz.all, Pz.bys, Pz.allTail, ExprX.e, ExprX.es, hz1e, he1, hz4e, he2, g1, g3, he3, he4, g4, hx2, he7, h1, h4, hf10]; done) | simp [Pz.then_ok, Pz.then_no, Pz.St.go, if_true, if_false, Bool.false_eq_true, Bool.true_eq_false, not_true_eq_false, not_false_eq_true, ne_eq, and_true, true_and, and_false, false_and, and_self, not_and, Pz.all, Pz.bys, Pz.allTail, ExprX.e, ExprX.es, hz1e, he1, hz4e, he2, g1, g3, he3, he4, g4, hx2, he7, h1, h4, hf10])
     obtain ⟨x1, j10, m7⟩ := z11
     have he8 : Pz.xpr s N ⟨j9, m6⟩ = .ok (x1.e, ⟨j10, m7⟩) := hz13.1
     have ga7 : j10 ≤ s.size := hz13.2.at_
     have gm7 : m6 ≤ m7 := hz13.2.mono
     have gn7 : m7 ≤ 100 := hz13.2.most (show m6 ≤ 100 by omega)
     refine l_as 77 (.agg (List.toArray [iV x1.kind, iV x1.n, iV x1.range, .string x1.word, .slice x1.ms.A x1.ms.l.length x1.ms.c, .slice x1.by_.A x1.by_.l.length x1.by_.c, .slice x1.kids.A x1.kids.l.length x1.kids.c])) [Rb 64 p s j10 m7, .pub ErrV, okP ExprX.Ok x1, Row (.slice A3 l.length cp3) 9 1 strE l, Row (.slice (some ⟨b54, 0, none⟩) 1 1) 9 1 strE ([wd3] : List ByteArray), Row (.slice A1 Lg.totals.length cp1) 9 1 strE Lg.totals, .blk b6 [iV 3, iV 0, iV 0, .string wd1, Zs, .slice A3 l.length cp3, Zs] 26, .blk b4 Zx 26] ?_
     refine l_bsL exprE ([x1] : List ExprX) wn Tryd.underlying24 inf26 rfl rfl rfl rfl (by decide) (by decide) rfl fun b78 => ?_
     refine l_val wn (r_fa rfl fld26_6) rfl ?_
     refine l_st1 7 wn rfl rfl rfl rfl inf24 rfl rfl ?_
     refine l_nil (e_go hK21 ?_)
     refine c_seq fun _ hK22 => ?_
     refine c_region ?_
     refine l_val wn (r_move rfl) rfl ?_
     refine l_giveX (α := Pz.St) (PT := 61) [Rb 64 p s j10 m7, .pub ErrV] [Row (.slice (some ⟨b78, 0, none⟩) 1 1) 26 7 exprE ([x1] : List ExprX), okP ExprX.Ok x1, Row (.slice A3 l.length cp3) 9 1 strE l, Row (.slice (some ⟨b54, 0, none⟩) 1 1) 9 1 strE ([wd3] : List ByteArray), Row (.slice A1 Lg.totals.length cp1) 9 1 strE Lg.totals, .blk b6 [iV 3, iV 0, iV 0, .string wd1, Zs, .slice A3 l.length cp3, .slice (some ⟨b78, 0, none⟩) 1 1] 26, .blk b4 Zx 26] (fun z : Pz.St => .tuple #[]) (fun z12 => Pz.must s ⟨#[41]⟩ ⟨j10, m7⟩ = .ok z12 ∧ Pz.Good s ⟨j10, m7⟩ z12) (fun z12 => [Rb 64 p s z12.at_ z12.nd, .pub ErrV]) _ (fun f11 => Pz.must s ⟨#[41]⟩ ⟨j10, m7⟩ = .no f11) (fun _ => rfl) (fun _ h => h.sel [1, 2, 0, 3, 4, 5, 6, 7, 8] (by decide) rfl) (fun _ => rfl) wn rfl rfl Tryd.call76 rfl (fun w1 Pb hG => c_must p s j10 m7 ⟨#[41]⟩ Pb w1 hG (by omega) (by omega) (by omega) ) ?_ fun z12 hz14 => ?_
     · intro f11 hf11
       refine e_then_p (e_body_p fun w1 hM => ?_)
       exact hM.retPan f11 (by first | (simp only [Pz.then_ok, Pz.then_no, Pz.St.go, if_true, if_false, Bool.false_eq_true, Bool.true_eq_false, not_true_eq_false, not_false_eq_true, ne_eq, and_true, true_and, and_false, false_and, and_self, not_and, Pz.all, Pz.bys, Pz.allTail, ExprX.e, ExprX.es, hz1e, he1, hz4e, he2, g1, g3, he3, he4, g4, hx2, he7, he8, h1, h4, hf11]; done) | simp [Pz.then_ok, Pz.then_no, Pz.St.go, if_true, if_false, Bool.false_eq_true, Bool.true_eq_false, not_true_eq_false, not_false_eq_true, ne_eq, and_true, true_and, and_false, false_and, and_self, not_and, Pz.all, Pz.bys, Pz.allTail, ExprX.e, ExprX.es, hz1e, he1, hz4e, he2, g1, g3, he3, he4, g4, hx2, he7, he8, h1, h4, hf11])
     obtain ⟨j11, m8⟩ := z12
     have he9 : Pz.must s ⟨#[41]⟩ ⟨j10, m7⟩ = .ok ⟨j11, m8⟩ := hz14.1
     have ga8 : j11 ≤ s.size := hz14.2.at_
     have gm8 : m7 ≤ m8 := hz14.2.mono
     have gn8 : m8 ≤ 100 := hz14.2.most (show m7 ≤ 100 by omega)
     refine l_as 81 (.tuple (List.toArray [])) [Rb 64 p s j11 m8, .pub ErrV, Row (.slice (some ⟨b78, 0, none⟩) 1 1) 26 7 exprE ([x1] : List ExprX), okP ExprX.Ok x1, Row (.slice A3 l.length cp3) 9 1 strE l, Row (.slice (some ⟨b54, 0, none⟩) 1 1) 9 1 strE ([wd3] : List ByteArray), Row (.slice A1 Lg.totals.length cp1) 9 1 strE Lg.totals, .blk b6 [iV 3, iV 0, iV 0, .string wd1, Zs, .slice A3 l.length cp3, .slice (some ⟨b78, 0, none⟩) 1 1] 26, .blk b4 Zx 26] ?_
     refine l_nil (e_go hK22 ?_)
     refine c_seq fun _ hK23 => ?_
     refine c_region ?_
     refine l_val wn (r_move rfl) rfl ?_
     refine l_val wn (r_lbn 7 [iV 3, iV 0, iV 0, .string wd1, Zs, .slice A3 l.length cp3, .slice (some ⟨b78, 0, none⟩) 1 1] rfl rfl rfl rfl agg26 inf26) rfl ?_
     refine l_sealX 4 0 encString rfl rfl (fp2) ?_
     refine l_sealX 2 0 encExprX rfl rfl (fp2) ?_
     refine l_mem (fun _ h => h.exprG (k := 3) (n := 0) (r := 0) (wd := wd1) (ms := ⟨none, 0, []⟩) (bs := ⟨A3, cp3, l⟩) (ks := ⟨(some ⟨b78, 0, none⟩), 1, ([x1] : List ExprX)⟩) (fun _ _ => FlatSl.nil_ _ _ _ _) (fun _ pp => pp.sl 4 rfl) (fun _ pp => pp.sl 2 rfl) (fun _ pp x hx => by simp only [List.mem_cons, List.not_mem_nil, or_false] at hx; rcases hx with rfl <;> first | exact pp.at_ 3 _ rfl) (by first | decide | omega) (fun x hx => by cases hx) (fun x hx => by have := Pz.byL_size 5 (by show _ ≤ s.size; omega) hx2 (fun y hy => by rw [List.mem_singleton.1 hy]; omega) x hx; omega)) ?_
     refine l_giveX (α := Unit) (PT := 61) [Rb 64 p s j11 m8, .pub ErrV] [okP ExprX.Ok (ExprX.mk 3 0 0 wd1 ⟨none, 0, []⟩ ⟨A3, cp3, l⟩ ⟨(some ⟨b78, 0, none⟩), 1, ([x1] : List ExprX)⟩), slP 7 exprE (.slice (some ⟨b78, 0, none⟩) 1 1) ([x1] : List ExprX), okP ExprX.Ok x1, slP 1 strE (.slice A3 l.length cp3) l, Row (.slice (some ⟨b54, 0, none⟩) 1 1) 9 1 strE ([wd3] : List ByteArray), Row (.slice A1 Lg.totals.length cp1) 9 1 strE Lg.totals, .blk b6 [iV 3, iV 0, iV 0, .string wd1, Zs, .slice A3 l.length cp3, .slice (some ⟨b78, 0, none⟩) 1 1] 26, .blk b4 Zx 26] (fun _ : Unit => .agg (List.toArray [iV 3, iV 0, iV 0, .string wd1, Zs, .slice A3 l.length cp3, .slice (some ⟨b78, 0, none⟩) 1 1])) (fun z13 => m8 + 1 ≤ 100) (fun z13 => [Rb 64 p s j11 (m8 + 1), .pub ErrV]) (fun z13 => [Rb 64 p s j11 (m8 + 1), .pub ErrV, okP ExprX.Ok (ExprX.mk 3 0 0 wd1 ⟨none, 0, []⟩ ⟨A3, cp3, l⟩ ⟨(some ⟨b78, 0, none⟩), 1, ([x1] : List ExprX)⟩), slP 7 exprE (.slice (some ⟨b78, 0, none⟩) 1 1) ([x1] : List ExprX), okP ExprX.Ok x1, slP 1 strE (.slice A3 l.length cp3) l, Row (.slice (some ⟨b54, 0, none⟩) 1 1) 9 1 strE ([wd3] : List ByteArray), Row (.slice A1 Lg.totals.length cp1) 9 1 strE Lg.totals, .blk b6 [iV 3, iV 0, iV 0, .string wd1, Zs, .slice A3 l.length cp3, .slice (some ⟨b78, 0, none⟩) 1 1] 26, .blk b4 Zx 26]) (fun f12 => Pz.node ⟨j11, m8⟩ = .no f12) (fun _ => rfl) (fun _ h => h.sel [1, 2, 0, 3, 4, 5, 6, 7, 8, 9] (by decide) rfl) (fun _ => rfl) wn rfl rfl Tryd.call51 rfl (fun w1 Pb hG => c_node p s j11 m8 3 0 0 wd1 none 0 0 A3 l.length cp3 (some ⟨b78, 0, none⟩) 1 1 Pb w1 hG (by omega) (by omega) (by omega)) ?_ fun z13 hz15 => ?_
     · intro f12 hf12
       refine e_then_p (e_body_p fun w1 hM => ?_)
       exact hM.retPan f12 (by first | (simp only [Pz.then_ok, Pz.then_no, Pz.St.go, if_true, if_false, Bool.false_eq_true, Bool.true_eq_false, not_true_eq_false, not_false_eq_true, ne_eq, and_true, true_and, and_false, false_and, and_self, not_and, Pz.all, Pz.bys, Pz.allTail, ExprX.e, ExprX.es, hz1e, he1, hz4e, he2, g1, g3, he3, he4, g4, hx2, he7, he8, he9, h1, h4, hf12]; done) | simp [Pz.then_ok, Pz.then_no, Pz.St.go, if_true, if_false, Bool.false_eq_true, Bool.true_eq_false, not_true_eq_false, not_false_eq_true, ne_eq, and_true, true_and, and_false, false_and, and_self, not_and, Pz.all, Pz.bys, Pz.allTail, ExprX.e, ExprX.es, hz1e, he1, hz4e, he2, g1, g3, he3, he4, g4, hx2, he7, he8, he9, h1, h4, hf12])
     have he10 : Pz.node ⟨j11, m8⟩ = .ok ⟨j11, m8 + 1⟩ := Pz.node_yes hz15
     refine l_stn 9 wn rfl rfl rfl inf26 rfl rfl rfl ?_
     refine l_nil (e_go hK23 ?_)
     refine c_ret (e_ret1 (.inl rfl) Tryd.results78 (rv_cell 9 rfl rfl agg26 inf26 rfl) fun w1 hM => ?_)
     have h9 : Pz.all s (Pz.xpr s N) ⟨i, n⟩ = .ok ((ExprX.mk 3 0 0 wd1 ⟨none, 0, []⟩ ⟨A3, cp3, l⟩ ⟨(some ⟨b78, 0, none⟩), 1, ([x1] : List ExprX)⟩).e, ⟨j11, (m8 + 1)⟩) := by first | (simp only [Pz.then_ok, Pz.then_no, Pz.St.go, if_true, if_false, Bool.false_eq_true, Bool.true_eq_false, not_true_eq_false, not_false_eq_true, ne_eq, and_true, true_and, and_false, false_and, and_self, not_and, Pz.all, Pz.bys, Pz.allTail, ExprX.e, ExprX.es, hz1e, he1, hz4e, he2, g1, g3, he3, he4, g4, hx2, he7, he8, he9, he10, h1, h4]; done) | simp [Pz.then_ok, Pz.then_no, Pz.St.go, if_true, if_false, Bool.false_eq_true, Bool.true_eq_false, not_true_eq_false, not_false_eq_true, ne_eq, and_true, true_and, and_false, false_and, and_self, not_and, Pz.all, Pz.bys, Pz.allTail, ExprX.e, ExprX.es, hz1e, he1, hz4e, he2, g1, g3, he3, he4, g4, hx2, he7, he8, he9, he10, h1, h4]
     exact hM.retX (((ExprX.mk 3 0 0 wd1 ⟨none, 0, []⟩ ⟨A3, cp3, l⟩ ⟨(some ⟨b78, 0, none⟩), 1, ([x1] : List ExprX)⟩), ⟨j11, (m8 + 1)⟩) : ExprX × Pz.St) rfl ⟨h9, (Pz.all_fine (Pz.xpr_fine s N) hi).ok_ h9⟩ (fun h => h.sel [0, 1, 2] (by decide) rfl)
   refine n_oneX (i := 3) rfl fun KN hKN hPN => ?_
   refine l_giveX (α := ByteArray × Pz.St) (PT := 61) [Rb 64 p s j4 m2, .pub ErrV] [Row (.slice A1 Lg.totals.length cp1) 9 1 strE Lg.totals, .blk b6 [iV 3, iV 0, iV 0, .string wd1, Zs, Zs, Zs] 26, .blk b4 Zx 26] (fun z : ByteArray × Pz.St => .string z.1) (fun z14 => Pz.name s ⟨j4, m2⟩ = .ok z14 ∧ Pz.Good s ⟨j4, m2⟩ z14.2) (fun z14 => [Rb 64 p s z14.2.at_ z14.2.nd, .pub ErrV]) _ (fun f13 => Pz.name s ⟨j4, m2⟩ = .no f13) (fun _ => rfl) (fun _ h => h.sel [0, 1, 2, 3, 4] (by decide) rfl) (fun _ => rfl) wn rfl rfl Tryd.call87 rfl (fun w1 Pb hG => c_name p s j4 m2  Pb w1 hG (by omega) (by omega) (by omega) ) ?_ fun z14 hz16 => ?_
   · intro f13 hf13
     refine e_node_p hPN (e_then_p (e_then_p (e_body_p fun w1 hM => ?_)))
     exact hM.retPan f13 (by first | (simp only [Pz.then_ok, Pz.then_no, Pz.St.go, if_true, if_false, Bool.false_eq_true, Bool.true_eq_false, not_true_eq_false, not_false_eq_true, ne_eq, and_true, true_and, and_false, false_and, and_self, not_and, Pz.all, Pz.bys, Pz.allTail, ExprX.e, ExprX.es, hz1e, he1, hz4e, he2, g1, g3, h1, hf13]; done) | simp [Pz.then_ok, Pz.then_no, Pz.St.go, if_true, if_false, Bool.false_eq_true, Bool.true_eq_false, not_true_eq_false, not_false_eq_true, ne_eq, and_true, true_and, and_false, false_and, and_self, not_and, Pz.all, Pz.bys, Pz.allTail, ExprX.e, ExprX.es, hz1e, he1, hz4e, he2, g1, g3, h1, hf13])
   obtain ⟨wd6, j12, m9⟩ := z14
   have he11 : Pz.name s ⟨j4, m2⟩ = .ok (wd6, ⟨j12, m9⟩) := hz16.1
   have ga9 : j12 ≤ s.size := hz16.2.at_
   have gm9 : m2 ≤ m9 := hz16.2.mono
   have gn9 : m9 ≤ 100 := hz16.2.most (show m2 ≤ 100 by omega)
   have wz6 : wd6.size ≤ 12 := Pz.name_size (t := ⟨j4, m2⟩) (show j4 ≤ _ by omega) he11
   refine l_as 53 (.string wd6) [Rb 64 p s j12 m9, .pub ErrV, Row (.slice A1 Lg.totals.length cp1) 9 1 strE Lg.totals, .blk b6 [iV 3, iV 0, iV 0, .string wd1, Zs, Zs, Zs] 26, .blk b4 Zx 26] ?_
   refine l_nil (hKN _ _ (fun _ h => (h.sel [1, 2, 4] (by decide) rfl)) ?_)
   refine n_step2 (f := 4) (i := 1) (j := 4) rfl (by kernel_rfl) ?_ ?_
   · refine n_oneX (i := 1) rfl fun KN hKN hPN => ?_
     refine l_val wn (r_lb 3 rfl rfl rfl flat23) rfl ?_
     refine l_nil (hKN _ _ (fun _ h => (h.sel [1, 2, 4] (by decide) rfl)) ?_)
     refine n_step1 (f := 3) (i := 4) rfl (by kernel_rfl) ?_
     refine n_oneX (i := 4) rfl fun KN hKN hPN => ?_
     refine l_bsL strE ([wd6] : List ByteArray) wn Tryd.underlying23 inf9 rfl rfl rfl rfl (by decide) (by decide) rfl fun b54 => ?_
     refine l_nil (hKN _ _ (fun _ h => (h.sel [2, 3, 5] (by decide) rfl)) ?_)
     refine n_step1 (f := 2) (i := 5) rfl (by kernel_rfl) ?_
     refine n_oneX (i := 5) rfl fun KN hKN hPN => ?_
     refine l_nilRow (strE : ByteArray → List Value) 9 1 ?_
     refine l_app 0 ([] : List ByteArray) ([wd6] : List ByteArray) encString wn rfl rfl rfl (fun _ hM => (RowSl encString hM 1 rfl)) Tryd.underlying23 inf9 rfl rfl (by simp only [List.length_append, List.length_cons, List.length_nil]; omega) rfl fun A7 cp7 hc7 hm7 hA7 => ?_
     refine l_nil (hKN _ _ (fun _ h => (h.sel [3, 4, 6] (by decide) rfl)) ?_)
     refine n_run (f := 1) [6] rfl rfl (by kernel_rfl) (by kernel_rfl) (fun _ h => (h.sel [3, 4, 6] (by decide) rfl)) fun KS hKS => ?_
     refine s_val wn (r_fa rfl fld26_5) rfl ?_
     refine s_end hKS ?_
     refine n_step1 (f := 0) (i := 7) rfl (by kernel_rfl) ?_
     refine n_oneX (i := 7) rfl fun KN hKN hPN => ?_
     refine l_st1 5 wn rfl rfl rfl rfl inf23 rfl rfl ?_
     refine l_nil (hKN _ _ (fun _ h => (h.sel [3, 4, 6] (by decide) rfl)) ?_)
     refine n_done (by kernel_rfl) (e_go hK15 ?_)
     refine c_block ?_
     refine c_loop5 (fun (l : List ByteArray) (k : Nat) (m : Int) (q : Nat) (rv : Value) => [(0, .pointer (some ⟨p, 0, none⟩)), (1, iV d), (4, .pointer (some ⟨b4, 0, none⟩)), (6, .pointer (some ⟨b6, 0, none⟩))]) (fun (l : List ByteArray) (k : Nat) (m : Int) (q : Nat) (rv : Value) => [Row rv 9 1 strE l, Row (.slice (some ⟨b54, 0, none⟩) 1 1) 9 1 strE ([wd6] : List ByteArray), Rb 64 p s k m, .pub ErrV, Row (.slice A1 Lg.totals.length cp1) 9 1 strE Lg.totals, .blk b6 [iV 3, iV 0, iV 0, .string wd1, Zs, rv, Zs] 26, .blk b4 Zx 26]) (fun (l : List ByteArray) (k : Nat) (m : Int) (q : Nat) (rv : Value) => Pz.byL s 5 [wd6] ⟨j12, m9⟩ = Pz.byL s (q + 1) l ⟨k, m⟩ ∧ l.length + q = 5 ∧ l.length ≤ 4 ∧ k ≤ s.size ∧ m9 ≤ m ∧ m ≤ 100) (fun (l : List ByteArray) (k : Nat) (m : Int) (q : Nat) (rv : Value) => q) (([] : List ByteArray) ++ ([wd6] : List ByteArray)) j12 m9 4 (.slice A7 ((([] : List ByteArray) ++ ([wd6] : List ByteArray)).length) cp7) (sc rfl (sc rfl (sc rfl (sc rfl sn)))) (fun _ h => h) ?_ (fun l k m q rv hI2 => ?_)
     · exact ⟨rfl, rfl, by simp, by omega, by omega, by omega⟩
     refine c_open 0 (l := l) rfl fun A8 cp8 hv2 hc8 hm8 hA8 => ?_
     subst hv2
     refine c_seq fun _ hK24 => ?_
     refine c_seq fun _ hK25 => ?_
     refine c_region ?_
     refine l_val wn (r_move rfl) rfl ?_
     refine l_give (α := (Bool × Nat)) [Rb 64 p s k m, .pub ErrV] [Row (.slice A8 l.length cp8) 9 1 strE l, Row (.slice (some ⟨b54, 0, none⟩) 1 1) 9 1 strE ([wd6] : List ByteArray), Row (.slice A1 Lg.totals.length cp1) 9 1 strE Lg.totals, .blk b6 [iV 3, iV 0, iV 0, .string wd1, Zs, .slice A8 l.length cp8, Zs] 26, .blk b4 Zx 26] (fun z : Bool × Nat => .bool z.1) (fun z15 => (Pz.eat s ⟨#[44]⟩ k = z15 ∧ k ≤ z15.2 ∧ z15.2 ≤ s.size)) (fun z15 => [Rb 64 p s z15.2 m, .pub ErrV]) _ (fun _ => rfl) (fun _ h => h.sel [2, 3, 0, 1, 4, 5, 6] (by decide) rfl) (fun _ => rfl) wn rfl rfl Tryd.call50 rfl (fun w1 Pb hG => c_eat p s k m ⟨#[44]⟩ Pb w1 hG (by omega) (by omega)) fun z15 hz17 => ?_
     obtain ⟨bo2, j13⟩ := z15
     have he12 : Pz.eat s ⟨#[44]⟩ k = (bo2, j13) := hz17.1
     have hz17a : k ≤ j13 := hz17.2.1
     have hz17b : j13 ≤ s.size := hz17.2.2
     refine l_as 58 (.bool bo2) [Rb 64 p s j13 m, .pub ErrV, Row (.slice A8 l.length cp8) 9 1 strE l, Row (.slice (some ⟨b54, 0, none⟩) 1 1) 9 1 strE ([wd6] : List ByteArray), Row (.slice A1 Lg.totals.length cp1) 9 1 strE Lg.totals, .blk b6 [iV 3, iV 0, iV 0, .string wd1, Zs, .slice A8 l.length cp8, Zs] 26, .blk b4 Zx 26] ?_
     refine l_nil (e_go hK25 ?_)
     refine c_condb rfl (fun h6 => ?_) (fun h6 => ?_)
     · have hx3 := hI2.1
       refine c_skip (e_go hK24 ?_)
       refine c_block ?_
       refine c_seq fun _ hK26 => ?_
       refine c_seq fun _ hK27 => ?_
       refine c_region ?_
       refine l_val wn (r_fa rfl fld26_5) rfl ?_
       refine l_val wn (r_lb 5 rfl rfl rfl flat23) rfl ?_
       refine l_val wn (r_len rfl Tryd.underlying23) rfl ?_
       refine l_val wn (r_eql rfl rfl) rfl ?_
       refine l_nil (e_go hK27 ?_)
       refine c_cond rfl (fun h7 => ?_) (fun h7 => ?_)
       · refine c_region ?_
         refine l_val wn (r_move rfl) rfl ?_
         refine l_giveX (α := Unit) (PT := 61) [Rb 64 p s j13 m, .pub ErrV] [Row (.slice A8 l.length cp8) 9 1 strE l, Row (.slice (some ⟨b54, 0, none⟩) 1 1) 9 1 strE ([wd6] : List ByteArray), Row (.slice A1 Lg.totals.length cp1) 9 1 strE Lg.totals, .blk b6 [iV 3, iV 0, iV 0, .string wd1, Zs, .slice A8 l.length cp8, Zs] 26, .blk b4 Zx 26] (fun _ : Unit => .tuple #[]) (fun z16 => False) (fun z16 => [Rb 64 p s j13 m, .pub ErrV]) (fun z16 => [Rb 64 p s j13 m, .pub ErrV, Row (.slice A8 l.length cp8) 9 1 strE l, Row (.slice (some ⟨b54, 0, none⟩) 1 1) 9 1 strE ([wd6] : List ByteArray), Row (.slice A1 Lg.totals.length cp1) 9 1 strE Lg.totals, .blk b6 [iV 3, iV 0, iV 0, .string wd1, Zs, .slice A8 l.length cp8, Zs] 26, .blk b4 Zx 26]) (fun f14 => f14 = (5, (j13 : Int))) (fun _ => rfl) (fun _ h => h.sel [0, 1, 2, 3, 4, 5, 6] (by decide) rfl) (fun _ => rfl) wn rfl rfl Tryd.call32 rfl (fun w1 Pb hG => c_fail p s j13 m 5 Pb w1 hG) ?_ fun z16 hz18 => ?_
         · intro f14 hf14
           refine e_then_p (e_in_p (e_loop5_p (e_in_p (e_then_p (e_body_p fun w1 hM => ?_)))))
           have hY := Pz.by_many hx3 (by rw [he12, h6]) h7
           exact hM.retPan f14 (by simp only [Pz.then_ok, Pz.then_no, Pz.St.go, if_true, if_false, Bool.false_eq_true, Bool.true_eq_false, not_true_eq_false, not_false_eq_true, ne_eq, and_true, true_and, and_false, false_and, and_self, not_and, Pz.all, Pz.bys, Pz.allTail, ExprX.e, ExprX.es, hz1e, he1, hz4e, he2, g1, g3, he11, he12, h1, hY, hf14])
         exact hz18.elim
       refine c_skip (e_go hK26 ?_)
       refine c_nodes (Mem w ⟨fpOf [Rb 64 p s i n, .pub ErrV], Pb⟩ [.pub ErrV, Row (.slice (some ⟨b54, 0, none⟩) 1 1) 9 1 strE ([wd6] : List ByteArray), Row (.slice A1 Lg.totals.length cp1) 9 1 strE Lg.totals, .blk b4 Zx 26]) mix (fun _ h => h.drew) rfl ?_
       refine n_run (f := 6) [0, 2] rfl rfl (by kernel_rfl) (by kernel_rfl) (fun _ h => (h.sel [1, 3, 4, 6] (by decide) rfl)) fun KS hKS => ?_
       refine s_val wn (r_fa rfl fld26_5) rfl ?_
       refine s_val wn (r_move rfl) rfl ?_
       refine s_end hKS ?_
       refine n_step2 (f := 5) (i := 1) (j := 3) rfl (by kernel_rfl) ?_ ?_
       · refine n_oneX (i := 1) rfl fun KN hKN hPN => ?_
         refine l_val wn (r_lb 5 rfl rfl rfl flat23) rfl ?_
         refine l_nil (hKN _ _ (fun _ h => (h.sel [1, 3, 4, 6] (by decide) rfl)) ?_)
         refine n_step1 (f := 4) (i := 3) rfl (by kernel_rfl) ?_
         refine n_oneX (i := 3) rfl fun KN hKN hPN => ?_
         refine l_giveX (α := ByteArray × Pz.St) (PT := 61) [Rb 64 p s j13 m, .pub ErrV] [Row (.slice A8 l.length cp8) 9 1 strE l, Row (.slice (some ⟨b54, 0, none⟩) 1 1) 9 1 strE ([wd6] : List ByteArray), Row (.slice A1 Lg.totals.length cp1) 9 1 strE Lg.totals, .blk b6 [iV 3, iV 0, iV 0, .string wd1, Zs, .slice A8 l.length cp8, Zs] 26, .blk b4 Zx 26] (fun z : ByteArray × Pz.St => .string z.1) (fun z17 => Pz.name s ⟨j13, m⟩ = .ok z17 ∧ Pz.Good s ⟨j13, m⟩ z17.2) (fun z17 => [Rb 64 p s z17.2.at_ z17.2.nd, .pub ErrV]) _ (fun f15 => Pz.name s ⟨j13, m⟩ = .no f15) (fun _ => rfl) (fun _ h => h.sel [0, 1, 2, 3, 4, 5, 6] (by decide) rfl) (fun _ => rfl) wn rfl rfl Tryd.call87 rfl (fun w1 Pb hG => c_name p s j13 m  Pb w1 hG (by omega) (by omega) (by omega) ) ?_ fun z17 hz19 => ?_
         · intro f15 hf15
           refine e_node_p hPN (e_in_p (e_loop5_p (e_in_p (e_then_p (e_body_p fun w1 hM => ?_)))))
           have hY := Pz.by_next hx3 (by rw [he12, h6]) h7 hf15
           rw [Pz.then_no] at hY
           exact hM.retPan f15 (by simp only [Pz.then_ok, Pz.then_no, Pz.St.go, if_true, if_false, Bool.false_eq_true, Bool.true_eq_false, not_true_eq_false, not_false_eq_true, ne_eq, and_true, true_and, and_false, false_and, and_self, not_and, Pz.all, Pz.bys, Pz.allTail, ExprX.e, ExprX.es, hz1e, he1, hz4e, he2, g1, g3, he11, he12, h1, hY])
         obtain ⟨wd7, j14, m10⟩ := z17
         have he13 : Pz.name s ⟨j13, m⟩ = .ok (wd7, ⟨j14, m10⟩) := hz19.1
         have ga10 : j14 ≤ s.size := hz19.2.at_
         have gm10 : m ≤ m10 := hz19.2.mono
         have gn10 : m10 ≤ 100 := hz19.2.most (show m ≤ 100 by omega)
         have wz7 : wd7.size ≤ 12 := Pz.name_size (t := ⟨j13, m⟩) (show j13 ≤ _ by omega) he13
         refine l_as 68 (.string wd7) [Rb 64 p s j14 m10, .pub ErrV, Row (.slice A8 l.length cp8) 9 1 strE l, Row (.slice (some ⟨b54, 0, none⟩) 1 1) 9 1 strE ([wd6] : List ByteArray), Row (.slice A1 Lg.totals.length cp1) 9 1 strE Lg.totals, .blk b6 [iV 3, iV 0, iV 0, .string wd1, Zs, .slice A8 l.length cp8, Zs] 26, .blk b4 Zx 26] ?_
         refine l_nil (hKN _ _ (fun _ h => (h.sel [1, 3, 4, 6] (by decide) rfl)) ?_)
         refine n_step1 (f := 3) (i := 4) rfl (by kernel_rfl) ?_
         refine n_oneX (i := 4) rfl fun KN hKN hPN => ?_
         refine l_bsL strE ([wd7] : List ByteArray) wn Tryd.underlying23 inf9 rfl rfl rfl rfl (by decide) (by decide) rfl fun b69 => ?_
         refine l_nil (hKN _ _ (fun _ h => (h.sel [2, 4, 5, 7] (by decide) rfl)) ?_)
         refine n_step1 (f := 2) (i := 5) rfl (by kernel_rfl) ?_
         refine n_oneX (i := 5) rfl fun KN hKN hPN => ?_
         refine l_app 3 l ([wd7] : List ByteArray) encString wn rfl rfl rfl (fun _ hM => (RowSl encString hM 0 rfl)) Tryd.underlying23 inf9 rfl rfl (by simp only [List.length_append, List.length_cons, List.length_nil]; omega) rfl fun A9 cp9 hc9 hm9 hA9 => ?_
         refine l_nil (hKN _ _ (fun _ h => (h.sel [2, 4, 5, 7] (by decide) rfl)) ?_)
         refine n_run (f := 1) [6] rfl rfl (by kernel_rfl) (by kernel_rfl) (fun _ h => (h.sel [2, 4, 5, 7] (by decide) rfl)) fun KS hKS => ?_
         refine s_val wn (r_fa rfl fld26_5) rfl ?_
         refine s_end hKS ?_
         refine n_step1 (f := 0) (i := 7) rfl (by kernel_rfl) ?_
         refine n_oneX (i := 7) rfl fun KN hKN hPN => ?_
         refine l_st1 6 wn rfl rfl rfl rfl inf23 rfl rfl ?_
         refine l_nil (hKN _ _ (fun _ h => (h.sel [2, 4, 5, 7] (by decide) rfl)) ?_)
         refine n_done (by kernel_rfl) (e_in_n (e_round5 (l ++ ([wd7] : List ByteArray)) j14 m10 (q - 1) (.slice A9 ((l ++ ([wd7] : List ByteArray)).length) cp9) (sc rfl (sc rfl (sc rfl (sc rfl sn)))) (fun _ h => (h.sel [3, 4, 1, 2, 5, 6, 7] (by decide) rfl)) ?_ ?_))
         · have hY := Pz.by_next hx3 (by rw [he12, h6]) h7 he13
           rw [Pz.then_ok] at hY
           exact ⟨hY.trans (by rw [show q - 1 + 1 = q by omega]), by simp only [List.length_append, List.length_cons, List.length_nil]; omega, by simp only [List.length_append, List.length_cons, List.length_nil]; omega, by omega, by omega, by omega⟩
         omega
       refine n_oneX (i := 3) rfl fun KN hKN hPN => ?_
       refine l_giveX (α := ByteArray × Pz.St) (PT := 61) [Rb 64 p s j13 m, .pub ErrV] [Row (.slice A8 l.length cp8) 9 1 strE l, Row (.slice (some ⟨b54, 0, none⟩) 1 1) 9 1 strE ([wd6] : List ByteArray), Row (.slice A1 Lg.totals.length cp1) 9 1 strE Lg.totals, .blk b6 [iV 3, iV 0, iV 0, .string wd1, Zs, .slice A8 l.length cp8, Zs] 26, .blk b4 Zx 26] (fun z : ByteArray × Pz.St => .string z.1) (fun z18 => Pz.name s ⟨j13, m⟩ = .ok z18 ∧ Pz.Good s ⟨j13, m⟩ z18.2) (fun z18 => [Rb 64 p s z18.2.at_ z18.2.nd, .pub ErrV]) _ (fun f16 => Pz.name s ⟨j13, m⟩ = .no f16) (fun _ => rfl) (fun _ h => h.sel [0, 1, 2, 3, 4, 5, 6] (by decide) rfl) (fun _ => rfl) wn rfl rfl Tryd.call87 rfl (fun w1 Pb hG => c_name p s j13 m  Pb w1 hG (by omega) (by omega) (by omega) ) ?_ fun z18 hz20 => ?_
       · intro f16 hf16
         refine e_node_p hPN (e_in_p (e_loop5_p (e_in_p (e_then_p (e_body_p fun w1 hM => ?_)))))
         have hY := Pz.by_next hx3 (by rw [he12, h6]) h7 hf16
         rw [Pz.then_no] at hY
         exact hM.retPan f16 (by simp only [Pz.then_ok, Pz.then_no, Pz.St.go, if_true, if_false, Bool.false_eq_true, Bool.true_eq_false, not_true_eq_false, not_false_eq_true, ne_eq, and_true, true_and, and_false, false_and, and_self, not_and, Pz.all, Pz.bys, Pz.allTail, ExprX.e, ExprX.es, hz1e, he1, hz4e, he2, g1, g3, he11, he12, h1, hY])
       obtain ⟨wd8, j15, m11⟩ := z18
       have he14 : Pz.name s ⟨j13, m⟩ = .ok (wd8, ⟨j15, m11⟩) := hz20.1
       have ga11 : j15 ≤ s.size := hz20.2.at_
       have gm11 : m ≤ m11 := hz20.2.mono
       have gn11 : m11 ≤ 100 := hz20.2.most (show m ≤ 100 by omega)
       have wz8 : wd8.size ≤ 12 := Pz.name_size (t := ⟨j13, m⟩) (show j13 ≤ _ by omega) he14
       refine l_as 68 (.string wd8) [Rb 64 p s j15 m11, .pub ErrV, Row (.slice A8 l.length cp8) 9 1 strE l, Row (.slice (some ⟨b54, 0, none⟩) 1 1) 9 1 strE ([wd6] : List ByteArray), Row (.slice A1 Lg.totals.length cp1) 9 1 strE Lg.totals, .blk b6 [iV 3, iV 0, iV 0, .string wd1, Zs, .slice A8 l.length cp8, Zs] 26, .blk b4 Zx 26] ?_
       refine l_nil (hKN _ _ (fun _ h => (h.sel [1, 3, 4, 6] (by decide) rfl)) ?_)
       refine n_step2 (f := 4) (i := 1) (j := 4) rfl (by kernel_rfl) ?_ ?_
       · refine n_oneX (i := 1) rfl fun KN hKN hPN => ?_
         refine l_val wn (r_lb 5 rfl rfl rfl flat23) rfl ?_
         refine l_nil (hKN _ _ (fun _ h => (h.sel [1, 3, 4, 6] (by decide) rfl)) ?_)
         refine n_step1 (f := 3) (i := 4) rfl (by kernel_rfl) ?_
         refine n_oneX (i := 4) rfl fun KN hKN hPN => ?_
         refine l_bsL strE ([wd8] : List ByteArray) wn Tryd.underlying23 inf9 rfl rfl rfl rfl (by decide) (by decide) rfl fun b69 => ?_
         refine l_nil (hKN _ _ (fun _ h => (h.sel [2, 4, 5, 7] (by decide) rfl)) ?_)
         refine n_step1 (f := 2) (i := 5) rfl (by kernel_rfl) ?_
         refine n_oneX (i := 5) rfl fun KN hKN hPN => ?_
         refine l_app 3 l ([wd8] : List ByteArray) encString wn rfl rfl rfl (fun _ hM => (RowSl encString hM 0 rfl)) Tryd.underlying23 inf9 rfl rfl (by simp only [List.length_append, List.length_cons, List.length_nil]; omega) rfl fun A10 cp10 hc10 hm10 hA10 => ?_
         refine l_nil (hKN _ _ (fun _ h => (h.sel [2, 4, 5, 7] (by decide) rfl)) ?_)
         refine n_run (f := 1) [6] rfl rfl (by kernel_rfl) (by kernel_rfl) (fun _ h => (h.sel [2, 4, 5, 7] (by decide) rfl)) fun KS hKS => ?_
         refine s_val wn (r_fa rfl fld26_5) rfl ?_
         refine s_end hKS ?_
         refine n_step1 (f := 0) (i := 7) rfl (by kernel_rfl) ?_
         refine n_oneX (i := 7) rfl fun KN hKN hPN => ?_
         refine l_st1 6 wn rfl rfl rfl rfl inf23 rfl rfl ?_
         refine l_nil (hKN _ _ (fun _ h => (h.sel [2, 4, 5, 7] (by decide) rfl)) ?_)
         refine n_done (by kernel_rfl) (e_in_n (e_round5 (l ++ ([wd8] : List ByteArray)) j15 m11 (q - 1) (.slice A10 ((l ++ ([wd8] : List ByteArray)).length) cp10) (sc rfl (sc rfl (sc rfl (sc rfl sn)))) (fun _ h => (h.sel [3, 4, 1, 2, 5, 6, 7] (by decide) rfl)) ?_ ?_))
         · have hY := Pz.by_next hx3 (by rw [he12, h6]) h7 he14
           rw [Pz.then_ok] at hY
           exact ⟨hY.trans (by rw [show q - 1 + 1 = q by omega]), by simp only [List.length_append, List.length_cons, List.length_nil]; omega, by simp only [List.length_append, List.length_cons, List.length_nil]; omega, by omega, by omega, by omega⟩
         omega
       refine n_oneX (i := 4) rfl fun KN hKN hPN => ?_
       refine l_bsL strE ([wd8] : List ByteArray) wn Tryd.underlying23 inf9 rfl rfl rfl rfl (by decide) (by decide) rfl fun b69 => ?_
       refine l_nil (hKN _ _ (fun _ h => (h.sel [2, 4, 5, 7] (by decide) rfl)) ?_)
       refine n_step1 (f := 3) (i := 1) rfl (by kernel_rfl) ?_
       refine n_oneX (i := 1) rfl fun KN hKN hPN => ?_
       refine l_val wn (r_lb 6 rfl rfl rfl flat23) rfl ?_
       refine l_nil (hKN _ _ (fun _ h => (h.sel [2, 4, 5, 7] (by decide) rfl)) ?_)
       refine n_step1 (f := 2) (i := 5) rfl (by kernel_rfl) ?_
       refine n_oneX (i := 5) rfl fun KN hKN hPN => ?_
       refine l_app 3 l ([wd8] : List ByteArray) encString wn rfl rfl rfl (fun _ hM => (RowSl encString hM 0 rfl)) Tryd.underlying23 inf9 rfl rfl (by simp only [List.length_append, List.length_cons, List.length_nil]; omega) rfl fun A11 cp11 hc11 hm11 hA11 => ?_
       refine l_nil (hKN _ _ (fun _ h => (h.sel [2, 4, 5, 7] (by decide) rfl)) ?_)
       refine n_run (f := 1) [6] rfl rfl (by kernel_rfl) (by kernel_rfl) (fun _ h => (h.sel [2, 4, 5, 7] (by decide) rfl)) fun KS hKS => ?_
       refine s_val wn (r_fa rfl fld26_5) rfl ?_
       refine s_end hKS ?_
       refine n_step1 (f := 0) (i := 7) rfl (by kernel_rfl) ?_
       refine n_oneX (i := 7) rfl fun KN hKN hPN => ?_
       refine l_st1 6 wn rfl rfl rfl rfl inf23 rfl rfl ?_
       refine l_nil (hKN _ _ (fun _ h => (h.sel [2, 4, 5, 7] (by decide) rfl)) ?_)
       refine n_done (by kernel_rfl) (e_in_n (e_round5 (l ++ ([wd8] : List ByteArray)) j15 m11 (q - 1) (.slice A11 ((l ++ ([wd8] : List ByteArray)).length) cp11) (sc rfl (sc rfl (sc rfl (sc rfl sn)))) (fun _ h => (h.sel [3, 4, 1, 2, 5, 6, 7] (by decide) rfl)) ?_ ?_))
       · have hY := Pz.by_next hx3 (by rw [he12, h6]) h7 he14
         rw [Pz.then_ok] at hY
         exact ⟨hY.trans (by rw [show q - 1 + 1 = q by omega]), by simp only [List.length_append, List.length_cons, List.length_nil]; omega, by simp only [List.length_append, List.length_cons, List.length_nil]; omega, by omega, by omega, by omega⟩
       omega
     have g5 : bo2 = false := by simpa using h6
     have hx4 := Pz.by_done hI2.1 (by rw [he12, g5])
     refine c_exit (e_then_x (e_loop5_x (e_in_hit (e_go hK10 ?_))))
     refine c_seq fun _ hK28 => ?_
     refine c_region ?_
     refine l_val wn (r_move rfl) rfl ?_
     refine l_giveX (α := Pz.St) (PT := 61) [Rb 64 p s j13 m, .pub ErrV] [Row (.slice A8 l.length cp8) 9 1 strE l, Row (.slice (some ⟨b54, 0, none⟩) 1 1) 9 1 strE ([wd6] : List ByteArray), Row (.slice A1 Lg.totals.length cp1) 9 1 strE Lg.totals, .blk b6 [iV 3, iV 0, iV 0, .string wd1, Zs, .slice A8 l.length cp8, Zs] 26, .blk b4 Zx 26] (fun z : Pz.St => .tuple #[]) (fun z19 => Pz.must s ⟨#[40]⟩ ⟨j13, m⟩ = .ok z19 ∧ Pz.Good s ⟨j13, m⟩ z19) (fun z19 => [Rb 64 p s z19.at_ z19.nd, .pub ErrV]) _ (fun f17 => Pz.must s ⟨#[40]⟩ ⟨j13, m⟩ = .no f17) (fun _ => rfl) (fun _ h => h.sel [0, 1, 2, 3, 4, 5, 6] (by decide) rfl) (fun _ => rfl) wn rfl rfl Tryd.call76 rfl (fun w1 Pb hG => c_must p s j13 m ⟨#[40]⟩ Pb w1 hG (by omega) (by omega) (by omega) ) ?_ fun z19 hz21 => ?_
     · intro f17 hf17
       refine e_then_p (e_body_p fun w1 hM => ?_)
       exact hM.retPan f17 (by first | (simp only [Pz.then_ok, Pz.then_no, Pz.St.go, if_true, if_false, Bool.false_eq_true, Bool.true_eq_false, not_true_eq_false, not_false_eq_true, ne_eq, and_true, true_and, and_false, false_and, and_self, not_and, Pz.all, Pz.bys, Pz.allTail, ExprX.e, ExprX.es, hz1e, he1, hz4e, he2, g1, g3, he11, he12, g5, hx4, h1, h6, hf17]; done) | simp [Pz.then_ok, Pz.then_no, Pz.St.go, if_true, if_false, Bool.false_eq_true, Bool.true_eq_false, not_true_eq_false, not_false_eq_true, ne_eq, and_true, true_and, and_false, false_and, and_self, not_and, Pz.all, Pz.bys, Pz.allTail, ExprX.e, ExprX.es, hz1e, he1, hz4e, he2, g1, g3, he11, he12, g5, hx4, h1, h6, hf17])
     obtain ⟨j16, m12⟩ := z19
     have he15 : Pz.must s ⟨#[40]⟩ ⟨j13, m⟩ = .ok ⟨j16, m12⟩ := hz21.1
     have ga12 : j16 ≤ s.size := hz21.2.at_
     have gm12 : m ≤ m12 := hz21.2.mono
     have gn12 : m12 ≤ 100 := hz21.2.most (show m ≤ 100 by omega)
     refine l_as 73 (.tuple (List.toArray [])) [Rb 64 p s j16 m12, .pub ErrV, Row (.slice A8 l.length cp8) 9 1 strE l, Row (.slice (some ⟨b54, 0, none⟩) 1 1) 9 1 strE ([wd6] : List ByteArray), Row (.slice A1 Lg.totals.length cp1) 9 1 strE Lg.totals, .blk b6 [iV 3, iV 0, iV 0, .string wd1, Zs, .slice A8 l.length cp8, Zs] 26, .blk b4 Zx 26] ?_
     refine l_nil (e_go hK28 ?_)
     refine c_seq fun _ hK29 => ?_
     refine c_region ?_
     refine l_val wn (r_move rfl) rfl ?_
     refine l_val wn (r_move rfl) rfl ?_
     refine l_val wn (r_addn rfl rfl (by omega)) rfl ?_
     refine l_giveX (α := ExprX × Pz.St) (PT := 61) [Rb 64 p s j16 m12, .pub ErrV] [Row (.slice A8 l.length cp8) 9 1 strE l, Row (.slice (some ⟨b54, 0, none⟩) 1 1) 9 1 strE ([wd6] : List ByteArray), Row (.slice A1 Lg.totals.length cp1) 9 1 strE Lg.totals, .blk b6 [iV 3, iV 0, iV 0, .string wd1, Zs, .slice A8 l.length cp8, Zs] 26, .blk b4 Zx 26] (fun z : ExprX × Pz.St => .agg (exprE z.1).toArray) (fun z20 => Pz.xpr s N ⟨j16, m12⟩ = .ok (z20.1.e, z20.2) ∧ Pz.Good s ⟨j16, m12⟩ z20.2) (fun z20 => [Rb 64 p s z20.2.at_ z20.2.nd, .pub ErrV, okP ExprX.Ok z20.1]) _ (fun f18 => Pz.xpr s N ⟨j16, m12⟩ = .no f18) (fun _ => rfl) (fun _ h => h.sel [0, 1, 2, 3, 4, 5, 6] (by decide) rfl) (fun _ => rfl) wn rfl rfl Tryd.call30 rfl (fun w1 Pb hG => ih p s j16 m12 (d + 1) Pb w1 hG (by omega) (by omega) (by omega) (by omega) (by omega)) ?_ fun z20 hz22 => ?_
     · intro f18 hf18
       refine e_then_p (e_body_p fun w1 hM => ?_)
       exact hM.retPan f18 (by first | (simp only [Pz.then_ok, Pz.then_no, Pz.St.go, if_true, if_false, Bool.false_eq_true, Bool.true_eq_false, not_true_eq_false, not_false_eq_true, ne_eq, and_true, true_and, and_false, false_and, and_self, not_and, Pz.all, Pz.bys, Pz.allTail, ExprX.e, ExprX.es, hz1e, he1, hz4e, he2, g1, g3, he11, he12, g5, hx4, he15, h1, h6, hf18]; done) | simp [Pz.then_ok, Pz.then_no, Pz.St.go, if_true, if_false, Bool.false_eq_true, Bool.true_eq_false, not_true_eq_false, not_false_eq_true, ne_eq, and_true, true_and, and_false, false_and, and_self, not_and, Pz.all, Pz.bys, Pz.allTail, ExprX.e, ExprX.es, hz1e, he1, hz4e, he2, g1, g3, he11, he12, g5, hx4, he15, h1, h6, hf18])
     obtain ⟨x2, j17, m13⟩ := z20
     have he16 : Pz.xpr s N ⟨j16, m12⟩ = .ok (x2.e, ⟨j17, m13⟩) := hz22.1
     have ga13 : j17 ≤ s.size := hz22.2.at_
     have gm13 : m12 ≤ m13 := hz22.2.mono
     have gn13 : m13 ≤ 100 := hz22.2.most (show m12 ≤ 100 by omega)
     refine l_as 77 (.agg (List.toArray [iV x2.kind, iV x2.n, iV x2.range, .string x2.word, .slice x2.ms.A x2.ms.l.length x2.ms.c, .slice x2.by_.A x2.by_.l.length x2.by_.c, .slice x2.kids.A x2.kids.l.length x2.kids.c])) [Rb 64 p s j17 m13, .pub ErrV, okP ExprX.Ok x2, Row (.slice A8 l.length cp8) 9 1 strE l, Row (.slice (some ⟨b54, 0, none⟩) 1 1) 9 1 strE ([wd6] : List ByteArray), Row (.slice A1 Lg.totals.length cp1) 9 1 strE Lg.totals, .blk b6 [iV 3, iV 0, iV 0, .string wd1, Zs, .slice A8 l.length cp8, Zs] 26, .blk b4 Zx 26] ?_
     refine l_bsL exprE ([x2] : List ExprX) wn Tryd.underlying24 inf26 rfl rfl rfl rfl (by decide) (by decide) rfl fun b78 => ?_
     refine l_val wn (r_fa rfl fld26_6) rfl ?_
     refine l_st1 7 wn rfl rfl rfl rfl inf24 rfl rfl ?_
     refine l_nil (e_go hK29 ?_)
     refine c_seq fun _ hK30 => ?_
     refine c_region ?_
     refine l_val wn (r_move rfl) rfl ?_
     refine l_giveX (α := Pz.St) (PT := 61) [Rb 64 p s j17 m13, .pub ErrV] [Row (.slice (some ⟨b78, 0, none⟩) 1 1) 26 7 exprE ([x2] : List ExprX), okP ExprX.Ok x2, Row (.slice A8 l.length cp8) 9 1 strE l, Row (.slice (some ⟨b54, 0, none⟩) 1 1) 9 1 strE ([wd6] : List ByteArray), Row (.slice A1 Lg.totals.length cp1) 9 1 strE Lg.totals, .blk b6 [iV 3, iV 0, iV 0, .string wd1, Zs, .slice A8 l.length cp8, .slice (some ⟨b78, 0, none⟩) 1 1] 26, .blk b4 Zx 26] (fun z : Pz.St => .tuple #[]) (fun z21 => Pz.must s ⟨#[41]⟩ ⟨j17, m13⟩ = .ok z21 ∧ Pz.Good s ⟨j17, m13⟩ z21) (fun z21 => [Rb 64 p s z21.at_ z21.nd, .pub ErrV]) _ (fun f19 => Pz.must s ⟨#[41]⟩ ⟨j17, m13⟩ = .no f19) (fun _ => rfl) (fun _ h => h.sel [1, 2, 0, 3, 4, 5, 6, 7, 8] (by decide) rfl) (fun _ => rfl) wn rfl rfl Tryd.call76 rfl (fun w1 Pb hG => c_must p s j17 m13 ⟨#[41]⟩ Pb w1 hG (by omega) (by omega) (by omega) ) ?_ fun z21 hz23 => ?_
     · intro f19 hf19
       refine e_then_p (e_body_p fun w1 hM => ?_)
       exact hM.retPan f19 (by first | (simp only [Pz.then_ok, Pz.then_no, Pz.St.go, if_true, if_false, Bool.false_eq_true, Bool.true_eq_false, not_true_eq_false, not_false_eq_true, ne_eq, and_true, true_and, and_false, false_and, and_self, not_and, Pz.all, Pz.bys, Pz.allTail, ExprX.e, ExprX.es, hz1e, he1, hz4e, he2, g1, g3, he11, he12, g5, hx4, he15, he16, h1, h6, hf19]; done) | simp [Pz.then_ok, Pz.then_no, Pz.St.go, if_true, if_false, Bool.false_eq_true, Bool.true_eq_false, not_true_eq_false, not_false_eq_true, ne_eq, and_true, true_and, and_false, false_and, and_self, not_and, Pz.all, Pz.bys, Pz.allTail, ExprX.e, ExprX.es, hz1e, he1, hz4e, he2, g1, g3, he11, he12, g5, hx4, he15, he16, h1, h6, hf19])
     obtain ⟨j18, m14⟩ := z21
     have he17 : Pz.must s ⟨#[41]⟩ ⟨j17, m13⟩ = .ok ⟨j18, m14⟩ := hz23.1
     have ga14 : j18 ≤ s.size := hz23.2.at_
     have gm14 : m13 ≤ m14 := hz23.2.mono
     have gn14 : m14 ≤ 100 := hz23.2.most (show m13 ≤ 100 by omega)
     refine l_as 81 (.tuple (List.toArray [])) [Rb 64 p s j18 m14, .pub ErrV, Row (.slice (some ⟨b78, 0, none⟩) 1 1) 26 7 exprE ([x2] : List ExprX), okP ExprX.Ok x2, Row (.slice A8 l.length cp8) 9 1 strE l, Row (.slice (some ⟨b54, 0, none⟩) 1 1) 9 1 strE ([wd6] : List ByteArray), Row (.slice A1 Lg.totals.length cp1) 9 1 strE Lg.totals, .blk b6 [iV 3, iV 0, iV 0, .string wd1, Zs, .slice A8 l.length cp8, .slice (some ⟨b78, 0, none⟩) 1 1] 26, .blk b4 Zx 26] ?_
     refine l_nil (e_go hK30 ?_)
     refine c_seq fun _ hK31 => ?_
     refine c_region ?_
     refine l_val wn (r_move rfl) rfl ?_
     refine l_val wn (r_lbn 7 [iV 3, iV 0, iV 0, .string wd1, Zs, .slice A8 l.length cp8, .slice (some ⟨b78, 0, none⟩) 1 1] rfl rfl rfl rfl agg26 inf26) rfl ?_
     refine l_sealX 4 0 encString rfl rfl (fp2) ?_
     refine l_sealX 2 0 encExprX rfl rfl (fp2) ?_
     refine l_mem (fun _ h => h.exprG (k := 3) (n := 0) (r := 0) (wd := wd1) (ms := ⟨none, 0, []⟩) (bs := ⟨A8, cp8, l⟩) (ks := ⟨(some ⟨b78, 0, none⟩), 1, ([x2] : List ExprX)⟩) (fun _ _ => FlatSl.nil_ _ _ _ _) (fun _ pp => pp.sl 4 rfl) (fun _ pp => pp.sl 2 rfl) (fun _ pp x hx => by simp only [List.mem_cons, List.not_mem_nil, or_false] at hx; rcases hx with rfl <;> first | exact pp.at_ 3 _ rfl) (by first | decide | omega) (fun x hx => by cases hx) (fun x hx => by have := Pz.byL_size 5 (by show _ ≤ s.size; omega) hx4 (fun y hy => by rw [List.mem_singleton.1 hy]; omega) x hx; omega)) ?_
     refine l_giveX (α := Unit) (PT := 61) [Rb 64 p s j18 m14, .pub ErrV] [okP ExprX.Ok (ExprX.mk 3 0 0 wd1 ⟨none, 0, []⟩ ⟨A8, cp8, l⟩ ⟨(some ⟨b78, 0, none⟩), 1, ([x2] : List ExprX)⟩), slP 7 exprE (.slice (some ⟨b78, 0, none⟩) 1 1) ([x2] : List ExprX), okP ExprX.Ok x2, slP 1 strE (.slice A8 l.length cp8) l, Row (.slice (some ⟨b54, 0, none⟩) 1 1) 9 1 strE ([wd6] : List ByteArray), Row (.slice A1 Lg.totals.length cp1) 9 1 strE Lg.totals, .blk b6 [iV 3, iV 0, iV 0, .string wd1, Zs, .slice A8 l.length cp8, .slice (some ⟨b78, 0, none⟩) 1 1] 26, .blk b4 Zx 26] (fun _ : Unit => .agg (List.toArray [iV 3, iV 0, iV 0, .string wd1, Zs, .slice A8 l.length cp8, .slice (some ⟨b78, 0, none⟩) 1 1])) (fun z22 => m14 + 1 ≤ 100) (fun z22 => [Rb 64 p s j18 (m14 + 1), .pub ErrV]) (fun z22 => [Rb 64 p s j18 (m14 + 1), .pub ErrV, okP ExprX.Ok (ExprX.mk 3 0 0 wd1 ⟨none, 0, []⟩ ⟨A8, cp8, l⟩ ⟨(some ⟨b78, 0, none⟩), 1, ([x2] : List ExprX)⟩), slP 7 exprE (.slice (some ⟨b78, 0, none⟩) 1 1) ([x2] : List ExprX), okP ExprX.Ok x2, slP 1 strE (.slice A8 l.length cp8) l, Row (.slice (some ⟨b54, 0, none⟩) 1 1) 9 1 strE ([wd6] : List ByteArray), Row (.slice A1 Lg.totals.length cp1) 9 1 strE Lg.totals, .blk b6 [iV 3, iV 0, iV 0, .string wd1, Zs, .slice A8 l.length cp8, .slice (some ⟨b78, 0, none⟩) 1 1] 26, .blk b4 Zx 26]) (fun f20 => Pz.node ⟨j18, m14⟩ = .no f20) (fun _ => rfl) (fun _ h => h.sel [1, 2, 0, 3, 4, 5, 6, 7, 8, 9] (by decide) rfl) (fun _ => rfl) wn rfl rfl Tryd.call51 rfl (fun w1 Pb hG => c_node p s j18 m14 3 0 0 wd1 none 0 0 A8 l.length cp8 (some ⟨b78, 0, none⟩) 1 1 Pb w1 hG (by omega) (by omega) (by omega)) ?_ fun z22 hz24 => ?_
     · intro f20 hf20
       refine e_then_p (e_body_p fun w1 hM => ?_)
       exact hM.retPan f20 (by first | (simp only [Pz.then_ok, Pz.then_no, Pz.St.go, if_true, if_false, Bool.false_eq_true, Bool.true_eq_false, not_true_eq_false, not_false_eq_true, ne_eq, and_true, true_and, and_false, false_and, and_self, not_and, Pz.all, Pz.bys, Pz.allTail, ExprX.e, ExprX.es, hz1e, he1, hz4e, he2, g1, g3, he11, he12, g5, hx4, he15, he16, he17, h1, h6, hf20]; done) | simp [Pz.then_ok, Pz.then_no, Pz.St.go, if_true, if_false, Bool.false_eq_true, Bool.true_eq_false, not_true_eq_false, not_false_eq_true, ne_eq, and_true, true_and, and_false, false_and, and_self, not_and, Pz.all, Pz.bys, Pz.allTail, ExprX.e, ExprX.es, hz1e, he1, hz4e, he2, g1, g3, he11, he12, g5, hx4, he15, he16, he17, h1, h6, hf20])
     have he18 : Pz.node ⟨j18, m14⟩ = .ok ⟨j18, m14 + 1⟩ := Pz.node_yes hz24
     refine l_stn 9 wn rfl rfl rfl inf26 rfl rfl rfl ?_
     refine l_nil (e_go hK31 ?_)
     refine c_ret (e_ret1 (.inl rfl) Tryd.results78 (rv_cell 9 rfl rfl agg26 inf26 rfl) fun w1 hM => ?_)
     have h9 : Pz.all s (Pz.xpr s N) ⟨i, n⟩ = .ok ((ExprX.mk 3 0 0 wd1 ⟨none, 0, []⟩ ⟨A8, cp8, l⟩ ⟨(some ⟨b78, 0, none⟩), 1, ([x2] : List ExprX)⟩).e, ⟨j18, (m14 + 1)⟩) := by first | (simp only [Pz.then_ok, Pz.then_no, Pz.St.go, if_true, if_false, Bool.false_eq_true, Bool.true_eq_false, not_true_eq_false, not_false_eq_true, ne_eq, and_true, true_and, and_false, false_and, and_self, not_and, Pz.all, Pz.bys, Pz.allTail, ExprX.e, ExprX.es, hz1e, he1, hz4e, he2, g1, g3, he11, he12, g5, hx4, he15, he16, he17, he18, h1, h6]; done) | simp [Pz.then_ok, Pz.then_no, Pz.St.go, if_true, if_false, Bool.false_eq_true, Bool.true_eq_false, not_true_eq_false, not_false_eq_true, ne_eq, and_true, true_and, and_false, false_and, and_self, not_and, Pz.all, Pz.bys, Pz.allTail, ExprX.e, ExprX.es, hz1e, he1, hz4e, he2, g1, g3, he11, he12, g5, hx4, he15, he16, he17, he18, h1, h6]
     exact hM.retX (((ExprX.mk 3 0 0 wd1 ⟨none, 0, []⟩ ⟨A8, cp8, l⟩ ⟨(some ⟨b78, 0, none⟩), 1, ([x2] : List ExprX)⟩), ⟨j18, (m14 + 1)⟩) : ExprX × Pz.St) rfl ⟨h9, (Pz.all_fine (Pz.xpr_fine s N) hi).ok_ h9⟩ (fun h => h.sel [0, 1, 2] (by decide) rfl)
   refine n_oneX (i := 4) rfl fun KN hKN hPN => ?_
   refine l_bsL strE ([wd6] : List ByteArray) wn Tryd.underlying23 inf9 rfl rfl rfl rfl (by decide) (by decide) rfl fun b54 => ?_
   refine l_nil (hKN _ _ (fun _ h => (h.sel [2, 3, 5] (by decide) rfl)) ?_)
   refine n_step1 (f := 3) (i := 1) rfl (by kernel_rfl) ?_
   refine n_oneX (i := 1) rfl fun KN hKN hPN => ?_
   refine l_val wn (r_lb 4 rfl rfl rfl flat23) rfl ?_
   refine l_nil (hKN _ _ (fun _ h => (h.sel [2, 3, 5] (by decide) rfl)) ?_)
   refine n_step1 (f := 2) (i := 5) rfl (by kernel_rfl) ?_
   refine n_oneX (i := 5) rfl fun KN hKN hPN => ?_
   refine l_nilRow (strE : ByteArray → List Value) 9 1 ?_
   refine l_app 0 ([] : List ByteArray) ([wd6] : List ByteArray) encString wn rfl rfl rfl (fun _ hM => (RowSl encString hM 1 rfl)) Tryd.underlying23 inf9 rfl rfl (by simp only [List.length_append, List.length_cons, List.length_nil]; omega) rfl fun A12 cp12 hc12 hm12 hA12 => ?_
   refine l_nil (hKN _ _ (fun _ h => (h.sel [3, 4, 6] (by decide) rfl)) ?_)
   refine n_run (f := 1) [6] rfl rfl (by kernel_rfl) (by kernel_rfl) (fun _ h => (h.sel [3, 4, 6] (by decide) rfl)) fun KS hKS => ?_
   refine s_val wn (r_fa rfl fld26_5) rfl ?_
   refine s_end hKS ?_
   refine n_step1 (f := 0) (i := 7) rfl (by kernel_rfl) ?_
   refine n_oneX (i := 7) rfl fun KN hKN hPN => ?_
   refine l_st1 5 wn rfl rfl rfl rfl inf23 rfl rfl ?_
   refine l_nil (hKN _ _ (fun _ h => (h.sel [3, 4, 6] (by decide) rfl)) ?_)
   refine n_done (by kernel_rfl) (e_go hK15 ?_)
   refine c_block ?_
   refine c_loop5 (fun (l : List ByteArray) (k : Nat) (m : Int) (q : Nat) (rv : Value) => [(0, .pointer (some ⟨p, 0, none⟩)), (1, iV d), (4, .pointer (some ⟨b4, 0, none⟩)), (6, .pointer (some ⟨b6, 0, none⟩))]) (fun (l : List ByteArray) (k : Nat) (m : Int) (q : Nat) (rv : Value) => [Row rv 9 1 strE l, Row (.slice (some ⟨b54, 0, none⟩) 1 1) 9 1 strE ([wd6] : List ByteArray), Rb 64 p s k m, .pub ErrV, Row (.slice A1 Lg.totals.length cp1) 9 1 strE Lg.totals, .blk b6 [iV 3, iV 0, iV 0, .string wd1, Zs, rv, Zs] 26, .blk b4 Zx 26]) (fun (l : List ByteArray) (k : Nat) (m : Int) (q : Nat) (rv : Value) => Pz.byL s 5 [wd6] ⟨j12, m9⟩ = Pz.byL s (q + 1) l ⟨k, m⟩ ∧ l.length + q = 5 ∧ l.length ≤ 4 ∧ k ≤ s.size ∧ m9 ≤ m ∧ m ≤ 100) (fun (l : List ByteArray) (k : Nat) (m : Int) (q : Nat) (rv : Value) => q) (([] : List ByteArray) ++ ([wd6] : List ByteArray)) j12 m9 4 (.slice A12 ((([] : List ByteArray) ++ ([wd6] : List ByteArray)).length) cp12) (sc rfl (sc rfl (sc rfl (sc rfl sn)))) (fun _ h => h) ?_ (fun l k m q rv hI3 => ?_)
   · exact ⟨rfl, rfl, by simp, by omega, by omega, by omega⟩
   refine c_open 0 (l := l) rfl fun A13 cp13 hv3 hc13 hm13 hA13 => ?_
   subst hv3
   refine c_seq fun _ hK32 => ?_
   refine c_seq fun _ hK33 => ?_
   refine c_region ?_
   refine l_val wn (r_move rfl) rfl ?_
   refine l_give (α := (Bool × Nat)) [Rb 64 p s k m, .pub ErrV] [Row (.slice A13 l.length cp13) 9 1 strE l, Row (.slice (some ⟨b54, 0, none⟩) 1 1) 9 1 strE ([wd6] : List ByteArray), Row (.slice A1 Lg.totals.length cp1) 9 1 strE Lg.totals, .blk b6 [iV 3, iV 0, iV 0, .string wd1, Zs, .slice A13 l.length cp13, Zs] 26, .blk b4 Zx 26] (fun z : Bool × Nat => .bool z.1) (fun z23 => (Pz.eat s ⟨#[44]⟩ k = z23 ∧ k ≤ z23.2 ∧ z23.2 ≤ s.size)) (fun z23 => [Rb 64 p s z23.2 m, .pub ErrV]) _ (fun _ => rfl) (fun _ h => h.sel [2, 3, 0, 1, 4, 5, 6] (by decide) rfl) (fun _ => rfl) wn rfl rfl Tryd.call50 rfl (fun w1 Pb hG => c_eat p s k m ⟨#[44]⟩ Pb w1 hG (by omega) (by omega)) fun z23 hz25 => ?_
   obtain ⟨bo3, j19⟩ := z23
   have he19 : Pz.eat s ⟨#[44]⟩ k = (bo3, j19) := hz25.1
   have hz25a : k ≤ j19 := hz25.2.1
   have hz25b : j19 ≤ s.size := hz25.2.2
   refine l_as 58 (.bool bo3) [Rb 64 p s j19 m, .pub ErrV, Row (.slice A13 l.length cp13) 9 1 strE l, Row (.slice (some ⟨b54, 0, none⟩) 1 1) 9 1 strE ([wd6] : List ByteArray), Row (.slice A1 Lg.totals.length cp1) 9 1 strE Lg.totals, .blk b6 [iV 3, iV 0, iV 0, .string wd1, Zs, .slice A13 l.length cp13, Zs] 26, .blk b4 Zx 26] ?_
   refine l_nil (e_go hK33 ?_)
   refine c_condb rfl (fun h8 => ?_) (fun h8 => ?_)
   · have hx5 := hI3.1
     refine c_skip (e_go hK32 ?_)
     refine c_block ?_
     refine c_seq fun _ hK34 => ?_
     refine c_seq fun _ hK35 => ?_
     refine c_region ?_
     refine l_val wn (r_fa rfl fld26_5) rfl ?_
     refine l_val wn (r_lb 5 rfl rfl rfl flat23) rfl ?_
     refine l_val wn (r_len rfl Tryd.underlying23) rfl ?_
     refine l_val wn (r_eql rfl rfl) rfl ?_
     refine l_nil (e_go hK35 ?_)
     refine c_cond rfl (fun h9 => ?_) (fun h9 => ?_)
     · refine c_region ?_
       refine l_val wn (r_move rfl) rfl ?_
       refine l_giveX (α := Unit) (PT := 61) [Rb 64 p s j19 m, .pub ErrV] [Row (.slice A13 l.length cp13) 9 1 strE l, Row (.slice (some ⟨b54, 0, none⟩) 1 1) 9 1 strE ([wd6] : List ByteArray), Row (.slice A1 Lg.totals.length cp1) 9 1 strE Lg.totals, .blk b6 [iV 3, iV 0, iV 0, .string wd1, Zs, .slice A13 l.length cp13, Zs] 26, .blk b4 Zx 26] (fun _ : Unit => .tuple #[]) (fun z24 => False) (fun z24 => [Rb 64 p s j19 m, .pub ErrV]) (fun z24 => [Rb 64 p s j19 m, .pub ErrV, Row (.slice A13 l.length cp13) 9 1 strE l, Row (.slice (some ⟨b54, 0, none⟩) 1 1) 9 1 strE ([wd6] : List ByteArray), Row (.slice A1 Lg.totals.length cp1) 9 1 strE Lg.totals, .blk b6 [iV 3, iV 0, iV 0, .string wd1, Zs, .slice A13 l.length cp13, Zs] 26, .blk b4 Zx 26]) (fun f21 => f21 = (5, (j19 : Int))) (fun _ => rfl) (fun _ h => h.sel [0, 1, 2, 3, 4, 5, 6] (by decide) rfl) (fun _ => rfl) wn rfl rfl Tryd.call32 rfl (fun w1 Pb hG => c_fail p s j19 m 5 Pb w1 hG) ?_ fun z24 hz26 => ?_
       · intro f21 hf21
         refine e_then_p (e_in_p (e_loop5_p (e_in_p (e_then_p (e_body_p fun w1 hM => ?_)))))
         have hY := Pz.by_many hx5 (by rw [he19, h8]) h9
         exact hM.retPan f21 (by simp only [Pz.then_ok, Pz.then_no, Pz.St.go, if_true, if_false, Bool.false_eq_true, Bool.true_eq_false, not_true_eq_false, not_false_eq_true, ne_eq, and_true, true_and, and_false, false_and, and_self, not_and, Pz.all, Pz.bys, Pz.allTail, ExprX.e, ExprX.es, hz1e, he1, hz4e, he2, g1, g3, he11, he19, h1, hY, hf21])
       exact hz26.elim
     refine c_skip (e_go hK34 ?_)
     refine c_nodes (Mem w ⟨fpOf [Rb 64 p s i n, .pub ErrV], Pb⟩ [.pub ErrV, Row (.slice (some ⟨b54, 0, none⟩) 1 1) 9 1 strE ([wd6] : List ByteArray), Row (.slice A1 Lg.totals.length cp1) 9 1 strE Lg.totals, .blk b4 Zx 26]) mix (fun _ h => h.drew) rfl ?_
     refine n_run (f := 6) [0, 2] rfl rfl (by kernel_rfl) (by kernel_rfl) (fun _ h => (h.sel [1, 3, 4, 6] (by decide) rfl)) fun KS hKS => ?_
     refine s_val wn (r_fa rfl fld26_5) rfl ?_
     refine s_val wn (r_move rfl) rfl ?_
     refine s_end hKS ?_
     refine n_step2 (f := 5) (i := 1) (j := 3) rfl (by kernel_rfl) ?_ ?_
     · refine n_oneX (i := 1) rfl fun KN hKN hPN => ?_
       refine l_val wn (r_lb 5 rfl rfl rfl flat23) rfl ?_
       refine l_nil (hKN _ _ (fun _ h => (h.sel [1, 3, 4, 6] (by decide) rfl)) ?_)
       refine n_step1 (f := 4) (i := 3) rfl (by kernel_rfl) ?_
       refine n_oneX (i := 3) rfl fun KN hKN hPN => ?_
       refine l_giveX (α := ByteArray × Pz.St) (PT := 61) [Rb 64 p s j19 m, .pub ErrV] [Row (.slice A13 l.length cp13) 9 1 strE l, Row (.slice (some ⟨b54, 0, none⟩) 1 1) 9 1 strE ([wd6] : List ByteArray), Row (.slice A1 Lg.totals.length cp1) 9 1 strE Lg.totals, .blk b6 [iV 3, iV 0, iV 0, .string wd1, Zs, .slice A13 l.length cp13, Zs] 26, .blk b4 Zx 26] (fun z : ByteArray × Pz.St => .string z.1) (fun z25 => Pz.name s ⟨j19, m⟩ = .ok z25 ∧ Pz.Good s ⟨j19, m⟩ z25.2) (fun z25 => [Rb 64 p s z25.2.at_ z25.2.nd, .pub ErrV]) _ (fun f22 => Pz.name s ⟨j19, m⟩ = .no f22) (fun _ => rfl) (fun _ h => h.sel [0, 1, 2, 3, 4, 5, 6] (by decide) rfl) (fun _ => rfl) wn rfl rfl Tryd.call87 rfl (fun w1 Pb hG => c_name p s j19 m  Pb w1 hG (by omega) (by omega) (by omega) ) ?_ fun z25 hz27 => ?_
       · intro f22 hf22
         refine e_node_p hPN (e_in_p (e_loop5_p (e_in_p (e_then_p (e_body_p fun w1 hM => ?_)))))
         have hY := Pz.by_next hx5 (by rw [he19, h8]) h9 hf22
         rw [Pz.then_no] at hY
         exact hM.retPan f22 (by simp only [Pz.then_ok, Pz.then_no, Pz.St.go, if_true, if_false, Bool.false_eq_true, Bool.true_eq_false, not_true_eq_false, not_false_eq_true, ne_eq, and_true, true_and, and_false, false_and, and_self, not_and, Pz.all, Pz.bys, Pz.allTail, ExprX.e, ExprX.es, hz1e, he1, hz4e, he2, g1, g3, he11, he19, h1, hY])
       obtain ⟨wd9, j20, m15⟩ := z25
       have he20 : Pz.name s ⟨j19, m⟩ = .ok (wd9, ⟨j20, m15⟩) := hz27.1
       have ga15 : j20 ≤ s.size := hz27.2.at_
       have gm15 : m ≤ m15 := hz27.2.mono
       have gn15 : m15 ≤ 100 := hz27.2.most (show m ≤ 100 by omega)
       have wz9 : wd9.size ≤ 12 := Pz.name_size (t := ⟨j19, m⟩) (show j19 ≤ _ by omega) he20
       refine l_as 68 (.string wd9) [Rb 64 p s j20 m15, .pub ErrV, Row (.slice A13 l.length cp13) 9 1 strE l, Row (.slice (some ⟨b54, 0, none⟩) 1 1) 9 1 strE ([wd6] : List ByteArray), Row (.slice A1 Lg.totals.length cp1) 9 1 strE Lg.totals, .blk b6 [iV 3, iV 0, iV 0, .string wd1, Zs, .slice A13 l.length cp13, Zs] 26, .blk b4 Zx 26] ?_
       refine l_nil (hKN _ _ (fun _ h => (h.sel [1, 3, 4, 6] (by decide) rfl)) ?_)
       refine n_step1 (f := 3) (i := 4) rfl (by kernel_rfl) ?_
       refine n_oneX (i := 4) rfl fun KN hKN hPN => ?_
       refine l_bsL strE ([wd9] : List ByteArray) wn Tryd.underlying23 inf9 rfl rfl rfl rfl (by decide) (by decide) rfl fun b69 => ?_
       refine l_nil (hKN _ _ (fun _ h => (h.sel [2, 4, 5, 7] (by decide) rfl)) ?_)
       refine n_step1 (f := 2) (i := 5) rfl (by kernel_rfl) ?_
       refine n_oneX (i := 5) rfl fun KN hKN hPN => ?_
       refine l_app 3 l ([wd9] : List ByteArray) encString wn rfl rfl rfl (fun _ hM => (RowSl encString hM 0 rfl)) Tryd.underlying23 inf9 rfl rfl (by simp only [List.length_append, List.length_cons, List.length_nil]; omega) rfl fun A14 cp14 hc14 hm14 hA14 => ?_
       refine l_nil (hKN _ _ (fun _ h => (h.sel [2, 4, 5, 7] (by decide) rfl)) ?_)
       refine n_run (f := 1) [6] rfl rfl (by kernel_rfl) (by kernel_rfl) (fun _ h => (h.sel [2, 4, 5, 7] (by decide) rfl)) fun KS hKS => ?_
       refine s_val wn (r_fa rfl fld26_5) rfl ?_
       refine s_end hKS ?_
       refine n_step1 (f := 0) (i := 7) rfl (by kernel_rfl) ?_
       refine n_oneX (i := 7) rfl fun KN hKN hPN => ?_
       refine l_st1 6 wn rfl rfl rfl rfl inf23 rfl rfl ?_
       refine l_nil (hKN _ _ (fun _ h => (h.sel [2, 4, 5, 7] (by decide) rfl)) ?_)
       refine n_done (by kernel_rfl) (e_in_n (e_round5 (l ++ ([wd9] : List ByteArray)) j20 m15 (q - 1) (.slice A14 ((l ++ ([wd9] : List ByteArray)).length) cp14) (sc rfl (sc rfl (sc rfl (sc rfl sn)))) (fun _ h => (h.sel [3, 4, 1, 2, 5, 6, 7] (by decide) rfl)) ?_ ?_))
       · have hY := Pz.by_next hx5 (by rw [he19, h8]) h9 he20
         rw [Pz.then_ok] at hY
         exact ⟨hY.trans (by rw [show q - 1 + 1 = q by omega]), by simp only [List.length_append, List.length_cons, List.length_nil]; omega, by simp only [List.length_append, List.length_cons, List.length_nil]; omega, by omega, by omega, by omega⟩
       omega
     refine n_oneX (i := 3) rfl fun KN hKN hPN => ?_
     refine l_giveX (α := ByteArray × Pz.St) (PT := 61) [Rb 64 p s j19 m, .pub ErrV] [Row (.slice A13 l.length cp13) 9 1 strE l, Row (.slice (some ⟨b54, 0, none⟩) 1 1) 9 1 strE ([wd6] : List ByteArray), Row (.slice A1 Lg.totals.length cp1) 9 1 strE Lg.totals, .blk b6 [iV 3, iV 0, iV 0, .string wd1, Zs, .slice A13 l.length cp13, Zs] 26, .blk b4 Zx 26] (fun z : ByteArray × Pz.St => .string z.1) (fun z26 => Pz.name s ⟨j19, m⟩ = .ok z26 ∧ Pz.Good s ⟨j19, m⟩ z26.2) (fun z26 => [Rb 64 p s z26.2.at_ z26.2.nd, .pub ErrV]) _ (fun f23 => Pz.name s ⟨j19, m⟩ = .no f23) (fun _ => rfl) (fun _ h => h.sel [0, 1, 2, 3, 4, 5, 6] (by decide) rfl) (fun _ => rfl) wn rfl rfl Tryd.call87 rfl (fun w1 Pb hG => c_name p s j19 m  Pb w1 hG (by omega) (by omega) (by omega) ) ?_ fun z26 hz28 => ?_
     · intro f23 hf23
       refine e_node_p hPN (e_in_p (e_loop5_p (e_in_p (e_then_p (e_body_p fun w1 hM => ?_)))))
       have hY := Pz.by_next hx5 (by rw [he19, h8]) h9 hf23
       rw [Pz.then_no] at hY
       exact hM.retPan f23 (by simp only [Pz.then_ok, Pz.then_no, Pz.St.go, if_true, if_false, Bool.false_eq_true, Bool.true_eq_false, not_true_eq_false, not_false_eq_true, ne_eq, and_true, true_and, and_false, false_and, and_self, not_and, Pz.all, Pz.bys, Pz.allTail, ExprX.e, ExprX.es, hz1e, he1, hz4e, he2, g1, g3, he11, he19, h1, hY])
     obtain ⟨wd10, j21, m16⟩ := z26
     have he21 : Pz.name s ⟨j19, m⟩ = .ok (wd10, ⟨j21, m16⟩) := hz28.1
     have ga16 : j21 ≤ s.size := hz28.2.at_
     have gm16 : m ≤ m16 := hz28.2.mono
     have gn16 : m16 ≤ 100 := hz28.2.most (show m ≤ 100 by omega)
     have wz10 : wd10.size ≤ 12 := Pz.name_size (t := ⟨j19, m⟩) (show j19 ≤ _ by omega) he21
     refine l_as 68 (.string wd10) [Rb 64 p s j21 m16, .pub ErrV, Row (.slice A13 l.length cp13) 9 1 strE l, Row (.slice (some ⟨b54, 0, none⟩) 1 1) 9 1 strE ([wd6] : List ByteArray), Row (.slice A1 Lg.totals.length cp1) 9 1 strE Lg.totals, .blk b6 [iV 3, iV 0, iV 0, .string wd1, Zs, .slice A13 l.length cp13, Zs] 26, .blk b4 Zx 26] ?_
     refine l_nil (hKN _ _ (fun _ h => (h.sel [1, 3, 4, 6] (by decide) rfl)) ?_)
     refine n_step2 (f := 4) (i := 1) (j := 4) rfl (by kernel_rfl) ?_ ?_
     · refine n_oneX (i := 1) rfl fun KN hKN hPN => ?_
       refine l_val wn (r_lb 5 rfl rfl rfl flat23) rfl ?_
       refine l_nil (hKN _ _ (fun _ h => (h.sel [1, 3, 4, 6] (by decide) rfl)) ?_)
       refine n_step1 (f := 3) (i := 4) rfl (by kernel_rfl) ?_
       refine n_oneX (i := 4) rfl fun KN hKN hPN => ?_
       refine l_bsL strE ([wd10] : List ByteArray) wn Tryd.underlying23 inf9 rfl rfl rfl rfl (by decide) (by decide) rfl fun b69 => ?_
       refine l_nil (hKN _ _ (fun _ h => (h.sel [2, 4, 5, 7] (by decide) rfl)) ?_)
       refine n_step1 (f := 2) (i := 5) rfl (by kernel_rfl) ?_
       refine n_oneX (i := 5) rfl fun KN hKN hPN => ?_
       refine l_app 3 l ([wd10] : List ByteArray) encString wn rfl rfl rfl (fun _ hM => (RowSl encString hM 0 rfl)) Tryd.underlying23 inf9 rfl rfl (by simp only [List.length_append, List.length_cons, List.length_nil]; omega) rfl fun A15 cp15 hc15 hm15 hA15 => ?_
       refine l_nil (hKN _ _ (fun _ h => (h.sel [2, 4, 5, 7] (by decide) rfl)) ?_)
       refine n_run (f := 1) [6] rfl rfl (by kernel_rfl) (by kernel_rfl) (fun _ h => (h.sel [2, 4, 5, 7] (by decide) rfl)) fun KS hKS => ?_
       refine s_val wn (r_fa rfl fld26_5) rfl ?_
       refine s_end hKS ?_
       refine n_step1 (f := 0) (i := 7) rfl (by kernel_rfl) ?_
       refine n_oneX (i := 7) rfl fun KN hKN hPN => ?_
       refine l_st1 6 wn rfl rfl rfl rfl inf23 rfl rfl ?_
       refine l_nil (hKN _ _ (fun _ h => (h.sel [2, 4, 5, 7] (by decide) rfl)) ?_)
       refine n_done (by kernel_rfl) (e_in_n (e_round5 (l ++ ([wd10] : List ByteArray)) j21 m16 (q - 1) (.slice A15 ((l ++ ([wd10] : List ByteArray)).length) cp15) (sc rfl (sc rfl (sc rfl (sc rfl sn)))) (fun _ h => (h.sel [3, 4, 1, 2, 5, 6, 7] (by decide) rfl)) ?_ ?_))
       · have hY := Pz.by_next hx5 (by rw [he19, h8]) h9 he21
         rw [Pz.then_ok] at hY
         exact ⟨hY.trans (by rw [show q - 1 + 1 = q by omega]), by simp only [List.length_append, List.length_cons, List.length_nil]; omega, by simp only [List.length_append, List.length_cons, List.length_nil]; omega, by omega, by omega, by omega⟩
       omega
     refine n_oneX (i := 4) rfl fun KN hKN hPN => ?_
     refine l_bsL strE ([wd10] : List ByteArray) wn Tryd.underlying23 inf9 rfl rfl rfl rfl (by decide) (by decide) rfl fun b69 => ?_
     refine l_nil (hKN _ _ (fun _ h => (h.sel [2, 4, 5, 7] (by decide) rfl)) ?_)
     refine n_step1 (f := 3) (i := 1) rfl (by kernel_rfl) ?_
     refine n_oneX (i := 1) rfl fun KN hKN hPN => ?_
     refine l_val wn (r_lb 6 rfl rfl rfl flat23) rfl ?_
     refine l_nil (hKN _ _ (fun _ h => (h.sel [2, 4, 5, 7] (by decide) rfl)) ?_)
     refine n_step1 (f := 2) (i := 5) rfl (by kernel_rfl) ?_
     refine n_oneX (i := 5) rfl fun KN hKN hPN => ?_
     refine l_app 3 l ([wd10] : List ByteArray) encString wn rfl rfl rfl (fun _ hM => (RowSl encString hM 0 rfl)) Tryd.underlying23 inf9 rfl rfl (by simp only [List.length_append, List.length_cons, List.length_nil]; omega) rfl fun A16 cp16 hc16 hm16 hA16 => ?_
     refine l_nil (hKN _ _ (fun _ h => (h.sel [2, 4, 5, 7] (by decide) rfl)) ?_)
     refine n_run (f := 1) [6] rfl rfl (by kernel_rfl) (by kernel_rfl) (fun _ h => (h.sel [2, 4, 5, 7] (by decide) rfl)) fun KS hKS => ?_
     refine s_val wn (r_fa rfl fld26_5) rfl ?_
     refine s_end hKS ?_
     refine n_step1 (f := 0) (i := 7) rfl (by kernel_rfl) ?_
     refine n_oneX (i := 7) rfl fun KN hKN hPN => ?_
     refine l_st1 6 wn rfl rfl rfl rfl inf23 rfl rfl ?_
     refine l_nil (hKN _ _ (fun _ h => (h.sel [2, 4, 5, 7] (by decide) rfl)) ?_)
     refine n_done (by kernel_rfl) (e_in_n (e_round5 (l ++ ([wd10] : List ByteArray)) j21 m16 (q - 1) (.slice A16 ((l ++ ([wd10] : List ByteArray)).length) cp16) (sc rfl (sc rfl (sc rfl (sc rfl sn)))) (fun _ h => (h.sel [3, 4, 1, 2, 5, 6, 7] (by decide) rfl)) ?_ ?_))
     · have hY := Pz.by_next hx5 (by rw [he19, h8]) h9 he21
       rw [Pz.then_ok] at hY
       exact ⟨hY.trans (by rw [show q - 1 + 1 = q by omega]), by simp only [List.length_append, List.length_cons, List.length_nil]; omega, by simp only [List.length_append, List.length_cons, List.length_nil]; omega, by omega, by omega, by omega⟩
     omega
   have g6 : bo3 = false := by simpa using h8
   have hx6 := Pz.by_done hI3.1 (by rw [he19, g6])
   refine c_exit (e_then_x (e_loop5_x (e_in_hit (e_go hK10 ?_))))
   refine c_seq fun _ hK36 => ?_
   refine c_region ?_
   refine l_val wn (r_move rfl) rfl ?_
   refine l_giveX (α := Pz.St) (PT := 61) [Rb 64 p s j19 m, .pub ErrV] [Row (.slice A13 l.length cp13) 9 1 strE l, Row (.slice (some ⟨b54, 0, none⟩) 1 1) 9 1 strE ([wd6] : List ByteArray), Row (.slice A1 Lg.totals.length cp1) 9 1 strE Lg.totals, .blk b6 [iV 3, iV 0, iV 0, .string wd1, Zs, .slice A13 l.length cp13, Zs] 26, .blk b4 Zx 26] (fun z : Pz.St => .tuple #[]) (fun z27 => Pz.must s ⟨#[40]⟩ ⟨j19, m⟩ = .ok z27 ∧ Pz.Good s ⟨j19, m⟩ z27) (fun z27 => [Rb 64 p s z27.at_ z27.nd, .pub ErrV]) _ (fun f24 => Pz.must s ⟨#[40]⟩ ⟨j19, m⟩ = .no f24) (fun _ => rfl) (fun _ h => h.sel [0, 1, 2, 3, 4, 5, 6] (by decide) rfl) (fun _ => rfl) wn rfl rfl Tryd.call76 rfl (fun w1 Pb hG => c_must p s j19 m ⟨#[40]⟩ Pb w1 hG (by omega) (by omega) (by omega) ) ?_ fun z27 hz29 => ?_
   · intro f24 hf24
     refine e_then_p (e_body_p fun w1 hM => ?_)
     exact hM.retPan f24 (by first | (simp only [Pz.then_ok, Pz.then_no, Pz.St.go, if_true, if_false, Bool.false_eq_true, Bool.true_eq_false, not_true_eq_false, not_false_eq_true, ne_eq, and_true, true_and, and_false, false_and, and_self, not_and, Pz.all, Pz.bys, Pz.allTail, ExprX.e, ExprX.es, hz1e, he1, hz4e, he2, g1, g3, he11, he19, g6, hx6, h1, h8, hf24]; done) | simp [Pz.then_ok, Pz.then_no, Pz.St.go, if_true, if_false, Bool.false_eq_true, Bool.true_eq_false, not_true_eq_false, not_false_eq_true, ne_eq, and_true, true_and, and_false, false_and, and_self, not_and, Pz.all, Pz.bys, Pz.allTail, ExprX.e, ExprX.es, hz1e, he1, hz4e, he2, g1, g3, he11, he19, g6, hx6, h1, h8, hf24])
   obtain ⟨j22, m17⟩ := z27
   have he22 : Pz.must s ⟨#[40]⟩ ⟨j19, m⟩ = .ok ⟨j22, m17⟩ := hz29.1
   have ga17 : j22 ≤ s.size := hz29.2.at_
   have gm17 : m ≤ m17 := hz29.2.mono
   have gn17 : m17 ≤ 100 := hz29.2.most (show m ≤ 100 by omega)
   refine l_as 73 (.tuple (List.toArray [])) [Rb 64 p s j22 m17, .pub ErrV, Row (.slice A13 l.length cp13) 9 1 strE l, Row (.slice (some ⟨b54, 0, none⟩) 1 1) 9 1 strE ([wd6] : List ByteArray), Row (.slice A1 Lg.totals.length cp1) 9 1 strE Lg.totals, .blk b6 [iV 3, iV 0, iV 0, .string wd1, Zs, .slice A13 l.length cp13, Zs] 26, .blk b4 Zx 26] ?_
   refine l_nil (e_go hK36 ?_)
   refine c_seq fun _ hK37 => ?_
   refine c_region ?_
   refine l_val wn (r_move rfl) rfl ?_
   refine l_val wn (r_move rfl) rfl ?_
   refine l_val wn (r_addn rfl rfl (by omega)) rfl ?_
   refine l_giveX (α := ExprX × Pz.St) (PT := 61) [Rb 64 p s j22 m17, .pub ErrV] [Row (.slice A13 l.length cp13) 9 1 strE l, Row (.slice (some ⟨b54, 0, none⟩) 1 1) 9 1 strE ([wd6] : List ByteArray), Row (.slice A1 Lg.totals.length cp1) 9 1 strE Lg.totals, .blk b6 [iV 3, iV 0, iV 0, .string wd1, Zs, .slice A13 l.length cp13, Zs] 26, .blk b4 Zx 26] (fun z : ExprX × Pz.St => .agg (exprE z.1).toArray) (fun z28 => Pz.xpr s N ⟨j22, m17⟩ = .ok (z28.1.e, z28.2) ∧ Pz.Good s ⟨j22, m17⟩ z28.2) (fun z28 => [Rb 64 p s z28.2.at_ z28.2.nd, .pub ErrV, okP ExprX.Ok z28.1]) _ (fun f25 => Pz.xpr s N ⟨j22, m17⟩ = .no f25) (fun _ => rfl) (fun _ h => h.sel [0, 1, 2, 3, 4, 5, 6] (by decide) rfl) (fun _ => rfl) wn rfl rfl Tryd.call30 rfl (fun w1 Pb hG => ih p s j22 m17 (d + 1) Pb w1 hG (by omega) (by omega) (by omega) (by omega) (by omega)) ?_ fun z28 hz30 => ?_
   · intro f25 hf25
     refine e_then_p (e_body_p fun w1 hM => ?_)
     exact hM.retPan f25 (by first | (simp only [Pz.then_ok, Pz.then_no, Pz.St.go, if_true, if_false, Bool.false_eq_true, Bool.true_eq_false, not_true_eq_false, not_false_eq_true, ne_eq, and_true, true_and, and_false, false_and, and_self, not_and, Pz.all, Pz.bys, Pz.allTail, ExprX.e, ExprX.es, hz1e, he1, hz4e, he2, g1, g3, he11, he19, g6, hx6, he22, h1, h8, hf25]; done) | simp [Pz.then_ok, Pz.then_no, Pz.St.go, if_true, if_false, Bool.false_eq_true, Bool.true_eq_false, not_true_eq_false, not_false_eq_true, ne_eq, and_true, true_and, and_false, false_and, and_self, not_and, Pz.all, Pz.bys, Pz.allTail, ExprX.e, ExprX.es, hz1e, he1, hz4e, he2, g1, g3, he11, he19, g6, hx6, he22, h1, h8, hf25])
   obtain ⟨x3, j23, m18⟩ := z28
   have he23 : Pz.xpr s N ⟨j22, m17⟩ = .ok (x3.e, ⟨j23, m18⟩) := hz30.1
   have ga18 : j23 ≤ s.size := hz30.2.at_
   have gm18 : m17 ≤ m18 := hz30.2.mono
   have gn18 : m18 ≤ 100 := hz30.2.most (show m17 ≤ 100 by omega)
   refine l_as 77 (.agg (List.toArray [iV x3.kind, iV x3.n, iV x3.range, .string x3.word, .slice x3.ms.A x3.ms.l.length x3.ms.c, .slice x3.by_.A x3.by_.l.length x3.by_.c, .slice x3.kids.A x3.kids.l.length x3.kids.c])) [Rb 64 p s j23 m18, .pub ErrV, okP ExprX.Ok x3, Row (.slice A13 l.length cp13) 9 1 strE l, Row (.slice (some ⟨b54, 0, none⟩) 1 1) 9 1 strE ([wd6] : List ByteArray), Row (.slice A1 Lg.totals.length cp1) 9 1 strE Lg.totals, .blk b6 [iV 3, iV 0, iV 0, .string wd1, Zs, .slice A13 l.length cp13, Zs] 26, .blk b4 Zx 26] ?_
   refine l_bsL exprE ([x3] : List ExprX) wn Tryd.underlying24 inf26 rfl rfl rfl rfl (by decide) (by decide) rfl fun b78 => ?_
   refine l_val wn (r_fa rfl fld26_6) rfl ?_
   refine l_st1 7 wn rfl rfl rfl rfl inf24 rfl rfl ?_
   refine l_nil (e_go hK37 ?_)
   refine c_seq fun _ hK38 => ?_
   refine c_region ?_
   refine l_val wn (r_move rfl) rfl ?_
   refine l_giveX (α := Pz.St) (PT := 61) [Rb 64 p s j23 m18, .pub ErrV] [Row (.slice (some ⟨b78, 0, none⟩) 1 1) 26 7 exprE ([x3] : List ExprX), okP ExprX.Ok x3, Row (.slice A13 l.length cp13) 9 1 strE l, Row (.slice (some ⟨b54, 0, none⟩) 1 1) 9 1 strE ([wd6] : List ByteArray), Row (.slice A1 Lg.totals.length cp1) 9 1 strE Lg.totals, .blk b6 [iV 3, iV 0, iV 0, .string wd1, Zs, .slice A13 l.length cp13, .slice (some ⟨b78, 0, none⟩) 1 1] 26, .blk b4 Zx 26] (fun z : Pz.St => .tuple #[]) (fun z29 => Pz.must s ⟨#[41]⟩ ⟨j23, m18⟩ = .ok z29 ∧ Pz.Good s ⟨j23, m18⟩ z29) (fun z29 => [Rb 64 p s z29.at_ z29.nd, .pub ErrV]) _ (fun f26 => Pz.must s ⟨#[41]⟩ ⟨j23, m18⟩ = .no f26) (fun _ => rfl) (fun _ h => h.sel [1, 2, 0, 3, 4, 5, 6, 7, 8] (by decide) rfl) (fun _ => rfl) wn rfl rfl Tryd.call76 rfl (fun w1 Pb hG => c_must p s j23 m18 ⟨#[41]⟩ Pb w1 hG (by omega) (by omega) (by omega) ) ?_ fun z29 hz31 => ?_
   · intro f26 hf26
     refine e_then_p (e_body_p fun w1 hM => ?_)
     exact hM.retPan f26 (by first | (simp only [Pz.then_ok, Pz.then_no, Pz.St.go, if_true, if_false, Bool.false_eq_true, Bool.true_eq_false, not_true_eq_false, not_false_eq_true, ne_eq, and_true, true_and, and_false, false_and, and_self, not_and, Pz.all, Pz.bys, Pz.allTail, ExprX.e, ExprX.es, hz1e, he1, hz4e, he2, g1, g3, he11, he19, g6, hx6, he22, he23, h1, h8, hf26]; done) | simp [Pz.then_ok, Pz.then_no, Pz.St.go, if_true, if_false, Bool.false_eq_true, Bool.true_eq_false, not_true_eq_false, not_false_eq_true, ne_eq, and_true, true_and, and_false, false_and, and_self, not_and, Pz.all, Pz.bys, Pz.allTail, ExprX.e, ExprX.es, hz1e, he1, hz4e, he2, g1, g3, he11, he19, g6, hx6, he22, he23, h1, h8, hf26])
   obtain ⟨j24, m19⟩ := z29
   have he24 : Pz.must s ⟨#[41]⟩ ⟨j23, m18⟩ = .ok ⟨j24, m19⟩ := hz31.1
   have ga19 : j24 ≤ s.size := hz31.2.at_
   have gm19 : m18 ≤ m19 := hz31.2.mono
   have gn19 : m19 ≤ 100 := hz31.2.most (show m18 ≤ 100 by omega)
   refine l_as 81 (.tuple (List.toArray [])) [Rb 64 p s j24 m19, .pub ErrV, Row (.slice (some ⟨b78, 0, none⟩) 1 1) 26 7 exprE ([x3] : List ExprX), okP ExprX.Ok x3, Row (.slice A13 l.length cp13) 9 1 strE l, Row (.slice (some ⟨b54, 0, none⟩) 1 1) 9 1 strE ([wd6] : List ByteArray), Row (.slice A1 Lg.totals.length cp1) 9 1 strE Lg.totals, .blk b6 [iV 3, iV 0, iV 0, .string wd1, Zs, .slice A13 l.length cp13, .slice (some ⟨b78, 0, none⟩) 1 1] 26, .blk b4 Zx 26] ?_
   refine l_nil (e_go hK38 ?_)
   refine c_seq fun _ hK39 => ?_
   refine c_region ?_
   refine l_val wn (r_move rfl) rfl ?_
   refine l_val wn (r_lbn 7 [iV 3, iV 0, iV 0, .string wd1, Zs, .slice A13 l.length cp13, .slice (some ⟨b78, 0, none⟩) 1 1] rfl rfl rfl rfl agg26 inf26) rfl ?_
   refine l_sealX 4 0 encString rfl rfl (fp2) ?_
   refine l_sealX 2 0 encExprX rfl rfl (fp2) ?_
   refine l_mem (fun _ h => h.exprG (k := 3) (n := 0) (r := 0) (wd := wd1) (ms := ⟨none, 0, []⟩) (bs := ⟨A13, cp13, l⟩) (ks := ⟨(some ⟨b78, 0, none⟩), 1, ([x3] : List ExprX)⟩) (fun _ _ => FlatSl.nil_ _ _ _ _) (fun _ pp => pp.sl 4 rfl) (fun _ pp => pp.sl 2 rfl) (fun _ pp x hx => by simp only [List.mem_cons, List.not_mem_nil, or_false] at hx; rcases hx with rfl <;> first | exact pp.at_ 3 _ rfl) (by first | decide | omega) (fun x hx => by cases hx) (fun x hx => by have := Pz.byL_size 5 (by show _ ≤ s.size; omega) hx6 (fun y hy => by rw [List.mem_singleton.1 hy]; omega) x hx; omega)) ?_
   refine l_giveX (α := Unit) (PT := 61) [Rb 64 p s j24 m19, .pub ErrV] [okP ExprX.Ok (ExprX.mk 3 0 0 wd1 ⟨none, 0, []⟩ ⟨A13, cp13, l⟩ ⟨(some ⟨b78, 0, none⟩), 1, ([x3] : List ExprX)⟩), slP 7 exprE (.slice (some ⟨b78, 0, none⟩) 1 1) ([x3] : List ExprX), okP ExprX.Ok x3, slP 1 strE (.slice A13 l.length cp13) l, Row (.slice (some ⟨b54, 0, none⟩) 1 1) 9 1 strE ([wd6] : List ByteArray), Row (.slice A1 Lg.totals.length cp1) 9 1 strE Lg.totals, .blk b6 [iV 3, iV 0, iV 0, .string wd1, Zs, .slice A13 l.length cp13, .slice (some ⟨b78, 0, none⟩) 1 1] 26, .blk b4 Zx 26] (fun _ : Unit => .agg (List.toArray [iV 3, iV 0, iV 0, .string wd1, Zs, .slice A13 l.length cp13, .slice (some ⟨b78, 0, none⟩) 1 1])) (fun z30 => m19 + 1 ≤ 100) (fun z30 => [Rb 64 p s j24 (m19 + 1), .pub ErrV]) (fun z30 => [Rb 64 p s j24 (m19 + 1), .pub ErrV, okP ExprX.Ok (ExprX.mk 3 0 0 wd1 ⟨none, 0, []⟩ ⟨A13, cp13, l⟩ ⟨(some ⟨b78, 0, none⟩), 1, ([x3] : List ExprX)⟩), slP 7 exprE (.slice (some ⟨b78, 0, none⟩) 1 1) ([x3] : List ExprX), okP ExprX.Ok x3, slP 1 strE (.slice A13 l.length cp13) l, Row (.slice (some ⟨b54, 0, none⟩) 1 1) 9 1 strE ([wd6] : List ByteArray), Row (.slice A1 Lg.totals.length cp1) 9 1 strE Lg.totals, .blk b6 [iV 3, iV 0, iV 0, .string wd1, Zs, .slice A13 l.length cp13, .slice (some ⟨b78, 0, none⟩) 1 1] 26, .blk b4 Zx 26]) (fun f27 => Pz.node ⟨j24, m19⟩ = .no f27) (fun _ => rfl) (fun _ h => h.sel [1, 2, 0, 3, 4, 5, 6, 7, 8, 9] (by decide) rfl) (fun _ => rfl) wn rfl rfl Tryd.call51 rfl (fun w1 Pb hG => c_node p s j24 m19 3 0 0 wd1 none 0 0 A13 l.length cp13 (some ⟨b78, 0, none⟩) 1 1 Pb w1 hG (by omega) (by omega) (by omega)) ?_ fun z30 hz32 => ?_
   · intro f27 hf27
     refine e_then_p (e_body_p fun w1 hM => ?_)
     exact hM.retPan f27 (by first | (simp only [Pz.then_ok, Pz.then_no, Pz.St.go, if_true, if_false, Bool.false_eq_true, Bool.true_eq_false, not_true_eq_false, not_false_eq_true, ne_eq, and_true, true_and, and_false, false_and, and_self, not_and, Pz.all, Pz.bys, Pz.allTail, ExprX.e, ExprX.es, hz1e, he1, hz4e, he2, g1, g3, he11, he19, g6, hx6, he22, he23, he24, h1, h8, hf27]; done) | simp [Pz.then_ok, Pz.then_no, Pz.St.go, if_true, if_false, Bool.false_eq_true, Bool.true_eq_false, not_true_eq_false, not_false_eq_true, ne_eq, and_true, true_and, and_false, false_and, and_self, not_and, Pz.all, Pz.bys, Pz.allTail, ExprX.e, ExprX.es, hz1e, he1, hz4e, he2, g1, g3, he11, he19, g6, hx6, he22, he23, he24, h1, h8, hf27])
   have he25 : Pz.node ⟨j24, m19⟩ = .ok ⟨j24, m19 + 1⟩ := Pz.node_yes hz32
   refine l_stn 9 wn rfl rfl rfl inf26 rfl rfl rfl ?_
   refine l_nil (e_go hK39 ?_)
   refine c_ret (e_ret1 (.inl rfl) Tryd.results78 (rv_cell 9 rfl rfl agg26 inf26 rfl) fun w1 hM => ?_)
   have h9 : Pz.all s (Pz.xpr s N) ⟨i, n⟩ = .ok ((ExprX.mk 3 0 0 wd1 ⟨none, 0, []⟩ ⟨A13, cp13, l⟩ ⟨(some ⟨b78, 0, none⟩), 1, ([x3] : List ExprX)⟩).e, ⟨j24, (m19 + 1)⟩) := by first | (simp only [Pz.then_ok, Pz.then_no, Pz.St.go, if_true, if_false, Bool.false_eq_true, Bool.true_eq_false, not_true_eq_false, not_false_eq_true, ne_eq, and_true, true_and, and_false, false_and, and_self, not_and, Pz.all, Pz.bys, Pz.allTail, ExprX.e, ExprX.es, hz1e, he1, hz4e, he2, g1, g3, he11, he19, g6, hx6, he22, he23, he24, he25, h1, h8]; done) | simp [Pz.then_ok, Pz.then_no, Pz.St.go, if_true, if_false, Bool.false_eq_true, Bool.true_eq_false, not_true_eq_false, not_false_eq_true, ne_eq, and_true, true_and, and_false, false_and, and_self, not_and, Pz.all, Pz.bys, Pz.allTail, ExprX.e, ExprX.es, hz1e, he1, hz4e, he2, g1, g3, he11, he19, g6, hx6, he22, he23, he24, he25, h1, h8]
   exact hM.retX (((ExprX.mk 3 0 0 wd1 ⟨none, 0, []⟩ ⟨A13, cp13, l⟩ ⟨(some ⟨b78, 0, none⟩), 1, ([x3] : List ExprX)⟩), ⟨j24, (m19 + 1)⟩) : ExprX × Pz.St) rfl ⟨h9, (Pz.all_fine (Pz.xpr_fine s N) hi).ok_ h9⟩ (fun h => h.sel [0, 1, 2] (by decide) rfl)
 have g7 : (wd2 = ⟨#[]⟩) = True := eq_true (Classical.not_not.1 h2)
 refine l_skip (wg rfl rfl rfl) rfl ?_
 refine l_skip (wg rfl rfl rfl) rfl ?_
 refine l_val wn (r_pick rfl rfl) rfl ?_
 refine l_nil (e_go hK12 ?_)
 refine c_false rfl rfl ?_
 refine c_seq fun _ hK40 => ?_
 refine c_region ?_
 refine l_val wn (r_move rfl) rfl ?_
 refine l_val wn (r_seql rfl rfl) rfl ?_
 refine l_nil (e_go hK40 ?_)
 refine c_false rfl (decide_eq_false (by rw [Classical.not_not.1 h2]; decide)) ?_
 refine c_skip (e_go hK10 ?_)
 refine c_seq fun _ hK41 => ?_
 refine c_region ?_
 have g8 : (wd2 = ⟨#[98, 121]⟩) = False := eq_false (by rw [Classical.not_not.1 h2]; decide)
 refine l_val wn (r_move rfl) rfl ?_
 refine l_giveX (α := Pz.St) (PT := 61) [Rb 64 p s j4 m2, .pub ErrV] [Row (.slice A1 Lg.totals.length cp1) 9 1 strE Lg.totals, .blk b6 [iV 3, iV 0, iV 0, .string wd1, Zs, Zs, Zs] 26, .blk b4 Zx 26] (fun z : Pz.St => .tuple #[]) (fun z31 => Pz.must s ⟨#[40]⟩ ⟨j4, m2⟩ = .ok z31 ∧ Pz.Good s ⟨j4, m2⟩ z31) (fun z31 => [Rb 64 p s z31.at_ z31.nd, .pub ErrV]) _ (fun f28 => Pz.must s ⟨#[40]⟩ ⟨j4, m2⟩ = .no f28) (fun _ => rfl) (fun _ h => h.sel [0, 1, 2, 3, 4] (by decide) rfl) (fun _ => rfl) wn rfl rfl Tryd.call76 rfl (fun w1 Pb hG => c_must p s j4 m2 ⟨#[40]⟩ Pb w1 hG (by omega) (by omega) (by omega) ) ?_ fun z31 hz33 => ?_
 · intro f28 hf28
   refine e_then_p (e_body_p fun w1 hM => ?_)
   exact hM.retPan f28 (by first | (simp only [Pz.then_ok, Pz.then_no, Pz.St.go, if_true, if_false, Bool.false_eq_true, Bool.true_eq_false, not_true_eq_false, not_false_eq_true, ne_eq, and_true, true_and, and_false, false_and, and_self, not_and, Pz.all, Pz.bys, Pz.allTail, ExprX.e, ExprX.es, hz1e, he1, hz4e, he2, g7, g8, h1, hf28]; done) | simp [Pz.then_ok, Pz.then_no, Pz.St.go, if_true, if_false, Bool.false_eq_true, Bool.true_eq_false, not_true_eq_false, not_false_eq_true, ne_eq, and_true, true_and, and_false, false_and, and_self, not_and, Pz.all, Pz.bys, Pz.allTail, ExprX.e, ExprX.es, hz1e, he1, hz4e, he2, g7, g8, h1, hf28])
 obtain ⟨j25, m20⟩ := z31
 have he26 : Pz.must s ⟨#[40]⟩ ⟨j4, m2⟩ = .ok ⟨j25, m20⟩ := hz33.1
 have ga20 : j25 ≤ s.size := hz33.2.at_
 have gm20 : m2 ≤ m20 := hz33.2.mono
 have gn20 : m20 ≤ 100 := hz33.2.most (show m2 ≤ 100 by omega)
 refine l_as 73 (.tuple (List.toArray [])) [Rb 64 p s j25 m20, .pub ErrV, Row (.slice A1 Lg.totals.length cp1) 9 1 strE Lg.totals, .blk b6 [iV 3, iV 0, iV 0, .string wd1, Zs, Zs, Zs] 26, .blk b4 Zx 26] ?_
 refine l_nil (e_go hK41 ?_)
 refine c_seq fun _ hK42 => ?_
 refine c_region ?_
 refine l_val wn (r_move rfl) rfl ?_
 refine l_val wn (r_move rfl) rfl ?_
 refine l_val wn (r_addn rfl rfl (by omega)) rfl ?_
 refine l_giveX (α := ExprX × Pz.St) (PT := 61) [Rb 64 p s j25 m20, .pub ErrV] [Row (.slice A1 Lg.totals.length cp1) 9 1 strE Lg.totals, .blk b6 [iV 3, iV 0, iV 0, .string wd1, Zs, Zs, Zs] 26, .blk b4 Zx 26] (fun z : ExprX × Pz.St => .agg (exprE z.1).toArray) (fun z32 => Pz.xpr s N ⟨j25, m20⟩ = .ok (z32.1.e, z32.2) ∧ Pz.Good s ⟨j25, m20⟩ z32.2) (fun z32 => [Rb 64 p s z32.2.at_ z32.2.nd, .pub ErrV, okP ExprX.Ok z32.1]) _ (fun f29 => Pz.xpr s N ⟨j25, m20⟩ = .no f29) (fun _ => rfl) (fun _ h => h.sel [0, 1, 2, 3, 4] (by decide) rfl) (fun _ => rfl) wn rfl rfl Tryd.call30 rfl (fun w1 Pb hG => ih p s j25 m20 (d + 1) Pb w1 hG (by omega) (by omega) (by omega) (by omega) (by omega)) ?_ fun z32 hz34 => ?_
 · intro f29 hf29
   refine e_then_p (e_body_p fun w1 hM => ?_)
   exact hM.retPan f29 (by first | (simp only [Pz.then_ok, Pz.then_no, Pz.St.go, if_true, if_false, Bool.false_eq_true, Bool.true_eq_false, not_true_eq_false, not_false_eq_true, ne_eq, and_true, true_and, and_false, false_and, and_self, not_and, Pz.all, Pz.bys, Pz.allTail, ExprX.e, ExprX.es, hz1e, he1, hz4e, he2, g7, g8, he26, h1, hf29]; done) | simp [Pz.then_ok, Pz.then_no, Pz.St.go, if_true, if_false, Bool.false_eq_true, Bool.true_eq_false, not_true_eq_false, not_false_eq_true, ne_eq, and_true, true_and, and_false, false_and, and_self, not_and, Pz.all, Pz.bys, Pz.allTail, ExprX.e, ExprX.es, hz1e, he1, hz4e, he2, g7, g8, he26, h1, hf29])
 obtain ⟨x4, j26, m21⟩ := z32
 have he27 : Pz.xpr s N ⟨j25, m20⟩ = .ok (x4.e, ⟨j26, m21⟩) := hz34.1
 have ga21 : j26 ≤ s.size := hz34.2.at_
 have gm21 : m20 ≤ m21 := hz34.2.mono
 have gn21 : m21 ≤ 100 := hz34.2.most (show m20 ≤ 100 by omega)
 refine l_as 77 (.agg (List.toArray [iV x4.kind, iV x4.n, iV x4.range, .string x4.word, .slice x4.ms.A x4.ms.l.length x4.ms.c, .slice x4.by_.A x4.by_.l.length x4.by_.c, .slice x4.kids.A x4.kids.l.length x4.kids.c])) [Rb 64 p s j26 m21, .pub ErrV, okP ExprX.Ok x4, Row (.slice A1 Lg.totals.length cp1) 9 1 strE Lg.totals, .blk b6 [iV 3, iV 0, iV 0, .string wd1, Zs, Zs, Zs] 26, .blk b4 Zx 26] ?_
 refine l_bsL exprE ([x4] : List ExprX) wn Tryd.underlying24 inf26 rfl rfl rfl rfl (by decide) (by decide) rfl fun b78 => ?_
 refine l_val wn (r_fa rfl fld26_6) rfl ?_
 refine l_st1 5 wn rfl rfl rfl rfl inf24 rfl rfl ?_
 refine l_nil (e_go hK42 ?_)
 refine c_seq fun _ hK43 => ?_
 refine c_region ?_
 refine l_val wn (r_move rfl) rfl ?_
 refine l_giveX (α := Pz.St) (PT := 61) [Rb 64 p s j26 m21, .pub ErrV] [Row (.slice (some ⟨b78, 0, none⟩) 1 1) 26 7 exprE ([x4] : List ExprX), okP ExprX.Ok x4, Row (.slice A1 Lg.totals.length cp1) 9 1 strE Lg.totals, .blk b6 [iV 3, iV 0, iV 0, .string wd1, Zs, Zs, .slice (some ⟨b78, 0, none⟩) 1 1] 26, .blk b4 Zx 26] (fun z : Pz.St => .tuple #[]) (fun z33 => Pz.must s ⟨#[41]⟩ ⟨j26, m21⟩ = .ok z33 ∧ Pz.Good s ⟨j26, m21⟩ z33) (fun z33 => [Rb 64 p s z33.at_ z33.nd, .pub ErrV]) _ (fun f30 => Pz.must s ⟨#[41]⟩ ⟨j26, m21⟩ = .no f30) (fun _ => rfl) (fun _ h => h.sel [1, 2, 0, 3, 4, 5, 6] (by decide) rfl) (fun _ => rfl) wn rfl rfl Tryd.call76 rfl (fun w1 Pb hG => c_must p s j26 m21 ⟨#[41]⟩ Pb w1 hG (by omega) (by omega) (by omega) ) ?_ fun z33 hz35 => ?_
 · intro f30 hf30
   refine e_then_p (e_body_p fun w1 hM => ?_)
   exact hM.retPan f30 (by first | (simp only [Pz.then_ok, Pz.then_no, Pz.St.go, if_true, if_false, Bool.false_eq_true, Bool.true_eq_false, not_true_eq_false, not_false_eq_true, ne_eq, and_true, true_and, and_false, false_and, and_self, not_and, Pz.all, Pz.bys, Pz.allTail, ExprX.e, ExprX.es, hz1e, he1, hz4e, he2, g7, g8, he26, he27, h1, hf30]; done) | simp [Pz.then_ok, Pz.then_no, Pz.St.go, if_true, if_false, Bool.false_eq_true, Bool.true_eq_false, not_true_eq_false, not_false_eq_true, ne_eq, and_true, true_and, and_false, false_and, and_self, not_and, Pz.all, Pz.bys, Pz.allTail, ExprX.e, ExprX.es, hz1e, he1, hz4e, he2, g7, g8, he26, he27, h1, hf30])
 obtain ⟨j27, m22⟩ := z33
 have he28 : Pz.must s ⟨#[41]⟩ ⟨j26, m21⟩ = .ok ⟨j27, m22⟩ := hz35.1
 have ga22 : j27 ≤ s.size := hz35.2.at_
 have gm22 : m21 ≤ m22 := hz35.2.mono
 have gn22 : m22 ≤ 100 := hz35.2.most (show m21 ≤ 100 by omega)
 refine l_as 81 (.tuple (List.toArray [])) [Rb 64 p s j27 m22, .pub ErrV, Row (.slice (some ⟨b78, 0, none⟩) 1 1) 26 7 exprE ([x4] : List ExprX), okP ExprX.Ok x4, Row (.slice A1 Lg.totals.length cp1) 9 1 strE Lg.totals, .blk b6 [iV 3, iV 0, iV 0, .string wd1, Zs, Zs, .slice (some ⟨b78, 0, none⟩) 1 1] 26, .blk b4 Zx 26] ?_
 refine l_nil (e_go hK43 ?_)
 refine c_seq fun _ hK44 => ?_
 refine c_region ?_
 refine l_val wn (r_move rfl) rfl ?_
 refine l_val wn (r_lbn 5 [iV 3, iV 0, iV 0, .string wd1, Zs, Zs, .slice (some ⟨b78, 0, none⟩) 1 1] rfl rfl rfl rfl agg26 inf26) rfl ?_
 refine l_sealX 2 0 encExprX rfl rfl (fp2) ?_
 refine l_mem (fun _ h => h.exprG (k := 3) (n := 0) (r := 0) (wd := wd1) (ms := ⟨none, 0, []⟩) (bs := ⟨none, 0, []⟩) (ks := ⟨(some ⟨b78, 0, none⟩), 1, ([x4] : List ExprX)⟩) (fun _ _ => FlatSl.nil_ _ _ _ _) (fun _ _ => FlatSl.nil_ _ _ _ _) (fun _ pp => pp.sl 2 rfl) (fun _ pp x hx => by simp only [List.mem_cons, List.not_mem_nil, or_false] at hx; rcases hx with rfl <;> first | exact pp.at_ 3 _ rfl) (by first | decide | omega) (fun x hx => by cases hx) (fun x hx => by cases hx)) ?_
 refine l_giveX (α := Unit) (PT := 61) [Rb 64 p s j27 m22, .pub ErrV] [okP ExprX.Ok (ExprX.mk 3 0 0 wd1 ⟨none, 0, []⟩ ⟨none, 0, []⟩ ⟨(some ⟨b78, 0, none⟩), 1, ([x4] : List ExprX)⟩), slP 7 exprE (.slice (some ⟨b78, 0, none⟩) 1 1) ([x4] : List ExprX), okP ExprX.Ok x4, Row (.slice A1 Lg.totals.length cp1) 9 1 strE Lg.totals, .blk b6 [iV 3, iV 0, iV 0, .string wd1, Zs, Zs, .slice (some ⟨b78, 0, none⟩) 1 1] 26, .blk b4 Zx 26] (fun _ : Unit => .agg (List.toArray [iV 3, iV 0, iV 0, .string wd1, Zs, Zs, .slice (some ⟨b78, 0, none⟩) 1 1])) (fun z34 => m22 + 1 ≤ 100) (fun z34 => [Rb 64 p s j27 (m22 + 1), .pub ErrV]) (fun z34 => [Rb 64 p s j27 (m22 + 1), .pub ErrV, okP ExprX.Ok (ExprX.mk 3 0 0 wd1 ⟨none, 0, []⟩ ⟨none, 0, []⟩ ⟨(some ⟨b78, 0, none⟩), 1, ([x4] : List ExprX)⟩), slP 7 exprE (.slice (some ⟨b78, 0, none⟩) 1 1) ([x4] : List ExprX), okP ExprX.Ok x4, Row (.slice A1 Lg.totals.length cp1) 9 1 strE Lg.totals, .blk b6 [iV 3, iV 0, iV 0, .string wd1, Zs, Zs, .slice (some ⟨b78, 0, none⟩) 1 1] 26, .blk b4 Zx 26]) (fun f31 => Pz.node ⟨j27, m22⟩ = .no f31) (fun _ => rfl) (fun _ h => h.sel [1, 2, 0, 3, 4, 5, 6, 7] (by decide) rfl) (fun _ => rfl) wn rfl rfl Tryd.call51 rfl (fun w1 Pb hG => c_node p s j27 m22 3 0 0 wd1 none 0 0 none 0 0 (some ⟨b78, 0, none⟩) 1 1 Pb w1 hG (by omega) (by omega) (by omega)) ?_ fun z34 hz36 => ?_
 · intro f31 hf31
   refine e_then_p (e_body_p fun w1 hM => ?_)
   exact hM.retPan f31 (by first | (simp only [Pz.then_ok, Pz.then_no, Pz.St.go, if_true, if_false, Bool.false_eq_true, Bool.true_eq_false, not_true_eq_false, not_false_eq_true, ne_eq, and_true, true_and, and_false, false_and, and_self, not_and, Pz.all, Pz.bys, Pz.allTail, ExprX.e, ExprX.es, hz1e, he1, hz4e, he2, g7, g8, he26, he27, he28, h1, hf31]; done) | simp [Pz.then_ok, Pz.then_no, Pz.St.go, if_true, if_false, Bool.false_eq_true, Bool.true_eq_false, not_true_eq_false, not_false_eq_true, ne_eq, and_true, true_and, and_false, false_and, and_self, not_and, Pz.all, Pz.bys, Pz.allTail, ExprX.e, ExprX.es, hz1e, he1, hz4e, he2, g7, g8, he26, he27, he28, h1, hf31])
 have he29 : Pz.node ⟨j27, m22⟩ = .ok ⟨j27, m22 + 1⟩ := Pz.node_yes hz36
 refine l_stn 7 wn rfl rfl rfl inf26 rfl rfl rfl ?_
 refine l_nil (e_go hK44 ?_)
 refine c_ret (e_ret1 (.inl rfl) Tryd.results78 (rv_cell 7 rfl rfl agg26 inf26 rfl) fun w1 hM => ?_)
 have h9 : Pz.all s (Pz.xpr s N) ⟨i, n⟩ = .ok ((ExprX.mk 3 0 0 wd1 ⟨none, 0, []⟩ ⟨none, 0, []⟩ ⟨(some ⟨b78, 0, none⟩), 1, ([x4] : List ExprX)⟩).e, ⟨j27, (m22 + 1)⟩) := by first | (simp only [Pz.then_ok, Pz.then_no, Pz.St.go, if_true, if_false, Bool.false_eq_true, Bool.true_eq_false, not_true_eq_false, not_false_eq_true, ne_eq, and_true, true_and, and_false, false_and, and_self, not_and, Pz.all, Pz.bys, Pz.allTail, ExprX.e, ExprX.es, hz1e, he1, hz4e, he2, g7, g8, he26, he27, he28, he29, h1]; done) | simp [Pz.then_ok, Pz.then_no, Pz.St.go, if_true, if_false, Bool.false_eq_true, Bool.true_eq_false, not_true_eq_false, not_false_eq_true, ne_eq, and_true, true_and, and_false, false_and, and_self, not_and, Pz.all, Pz.bys, Pz.allTail, ExprX.e, ExprX.es, hz1e, he1, hz4e, he2, g7, g8, he26, he27, he28, he29, h1]
 exact hM.retX (((ExprX.mk 3 0 0 wd1 ⟨none, 0, []⟩ ⟨none, 0, []⟩ ⟨(some ⟨b78, 0, none⟩), 1, ([x4] : List ExprX)⟩), ⟨j27, (m22 + 1)⟩) : ExprX × Pz.St) rfl ⟨h9, (Pz.all_fine (Pz.xpr_fine s N) hi).ok_ h9⟩ (fun h => h.sel [0, 1, 2] (by decide) rfl)

set_option maxHeartbeats 2000000 in
theorem c_factor (p : Nat) (s : ByteArray) (i : Nat) (n : Int) (d : Int) (N : Nat) (Pb : Nat → Prop) (w : World) (hG : Mem w ⟨fpOf [Rb 64 p s i n, .pub ErrV], Pb⟩ [Rb 64 p s i n, .pub ErrV] w) (hi : i ≤ s.size) (hs : s.size ≤ 2000) (hn : 0 ≤ n ∧ n ≤ 100) (hd : d + (N : Int) = 21) (hd1 : 1 ≤ d) (ih : ∀ M, N = M + 1 → XprC M) :
    Calls Tryd.prog 63 #[.pointer (some ⟨p, 0, none⟩), iV d] w (RetX w [Rb 64 p s i n, .pub ErrV] Pb 61 (fun z : ExprX × Pz.St => .agg (exprE z.1).toArray) (fun z => Pz.fac s N ⟨i, n⟩ = .ok (z.1.e, z.2) ∧ Pz.Good s ⟨i, n⟩ z.2) (fun z => [Rb 64 p s z.2.at_ z.2.nd, .pub ErrV, okP ExprX.Ok z.1]) (fun f => Pz.fac s N ⟨i, n⟩ = .no f)) := by
 refine fstart (N := 57) (vals := [.pointer (some ⟨p, 0, none⟩), iV d]) (S := Mem w ⟨fpOf [Rb 64 p s i n, .pub ErrV], Pb⟩ [Rb 64 p s i n, .pub ErrV]) Tryd.func63 rfl rfl rfl hG ?_
 refine c_seq fun _ hK1 => ?_
 refine c_region ?_
 refine l_alloc wn inf26 rfl fun b4 => ?_
 refine l_nil (e_go hK1 ?_)
 refine c_seq fun _ hK2 => ?_
 refine c_seq fun _ hK3 => ?_
 refine c_region ?_
 refine l_val wn (r_move rfl) rfl ?_
 refine l_val wn (r_gtr rfl rfl) rfl ?_
 refine l_nil (e_go hK3 ?_)
 refine c_cond rfl (fun h1 => ?_) (fun h1 => ?_)
 · refine c_region ?_
   refine l_val wn (r_move rfl) rfl ?_
   refine l_giveX (α := Unit) (PT := 61) [Rb 64 p s i n, .pub ErrV] [.blk b4 Zx 26] (fun _ : Unit => .tuple #[]) (fun z1 => False) (fun z1 => [Rb 64 p s i n, .pub ErrV]) (fun z1 => [Rb 64 p s i n, .pub ErrV, .blk b4 Zx 26]) (fun f1 => f1 = (4, (i : Int))) (fun _ => rfl) (fun _ h => h.sel [1, 2, 0] (by decide) rfl) (fun _ => rfl) wn rfl rfl Tryd.call32 rfl (fun w1 Pb hG => c_fail p s i n 4 Pb w1 hG) ?_ fun z1 hz1 => ?_
   · intro f1 hf1
     refine e_then_p (e_body_p fun w1 hM => ?_)
     exact hM.retPan f1 (by rw [show N = 0 by omega, hf1]; rfl)
   exact hz1.elim
 obtain ⟨M, rfl⟩ : ∃ M, N = M + 1 := ⟨N - 1, by omega⟩
 refine c_skip (e_go hK2 ?_)
 refine c_seq fun _ hK4 => ?_
 refine c_seq fun _ hK5 => ?_
 refine c_region ?_
 refine l_val wn (r_move rfl) rfl ?_
 refine l_give (α := (Bool × Nat)) [Rb 64 p s i n, .pub ErrV] [.blk b4 Zx 26] (fun z : Bool × Nat => .bool z.1) (fun z2 => (Pz.eat s ⟨#[40]⟩ i = z2 ∧ i ≤ z2.2 ∧ z2.2 ≤ s.size)) (fun z2 => [Rb 64 p s z2.2 n, .pub ErrV]) _ (fun _ => rfl) (fun _ h => h.sel [1, 2, 0] (by decide) rfl) (fun _ => rfl) wn rfl rfl Tryd.call50 rfl (fun w1 Pb hG => c_eat p s i n ⟨#[40]⟩ Pb w1 hG (by omega) (by omega)) fun z2 hz2 => ?_
 obtain ⟨bo1, j1⟩ := z2
 have he1 : Pz.eat s ⟨#[40]⟩ i = (bo1, j1) := hz2.1
 have hz2a : i ≤ j1 := hz2.2.1
 have hz2b : j1 ≤ s.size := hz2.2.2
 refine l_as 13 (.bool bo1) [Rb 64 p s j1 n, .pub ErrV, .blk b4 Zx 26] ?_
 refine l_nil (e_go hK5 ?_)
 refine c_condb rfl (fun h2 => ?_) (fun h2 => ?_)
 · refine c_seq fun _ hK6 => ?_
   refine c_region ?_
   refine l_val wn (r_move rfl) rfl ?_
   refine l_val wn (r_move rfl) rfl ?_
   refine l_val wn (r_addn rfl rfl (by omega)) rfl ?_
   refine l_giveX (α := ExprX × Pz.St) (PT := 61) [Rb 64 p s j1 n, .pub ErrV] [.blk b4 Zx 26] (fun z : ExprX × Pz.St => .agg (exprE z.1).toArray) (fun z3 => Pz.xpr s M ⟨j1, n⟩ = .ok (z3.1.e, z3.2) ∧ Pz.Good s ⟨j1, n⟩ z3.2) (fun z3 => [Rb 64 p s z3.2.at_ z3.2.nd, .pub ErrV, okP ExprX.Ok z3.1]) _ (fun f2 => Pz.xpr s M ⟨j1, n⟩ = .no f2) (fun _ => rfl) (fun _ h => h.sel [0, 1, 2] (by decide) rfl) (fun _ => rfl) wn rfl rfl Tryd.call30 rfl (fun w1 Pb hG => (ih M rfl) p s j1 n (d + 1) Pb w1 hG (by omega) (by omega) (by omega) (by omega) (by omega)) ?_ fun z3 hz3 => ?_
   · intro f2 hf2
     refine e_then_p (e_then_p (e_body_p fun w1 hM => ?_))
     exact hM.retPan f2 (by first | (simp only [Pz.then_ok, Pz.then_no, Pz.St.go, if_true, if_false, Bool.false_eq_true, Bool.true_eq_false, not_true_eq_false, not_false_eq_true, ne_eq, and_true, true_and, and_false, false_and, and_self, not_and, Pz.fac_succ, Pz.factor, ExprX.e, ExprX.es, he1, h1, h2, hf2]; done) | simp [Pz.then_ok, Pz.then_no, Pz.St.go, if_true, if_false, Bool.false_eq_true, Bool.true_eq_false, not_true_eq_false, not_false_eq_true, ne_eq, and_true, true_and, and_false, false_and, and_self, not_and, Pz.fac_succ, Pz.factor, ExprX.e, ExprX.es, he1, h1, h2, hf2])
   obtain ⟨x1, j2, m1⟩ := z3
   have he2 : Pz.xpr s M ⟨j1, n⟩ = .ok (x1.e, ⟨j2, m1⟩) := hz3.1
   have ga1 : j2 ≤ s.size := hz3.2.at_
   have gm1 : n ≤ m1 := hz3.2.mono
   have gn1 : m1 ≤ 100 := hz3.2.most (show n ≤ 100 by omega)
   refine l_as 17 (.agg (List.toArray [iV x1.kind, iV x1.n, iV x1.range, .string x1.word, .slice x1.ms.A x1.ms.l.length x1.ms.c, .slice x1.by_.A x1.by_.l.length x1.by_.c, .slice x1.kids.A x1.kids.l.length x1.kids.c])) [Rb 64 p s j2 m1, .pub ErrV, okP ExprX.Ok x1, .blk b4 Zx 26] ?_
   refine l_alloc wn inf26 rfl fun b5 => ?_
   refine l_stn 0 wn rfl rfl rfl inf26 rfl rfl rfl ?_
   refine l_nil (e_go hK6 ?_)
   refine c_seq fun _ hK7 => ?_
   refine c_region ?_
   refine l_val wn (r_move rfl) rfl ?_
   refine l_giveX (α := Pz.St) (PT := 61) [Rb 64 p s j2 m1, .pub ErrV] [.blk b5 [iV x1.kind, iV x1.n, iV x1.range, .string x1.word, .slice x1.ms.A x1.ms.l.length x1.ms.c, .slice x1.by_.A x1.by_.l.length x1.by_.c, .slice x1.kids.A x1.kids.l.length x1.kids.c] 26, okP ExprX.Ok x1, .blk b4 Zx 26] (fun z : Pz.St => .tuple #[]) (fun z4 => Pz.must s ⟨#[41]⟩ ⟨j2, m1⟩ = .ok z4 ∧ Pz.Good s ⟨j2, m1⟩ z4) (fun z4 => [Rb 64 p s z4.at_ z4.nd, .pub ErrV]) _ (fun f3 => Pz.must s ⟨#[41]⟩ ⟨j2, m1⟩ = .no f3) (fun _ => rfl) (fun _ h => h.sel [1, 2, 0, 3, 4] (by decide) rfl) (fun _ => rfl) wn rfl rfl Tryd.call76 rfl (fun w1 Pb hG => c_must p s j2 m1 ⟨#[41]⟩ Pb w1 hG (by omega) (by omega) (by omega) ) ?_ fun z4 hz4 => ?_
   · intro f3 hf3
     refine e_then_p (e_then_p (e_body_p fun w1 hM => ?_))
     exact hM.retPan f3 (by first | (simp only [Pz.then_ok, Pz.then_no, Pz.St.go, if_true, if_false, Bool.false_eq_true, Bool.true_eq_false, not_true_eq_false, not_false_eq_true, ne_eq, and_true, true_and, and_false, false_and, and_self, not_and, Pz.fac_succ, Pz.factor, ExprX.e, ExprX.es, he1, he2, h1, h2, hf3]; done) | simp [Pz.then_ok, Pz.then_no, Pz.St.go, if_true, if_false, Bool.false_eq_true, Bool.true_eq_false, not_true_eq_false, not_false_eq_true, ne_eq, and_true, true_and, and_false, false_and, and_self, not_and, Pz.fac_succ, Pz.factor, ExprX.e, ExprX.es, he1, he2, h1, h2, hf3])
   obtain ⟨j3, m2⟩ := z4
   have he3 : Pz.must s ⟨#[41]⟩ ⟨j2, m1⟩ = .ok ⟨j3, m2⟩ := hz4.1
   have ga2 : j3 ≤ s.size := hz4.2.at_
   have gm2 : m1 ≤ m2 := hz4.2.mono
   have gn2 : m2 ≤ 100 := hz4.2.most (show m1 ≤ 100 by omega)
   refine l_as 19 (.tuple (List.toArray [])) [Rb 64 p s j3 m2, .pub ErrV, .blk b5 [iV x1.kind, iV x1.n, iV x1.range, .string x1.word, .slice x1.ms.A x1.ms.l.length x1.ms.c, .slice x1.by_.A x1.by_.l.length x1.by_.c, .slice x1.kids.A x1.kids.l.length x1.kids.c] 26, okP ExprX.Ok x1, .blk b4 Zx 26] ?_
   refine l_nil (e_go hK7 ?_)
   refine c_seq fun _ hK8 => ?_
   refine c_region ?_
   refine l_val wn (r_lbn 2 [iV x1.kind, iV x1.n, iV x1.range, .string x1.word, .slice x1.ms.A x1.ms.l.length x1.ms.c, .slice x1.by_.A x1.by_.l.length x1.by_.c, .slice x1.kids.A x1.kids.l.length x1.kids.c] rfl rfl rfl rfl agg26 inf26) rfl ?_
   refine l_stn 4 wn rfl rfl rfl inf26 rfl rfl rfl ?_
   refine l_nil (e_go hK8 ?_)
   refine c_ret (e_then_r (e_ret1 (.inl rfl) Tryd.results63 (rv_cell 4 rfl rfl agg26 inf26 rfl) fun w1 hM => ?_))
   have h9 : Pz.fac s (M + 1) ⟨i, n⟩ = .ok (x1.e, ⟨j3, m2⟩) := by first | (simp only [Pz.then_ok, Pz.then_no, Pz.St.go, if_true, if_false, Bool.false_eq_true, Bool.true_eq_false, not_true_eq_false, not_false_eq_true, ne_eq, and_true, true_and, and_false, false_and, and_self, not_and, Pz.fac_succ, Pz.factor, ExprX.e, ExprX.es, he1, he2, he3, h1, h2]; done) | simp [Pz.then_ok, Pz.then_no, Pz.St.go, if_true, if_false, Bool.false_eq_true, Bool.true_eq_false, not_true_eq_false, not_false_eq_true, ne_eq, and_true, true_and, and_false, false_and, and_self, not_and, Pz.fac_succ, Pz.factor, ExprX.e, ExprX.es, he1, he2, he3, h1, h2]
   exact hM.retX ((x1, ⟨j3, m2⟩) : ExprX × Pz.St) rfl ⟨h9, (Pz.fac_fine s (M + 1) _ hi).ok_ h9⟩ (fun h => h.sel [0, 1, 3] (by decide) rfl)
 have g1 : bo1 = false := by simpa using h2
 refine c_skip (e_go hK4 ?_)
 refine c_seq fun _ hK9 => ?_
 refine c_region ?_
 refine l_val wn (r_move rfl) rfl ?_
 refine l_give (α := Nat) [Rb 64 p s j1 n, .pub ErrV] [.blk b4 Zx 26] (fun _ => .tuple #[]) (fun j4 => (Pz.blank s j1 = j4 ∧ j1 ≤ j4 ∧ j4 ≤ s.size)) (fun j4 => [Rb 64 p s j4 n, .pub ErrV]) (fun j4 => [Rb 64 p s j4 n, .pub ErrV, .blk b4 Zx 26]) (fun _ => rfl) (fun _ h => h.sel [0, 1, 2] (by decide) rfl) (fun _ => rfl) wn rfl rfl Tryd.call31 rfl (fun w1 Pb hG => c_blank p s j1 n Pb w1 hG (by omega) (by omega)) fun j4 hz5 => ?_
 obtain ⟨hz5e, hz5a, hz5b⟩ := hz5
 refine l_nil (e_go hK9 ?_)
 refine c_seq fun _ hK10 => ?_
 refine c_region ?_
 refine l_val wn (r_move rfl) rfl ?_
 refine l_val wn (r_nilCheck rfl) rfl ?_
 refine l_val wn (r_fa rfl fld64_1) rfl ?_
 refine l_val wn (r_lb 0 rfl rfl rfl flat3) rfl ?_
 refine l_val wn (r_assign rfl) rfl ?_
 refine l_nil (e_go hK10 ?_)
 refine c_seq fun _ hK11 => ?_
 refine c_region ?_
 refine l_val wn (r_move rfl) rfl ?_
 refine l_giveX (α := ByteArray × Pz.St) (PT := 61) [Rb 64 p s j4 n, .pub ErrV] [.blk b4 Zx 26] (fun z : ByteArray × Pz.St => .string z.1) (fun z5 => Pz.word s ⟨j4, n⟩ = .ok z5 ∧ Pz.Good s ⟨j4, n⟩ z5.2) (fun z5 => [Rb 64 p s z5.2.at_ z5.2.nd, .pub ErrV]) _ (fun f4 => Pz.word s ⟨j4, n⟩ = .no f4) (fun _ => rfl) (fun _ h => h.sel [0, 1, 2] (by decide) rfl) (fun _ => rfl) wn rfl rfl Tryd.call77 rfl (fun w1 Pb hG => c_word p s j4 n  Pb w1 hG (by omega) (by omega) (by omega) ) ?_ fun z5 hz6 => ?_
 · intro f4 hf4
   refine e_then_p (e_body_p fun w1 hM => ?_)
   exact hM.retPan f4 (by first | (simp only [Pz.then_ok, Pz.then_no, Pz.St.go, if_true, if_false, Bool.false_eq_true, Bool.true_eq_false, not_true_eq_false, not_false_eq_true, ne_eq, and_true, true_and, and_false, false_and, and_self, not_and, Pz.fac_succ, Pz.factor, ExprX.e, ExprX.es, he1, g1, hz5e, h1, h2, hf4]; done) | simp [Pz.then_ok, Pz.then_no, Pz.St.go, if_true, if_false, Bool.false_eq_true, Bool.true_eq_false, not_true_eq_false, not_false_eq_true, ne_eq, and_true, true_and, and_false, false_and, and_self, not_and, Pz.fac_succ, Pz.factor, ExprX.e, ExprX.es, he1, g1, hz5e, h1, h2, hf4])
 obtain ⟨wd1, j5, m3⟩ := z5
 have he4 : Pz.word s ⟨j4, n⟩ = .ok (wd1, ⟨j5, m3⟩) := hz6.1
 have ga3 : j5 ≤ s.size := hz6.2.at_
 have gm3 : n ≤ m3 := hz6.2.mono
 have gn3 : m3 ≤ 100 := hz6.2.most (show n ≤ 100 by omega)
 have wz1 : wd1.size ≤ 12 := Pz.word_size (t := ⟨j4, n⟩) (show j4 ≤ _ by omega) he4
 refine l_as 28 (.string wd1) [Rb 64 p s j5 m3, .pub ErrV, .blk b4 Zx 26] ?_
 refine l_val wn (r_assign rfl) rfl ?_
 refine l_nil (e_go hK11 ?_)
 refine c_seq fun _ hK12 => ?_
 refine c_block ?_
 refine c_seq fun _ hK13 => ?_
 refine c_region ?_
 refine l_val wn (r_move rfl) rfl ?_
 refine l_val wn (r_seql rfl rfl) rfl ?_
 refine l_val wn (r_assign rfl) rfl ?_
 refine l_nil (e_go hK13 ?_)
 refine c_cond rfl (fun h3 => ?_) (fun h3 => ?_)
 · have g2 : (wd1 = ⟨#[97, 108, 108]⟩) = True := eq_true h3
   refine c_seq fun _ hK14 => ?_
   refine c_region ?_
   refine l_val wn (r_move rfl) rfl ?_
   refine l_val wn (r_move rfl) rfl ?_
   refine l_giveX (α := ExprX × Pz.St) (PT := 61) [Rb 64 p s j5 m3, .pub ErrV] [.blk b4 Zx 26] (fun z : ExprX × Pz.St => .agg (exprE z.1).toArray) (fun z6 => Pz.all s (Pz.xpr s M) ⟨j5, m3⟩ = .ok (z6.1.e, z6.2) ∧ Pz.Good s ⟨j5, m3⟩ z6.2) (fun z6 => [Rb 64 p s z6.2.at_ z6.2.nd, .pub ErrV, okP ExprX.Ok z6.1]) _ (fun f5 => Pz.all s (Pz.xpr s M) ⟨j5, m3⟩ = .no f5) (fun _ => rfl) (fun _ h => h.sel [0, 1, 2] (by decide) rfl) (fun _ => rfl) wn rfl rfl Tryd.call78 rfl (fun w1 Pb hG => c_all p s j5 m3 d M Pb w1 hG (by omega) (by omega) (by omega) (by omega) (by omega) (ih M rfl)) ?_ fun z6 hz7 => ?_
   · intro f5 hf5
     refine e_then_p (e_in_p (e_then_p (e_body_p fun w1 hM => ?_)))
     exact hM.retPan f5 (by first | (simp only [Pz.then_ok, Pz.then_no, Pz.St.go, if_true, if_false, Bool.false_eq_true, Bool.true_eq_false, not_true_eq_false, not_false_eq_true, ne_eq, and_true, true_and, and_false, false_and, and_self, not_and, Pz.fac_succ, Pz.factor, ExprX.e, ExprX.es, he1, g1, hz5e, he4, g2, h1, h2, hf5]; done) | simp [Pz.then_ok, Pz.then_no, Pz.St.go, if_true, if_false, Bool.false_eq_true, Bool.true_eq_false, not_true_eq_false, not_false_eq_true, ne_eq, and_true, true_and, and_false, false_and, and_self, not_and, Pz.fac_succ, Pz.factor, ExprX.e, ExprX.es, he1, g1, hz5e, he4, g2, h1, h2, hf5])
   obtain ⟨x2, j6, m4⟩ := z6
   have he5 : Pz.all s (Pz.xpr s M) ⟨j5, m3⟩ = .ok (x2.e, ⟨j6, m4⟩) := hz7.1
   have ga4 : j6 ≤ s.size := hz7.2.at_
   have gm4 : m3 ≤ m4 := hz7.2.mono
   have gn4 : m4 ≤ 100 := hz7.2.most (show m3 ≤ 100 by omega)
   refine l_as 34 (.agg (List.toArray [iV x2.kind, iV x2.n, iV x2.range, .string x2.word, .slice x2.ms.A x2.ms.l.length x2.ms.c, .slice x2.by_.A x2.by_.l.length x2.by_.c, .slice x2.kids.A x2.kids.l.length x2.kids.c])) [Rb 64 p s j6 m4, .pub ErrV, okP ExprX.Ok x2, .blk b4 Zx 26] ?_
   refine l_stn 3 wn rfl rfl rfl inf26 rfl rfl rfl ?_
   refine l_nil (e_go hK14 ?_)
   refine c_ret (e_in_r (e_then_r (e_ret1 (.inl rfl) Tryd.results63 (rv_cell 3 rfl rfl agg26 inf26 rfl) fun w1 hM => ?_)))
   have h9 : Pz.fac s (M + 1) ⟨i, n⟩ = .ok (x2.e, ⟨j6, m4⟩) := by first | (simp only [Pz.then_ok, Pz.then_no, Pz.St.go, if_true, if_false, Bool.false_eq_true, Bool.true_eq_false, not_true_eq_false, not_false_eq_true, ne_eq, and_true, true_and, and_false, false_and, and_self, not_and, Pz.fac_succ, Pz.factor, ExprX.e, ExprX.es, he1, g1, hz5e, he4, g2, he5, h1, h2]; done) | simp [Pz.then_ok, Pz.then_no, Pz.St.go, if_true, if_false, Bool.false_eq_true, Bool.true_eq_false, not_true_eq_false, not_false_eq_true, ne_eq, and_true, true_and, and_false, false_and, and_self, not_and, Pz.fac_succ, Pz.factor, ExprX.e, ExprX.es, he1, g1, hz5e, he4, g2, he5, h1, h2]
   exact hM.retX ((x2, ⟨j6, m4⟩) : ExprX × Pz.St) rfl ⟨h9, (Pz.fac_fine s (M + 1) _ hi).ok_ h9⟩ (fun h => h.sel [0, 1, 2] (by decide) rfl)
 have g3 : (wd1 = ⟨#[97, 108, 108]⟩) = False := eq_false h3
 refine c_seq fun _ hK15 => ?_
 refine c_region ?_
 refine l_val wn (r_move rfl) rfl ?_
 refine l_val wn (r_seql rfl rfl) rfl ?_
 refine l_val wn (r_assign rfl) rfl ?_
 refine l_nil (e_go hK15 ?_)
 refine c_cond rfl (fun h4 => ?_) (fun h4 => ?_)
 · have g4 : (wd1 = ⟨#[]⟩) = True := eq_true h4
   refine c_seq fun _ hK16 => ?_
   refine c_region ?_
   refine l_val wn (r_move rfl) rfl ?_
   refine l_val wn (r_move rfl) rfl ?_
   refine l_giveX (α := Int × Pz.St) (PT := 61) [Rb 64 p s j5 m3, .pub ErrV] [.blk b4 Zx 26] (fun z : Int × Pz.St => iV z.1) (fun z7 => Pz.num s 0 1000000 ⟨j5, m3⟩ = .ok z7 ∧ Pz.Good s ⟨j5, m3⟩ z7.2) (fun z7 => [Rb 64 p s z7.2.at_ z7.2.nd, .pub ErrV]) _ (fun f6 => Pz.num s 0 1000000 ⟨j5, m3⟩ = .no f6) (fun _ => rfl) (fun _ h => h.sel [0, 1, 2] (by decide) rfl) (fun _ => rfl) wn rfl rfl Tryd.call79 rfl (fun w1 Pb hG => c_num p s j5 m3 0 1000000 Pb w1 hG (by omega) (by omega) (by omega) (by omega)) ?_ fun z7 hz8 => ?_
   · intro f6 hf6
     refine e_then_p (e_in_p (e_then_p (e_body_p fun w1 hM => ?_)))
     exact hM.retPan f6 (by first | (simp only [Pz.then_ok, Pz.then_no, Pz.St.go, if_true, if_false, Bool.false_eq_true, Bool.true_eq_false, not_true_eq_false, not_false_eq_true, ne_eq, and_true, true_and, and_false, false_and, and_self, not_and, Pz.fac_succ, Pz.factor, ExprX.e, ExprX.es, he1, g1, hz5e, he4, g3, g4, h1, h2, hf6]; done) | simp [Pz.then_ok, Pz.then_no, Pz.St.go, if_true, if_false, Bool.false_eq_true, Bool.true_eq_false, not_true_eq_false, not_false_eq_true, ne_eq, and_true, true_and, and_false, false_and, and_self, not_and, Pz.fac_succ, Pz.factor, ExprX.e, ExprX.es, he1, g1, hz5e, he4, g3, g4, h1, h2, hf6])
   obtain ⟨v1, j7, m5⟩ := z7
   have he6 : Pz.num s 0 1000000 ⟨j5, m3⟩ = .ok (v1, ⟨j7, m5⟩) := hz8.1
   have ga5 : j7 ≤ s.size := hz8.2.at_
   have gm5 : m3 ≤ m5 := hz8.2.mono
   have gn5 : m5 ≤ 100 := hz8.2.most (show m3 ≤ 100 by omega)
   refine l_as 40 (iV v1) [Rb 64 p s j7 m5, .pub ErrV, .blk b4 Zx 26] ?_
   refine l_val wn (r_build [iV 1, iV v1, iV 0, .string ⟨#[]⟩, Zs, Zs, Zs] pl26 inf26 rfl rfl) rfl ?_
   refine l_mem (fun _ h => h.exprG (k := 1) (n := v1) (r := 0) (wd := ⟨#[]⟩) (ms := ⟨none, 0, []⟩) (bs := ⟨none, 0, []⟩) (ks := ⟨none, 0, []⟩) (fun _ _ => FlatSl.nil_ _ _ _ _) (fun _ _ => FlatSl.nil_ _ _ _ _) (fun _ _ => FlatSl.nil_ _ _ _ _) (fun _ _ x hx => by cases hx) (by first | decide | omega) (fun x hx => by cases hx) (fun x hx => by cases hx)) ?_
   refine l_giveX (α := Unit) (PT := 61) [Rb 64 p s j7 m5, .pub ErrV] [okP ExprX.Ok (ExprX.mk 1 v1 0 ⟨#[]⟩ ⟨none, 0, []⟩ ⟨none, 0, []⟩ ⟨none, 0, []⟩), .blk b4 Zx 26] (fun _ : Unit => .agg (List.toArray [iV 1, iV v1, iV 0, .string ⟨#[]⟩, Zs, Zs, Zs])) (fun z8 => m5 + 1 ≤ 100) (fun z8 => [Rb 64 p s j7 (m5 + 1), .pub ErrV]) (fun z8 => [Rb 64 p s j7 (m5 + 1), .pub ErrV, okP ExprX.Ok (ExprX.mk 1 v1 0 ⟨#[]⟩ ⟨none, 0, []⟩ ⟨none, 0, []⟩ ⟨none, 0, []⟩), .blk b4 Zx 26]) (fun f7 => Pz.node ⟨j7, m5⟩ = .no f7) (fun _ => rfl) (fun _ h => h.sel [1, 2, 0, 3] (by decide) rfl) (fun _ => rfl) wn rfl rfl Tryd.call51 rfl (fun w1 Pb hG => c_node p s j7 m5 1 v1 0 ⟨#[]⟩ none 0 0 none 0 0 none 0 0 Pb w1 hG (by omega) (by omega) (by omega)) ?_ fun z8 hz9 => ?_
   · intro f7 hf7
     refine e_then_p (e_in_p (e_then_p (e_body_p fun w1 hM => ?_)))
     exact hM.retPan f7 (by first | (simp only [Pz.then_ok, Pz.then_no, Pz.St.go, if_true, if_false, Bool.false_eq_true, Bool.true_eq_false, not_true_eq_false, not_false_eq_true, ne_eq, and_true, true_and, and_false, false_and, and_self, not_and, Pz.fac_succ, Pz.factor, ExprX.e, ExprX.es, he1, g1, hz5e, he4, g3, g4, he6, h1, h2, hf7]; done) | simp [Pz.then_ok, Pz.then_no, Pz.St.go, if_true, if_false, Bool.false_eq_true, Bool.true_eq_false, not_true_eq_false, not_false_eq_true, ne_eq, and_true, true_and, and_false, false_and, and_self, not_and, Pz.fac_succ, Pz.factor, ExprX.e, ExprX.es, he1, g1, hz5e, he4, g3, g4, he6, h1, h2, hf7])
   have he7 : Pz.node ⟨j7, m5⟩ = .ok ⟨j7, m5 + 1⟩ := Pz.node_yes hz9
   refine l_stn 3 wn rfl rfl rfl inf26 rfl rfl rfl ?_
   refine l_nil (e_go hK16 ?_)
   refine c_ret (e_in_r (e_then_r (e_ret1 (.inl rfl) Tryd.results63 (rv_cell 3 rfl rfl agg26 inf26 rfl) fun w1 hM => ?_)))
   have h9 : Pz.fac s (M + 1) ⟨i, n⟩ = .ok ((ExprX.mk 1 v1 0 ⟨#[]⟩ ⟨none, 0, []⟩ ⟨none, 0, []⟩ ⟨none, 0, []⟩).e, ⟨j7, (m5 + 1)⟩) := by first | (simp only [Pz.then_ok, Pz.then_no, Pz.St.go, if_true, if_false, Bool.false_eq_true, Bool.true_eq_false, not_true_eq_false, not_false_eq_true, ne_eq, and_true, true_and, and_false, false_and, and_self, not_and, Pz.fac_succ, Pz.factor, ExprX.e, ExprX.es, he1, g1, hz5e, he4, g3, g4, he6, he7, h1, h2]; done) | simp [Pz.then_ok, Pz.then_no, Pz.St.go, if_true, if_false, Bool.false_eq_true, Bool.true_eq_false, not_true_eq_false, not_false_eq_true, ne_eq, and_true, true_and, and_false, false_and, and_self, not_and, Pz.fac_succ, Pz.factor, ExprX.e, ExprX.es, he1, g1, hz5e, he4, g3, g4, he6, he7, h1, h2]
   exact hM.retX (((ExprX.mk 1 v1 0 ⟨#[]⟩ ⟨none, 0, []⟩ ⟨none, 0, []⟩ ⟨none, 0, []⟩), ⟨j7, (m5 + 1)⟩) : ExprX × Pz.St) rfl ⟨h9, (Pz.fac_fine s (M + 1) _ hi).ok_ h9⟩ (fun h => h.sel [0, 1, 2] (by decide) rfl)
 have g5 : (wd1 = ⟨#[]⟩) = False := eq_false h4
 refine c_seq fun _ hK17 => ?_
 refine c_region ?_
 refine l_callL Agg.words wn rfl Tryd.call73 rfl (fun w1 hM => c_Words  w1) fun A1 cp1 hc1 hm1 hA1 => ?_
 refine l_val wn (r_move rfl) rfl ?_
 refine l_callF wn rfl Tryd.call59 rfl (fun w1 hM => c_contains _ Agg.words wd1 w1 (RowSl encString hM 0 rfl)) ?_
 refine l_val wn (r_not rfl) rfl ?_
 refine l_val wn (r_assign rfl) rfl ?_
 refine l_nil (e_go hK17 ?_)
 refine c_cond rfl (fun h5 => ?_) (fun h5 => ?_)
 · refine c_seq fun _ hK18 => ?_
   refine c_region ?_
   refine l_val wn (r_move rfl) rfl ?_
   refine l_val wn (r_move rfl) rfl ?_
   refine l_val wn (r_nilCheck rfl) rfl ?_
   refine l_val wn (r_fa rfl fld64_1) rfl ?_
   refine l_st1 1 wn rfl rfl rfl rfl inf3 rfl rfl ?_
   refine l_nil (e_go hK18 ?_)
   refine c_region ?_
   refine l_val wn (r_move rfl) rfl ?_
   refine l_giveX (α := Unit) (PT := 61) [Rb 64 p s j4 m3, .pub ErrV] [Row (.slice A1 Agg.words.length cp1) 9 1 strE Agg.words, .blk b4 Zx 26] (fun _ : Unit => .tuple #[]) (fun z9 => False) (fun z9 => [Rb 64 p s j4 m3, .pub ErrV]) (fun z9 => [Rb 64 p s j4 m3, .pub ErrV, Row (.slice A1 Agg.words.length cp1) 9 1 strE Agg.words, .blk b4 Zx 26]) (fun f8 => f8 = (7, (j4 : Int))) (fun _ => rfl) (fun _ h => h.sel [1, 2, 0, 3] (by decide) rfl) (fun _ => rfl) wn rfl rfl Tryd.call32 rfl (fun w1 Pb hG => c_fail p s j4 m3 7 Pb w1 hG) ?_ fun z9 hz10 => ?_
   · intro f8 hf8
     refine e_in_p (e_then_p (e_body_p fun w1 hM => ?_))
     exact hM.retPan f8 (by first | (simp only [Pz.then_ok, Pz.then_no, Pz.St.go, if_true, if_false, Bool.false_eq_true, Bool.true_eq_false, not_true_eq_false, not_false_eq_true, ne_eq, and_true, true_and, and_false, false_and, and_self, not_and, Pz.fac_succ, Pz.factor, ExprX.e, ExprX.es, he1, g1, hz5e, he4, g3, g5, h1, h2, h5, hf8]; done) | simp [Pz.then_ok, Pz.then_no, Pz.St.go, if_true, if_false, Bool.false_eq_true, Bool.true_eq_false, not_true_eq_false, not_false_eq_true, ne_eq, and_true, true_and, and_false, false_and, and_self, not_and, Pz.fac_succ, Pz.factor, ExprX.e, ExprX.es, he1, g1, hz5e, he4, g3, g5, h1, h2, h5, hf8])
   exact hz10.elim
 refine c_skip (e_in_n (e_go hK12 ?_))
 refine c_seq fun _ hK19 => ?_
 refine c_region ?_
 refine l_val wn (r_move rfl) rfl ?_
 refine l_val wn (r_move rfl) rfl ?_
 refine l_giveX (α := ExprX × Pz.St) (PT := 61) [Rb 64 p s j5 m3, .pub ErrV] [Row (.slice A1 Agg.words.length cp1) 9 1 strE Agg.words, .blk b4 Zx 26] (fun z : ExprX × Pz.St => .agg (exprE z.1).toArray) (fun z10 => Pz.window s wd1 ⟨j5, m3⟩ = .ok (z10.1.e, z10.2) ∧ Pz.Good s ⟨j5, m3⟩ z10.2) (fun z10 => [Rb 64 p s z10.2.at_ z10.2.nd, .pub ErrV, okP ExprX.Ok z10.1]) _ (fun f9 => Pz.window s wd1 ⟨j5, m3⟩ = .no f9) (fun _ => rfl) (fun _ h => h.sel [1, 2, 0, 3] (by decide) rfl) (fun _ => rfl) wn rfl rfl Tryd.call80 rfl (fun w1 Pb hG => c_window p s j5 m3 wd1 Pb w1 hG (by omega) (by omega) (by omega) (by omega)) ?_ fun z10 hz11 => ?_
 · intro f9 hf9
   refine e_then_p (e_body_p fun w1 hM => ?_)
   exact hM.retPan f9 (by first | (simp only [Pz.then_ok, Pz.then_no, Pz.St.go, if_true, if_false, Bool.false_eq_true, Bool.true_eq_false, not_true_eq_false, not_false_eq_true, ne_eq, and_true, true_and, and_false, false_and, and_self, not_and, Pz.fac_succ, Pz.factor, ExprX.e, ExprX.es, he1, g1, hz5e, he4, g3, g5, h1, h2, h5, hf9]; done) | simp [Pz.then_ok, Pz.then_no, Pz.St.go, if_true, if_false, Bool.false_eq_true, Bool.true_eq_false, not_true_eq_false, not_false_eq_true, ne_eq, and_true, true_and, and_false, false_and, and_self, not_and, Pz.fac_succ, Pz.factor, ExprX.e, ExprX.es, he1, g1, hz5e, he4, g3, g5, h1, h2, h5, hf9])
 obtain ⟨x3, j8, m6⟩ := z10
 have he8 : Pz.window s wd1 ⟨j5, m3⟩ = .ok (x3.e, ⟨j8, m6⟩) := hz11.1
 have ga6 : j8 ≤ s.size := hz11.2.at_
 have gm6 : m3 ≤ m6 := hz11.2.mono
 have gn6 : m6 ≤ 100 := hz11.2.most (show m3 ≤ 100 by omega)
 refine l_as 56 (.agg (List.toArray [iV x3.kind, iV x3.n, iV x3.range, .string x3.word, .slice x3.ms.A x3.ms.l.length x3.ms.c, .slice x3.by_.A x3.by_.l.length x3.by_.c, .slice x3.kids.A x3.kids.l.length x3.kids.c])) [Rb 64 p s j8 m6, .pub ErrV, okP ExprX.Ok x3, Row (.slice A1 Agg.words.length cp1) 9 1 strE Agg.words, .blk b4 Zx 26] ?_
 refine l_stn 4 wn rfl rfl rfl inf26 rfl rfl rfl ?_
 refine l_nil (e_go hK19 ?_)
 refine c_ret (e_ret1 (.inl rfl) Tryd.results63 (rv_cell 4 rfl rfl agg26 inf26 rfl) fun w1 hM => ?_)
 have h9 : Pz.fac s (M + 1) ⟨i, n⟩ = .ok (x3.e, ⟨j8, m6⟩) := by first | (simp only [Pz.then_ok, Pz.then_no, Pz.St.go, if_true, if_false, Bool.false_eq_true, Bool.true_eq_false, not_true_eq_false, not_false_eq_true, ne_eq, and_true, true_and, and_false, false_and, and_self, not_and, Pz.fac_succ, Pz.factor, ExprX.e, ExprX.es, he1, g1, hz5e, he4, g3, g5, he8, h1, h2, h5]; done) | simp [Pz.then_ok, Pz.then_no, Pz.St.go, if_true, if_false, Bool.false_eq_true, Bool.true_eq_false, not_true_eq_false, not_false_eq_true, ne_eq, and_true, true_and, and_false, false_and, and_self, not_and, Pz.fac_succ, Pz.factor, ExprX.e, ExprX.es, he1, g1, hz5e, he4, g3, g5, he8, h1, h2, h5]
 exact hM.retX ((x3, ⟨j8, m6⟩) : ExprX × Pz.St) rfl ⟨h9, (Pz.fac_fine s (M + 1) _ hi).ok_ h9⟩ (fun h => h.sel [0, 1, 2] (by decide) rfl)

set_option maxHeartbeats 2000000 in
theorem c_term (p : Nat) (s : ByteArray) (i : Nat) (n : Int) (d : Int) (N : Nat) (Pb : Nat → Prop) (w : World) (hG : Mem w ⟨fpOf [Rb 64 p s i n, .pub ErrV], Pb⟩ [Rb 64 p s i n, .pub ErrV] w) (hi : i ≤ s.size) (hs : s.size ≤ 2000) (hn : 0 ≤ n ∧ n ≤ 100) (hd : d + (N : Int) = 21) (hd1 : 1 ≤ d) (ih : FacC N) :
    Calls Tryd.prog 49 #[.pointer (some ⟨p, 0, none⟩), iV d] w (RetX w [Rb 64 p s i n, .pub ErrV] Pb 61 (fun z : ExprX × Pz.St => .agg (exprE z.1).toArray) (fun z => Pz.trm s N ⟨i, n⟩ = .ok (z.1.e, z.2) ∧ Pz.Good s ⟨i, n⟩ z.2) (fun z => [Rb 64 p s z.2.at_ z.2.nd, .pub ErrV, okP ExprX.Ok z.1]) (fun f => Pz.trm s N ⟨i, n⟩ = .no f)) := by
 refine fstart (N := 22) (vals := [.pointer (some ⟨p, 0, none⟩), iV d]) (S := Mem w ⟨fpOf [Rb 64 p s i n, .pub ErrV], Pb⟩ [Rb 64 p s i n, .pub ErrV]) Tryd.func49 rfl rfl rfl hG ?_
 refine c_seq fun _ hK1 => ?_
 refine c_region ?_
 refine l_alloc wn inf26 rfl fun b4 => ?_
 refine l_nil (e_go hK1 ?_)
 refine c_seq fun _ hK2 => ?_
 refine c_region ?_
 refine l_val wn (r_move rfl) rfl ?_
 refine l_val wn (r_move rfl) rfl ?_
 refine l_giveX (α := ExprX × Pz.St) (PT := 61) [Rb 64 p s i n, .pub ErrV] [.blk b4 Zx 26] (fun z : ExprX × Pz.St => .agg (exprE z.1).toArray) (fun z1 => Pz.fac s N ⟨i, n⟩ = .ok (z1.1.e, z1.2) ∧ Pz.Good s ⟨i, n⟩ z1.2) (fun z1 => [Rb 64 p s z1.2.at_ z1.2.nd, .pub ErrV, okP ExprX.Ok z1.1]) _ (fun f1 => Pz.fac s N ⟨i, n⟩ = .no f1) (fun _ => rfl) (fun _ h => h.sel [1, 2, 0] (by decide) rfl) (fun _ => rfl) wn rfl rfl Tryd.call63 rfl (fun w1 Pb hG => ih p s i n d Pb w1 hG (by omega) (by omega) (by omega) (by omega) (by omega)) ?_ fun z1 hz1 => ?_
 · intro f1 hf1
   refine e_then_p (e_body_p fun w1 hM => ?_)
   exact hM.retPan f1 (by first | (simp only [Pz.then_ok, Pz.then_no, Pz.St.go, if_true, if_false, Bool.false_eq_true, Bool.true_eq_false, not_true_eq_false, not_false_eq_true, ne_eq, and_true, true_and, and_false, false_and, and_self, not_and, Pz.trm, Pz.sumOf, hf1]; done) | simp [Pz.then_ok, Pz.then_no, Pz.St.go, if_true, if_false, Bool.false_eq_true, Bool.true_eq_false, not_true_eq_false, not_false_eq_true, ne_eq, and_true, true_and, and_false, false_and, and_self, not_and, Pz.trm, Pz.sumOf, hf1])
 obtain ⟨x1, j1, m1⟩ := z1
 have he1 : Pz.fac s N ⟨i, n⟩ = .ok (x1.e, ⟨j1, m1⟩) := hz1.1
 have ga1 : j1 ≤ s.size := hz1.2.at_
 have gm1 : n ≤ m1 := hz1.2.mono
 have gn1 : m1 ≤ 100 := hz1.2.most (show n ≤ 100 by omega)
 refine l_as 9 (.agg (List.toArray [iV x1.kind, iV x1.n, iV x1.range, .string x1.word, .slice x1.ms.A x1.ms.l.length x1.ms.c, .slice x1.by_.A x1.by_.l.length x1.by_.c, .slice x1.kids.A x1.kids.l.length x1.kids.c])) [Rb 64 p s j1 m1, .pub ErrV, okP ExprX.Ok x1, .blk b4 Zx 26] ?_
 refine l_alloc wn inf26 rfl fun b5 => ?_
 refine l_stn 0 wn rfl rfl rfl inf26 rfl rfl rfl ?_
 refine l_nil (e_go hK2 ?_)
 refine c_seq fun _ hK3 => ?_
 refine c_block ?_
 refine c_loop4 (fun (x : ExprX) (k : Nat) (m : Int) (q : Nat) => [(0, .pointer (some ⟨p, 0, none⟩)), (1, iV d), (4, .pointer (some ⟨b4, 0, none⟩)), (5, .pointer (some ⟨b5, 0, none⟩))]) (fun (x : ExprX) (k : Nat) (m : Int) (q : Nat) => [.blk b5 [iV x.kind, iV x.n, iV x.range, .string x.word, .slice x.ms.A x.ms.l.length x.ms.c, .slice x.by_.A x.by_.l.length x.by_.c, .slice x.kids.A x.kids.l.length x.kids.c] 26, Rb 64 p s k m, .pub ErrV, okP ExprX.Ok x, .blk b4 Zx 26]) (fun (x : ExprX) (k : Nat) (m : Int) (q : Nat) => Pz.binL s (Pz.fac s N) Pz.star 101 x1.e ⟨j1, m1⟩ = Pz.binL s (Pz.fac s N) Pz.star (q + 1) x.e ⟨k, m⟩ ∧ k ≤ s.size ∧ 0 ≤ m ∧ m ≤ 100 ∧ (100 : Int) ≤ (q : Int) + m) (fun (x : ExprX) (k : Nat) (m : Int) (q : Nat) => q) x1 j1 m1 100 (sc rfl (sc rfl (sc rfl (sc rfl sn)))) (fun _ h => h) ?_ (fun x k m q hI1 => ?_)
 · exact ⟨rfl, by omega, by omega, by omega, by omega⟩
 refine c_seq fun _ hK4 => ?_
 refine c_seq fun _ hK5 => ?_
 refine c_region ?_
 refine l_val wn (r_move rfl) rfl ?_
 refine l_give (α := (Bool × Nat)) [Rb 64 p s k m, .pub ErrV] [.blk b5 [iV x.kind, iV x.n, iV x.range, .string x.word, .slice x.ms.A x.ms.l.length x.ms.c, .slice x.by_.A x.by_.l.length x.by_.c, .slice x.kids.A x.kids.l.length x.kids.c] 26, okP ExprX.Ok x, .blk b4 Zx 26] (fun z : Bool × Nat => .bool z.1) (fun z2 => (Pz.eat s ⟨#[42]⟩ k = z2 ∧ k ≤ z2.2 ∧ z2.2 ≤ s.size)) (fun z2 => [Rb 64 p s z2.2 m, .pub ErrV]) _ (fun _ => rfl) (fun _ h => h.sel [1, 2, 0, 3, 4] (by decide) rfl) (fun _ => rfl) wn rfl rfl Tryd.call50 rfl (fun w1 Pb hG => c_eat p s k m ⟨#[42]⟩ Pb w1 hG (by omega) (by omega)) fun z2 hz2 => ?_
 obtain ⟨bo1, j2⟩ := z2
 have he2 : Pz.eat s ⟨#[42]⟩ k = (bo1, j2) := hz2.1
 have hz2a : k ≤ j2 := hz2.2.1
 have hz2b : j2 ≤ s.size := hz2.2.2
 refine l_as 11 (.bool bo1) [Rb 64 p s j2 m, .pub ErrV, .blk b5 [iV x.kind, iV x.n, iV x.range, .string x.word, .slice x.ms.A x.ms.l.length x.ms.c, .slice x.by_.A x.by_.l.length x.by_.c, .slice x.kids.A x.kids.l.length x.kids.c] 26, okP ExprX.Ok x, .blk b4 Zx 26] ?_
 refine l_nil (e_go hK5 ?_)
 refine c_condb rfl (fun h1 => ?_) (fun h1 => ?_)
 · refine c_skip (e_go hK4 ?_)
   refine c_block ?_
   refine c_seq fun _ hK6 => ?_
   refine c_region ?_
   refine l_val wn (r_move rfl) rfl ?_
   refine l_val wn (r_move rfl) rfl ?_
   refine l_giveX (α := ExprX × Pz.St) (PT := 61) [Rb 64 p s j2 m, .pub ErrV] [.blk b5 [iV x.kind, iV x.n, iV x.range, .string x.word, .slice x.ms.A x.ms.l.length x.ms.c, .slice x.by_.A x.by_.l.length x.by_.c, .slice x.kids.A x.kids.l.length x.kids.c] 26, okP ExprX.Ok x, .blk b4 Zx 26] (fun z : ExprX × Pz.St => .agg (exprE z.1).toArray) (fun z3 => Pz.fac s N ⟨j2, m⟩ = .ok (z3.1.e, z3.2) ∧ Pz.Good s ⟨j2, m⟩ z3.2) (fun z3 => [Rb 64 p s z3.2.at_ z3.2.nd, .pub ErrV, okP ExprX.Ok z3.1]) _ (fun f2 => Pz.fac s N ⟨j2, m⟩ = .no f2) (fun _ => rfl) (fun _ h => h.sel [0, 1, 2, 3, 4] (by decide) rfl) (fun _ => rfl) wn rfl rfl Tryd.call63 rfl (fun w1 Pb hG => ih p s j2 m d Pb w1 hG (by omega) (by omega) (by omega) (by omega) (by omega)) ?_ fun z3 hz3 => ?_
   · intro f2 hf2
     refine e_then_p (e_in_p (e_loop4_p (e_in_p (e_then_p (e_body_p fun w1 hM => ?_)))))
     have hY := Pz.bin_next hI1.1 (Pz.star1 (by rw [he2, h1])) (by decide) hf2
     rw [Pz.then_no] at hY
     exact hM.retPan f2 (by simp only [Pz.then_ok, Pz.then_no, Pz.St.go, if_true, if_false, Bool.false_eq_true, Bool.true_eq_false, not_true_eq_false, not_false_eq_true, ne_eq, and_true, true_and, and_false, false_and, and_self, not_and, Pz.trm, Pz.sumOf, he1, hY])
   obtain ⟨x2, j3, m2⟩ := z3
   have he3 : Pz.fac s N ⟨j2, m⟩ = .ok (x2.e, ⟨j3, m2⟩) := hz3.1
   have ga2 : j3 ≤ s.size := hz3.2.at_
   have gm2 : m ≤ m2 := hz3.2.mono
   have gn2 : m2 ≤ 100 := hz3.2.most (show m ≤ 100 by omega)
   refine l_as 14 (.agg (List.toArray [iV x2.kind, iV x2.n, iV x2.range, .string x2.word, .slice x2.ms.A x2.ms.l.length x2.ms.c, .slice x2.by_.A x2.by_.l.length x2.by_.c, .slice x2.kids.A x2.kids.l.length x2.kids.c])) [Rb 64 p s j3 m2, .pub ErrV, okP ExprX.Ok x2, .blk b5 [iV x.kind, iV x.n, iV x.range, .string x.word, .slice x.ms.A x.ms.l.length x.ms.c, .slice x.by_.A x.by_.l.length x.by_.c, .slice x.kids.A x.kids.l.length x.kids.c] 26, okP ExprX.Ok x, .blk b4 Zx 26] ?_
   refine l_alloc wn inf26 rfl fun b6 => ?_
   refine l_stn 0 wn rfl rfl rfl inf26 rfl rfl rfl ?_
   refine l_nil (e_go hK6 ?_)
   refine c_region ?_
   refine l_val wn (r_move rfl) rfl ?_
   refine l_val wn (r_lbn 4 [iV x.kind, iV x.n, iV x.range, .string x.word, .slice x.ms.A x.ms.l.length x.ms.c, .slice x.by_.A x.by_.l.length x.by_.c, .slice x.kids.A x.kids.l.length x.kids.c] rfl rfl rfl rfl agg26 inf26) rfl ?_
   refine l_val wn (r_lbn 0 [iV x2.kind, iV x2.n, iV x2.range, .string x2.word, .slice x2.ms.A x2.ms.l.length x2.ms.c, .slice x2.by_.A x2.by_.l.length x2.by_.c, .slice x2.kids.A x2.kids.l.length x2.kids.c] rfl rfl rfl rfl agg26 inf26) rfl ?_
   refine l_bsL exprE ([x, x2] : List ExprX) wn Tryd.underlying24 inf26 rfl rfl rfl rfl (by decide) (by decide) rfl fun b18 => ?_
   refine l_val wn (r_build [iV 4, iV 0, iV 0, .string ⟨#[42]⟩, Zs, Zs, .slice (some ⟨b18, 0, none⟩) 2 2] pl26 inf26 rfl rfl) rfl ?_
   refine l_sealX 0 2 encExprX rfl rfl (fp2) ?_
   refine l_mem (fun _ h => h.exprG (k := 4) (n := 0) (r := 0) (wd := ⟨#[42]⟩) (ms := ⟨none, 0, []⟩) (bs := ⟨none, 0, []⟩) (ks := ⟨(some ⟨b18, 0, none⟩), 2, ([x, x2] : List ExprX)⟩) (fun _ _ => FlatSl.nil_ _ _ _ _) (fun _ _ => FlatSl.nil_ _ _ _ _) (fun _ pp => pp.sl 0 rfl) (fun _ pp x hx => by simp only [List.mem_cons, List.not_mem_nil, or_false] at hx; rcases hx with rfl | rfl <;> first | exact pp.at_ 6 _ rfl | exact pp.at_ 4 _ rfl) (by first | decide | omega) (fun x hx => by cases hx) (fun x hx => by cases hx)) ?_
   refine l_giveX (α := Unit) (PT := 61) [Rb 64 p s j3 m2, .pub ErrV] [okP ExprX.Ok (ExprX.mk 4 0 0 ⟨#[42]⟩ ⟨none, 0, []⟩ ⟨none, 0, []⟩ ⟨(some ⟨b18, 0, none⟩), 2, ([x, x2] : List ExprX)⟩), slP 7 exprE (.slice (some ⟨b18, 0, none⟩) 2 2) ([x, x2] : List ExprX), .blk b6 [iV x2.kind, iV x2.n, iV x2.range, .string x2.word, .slice x2.ms.A x2.ms.l.length x2.ms.c, .slice x2.by_.A x2.by_.l.length x2.by_.c, .slice x2.kids.A x2.kids.l.length x2.kids.c] 26, okP ExprX.Ok x2, .blk b5 [iV x.kind, iV x.n, iV x.range, .string x.word, .slice x.ms.A x.ms.l.length x.ms.c, .slice x.by_.A x.by_.l.length x.by_.c, .slice x.kids.A x.kids.l.length x.kids.c] 26, okP ExprX.Ok x, .blk b4 Zx 26] (fun _ : Unit => .agg (List.toArray [iV 4, iV 0, iV 0, .string ⟨#[42]⟩, Zs, Zs, .slice (some ⟨b18, 0, none⟩) 2 2])) (fun z4 => m2 + 1 ≤ 100) (fun z4 => [Rb 64 p s j3 (m2 + 1), .pub ErrV]) (fun z4 => [Rb 64 p s j3 (m2 + 1), .pub ErrV, okP ExprX.Ok (ExprX.mk 4 0 0 ⟨#[42]⟩ ⟨none, 0, []⟩ ⟨none, 0, []⟩ ⟨(some ⟨b18, 0, none⟩), 2, ([x, x2] : List ExprX)⟩), slP 7 exprE (.slice (some ⟨b18, 0, none⟩) 2 2) ([x, x2] : List ExprX), .blk b6 [iV x2.kind, iV x2.n, iV x2.range, .string x2.word, .slice x2.ms.A x2.ms.l.length x2.ms.c, .slice x2.by_.A x2.by_.l.length x2.by_.c, .slice x2.kids.A x2.kids.l.length x2.kids.c] 26, okP ExprX.Ok x2, .blk b5 [iV x.kind, iV x.n, iV x.range, .string x.word, .slice x.ms.A x.ms.l.length x.ms.c, .slice x.by_.A x.by_.l.length x.by_.c, .slice x.kids.A x.kids.l.length x.kids.c] 26, okP ExprX.Ok x, .blk b4 Zx 26]) (fun f3 => Pz.node ⟨j3, m2⟩ = .no f3) (fun _ => rfl) (fun _ h => h.sel [3, 4, 0, 1, 2, 5, 6, 7, 8] (by decide) rfl) (fun _ => rfl) wn rfl rfl Tryd.call51 rfl (fun w1 Pb hG => c_node p s j3 m2 4 0 0 ⟨#[42]⟩ none 0 0 none 0 0 (some ⟨b18, 0, none⟩) 2 2 Pb w1 hG (by omega) (by omega) (by omega)) ?_ fun z4 hz4 => ?_
   · intro f3 hf3
     refine e_in_p (e_loop4_p (e_in_p (e_then_p (e_body_p fun w1 hM => ?_))))
     have hY := Pz.bin_next hI1.1 (Pz.star1 (by rw [he2, h1])) (by decide) he3
     simp only [Pz.then_ok, hf3, Pz.then_no] at hY
     exact hM.retPan f3 (by simp only [Pz.then_ok, Pz.then_no, Pz.St.go, if_true, if_false, Bool.false_eq_true, Bool.true_eq_false, not_true_eq_false, not_false_eq_true, ne_eq, and_true, true_and, and_false, false_and, and_self, not_and, Pz.trm, Pz.sumOf, he1, hY])
   have he4 : Pz.node ⟨j3, m2⟩ = .ok ⟨j3, m2 + 1⟩ := Pz.node_yes hz4
   refine l_stn 6 wn rfl rfl rfl inf26 rfl rfl rfl ?_
   refine l_nil (e_in_n (e_round4 (ExprX.mk 4 0 0 ⟨#[42]⟩ ⟨none, 0, []⟩ ⟨none, 0, []⟩ ⟨(some ⟨b18, 0, none⟩), 2, ([x, x2] : List ExprX)⟩) j3 (m2 + 1) (q - 1) (sc rfl (sc rfl (sc rfl (sc rfl sn)))) (fun _ h => (h.sel [6, 0, 1, 2, 8] (by decide) rfl)) ?_ ?_))
   · have hY := Pz.bin_next hI1.1 (Pz.star1 (by rw [he2, h1])) (by decide) he3
     simp only [Pz.then_ok, he4] at hY
     exact ⟨hY.trans (by rw [show q - 1 + 1 = q by omega]; rfl), by omega, by omega, by omega, by omega⟩
   omega
 have g1 : bo1 = false := by simpa using h1
 refine c_exit (e_then_x (e_loop4_x (e_in_hit (e_go hK3 ?_))))
 refine c_seq fun _ hK7 => ?_
 refine c_region ?_
 refine l_val wn (r_lbn 2 [iV x.kind, iV x.n, iV x.range, .string x.word, .slice x.ms.A x.ms.l.length x.ms.c, .slice x.by_.A x.by_.l.length x.by_.c, .slice x.kids.A x.kids.l.length x.kids.c] rfl rfl rfl rfl agg26 inf26) rfl ?_
 refine l_stn 4 wn rfl rfl rfl inf26 rfl rfl rfl ?_
 refine l_nil (e_go hK7 ?_)
 refine c_ret (e_ret1 (.inl rfl) Tryd.results49 (rv_cell 4 rfl rfl agg26 inf26 rfl) fun w1 hM => ?_)
 have h9 : Pz.trm s N ⟨i, n⟩ = .ok (x.e, ⟨j2, m⟩) := by simp only [Pz.then_ok, Pz.then_no, Pz.St.go, if_true, if_false, Bool.false_eq_true, Bool.true_eq_false, not_true_eq_false, not_false_eq_true, ne_eq, and_true, true_and, and_false, false_and, and_self, not_and, Pz.trm, Pz.sumOf, he1, Pz.bin_done hI1.1 (Pz.star0 (by rw [he2, g1]))]
 exact hM.retX ((x, ⟨j2, m⟩) : ExprX × Pz.St) rfl ⟨h9, (Pz.trm_fine s N _ hi).ok_ h9⟩ (fun h => h.sel [0, 1, 3] (by decide) rfl)

set_option maxHeartbeats 2000000 in
theorem c_expr (p : Nat) (s : ByteArray) (i : Nat) (n : Int) (d : Int) (N : Nat) (Pb : Nat → Prop) (w : World) (hG : Mem w ⟨fpOf [Rb 64 p s i n, .pub ErrV], Pb⟩ [Rb 64 p s i n, .pub ErrV] w) (hi : i ≤ s.size) (hs : s.size ≤ 2000) (hn : 0 ≤ n ∧ n ≤ 100) (hd : d + (N : Int) = 21) (hd1 : 1 ≤ d) (ih : TrmC N) :
    Calls Tryd.prog 30 #[.pointer (some ⟨p, 0, none⟩), iV d] w (RetX w [Rb 64 p s i n, .pub ErrV] Pb 61 (fun z : ExprX × Pz.St => .agg (exprE z.1).toArray) (fun z => Pz.xpr s N ⟨i, n⟩ = .ok (z.1.e, z.2) ∧ Pz.Good s ⟨i, n⟩ z.2) (fun z => [Rb 64 p s z.2.at_ z.2.nd, .pub ErrV, okP ExprX.Ok z.1]) (fun f => Pz.xpr s N ⟨i, n⟩ = .no f)) := by
 refine fstart (N := 28) (vals := [.pointer (some ⟨p, 0, none⟩), iV d]) (S := Mem w ⟨fpOf [Rb 64 p s i n, .pub ErrV], Pb⟩ [Rb 64 p s i n, .pub ErrV]) Tryd.func30 rfl rfl rfl hG ?_
 refine c_seq fun _ hK1 => ?_
 refine c_region ?_
 refine l_alloc wn inf26 rfl fun b4 => ?_
 refine l_nil (e_go hK1 ?_)
 refine c_seq fun _ hK2 => ?_
 refine c_region ?_
 refine l_val wn (r_move rfl) rfl ?_
 refine l_val wn (r_move rfl) rfl ?_
 refine l_giveX (α := ExprX × Pz.St) (PT := 61) [Rb 64 p s i n, .pub ErrV] [.blk b4 Zx 26] (fun z : ExprX × Pz.St => .agg (exprE z.1).toArray) (fun z1 => Pz.trm s N ⟨i, n⟩ = .ok (z1.1.e, z1.2) ∧ Pz.Good s ⟨i, n⟩ z1.2) (fun z1 => [Rb 64 p s z1.2.at_ z1.2.nd, .pub ErrV, okP ExprX.Ok z1.1]) _ (fun f1 => Pz.trm s N ⟨i, n⟩ = .no f1) (fun _ => rfl) (fun _ h => h.sel [1, 2, 0] (by decide) rfl) (fun _ => rfl) wn rfl rfl Tryd.call49 rfl (fun w1 Pb hG => ih p s i n d Pb w1 hG (by omega) (by omega) (by omega) (by omega) (by omega)) ?_ fun z1 hz1 => ?_
 · intro f1 hf1
   refine e_then_p (e_body_p fun w1 hM => ?_)
   exact hM.retPan f1 (by first | (simp only [Pz.then_ok, Pz.then_no, Pz.St.go, if_true, if_false, Bool.false_eq_true, Bool.true_eq_false, not_true_eq_false, not_false_eq_true, ne_eq, and_true, true_and, and_false, false_and, and_self, not_and, Pz.xpr, Pz.sumOf, hf1]; done) | simp [Pz.then_ok, Pz.then_no, Pz.St.go, if_true, if_false, Bool.false_eq_true, Bool.true_eq_false, not_true_eq_false, not_false_eq_true, ne_eq, and_true, true_and, and_false, false_and, and_self, not_and, Pz.xpr, Pz.sumOf, hf1])
 obtain ⟨x1, j1, m1⟩ := z1
 have he1 : Pz.trm s N ⟨i, n⟩ = .ok (x1.e, ⟨j1, m1⟩) := hz1.1
 have ga1 : j1 ≤ s.size := hz1.2.at_
 have gm1 : n ≤ m1 := hz1.2.mono
 have gn1 : m1 ≤ 100 := hz1.2.most (show n ≤ 100 by omega)
 refine l_as 10 (.agg (List.toArray [iV x1.kind, iV x1.n, iV x1.range, .string x1.word, .slice x1.ms.A x1.ms.l.length x1.ms.c, .slice x1.by_.A x1.by_.l.length x1.by_.c, .slice x1.kids.A x1.kids.l.length x1.kids.c])) [Rb 64 p s j1 m1, .pub ErrV, okP ExprX.Ok x1, .blk b4 Zx 26] ?_
 refine l_alloc wn inf26 rfl fun b5 => ?_
 refine l_stn 0 wn rfl rfl rfl inf26 rfl rfl rfl ?_
 refine l_nil (e_go hK2 ?_)
 refine c_block ?_
 refine c_loop4 (fun (x : ExprX) (k : Nat) (m : Int) (q : Nat) => [(0, .pointer (some ⟨p, 0, none⟩)), (1, iV d), (4, .pointer (some ⟨b4, 0, none⟩)), (5, .pointer (some ⟨b5, 0, none⟩))]) (fun (x : ExprX) (k : Nat) (m : Int) (q : Nat) => [.blk b5 [iV x.kind, iV x.n, iV x.range, .string x.word, .slice x.ms.A x.ms.l.length x.ms.c, .slice x.by_.A x.by_.l.length x.by_.c, .slice x.kids.A x.kids.l.length x.kids.c] 26, Rb 64 p s k m, .pub ErrV, okP ExprX.Ok x, .blk b4 Zx 26]) (fun (x : ExprX) (k : Nat) (m : Int) (q : Nat) => Pz.binL s (Pz.trm s N) Pz.plus 101 x1.e ⟨j1, m1⟩ = Pz.binL s (Pz.trm s N) Pz.plus (q + 1) x.e ⟨k, m⟩ ∧ k ≤ s.size ∧ 0 ≤ m ∧ m ≤ 100 ∧ (100 : Int) ≤ (q : Int) + m) (fun (x : ExprX) (k : Nat) (m : Int) (q : Nat) => q) x1 j1 m1 100 (sc rfl (sc rfl (sc rfl (sc rfl sn)))) (fun _ h => h) ?_ (fun x k m q hI1 => ?_)
 · exact ⟨rfl, by omega, by omega, by omega, by omega⟩
 refine c_block ?_
 refine c_seq fun _ hK3 => ?_
 refine c_region ?_
 refine l_val wn (r_assign rfl) rfl ?_
 refine l_nil (e_go hK3 ?_)
 refine c_seq fun _ hK4 => ?_
 refine c_block ?_
 refine c_seq fun _ hK5 => ?_
 refine c_region ?_
 refine l_val wn (r_move rfl) rfl ?_
 refine l_give (α := (Bool × Nat)) [Rb 64 p s k m, .pub ErrV] [.blk b5 [iV x.kind, iV x.n, iV x.range, .string x.word, .slice x.ms.A x.ms.l.length x.ms.c, .slice x.by_.A x.by_.l.length x.by_.c, .slice x.kids.A x.kids.l.length x.kids.c] 26, okP ExprX.Ok x, .blk b4 Zx 26] (fun z : Bool × Nat => .bool z.1) (fun z2 => (Pz.eat s ⟨#[43]⟩ k = z2 ∧ k ≤ z2.2 ∧ z2.2 ≤ s.size)) (fun z2 => [Rb 64 p s z2.2 m, .pub ErrV]) _ (fun _ => rfl) (fun _ h => h.sel [1, 2, 0, 3, 4] (by decide) rfl) (fun _ => rfl) wn rfl rfl Tryd.call50 rfl (fun w1 Pb hG => c_eat p s k m ⟨#[43]⟩ Pb w1 hG (by omega) (by omega)) fun z2 hz2 => ?_
 obtain ⟨bo1, j2⟩ := z2
 have he2 : Pz.eat s ⟨#[43]⟩ k = (bo1, j2) := hz2.1
 have hz2a : k ≤ j2 := hz2.2.1
 have hz2b : j2 ≤ s.size := hz2.2.2
 refine l_as 14 (.bool bo1) [Rb 64 p s j2 m, .pub ErrV, .blk b5 [iV x.kind, iV x.n, iV x.range, .string x.word, .slice x.ms.A x.ms.l.length x.ms.c, .slice x.by_.A x.by_.l.length x.by_.c, .slice x.kids.A x.kids.l.length x.kids.c] 26, okP ExprX.Ok x, .blk b4 Zx 26] ?_
 refine l_val wn (r_assign rfl) rfl ?_
 refine l_nil (e_go hK5 ?_)
 refine c_condb rfl (fun h1 => ?_) (fun h1 => ?_)
 · refine c_region ?_
   refine l_val wn (r_assign rfl) rfl ?_
   refine l_nil (e_in_n (e_go hK4 ?_))
   refine c_seq fun _ hK6 => ?_
   refine c_region ?_
   refine l_val wn (r_move rfl) rfl ?_
   refine l_val wn (r_move rfl) rfl ?_
   refine l_giveX (α := ExprX × Pz.St) (PT := 61) [Rb 64 p s j2 m, .pub ErrV] [.blk b5 [iV x.kind, iV x.n, iV x.range, .string x.word, .slice x.ms.A x.ms.l.length x.ms.c, .slice x.by_.A x.by_.l.length x.by_.c, .slice x.kids.A x.kids.l.length x.kids.c] 26, okP ExprX.Ok x, .blk b4 Zx 26] (fun z : ExprX × Pz.St => .agg (exprE z.1).toArray) (fun z3 => Pz.trm s N ⟨j2, m⟩ = .ok (z3.1.e, z3.2) ∧ Pz.Good s ⟨j2, m⟩ z3.2) (fun z3 => [Rb 64 p s z3.2.at_ z3.2.nd, .pub ErrV, okP ExprX.Ok z3.1]) _ (fun f2 => Pz.trm s N ⟨j2, m⟩ = .no f2) (fun _ => rfl) (fun _ h => h.sel [0, 1, 2, 3, 4] (by decide) rfl) (fun _ => rfl) wn rfl rfl Tryd.call49 rfl (fun w1 Pb hG => ih p s j2 m d Pb w1 hG (by omega) (by omega) (by omega) (by omega) (by omega)) ?_ fun z3 hz3 => ?_
   · intro f2 hf2
     refine e_then_p (e_in_p (e_loop4_p (e_in_p (e_body_p fun w1 hM => ?_))))
     have hY := Pz.bin_next hI1.1 (Pz.plus1 (by rw [he2, h1])) (by decide) hf2
     rw [Pz.then_no] at hY
     exact hM.retPan f2 (by simp only [Pz.then_ok, Pz.then_no, Pz.St.go, if_true, if_false, Bool.false_eq_true, Bool.true_eq_false, not_true_eq_false, not_false_eq_true, ne_eq, and_true, true_and, and_false, false_and, and_self, not_and, Pz.xpr, Pz.sumOf, he1, hY])
   obtain ⟨x2, j3, m2⟩ := z3
   have he3 : Pz.trm s N ⟨j2, m⟩ = .ok (x2.e, ⟨j3, m2⟩) := hz3.1
   have ga2 : j3 ≤ s.size := hz3.2.at_
   have gm2 : m ≤ m2 := hz3.2.mono
   have gn2 : m2 ≤ 100 := hz3.2.most (show m ≤ 100 by omega)
   refine l_as 20 (.agg (List.toArray [iV x2.kind, iV x2.n, iV x2.range, .string x2.word, .slice x2.ms.A x2.ms.l.length x2.ms.c, .slice x2.by_.A x2.by_.l.length x2.by_.c, .slice x2.kids.A x2.kids.l.length x2.kids.c])) [Rb 64 p s j3 m2, .pub ErrV, okP ExprX.Ok x2, .blk b5 [iV x.kind, iV x.n, iV x.range, .string x.word, .slice x.ms.A x.ms.l.length x.ms.c, .slice x.by_.A x.by_.l.length x.by_.c, .slice x.kids.A x.kids.l.length x.kids.c] 26, okP ExprX.Ok x, .blk b4 Zx 26] ?_
   refine l_alloc wn inf26 rfl fun b7 => ?_
   refine l_stn 0 wn rfl rfl rfl inf26 rfl rfl rfl ?_
   refine l_nil (e_go hK6 ?_)
   refine c_region ?_
   refine l_val wn (r_move rfl) rfl ?_
   refine l_val wn (r_move rfl) rfl ?_
   refine l_val wn (r_lbn 4 [iV x.kind, iV x.n, iV x.range, .string x.word, .slice x.ms.A x.ms.l.length x.ms.c, .slice x.by_.A x.by_.l.length x.by_.c, .slice x.kids.A x.kids.l.length x.kids.c] rfl rfl rfl rfl agg26 inf26) rfl ?_
   refine l_val wn (r_lbn 0 [iV x2.kind, iV x2.n, iV x2.range, .string x2.word, .slice x2.ms.A x2.ms.l.length x2.ms.c, .slice x2.by_.A x2.by_.l.length x2.by_.c, .slice x2.kids.A x2.kids.l.length x2.kids.c] rfl rfl rfl rfl agg26 inf26) rfl ?_
   refine l_bsL exprE ([x, x2] : List ExprX) wn Tryd.underlying24 inf26 rfl rfl rfl rfl (by decide) (by decide) rfl fun b25 => ?_
   refine l_val wn (r_build [iV 4, iV 0, iV 0, .string ⟨#[43]⟩, Zs, Zs, .slice (some ⟨b25, 0, none⟩) 2 2] pl26 inf26 rfl rfl) rfl ?_
   refine l_sealX 0 2 encExprX rfl rfl (fp2) ?_
   refine l_mem (fun _ h => h.exprG (k := 4) (n := 0) (r := 0) (wd := ⟨#[43]⟩) (ms := ⟨none, 0, []⟩) (bs := ⟨none, 0, []⟩) (ks := ⟨(some ⟨b25, 0, none⟩), 2, ([x, x2] : List ExprX)⟩) (fun _ _ => FlatSl.nil_ _ _ _ _) (fun _ _ => FlatSl.nil_ _ _ _ _) (fun _ pp => pp.sl 0 rfl) (fun _ pp x hx => by simp only [List.mem_cons, List.not_mem_nil, or_false] at hx; rcases hx with rfl | rfl <;> first | exact pp.at_ 6 _ rfl | exact pp.at_ 4 _ rfl) (by first | decide | omega) (fun x hx => by cases hx) (fun x hx => by cases hx)) ?_
   refine l_giveX (α := Unit) (PT := 61) [Rb 64 p s j3 m2, .pub ErrV] [okP ExprX.Ok (ExprX.mk 4 0 0 ⟨#[43]⟩ ⟨none, 0, []⟩ ⟨none, 0, []⟩ ⟨(some ⟨b25, 0, none⟩), 2, ([x, x2] : List ExprX)⟩), slP 7 exprE (.slice (some ⟨b25, 0, none⟩) 2 2) ([x, x2] : List ExprX), .blk b7 [iV x2.kind, iV x2.n, iV x2.range, .string x2.word, .slice x2.ms.A x2.ms.l.length x2.ms.c, .slice x2.by_.A x2.by_.l.length x2.by_.c, .slice x2.kids.A x2.kids.l.length x2.kids.c] 26, okP ExprX.Ok x2, .blk b5 [iV x.kind, iV x.n, iV x.range, .string x.word, .slice x.ms.A x.ms.l.length x.ms.c, .slice x.by_.A x.by_.l.length x.by_.c, .slice x.kids.A x.kids.l.length x.kids.c] 26, okP ExprX.Ok x, .blk b4 Zx 26] (fun _ : Unit => .agg (List.toArray [iV 4, iV 0, iV 0, .string ⟨#[43]⟩, Zs, Zs, .slice (some ⟨b25, 0, none⟩) 2 2])) (fun z4 => m2 + 1 ≤ 100) (fun z4 => [Rb 64 p s j3 (m2 + 1), .pub ErrV]) (fun z4 => [Rb 64 p s j3 (m2 + 1), .pub ErrV, okP ExprX.Ok (ExprX.mk 4 0 0 ⟨#[43]⟩ ⟨none, 0, []⟩ ⟨none, 0, []⟩ ⟨(some ⟨b25, 0, none⟩), 2, ([x, x2] : List ExprX)⟩), slP 7 exprE (.slice (some ⟨b25, 0, none⟩) 2 2) ([x, x2] : List ExprX), .blk b7 [iV x2.kind, iV x2.n, iV x2.range, .string x2.word, .slice x2.ms.A x2.ms.l.length x2.ms.c, .slice x2.by_.A x2.by_.l.length x2.by_.c, .slice x2.kids.A x2.kids.l.length x2.kids.c] 26, okP ExprX.Ok x2, .blk b5 [iV x.kind, iV x.n, iV x.range, .string x.word, .slice x.ms.A x.ms.l.length x.ms.c, .slice x.by_.A x.by_.l.length x.by_.c, .slice x.kids.A x.kids.l.length x.kids.c] 26, okP ExprX.Ok x, .blk b4 Zx 26]) (fun f3 => Pz.node ⟨j3, m2⟩ = .no f3) (fun _ => rfl) (fun _ h => h.sel [3, 4, 0, 1, 2, 5, 6, 7, 8] (by decide) rfl) (fun _ => rfl) wn rfl rfl Tryd.call51 rfl (fun w1 Pb hG => c_node p s j3 m2 4 0 0 ⟨#[43]⟩ none 0 0 none 0 0 (some ⟨b25, 0, none⟩) 2 2 Pb w1 hG (by omega) (by omega) (by omega)) ?_ fun z4 hz4 => ?_
   · intro f3 hf3
     refine e_in_p (e_loop4_p (e_in_p (e_body_p fun w1 hM => ?_)))
     have hY := Pz.bin_next hI1.1 (Pz.plus1 (by rw [he2, h1])) (by decide) he3
     simp only [Pz.then_ok, hf3, Pz.then_no] at hY
     exact hM.retPan f3 (by simp only [Pz.then_ok, Pz.then_no, Pz.St.go, if_true, if_false, Bool.false_eq_true, Bool.true_eq_false, not_true_eq_false, not_false_eq_true, ne_eq, and_true, true_and, and_false, false_and, and_self, not_and, Pz.xpr, Pz.sumOf, he1, hY])
   have he4 : Pz.node ⟨j3, m2⟩ = .ok ⟨j3, m2 + 1⟩ := Pz.node_yes hz4
   refine l_stn 6 wn rfl rfl rfl inf26 rfl rfl rfl ?_
   refine l_nil (e_in_n (e_round4 (ExprX.mk 4 0 0 ⟨#[43]⟩ ⟨none, 0, []⟩ ⟨none, 0, []⟩ ⟨(some ⟨b25, 0, none⟩), 2, ([x, x2] : List ExprX)⟩) j3 (m2 + 1) (q - 1) (sc rfl (sc rfl (sc rfl (sc rfl sn)))) (fun _ h => (h.sel [6, 0, 1, 2, 8] (by decide) rfl)) ?_ ?_))
   · have hY := Pz.bin_next hI1.1 (Pz.plus1 (by rw [he2, h1])) (by decide) he3
     simp only [Pz.then_ok, he4] at hY
     exact ⟨hY.trans (by rw [show q - 1 + 1 = q by omega]; rfl), by omega, by omega, by omega, by omega⟩
   omega
 have g1 : bo1 = false := by simpa using h1
 refine c_seq fun _ hK7 => ?_
 refine c_region ?_
 refine l_val wn (r_move rfl) rfl ?_
 refine l_give (α := (Bool × Nat)) [Rb 64 p s j2 m, .pub ErrV] [.blk b5 [iV x.kind, iV x.n, iV x.range, .string x.word, .slice x.ms.A x.ms.l.length x.ms.c, .slice x.by_.A x.by_.l.length x.by_.c, .slice x.kids.A x.kids.l.length x.kids.c] 26, okP ExprX.Ok x, .blk b4 Zx 26] (fun z : Bool × Nat => .bool z.1) (fun z5 => (Pz.eat s ⟨#[45]⟩ j2 = z5 ∧ j2 ≤ z5.2 ∧ z5.2 ≤ s.size)) (fun z5 => [Rb 64 p s z5.2 m, .pub ErrV]) _ (fun _ => rfl) (fun _ h => h.sel [0, 1, 2, 3, 4] (by decide) rfl) (fun _ => rfl) wn rfl rfl Tryd.call50 rfl (fun w1 Pb hG => c_eat p s j2 m ⟨#[45]⟩ Pb w1 hG (by omega) (by omega)) fun z5 hz5 => ?_
 obtain ⟨bo2, j4⟩ := z5
 have he5 : Pz.eat s ⟨#[45]⟩ j2 = (bo2, j4) := hz5.1
 have hz5a : j2 ≤ j4 := hz5.2.1
 have hz5b : j4 ≤ s.size := hz5.2.2
 refine l_as 17 (.bool bo2) [Rb 64 p s j4 m, .pub ErrV, .blk b5 [iV x.kind, iV x.n, iV x.range, .string x.word, .slice x.ms.A x.ms.l.length x.ms.c, .slice x.by_.A x.by_.l.length x.by_.c, .slice x.kids.A x.kids.l.length x.kids.c] 26, okP ExprX.Ok x, .blk b4 Zx 26] ?_
 refine l_val wn (r_assign rfl) rfl ?_
 refine l_nil (e_go hK7 ?_)
 refine c_condb rfl (fun h2 => ?_) (fun h2 => ?_)
 · refine c_region ?_
   refine l_val wn (r_assign rfl) rfl ?_
   refine l_nil (e_in_n (e_go hK4 ?_))
   refine c_seq fun _ hK8 => ?_
   refine c_region ?_
   refine l_val wn (r_move rfl) rfl ?_
   refine l_val wn (r_move rfl) rfl ?_
   refine l_giveX (α := ExprX × Pz.St) (PT := 61) [Rb 64 p s j4 m, .pub ErrV] [.blk b5 [iV x.kind, iV x.n, iV x.range, .string x.word, .slice x.ms.A x.ms.l.length x.ms.c, .slice x.by_.A x.by_.l.length x.by_.c, .slice x.kids.A x.kids.l.length x.kids.c] 26, okP ExprX.Ok x, .blk b4 Zx 26] (fun z : ExprX × Pz.St => .agg (exprE z.1).toArray) (fun z6 => Pz.trm s N ⟨j4, m⟩ = .ok (z6.1.e, z6.2) ∧ Pz.Good s ⟨j4, m⟩ z6.2) (fun z6 => [Rb 64 p s z6.2.at_ z6.2.nd, .pub ErrV, okP ExprX.Ok z6.1]) _ (fun f4 => Pz.trm s N ⟨j4, m⟩ = .no f4) (fun _ => rfl) (fun _ h => h.sel [0, 1, 2, 3, 4] (by decide) rfl) (fun _ => rfl) wn rfl rfl Tryd.call49 rfl (fun w1 Pb hG => ih p s j4 m d Pb w1 hG (by omega) (by omega) (by omega) (by omega) (by omega)) ?_ fun z6 hz6 => ?_
   · intro f4 hf4
     refine e_then_p (e_in_p (e_loop4_p (e_in_p (e_body_p fun w1 hM => ?_))))
     have hY := Pz.bin_next hI1.1 (Pz.minus1 (by rw [he2, g1]) (by rw [he5, h2])) (by decide) hf4
     rw [Pz.then_no] at hY
     exact hM.retPan f4 (by simp only [Pz.then_ok, Pz.then_no, Pz.St.go, if_true, if_false, Bool.false_eq_true, Bool.true_eq_false, not_true_eq_false, not_false_eq_true, ne_eq, and_true, true_and, and_false, false_and, and_self, not_and, Pz.xpr, Pz.sumOf, he1, hY])
   obtain ⟨x3, j5, m3⟩ := z6
   have he6 : Pz.trm s N ⟨j4, m⟩ = .ok (x3.e, ⟨j5, m3⟩) := hz6.1
   have ga3 : j5 ≤ s.size := hz6.2.at_
   have gm3 : m ≤ m3 := hz6.2.mono
   have gn3 : m3 ≤ 100 := hz6.2.most (show m ≤ 100 by omega)
   refine l_as 20 (.agg (List.toArray [iV x3.kind, iV x3.n, iV x3.range, .string x3.word, .slice x3.ms.A x3.ms.l.length x3.ms.c, .slice x3.by_.A x3.by_.l.length x3.by_.c, .slice x3.kids.A x3.kids.l.length x3.kids.c])) [Rb 64 p s j5 m3, .pub ErrV, okP ExprX.Ok x3, .blk b5 [iV x.kind, iV x.n, iV x.range, .string x.word, .slice x.ms.A x.ms.l.length x.ms.c, .slice x.by_.A x.by_.l.length x.by_.c, .slice x.kids.A x.kids.l.length x.kids.c] 26, okP ExprX.Ok x, .blk b4 Zx 26] ?_
   refine l_alloc wn inf26 rfl fun b7 => ?_
   refine l_stn 0 wn rfl rfl rfl inf26 rfl rfl rfl ?_
   refine l_nil (e_go hK8 ?_)
   refine c_region ?_
   refine l_val wn (r_move rfl) rfl ?_
   refine l_val wn (r_move rfl) rfl ?_
   refine l_val wn (r_lbn 4 [iV x.kind, iV x.n, iV x.range, .string x.word, .slice x.ms.A x.ms.l.length x.ms.c, .slice x.by_.A x.by_.l.length x.by_.c, .slice x.kids.A x.kids.l.length x.kids.c] rfl rfl rfl rfl agg26 inf26) rfl ?_
   refine l_val wn (r_lbn 0 [iV x3.kind, iV x3.n, iV x3.range, .string x3.word, .slice x3.ms.A x3.ms.l.length x3.ms.c, .slice x3.by_.A x3.by_.l.length x3.by_.c, .slice x3.kids.A x3.kids.l.length x3.kids.c] rfl rfl rfl rfl agg26 inf26) rfl ?_
   refine l_bsL exprE ([x, x3] : List ExprX) wn Tryd.underlying24 inf26 rfl rfl rfl rfl (by decide) (by decide) rfl fun b25 => ?_
   refine l_val wn (r_build [iV 4, iV 0, iV 0, .string ⟨#[45]⟩, Zs, Zs, .slice (some ⟨b25, 0, none⟩) 2 2] pl26 inf26 rfl rfl) rfl ?_
   refine l_sealX 0 2 encExprX rfl rfl (fp2) ?_
   refine l_mem (fun _ h => h.exprG (k := 4) (n := 0) (r := 0) (wd := ⟨#[45]⟩) (ms := ⟨none, 0, []⟩) (bs := ⟨none, 0, []⟩) (ks := ⟨(some ⟨b25, 0, none⟩), 2, ([x, x3] : List ExprX)⟩) (fun _ _ => FlatSl.nil_ _ _ _ _) (fun _ _ => FlatSl.nil_ _ _ _ _) (fun _ pp => pp.sl 0 rfl) (fun _ pp x hx => by simp only [List.mem_cons, List.not_mem_nil, or_false] at hx; rcases hx with rfl | rfl <;> first | exact pp.at_ 6 _ rfl | exact pp.at_ 4 _ rfl) (by first | decide | omega) (fun x hx => by cases hx) (fun x hx => by cases hx)) ?_
   refine l_giveX (α := Unit) (PT := 61) [Rb 64 p s j5 m3, .pub ErrV] [okP ExprX.Ok (ExprX.mk 4 0 0 ⟨#[45]⟩ ⟨none, 0, []⟩ ⟨none, 0, []⟩ ⟨(some ⟨b25, 0, none⟩), 2, ([x, x3] : List ExprX)⟩), slP 7 exprE (.slice (some ⟨b25, 0, none⟩) 2 2) ([x, x3] : List ExprX), .blk b7 [iV x3.kind, iV x3.n, iV x3.range, .string x3.word, .slice x3.ms.A x3.ms.l.length x3.ms.c, .slice x3.by_.A x3.by_.l.length x3.by_.c, .slice x3.kids.A x3.kids.l.length x3.kids.c] 26, okP ExprX.Ok x3, .blk b5 [iV x.kind, iV x.n, iV x.range, .string x.word, .slice x.ms.A x.ms.l.length x.ms.c, .slice x.by_.A x.by_.l.length x.by_.c, .slice x.kids.A x.kids.l.length x.kids.c] 26, okP ExprX.Ok x, .blk b4 Zx 26] (fun _ : Unit => .agg (List.toArray [iV 4, iV 0, iV 0, .string ⟨#[45]⟩, Zs, Zs, .slice (some ⟨b25, 0, none⟩) 2 2])) (fun z7 => m3 + 1 ≤ 100) (fun z7 => [Rb 64 p s j5 (m3 + 1), .pub ErrV]) (fun z7 => [Rb 64 p s j5 (m3 + 1), .pub ErrV, okP ExprX.Ok (ExprX.mk 4 0 0 ⟨#[45]⟩ ⟨none, 0, []⟩ ⟨none, 0, []⟩ ⟨(some ⟨b25, 0, none⟩), 2, ([x, x3] : List ExprX)⟩), slP 7 exprE (.slice (some ⟨b25, 0, none⟩) 2 2) ([x, x3] : List ExprX), .blk b7 [iV x3.kind, iV x3.n, iV x3.range, .string x3.word, .slice x3.ms.A x3.ms.l.length x3.ms.c, .slice x3.by_.A x3.by_.l.length x3.by_.c, .slice x3.kids.A x3.kids.l.length x3.kids.c] 26, okP ExprX.Ok x3, .blk b5 [iV x.kind, iV x.n, iV x.range, .string x.word, .slice x.ms.A x.ms.l.length x.ms.c, .slice x.by_.A x.by_.l.length x.by_.c, .slice x.kids.A x.kids.l.length x.kids.c] 26, okP ExprX.Ok x, .blk b4 Zx 26]) (fun f5 => Pz.node ⟨j5, m3⟩ = .no f5) (fun _ => rfl) (fun _ h => h.sel [3, 4, 0, 1, 2, 5, 6, 7, 8] (by decide) rfl) (fun _ => rfl) wn rfl rfl Tryd.call51 rfl (fun w1 Pb hG => c_node p s j5 m3 4 0 0 ⟨#[45]⟩ none 0 0 none 0 0 (some ⟨b25, 0, none⟩) 2 2 Pb w1 hG (by omega) (by omega) (by omega)) ?_ fun z7 hz7 => ?_
   · intro f5 hf5
     refine e_in_p (e_loop4_p (e_in_p (e_body_p fun w1 hM => ?_)))
     have hY := Pz.bin_next hI1.1 (Pz.minus1 (by rw [he2, g1]) (by rw [he5, h2])) (by decide) he6
     simp only [Pz.then_ok, hf5, Pz.then_no] at hY
     exact hM.retPan f5 (by simp only [Pz.then_ok, Pz.then_no, Pz.St.go, if_true, if_false, Bool.false_eq_true, Bool.true_eq_false, not_true_eq_false, not_false_eq_true, ne_eq, and_true, true_and, and_false, false_and, and_self, not_and, Pz.xpr, Pz.sumOf, he1, hY])
   have he7 : Pz.node ⟨j5, m3⟩ = .ok ⟨j5, m3 + 1⟩ := Pz.node_yes hz7
   refine l_stn 6 wn rfl rfl rfl inf26 rfl rfl rfl ?_
   refine l_nil (e_in_n (e_round4 (ExprX.mk 4 0 0 ⟨#[45]⟩ ⟨none, 0, []⟩ ⟨none, 0, []⟩ ⟨(some ⟨b25, 0, none⟩), 2, ([x, x3] : List ExprX)⟩) j5 (m3 + 1) (q - 1) (sc rfl (sc rfl (sc rfl (sc rfl sn)))) (fun _ h => (h.sel [6, 0, 1, 2, 8] (by decide) rfl)) ?_ ?_))
   · have hY := Pz.bin_next hI1.1 (Pz.minus1 (by rw [he2, g1]) (by rw [he5, h2])) (by decide) he6
     simp only [Pz.then_ok, he7] at hY
     exact ⟨hY.trans (by rw [show q - 1 + 1 = q by omega]; rfl), by omega, by omega, by omega, by omega⟩
   omega
 have g2 : bo2 = false := by simpa using h2
 refine c_seq fun _ hK9 => ?_
 refine c_region ?_
 refine l_val wn (r_lbn 2 [iV x.kind, iV x.n, iV x.range, .string x.word, .slice x.ms.A x.ms.l.length x.ms.c, .slice x.by_.A x.by_.l.length x.by_.c, .slice x.kids.A x.kids.l.length x.kids.c] rfl rfl rfl rfl agg26 inf26) rfl ?_
 refine l_stn 4 wn rfl rfl rfl inf26 rfl rfl rfl ?_
 refine l_nil (e_go hK9 ?_)
 refine c_ret (e_in_r (e_then_r (e_in_r (e_loop4_r (e_in_r (e_ret1 (.inl rfl) Tryd.results30 (rv_cell 4 rfl rfl agg26 inf26 rfl) fun w1 hM => ?_))))))
 have h9 : Pz.xpr s N ⟨i, n⟩ = .ok (x.e, ⟨j4, m⟩) := by simp only [Pz.then_ok, Pz.then_no, Pz.St.go, if_true, if_false, Bool.false_eq_true, Bool.true_eq_false, not_true_eq_false, not_false_eq_true, ne_eq, and_true, true_and, and_false, false_and, and_self, not_and, Pz.xpr, Pz.sumOf, he1, Pz.bin_done hI1.1 (Pz.plus0 (by rw [he2, g1]) (by rw [he5, g2]))]
 exact hM.retX ((x, ⟨j4, m⟩) : ExprX × Pz.St) rfl ⟨h9, (Pz.xpr_fine s N _ hi).ok_ h9⟩ (fun h => h.sel [0, 1, 3] (by decide) rfl)

theorem trm_of {N : Nat} (ih : FacC N) : TrmC N := fun p s i n d Pb w hG hi hs hn hd hd1 => c_term p s i n d N Pb w hG hi hs hn hd hd1 ih
theorem xpr_of {N : Nat} (ih : TrmC N) : XprC N := fun p s i n d Pb w hG hi hs hn hd hd1 => c_expr p s i n d N Pb w hG hi hs hn hd hd1 ih
theorem fac_all : ∀ N, FacC N
  | 0 => fun p s i n d Pb w hG hi hs hn hd hd1 => c_factor p s i n d 0 Pb w hG hi hs hn hd hd1 (fun M h => by omega)
  | N + 1 => fun p s i n d Pb w hG hi hs hn hd hd1 => c_factor p s i n d (N + 1) Pb w hG hi hs hn hd hd1 (fun M h => by obtain rfl : N = M := (by omega); exact xpr_of (trm_of (fac_all N)))
theorem xpr_all (N : Nat) : XprC N := xpr_of (trm_of (fac_all N))

end Go.Proofs.YtffpglgboaigfaaDoor
