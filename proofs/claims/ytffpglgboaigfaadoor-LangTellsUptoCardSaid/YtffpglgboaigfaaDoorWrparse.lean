/-
  Walks: what each function hands back.
-/
import Derived.Test.YtffpglgboaigfaaDoorWlangS
import Derived.Test.YtffpglgboaigfaaDoorSim
namespace Go.Proofs.YtffpglgboaigfaaDoor
open Ex
set_option linter.unusedVariables false
set_option linter.unusedSimpArgs false
theorem w_ok (p : Nat) (s : ByteArray) (i : Nat) (n be ba : Int) (Pb : Nat → Prop) (w : World) (hG : Mem w ⟨fpOf [Wb 69 p s i n be ba], Pb⟩ [Wb 69 p s i n be ba] w)  :
    Calls Tryd.prog 34 #[.pointer (some ⟨p, 0, none⟩)] w (RetA w [Wb 69 p s i n be ba] Pb (fun _ : Unit => .bool (decide (be = 0))) (fun _ => True) (fun _ => [Wb 69 p s i n be ba])) := by
 refine fstart (N := 9) (vals := [.pointer (some ⟨p, 0, none⟩)]) (S := Mem w ⟨fpOf [Wb 69 p s i n be ba], Pb⟩ [Wb 69 p s i n be ba]) Tryd.func34 rfl rfl rfl hG ?_
 refine c_seq fun _ hK1 => ?_
 refine c_region ?_
 refine l_val wn (r_assign rfl) rfl ?_
 refine l_nil (e_go hK1 ?_)
 refine c_seq fun _ hK2 => ?_
 refine c_region ?_
 refine l_val wn (r_move rfl) rfl ?_
 refine l_val wn (r_nilCheck rfl) rfl ?_
 refine l_val wn (r_fa rfl fld69_3) rfl ?_
 refine l_val wn (r_fa rfl fld33_0) rfl ?_
 refine l_val wn (r_lb 0 rfl rfl rfl flat27) rfl ?_
 refine l_val wn (r_eql rfl rfl) rfl ?_
 refine l_val wn (r_assign rfl) rfl ?_
 refine l_nil (e_go hK2 ?_)
 refine c_ret (e_ret1 (.inl rfl) Tryd.results34 (rv_tmp rfl) fun w1 hM => ?_)
 exact hM.retA () rfl trivial (fun h => h.sel [0] (by decide) rfl)

theorem w_stop (p : Nat) (s : ByteArray) (i : Nat) (n be ba : Int) (e at_ : Int) (Pb : Nat → Prop) (w : World) (hG : Mem w ⟨fpOf [Wb 69 p s i n be ba], Pb⟩ [Wb 69 p s i n be ba] w)  :
    Calls Tryd.prog 36 #[.pointer (some ⟨p, 0, none⟩), iV e, iV at_] w (RetA w [Wb 69 p s i n be ba] Pb (fun _ : Int × Int => .tuple #[]) (fun z => Pz.StopR be ba e at_ z) (fun z => [Wb 69 p s i n z.1 z.2])) := by
 refine fstart (N := 14) (vals := [.pointer (some ⟨p, 0, none⟩), iV e, iV at_]) (S := Mem w ⟨fpOf [Wb 69 p s i n be ba], Pb⟩ [Wb 69 p s i n be ba]) Tryd.func36 rfl rfl rfl hG ?_
 refine c_seq fun _ hK1 => ?_
 refine c_region ?_
 refine l_val wn (r_move rfl) rfl ?_
 refine l_give (α := Unit) [Wb 69 p s i n be ba] [] (fun _ : Unit => .bool (decide (be = 0))) (fun z1 => True) (fun z1 => [Wb 69 p s i n be ba]) (fun z1 => [Wb 69 p s i n be ba]) (fun _ => rfl) (fun _ h => h.sel [0] (by decide) rfl) (fun _ => rfl) wn rfl rfl Tryd.call34 rfl (fun w1 Pb hG => w_ok p s i n be ba Pb w1 hG) fun z1 hz1 => ?_
 refine l_nil (e_go hK1 ?_)
 refine c_cond rfl (fun h1 => ?_) (fun h1 => ?_)
 · refine c_region ?_
   refine l_val wn (r_move rfl) rfl ?_
   refine l_val wn (r_move rfl) rfl ?_
   refine l_val wn (r_move rfl) rfl ?_
   refine l_val wn (r_build [iV e, iV at_] pl33 inf33 rfl rfl) rfl ?_
   refine l_val wn (r_nilCheck rfl) rfl ?_
   refine l_val wn (r_fa rfl fld69_3) rfl ?_
   refine l_stn 0 wn rfl rfl rfl inf33 rfl rfl rfl ?_
   refine l_nil (e_ret0 (.inr rfl) Tryd.results36  fun w1 hM => ?_)
   exact hM.retA (e, at_) rfl ⟨fun _ => rfl, fun h => absurd h1 h⟩ (fun h => h.sel [0] (by decide) rfl)
 refine c_skip (e_ret0 (.inr rfl) Tryd.results36  fun w1 hM => ?_)
 exact hM.retA (be, ba) rfl ⟨fun h => absurd h h1, fun _ => rfl⟩ (fun h => h.sel [0] (by decide) rfl)

theorem w_skip (p : Nat) (s : ByteArray) (i : Nat) (n be ba : Int) (Pb : Nat → Prop) (w : World) (hG : Mem w ⟨fpOf [Wb 69 p s i n be ba], Pb⟩ [Wb 69 p s i n be ba] w) (hi : i ≤ s.size) (hs : s.size ≤ 2000) :
    Calls Tryd.prog 35 #[.pointer (some ⟨p, 0, none⟩)] w (RetA w [Wb 69 p s i n be ba] Pb (fun _ : Nat => .tuple #[]) (fun z => Pz.blank s i = z ∧ i ≤ z ∧ z ≤ s.size) (fun z => [Wb 69 p s z n be ba])) := by
 refine fstart (N := 31) (vals := [.pointer (some ⟨p, 0, none⟩)]) (S := Mem w ⟨fpOf [Wb 69 p s i n be ba], Pb⟩ [Wb 69 p s i n be ba]) Tryd.func35 rfl rfl rfl hG ?_
 refine c_block ?_
 refine c_loop1 (fun (k : Nat) => [(0, .pointer (some ⟨p, 0, none⟩))]) (fun (k : Nat) => [Wb 69 p s k n be ba]) (fun (k : Nat) => i ≤ k ∧ k ≤ s.size ∧ Pz.blank s i = Pz.blank s k) (fun (k : Nat) => s.size - k) i (sc rfl sn) (fun _ h => h) ?_ (fun k hI1 => ?_)
 · exact ⟨Nat.le_refl _, hi, rfl⟩
 refine c_seq fun _ hK1 => ?_
 refine c_seq fun _ hK2 => ?_
 refine c_quiet mix (by kernel_rfl) (fun _ h => h.drew) ?_
 refine q_val wn (r_move rfl) rfl ?_
 refine q_val wn (r_nilCheck rfl) rfl ?_
 refine q_val wn (r_fa rfl fld69_1) rfl ?_
 refine q_val wn (r_lb 0 rfl rfl rfl flat3) rfl ?_
 refine q_val wn (r_move rfl) rfl ?_
 refine q_val wn (r_nilCheck rfl) rfl ?_
 refine q_val wn (r_fa rfl fld69_0) rfl ?_
 refine q_val wn (r_lb 0 rfl rfl rfl flat9) rfl ?_
 refine q_val wn (r_slen rfl Tryd.underlying9) rfl ?_
 refine q_val wn (r_lss rfl rfl) rfl ?_
 refine q_val wn (r_move rfl) rfl ?_
 refine q_case (t := 12) rfl (fun h1 => ?_) (fun h1 => ?_)
 · refine q_val (wg rfl rfl rfl) (r_move rfl) rfl ?_
   refine q_val (wg rfl rfl rfl) (r_nilCheck rfl) rfl ?_
   refine q_val (wg rfl rfl rfl) (r_fa rfl fld69_0) rfl ?_
   refine q_val (wg rfl rfl rfl) (r_lb 0 rfl rfl rfl flat9) rfl ?_
   refine q_val (wg rfl rfl rfl) (r_move rfl) rfl ?_
   refine q_val (wg rfl rfl rfl) (r_nilCheck rfl) rfl ?_
   refine q_val (wg rfl rfl rfl) (r_fa rfl fld69_1) rfl ?_
   refine q_val (wg rfl rfl rfl) (r_lb 0 rfl rfl rfl flat3) rfl ?_
   obtain ⟨c1, hc1⟩ : ∃ x, s[k]? = some x := ⟨_, byte_at (by first | omega | (simp <;> omega))⟩
   refine q_val (wg rfl rfl rfl) (r_sidx rfl rfl (by omega) hc1 Tryd.underlying9) rfl ?_
   refine q_val (wg rfl rfl rfl) (r_eql rfl rfl) rfl ?_
   refine q_val wn (r_pick rfl rfl) rfl ?_
   refine q_end (e_go hK2 ?_)
   refine c_cond rfl (fun h2 => ?_) (fun h2 => ?_)
   · refine c_skip (e_go hK1 ?_)
     refine c_block ?_
     refine c_region ?_
     refine l_val wn (r_move rfl) rfl ?_
     refine l_val wn (r_nilCheck rfl) rfl ?_
     refine l_val wn (r_fa rfl fld69_1) rfl ?_
     refine l_val wn (r_lb 0 rfl rfl rfl flat3) rfl ?_
     refine l_val wn (r_addn rfl rfl (by omega)) rfl ?_
     refine l_val wn (r_nilCheck rfl) rfl ?_
     refine l_val wn (r_fa rfl fld69_1) rfl ?_
     refine l_st1 0 wn rfl rfl rfl rfl inf3 rfl rfl ?_
     refine l_nil (e_in_n (e_round1 (k + 1) (sc rfl sn) (fun _ h => h) ?_ ?_))
     · exact ⟨by omega, by omega, hI1.2.2.trans (Pz.blank_step hc1 h2)⟩
     omega
   refine c_exit (e_then_x (e_loop1_x (e_in_hit (e_ret0 (.inr rfl) Tryd.results35  fun w1 hM => ?_))))
   exact hM.retA (k) rfl ⟨hI1.2.2.trans (Pz.blank_stop hc1 h2), hI1.1, hI1.2.1⟩ (fun h => h.sel [0] (by decide) rfl)
 refine q_skip (wg rfl rfl rfl) rfl ?_
 refine q_skip (wg rfl rfl rfl) rfl ?_
 refine q_skip (wg rfl rfl rfl) rfl ?_
 refine q_skip (wg rfl rfl rfl) rfl ?_
 refine q_skip (wg rfl rfl rfl) rfl ?_
 refine q_skip (wg rfl rfl rfl) rfl ?_
 refine q_skip (wg rfl rfl rfl) rfl ?_
 refine q_skip (wg rfl rfl rfl) rfl ?_
 refine q_skip (wg rfl rfl rfl) rfl ?_
 refine q_skip (wg rfl rfl rfl) rfl ?_
 refine q_val wn (r_pick rfl rfl) rfl ?_
 refine q_end (e_go hK2 ?_)
 refine c_false rfl rfl ?_
 refine c_exit (e_then_x (e_loop1_x (e_in_hit (e_ret0 (.inr rfl) Tryd.results35  fun w1 hM => ?_))))
 exact hM.retA (k) rfl ⟨hI1.2.2.trans (Pz.blank_end (by omega)), hI1.1, hI1.2.1⟩ (fun h => h.sel [0] (by decide) rfl)

theorem w_sign (p : Nat) (s : ByteArray) (i : Nat) (n be ba : Int) (sg : ByteArray) (Pb : Nat → Prop) (w : World) (hG : Mem w ⟨fpOf [Wb 69 p s i n be ba], Pb⟩ [Wb 69 p s i n be ba] w) (hi : i ≤ s.size) (hs : s.size ≤ 2000) (hg : sg.size ≤ 100) :
    Calls Tryd.prog 53 #[.pointer (some ⟨p, 0, none⟩), .string sg] w (RetA w [Wb 69 p s i n be ba] Pb (fun z : Bool × Nat => .bool z.1) (fun z => Pz.SignR s sg be i z) (fun z => [Wb 69 p s z.2 n be ba])) := by
 refine fstart (N := 55) (vals := [.pointer (some ⟨p, 0, none⟩), .string sg]) (S := Mem w ⟨fpOf [Wb 69 p s i n be ba], Pb⟩ [Wb 69 p s i n be ba]) Tryd.func53 rfl rfl rfl hG ?_
 refine c_seq fun _ hK1 => ?_
 refine c_region ?_
 refine l_val wn (r_assign rfl) rfl ?_
 refine l_nil (e_go hK1 ?_)
 refine c_seq fun _ hK2 => ?_
 refine c_region ?_
 refine l_val wn (r_move rfl) rfl ?_
 refine l_give (α := Nat) [Wb 69 p s i n be ba] [] (fun _ : Nat => .tuple #[]) (fun j1 => (Pz.blank s i = j1 ∧ i ≤ j1 ∧ j1 ≤ s.size)) (fun j1 => [Wb 69 p s j1 n be ba]) (fun j1 => [Wb 69 p s j1 n be ba]) (fun _ => rfl) (fun _ h => h.sel [0] (by decide) rfl) (fun _ => rfl) wn rfl rfl Tryd.call35 rfl (fun w1 Pb hG => w_skip p s i n be ba Pb w1 hG (by omega) (by omega)) fun j1 hz1 => ?_
 obtain ⟨hz1e, hz1a, hz1b⟩ := hz1
 refine l_nil (e_go hK2 ?_)
 refine c_seq fun _ hK3 => ?_
 refine c_seq fun _ hK4 => ?_
 refine c_nodes (Mem w ⟨fpOf [Wb 69 p s i n be ba], Pb⟩ [Wb 69 p s j1 n be ba]) mix (fun _ h => h.drew) rfl ?_
 refine n_run (f := 37) [0] rfl rfl (by kernel_rfl) (by kernel_rfl) (fun _ h => h) fun KS hKS => ?_
 refine s_val wn (r_move rfl) rfl ?_
 refine s_end hKS ?_
 refine n_step1 (f := 36) (i := 1) rfl (by kernel_rfl) ?_
 refine n_one (i := 1) rfl fun KN hKN => ?_
 refine l_give (α := Unit) [Wb 69 p s j1 n be ba] [] (fun _ : Unit => .bool (decide (be = 0))) (fun z1 => True) (fun z1 => [Wb 69 p s j1 n be ba]) (fun z1 => [Wb 69 p s j1 n be ba]) (fun _ => rfl) (fun _ h => h.sel [0] (by decide) rfl) (fun _ => rfl) wn rfl rfl Tryd.call34 rfl (fun w1 Pb hG => w_ok p s j1 n be ba Pb w1 hG) fun z1 hz2 => ?_
 refine l_nil (hKN _ _ (fun _ h => h) ?_)
 refine n_run (f := 0) [2, 3, 4, 5, 6, 7, 8, 9, 10, 11, 12, 13, 14, 15, 16, 17, 18, 19, 20, 21, 22, 23, 24, 25, 26, 27, 28, 29, 30, 31, 32, 33, 34, 35, 36, 37] rfl rfl (by kernel_rfl) (by kernel_rfl) (fun _ h => h) fun KS hKS => ?_
 refine s_val wn (r_not rfl) rfl ?_
 refine s_val wn (r_move rfl) rfl ?_
 refine s_case (t := 10) rfl (fun h1 => ?_) (fun h1 => ?_)
 · refine s_skip (wg rfl rfl rfl) rfl ?_
   refine s_skip (wg rfl rfl rfl) rfl ?_
   refine s_skip (wg rfl rfl rfl) rfl ?_
   refine s_skip (wg rfl rfl rfl) rfl ?_
   refine s_skip (wg rfl rfl rfl) rfl ?_
   refine s_skip (wg rfl rfl rfl) rfl ?_
   refine s_skip (wg rfl rfl rfl) rfl ?_
   refine s_skip (wg rfl rfl rfl) rfl ?_
   refine s_skip (wg rfl rfl rfl) rfl ?_
   refine s_skip (wg rfl rfl rfl) rfl ?_
   refine s_skip (wg rfl rfl rfl) rfl ?_
   refine s_skip (wg rfl rfl rfl) rfl ?_
   refine s_skip (wg rfl rfl rfl) rfl ?_
   refine s_val wn (r_pick rfl rfl) rfl ?_
   refine s_val wn (r_move rfl) rfl ?_
   refine s_skip (wg rfl rfl rfl) rfl ?_
   refine s_skip (wg rfl rfl rfl) rfl ?_
   refine s_skip (wg rfl rfl rfl) rfl ?_
   refine s_skip (wg rfl rfl rfl) rfl ?_
   refine s_skip (wg rfl rfl rfl) rfl ?_
   refine s_skip (wg rfl rfl rfl) rfl ?_
   refine s_skip (wg rfl rfl rfl) rfl ?_
   refine s_skip (wg rfl rfl rfl) rfl ?_
   refine s_skip (wg rfl rfl rfl) rfl ?_
   refine s_skip (wg rfl rfl rfl) rfl ?_
   refine s_skip (wg rfl rfl rfl) rfl ?_
   refine s_skip (wg rfl rfl rfl) rfl ?_
   refine s_skip (wg rfl rfl rfl) rfl ?_
   refine s_skip (wg rfl rfl rfl) rfl ?_
   refine s_skip (wg rfl rfl rfl) rfl ?_
   refine s_skip (wg rfl rfl rfl) rfl ?_
   refine s_skip (wg rfl rfl rfl) rfl ?_
   refine s_skip (wg rfl rfl rfl) rfl ?_
   refine s_val wn (r_pick rfl rfl) rfl ?_
   refine s_end hKS ?_
   refine n_done (by kernel_rfl) (e_go hK4 ?_)
   refine c_true rfl rfl ?_
   refine c_seq fun _ hK5 => ?_
   refine c_region ?_
   refine l_val wn (r_assign rfl) rfl ?_
   refine l_nil (e_go hK5 ?_)
   refine c_ret (e_then_r (e_ret1 (.inl rfl) Tryd.results53 (rv_tmp rfl) fun w1 hM => ?_))
   exact hM.retA (false, j1) rfl ⟨by show _ ≤ _; omega, fun h => absurd h h1, fun _ => rfl⟩ (fun h => h.sel [0] (by decide) rfl)
 refine s_val (wg rfl rfl rfl) (r_move rfl) rfl ?_
 refine s_val (wg rfl rfl rfl) (r_nilCheck rfl) rfl ?_
 refine s_val (wg rfl rfl rfl) (r_fa rfl fld69_1) rfl ?_
 refine s_val (wg rfl rfl rfl) (r_lb 0 rfl rfl rfl flat3) rfl ?_
 refine s_val (wg rfl rfl rfl) (r_move rfl) rfl ?_
 refine s_val (wg rfl rfl rfl) (r_slen rfl Tryd.underlying9) rfl ?_
 refine s_val (wg rfl rfl rfl) (r_addn rfl rfl (by omega)) rfl ?_
 refine s_val (wg rfl rfl rfl) (r_move rfl) rfl ?_
 refine s_val (wg rfl rfl rfl) (r_nilCheck rfl) rfl ?_
 refine s_val (wg rfl rfl rfl) (r_fa rfl fld69_0) rfl ?_
 refine s_val (wg rfl rfl rfl) (r_lb 0 rfl rfl rfl flat9) rfl ?_
 refine s_val (wg rfl rfl rfl) (r_slen rfl Tryd.underlying9) rfl ?_
 refine s_val (wg rfl rfl rfl) (r_gtr rfl rfl) rfl ?_
 refine s_val wn (r_pick rfl rfl) rfl ?_
 refine s_val wn (r_move rfl) rfl ?_
 refine s_case (t := 25) rfl (fun h2 => ?_) (fun h2 => ?_)
 · refine s_skip (wg rfl rfl rfl) rfl ?_
   refine s_skip (wg rfl rfl rfl) rfl ?_
   refine s_skip (wg rfl rfl rfl) rfl ?_
   refine s_skip (wg rfl rfl rfl) rfl ?_
   refine s_skip (wg rfl rfl rfl) rfl ?_
   refine s_skip (wg rfl rfl rfl) rfl ?_
   refine s_skip (wg rfl rfl rfl) rfl ?_
   refine s_skip (wg rfl rfl rfl) rfl ?_
   refine s_skip (wg rfl rfl rfl) rfl ?_
   refine s_skip (wg rfl rfl rfl) rfl ?_
   refine s_skip (wg rfl rfl rfl) rfl ?_
   refine s_skip (wg rfl rfl rfl) rfl ?_
   refine s_skip (wg rfl rfl rfl) rfl ?_
   refine s_skip (wg rfl rfl rfl) rfl ?_
   refine s_skip (wg rfl rfl rfl) rfl ?_
   refine s_skip (wg rfl rfl rfl) rfl ?_
   refine s_skip (wg rfl rfl rfl) rfl ?_
   refine s_skip (wg rfl rfl rfl) rfl ?_
   refine s_val wn (r_pick rfl rfl) rfl ?_
   refine s_end hKS ?_
   refine n_done (by kernel_rfl) (e_go hK4 ?_)
   refine c_true rfl rfl ?_
   refine c_seq fun _ hK6 => ?_
   refine c_region ?_
   refine l_val wn (r_assign rfl) rfl ?_
   refine l_nil (e_go hK6 ?_)
   refine c_ret (e_then_r (e_ret1 (.inl rfl) Tryd.results53 (rv_tmp rfl) fun w1 hM => ?_))
   exact hM.retA (false, j1) rfl ⟨by show _ ≤ _; omega, fun _ => Pz.eat_no hz1e (Pz.pfx_neg (fun g => by have := g.1; omega) (by omega)), fun h => absurd (Classical.not_not.1 h1) h⟩ (fun h => h.sel [0] (by decide) rfl)
 refine s_val (wg rfl rfl rfl) (r_move rfl) rfl ?_
 refine s_val (wg rfl rfl rfl) (r_nilCheck rfl) rfl ?_
 refine s_val (wg rfl rfl rfl) (r_fa rfl fld69_0) rfl ?_
 refine s_val (wg rfl rfl rfl) (r_lb 0 rfl rfl rfl flat9) rfl ?_
 refine s_val (wg rfl rfl rfl) (r_move rfl) rfl ?_
 refine s_val (wg rfl rfl rfl) (r_nilCheck rfl) rfl ?_
 refine s_val (wg rfl rfl rfl) (r_fa rfl fld69_1) rfl ?_
 refine s_val (wg rfl rfl rfl) (r_lb 0 rfl rfl rfl flat3) rfl ?_
 refine s_val (wg rfl rfl rfl) (r_move rfl) rfl ?_
 refine s_val (wg rfl rfl rfl) (r_nilCheck rfl) rfl ?_
 refine s_val (wg rfl rfl rfl) (r_fa rfl fld69_1) rfl ?_
 refine s_val (wg rfl rfl rfl) (r_lb 0 rfl rfl rfl flat3) rfl ?_
 refine s_val (wg rfl rfl rfl) (r_move rfl) rfl ?_
 refine s_val (wg rfl rfl rfl) (r_slen rfl Tryd.underlying9) rfl ?_
 refine s_val (wg rfl rfl rfl) (r_addn rfl rfl (by omega)) rfl ?_
 refine s_val (wg rfl rfl rfl) (r_sslice_lh (l := j1) (h := (j1 + sg.size)) rfl rfl (by omega) rfl (by omega) (by omega) (by omega) Tryd.underlying9) rfl ?_
 refine s_val (wg rfl rfl rfl) (r_move rfl) rfl ?_
 refine s_val (wg rfl rfl rfl) (r_sneq rfl rfl) rfl ?_
 refine s_val wn (r_pick rfl rfl) rfl ?_
 refine s_end hKS ?_
 refine n_done (by kernel_rfl) (e_go hK4 ?_)
 refine c_cond rfl (fun h3 => ?_) (fun h3 => ?_)
 · refine c_seq fun _ hK7 => ?_
   refine c_region ?_
   refine l_val wn (r_assign rfl) rfl ?_
   refine l_nil (e_go hK7 ?_)
   refine c_ret (e_then_r (e_ret1 (.inl rfl) Tryd.results53 (rv_tmp rfl) fun w1 hM => ?_))
   exact hM.retA (false, j1) rfl ⟨by show _ ≤ _; omega, fun _ => Pz.eat_no hz1e (Pz.pfx_neg (fun g => h3 g.2) (by omega)), fun h => absurd (Classical.not_not.1 h1) h⟩ (fun h => h.sel [0] (by decide) rfl)
 refine c_skip (e_go hK3 ?_)
 refine c_seq fun _ hK8 => ?_
 refine c_region ?_
 refine l_val wn (r_move rfl) rfl ?_
 refine l_val wn (r_move rfl) rfl ?_
 refine l_val wn (r_nilCheck rfl) rfl ?_
 refine l_val wn (r_fa rfl fld69_1) rfl ?_
 refine l_val wn (r_lb 0 rfl rfl rfl flat3) rfl ?_
 refine l_val wn (r_move rfl) rfl ?_
 refine l_val wn (r_slen rfl Tryd.underlying9) rfl ?_
 refine l_val wn (r_addn rfl rfl (by omega)) rfl ?_
 refine l_val wn (r_nilCheck rfl) rfl ?_
 refine l_val wn (r_fa rfl fld69_1) rfl ?_
 refine l_st1 0 wn rfl rfl rfl rfl inf3 rfl rfl ?_
 refine l_nil (e_go hK8 ?_)
 refine c_seq fun _ hK9 => ?_
 refine c_region ?_
 refine l_val wn (r_assign rfl) rfl ?_
 refine l_nil (e_go hK9 ?_)
 refine c_ret (e_ret1 (.inl rfl) Tryd.results53 (rv_tmp rfl) fun w1 hM => ?_)
 have h8 : Pz.pfx s sg j1 = true := Pz.pfx_pos (by omega) (Classical.not_not.1 h3)
 exact hM.retA (true, (j1 + sg.size)) rfl ⟨by have := Pz.pfx_le h8 (by omega); exact this, fun _ => Pz.eat_yes hz1e h8, fun h => absurd (Classical.not_not.1 h1) h⟩ (fun h => h.sel [0] (by decide) rfl)

theorem w_need (p : Nat) (s : ByteArray) (i : Nat) (n be ba : Int) (sg : ByteArray) (Pb : Nat → Prop) (w : World) (hG : Mem w ⟨fpOf [Wb 69 p s i n be ba], Pb⟩ [Wb 69 p s i n be ba] w) (hi : i ≤ s.size) (hs : s.size ≤ 2000) (hg : sg.size ≤ 100) :
    Calls Tryd.prog 65 #[.pointer (some ⟨p, 0, none⟩), .string sg] w (RetA w [Wb 69 p s i n be ba] Pb (fun _ : Nat × Int × Int => .tuple #[]) (fun z => Pz.SimU s be ba (Pz.must s sg ⟨i, n⟩) ⟨z.1, n, z.2.1, z.2.2⟩) (fun z => [Wb 69 p s z.1 n z.2.1 z.2.2])) := by
 refine fstart (N := 14) (vals := [.pointer (some ⟨p, 0, none⟩), .string sg]) (S := Mem w ⟨fpOf [Wb 69 p s i n be ba], Pb⟩ [Wb 69 p s i n be ba]) Tryd.func65 rfl rfl rfl hG ?_
 refine c_seq fun _ hK1 => ?_
 refine c_region ?_
 refine l_val wn (r_move rfl) rfl ?_
 refine l_val wn (r_move rfl) rfl ?_
 refine l_give (α := (Bool × Nat)) [Wb 69 p s i n be ba] [] (fun z : Bool × Nat => .bool z.1) (fun z1 => (Pz.SignR s sg be i z1)) (fun z1 => [Wb 69 p s z1.2 n be ba]) _ (fun _ => rfl) (fun _ h => h.sel [0] (by decide) rfl) (fun _ => rfl) wn rfl rfl Tryd.call53 rfl (fun w1 Pb hG => w_sign p s i n be ba sg Pb w1 hG (by omega) (by omega) (by first | decide | omega)) fun z1 hz1 => ?_
 obtain ⟨bo1, j1⟩ := z1
 have hs1 : Pz.SignR s sg be i (bo1, j1) := hz1
 try simp only at hs1
 have hs1l : j1 ≤ s.size := hs1.1
 refine l_as 6 (.bool bo1) [Wb 69 p s j1 n be ba] ?_
 refine l_val wn (r_notb rfl) rfl ?_
 refine l_nil (e_go hK1 ?_)
 refine c_condb rfl (fun h1 => ?_) (fun h1 => ?_)
 · refine c_region ?_
   refine l_val wn (r_move rfl) rfl ?_
   refine l_val wn (r_move rfl) rfl ?_
   refine l_val wn (r_nilCheck rfl) rfl ?_
   refine l_val wn (r_fa rfl fld69_1) rfl ?_
   refine l_val wn (r_lb 0 rfl rfl rfl flat3) rfl ?_
   refine l_give (α := (Int × Int)) [Wb 69 p s j1 n be ba] [] (fun z : Int × Int => .tuple #[]) (fun z2 => (Pz.StopR be ba 2 (j1 : Int) z2)) (fun z2 => [Wb 69 p s j1 n z2.1 z2.2]) _ (fun _ => rfl) (fun _ h => h.sel [0] (by decide) rfl) (fun _ => rfl) wn rfl rfl Tryd.call36 rfl (fun w1 Pb hG => w_stop p s j1 n be ba 2 (j1 : Int) Pb w1 hG ) fun z2 hz2 => ?_
   obtain ⟨be1, ba1⟩ := z2
   have hs2 : Pz.StopR be ba 2 (j1 : Int) (be1, ba1) := hz2
   try simp only at hs2
   refine l_as 13 (.tuple (List.toArray [])) [Wb 69 p s j1 n be1 ba1] ?_
   refine l_nil (e_ret0 (.inr rfl) Tryd.results65  fun w1 hM => ?_)
   exact hM.retA (j1, be1, ba1) rfl (Pz.must_not hs1 (by simpa using h1) hs2) (fun h => h.sel [0] (by decide) rfl)
 refine c_skip (e_ret0 (.inr rfl) Tryd.results65  fun w1 hM => ?_)
 exact hM.retA (j1, be, ba) rfl (Pz.must_yes hs1 (by simpa using h1)) (fun h => h.sel [0] (by decide) rfl)

theorem w_word (p : Nat) (s : ByteArray) (i : Nat) (n be ba : Int) (Pb : Nat → Prop) (w : World) (hG : Mem w ⟨fpOf [Wb 69 p s i n be ba], Pb⟩ [Wb 69 p s i n be ba] w) (hi : i ≤ s.size) (hs : s.size ≤ 2000) :
    Calls Tryd.prog 66 #[.pointer (some ⟨p, 0, none⟩)] w (RetA w [Wb 69 p s i n be ba] Pb (fun z : ByteArray × Nat × Int × Int => .string z.1) (fun z => Pz.Sim s be ba (Pz.word s ⟨i, n⟩) z.1 ⟨z.2.1, n, z.2.2.1, z.2.2.2⟩ ∧ z.1.size ≤ 2000) (fun z => [Wb 69 p s z.2.1 n z.2.2.1 z.2.2.2])) := by
 refine fstart (N := 82) (vals := [.pointer (some ⟨p, 0, none⟩)]) (S := Mem w ⟨fpOf [Wb 69 p s i n be ba], Pb⟩ [Wb 69 p s i n be ba]) Tryd.func66 rfl rfl rfl hG ?_
 refine c_seq fun _ hK1 => ?_
 refine c_region ?_
 refine l_val wn (r_assign rfl) rfl ?_
 refine l_nil (e_go hK1 ?_)
 refine c_seq fun _ hK2 => ?_
 refine c_region ?_
 refine l_val wn (r_move rfl) rfl ?_
 refine l_give (α := Nat) [Wb 69 p s i n be ba] [] (fun _ : Nat => .tuple #[]) (fun j1 => (Pz.blank s i = j1 ∧ i ≤ j1 ∧ j1 ≤ s.size)) (fun j1 => [Wb 69 p s j1 n be ba]) (fun j1 => [Wb 69 p s j1 n be ba]) (fun _ => rfl) (fun _ h => h.sel [0] (by decide) rfl) (fun _ => rfl) wn rfl rfl Tryd.call35 rfl (fun w1 Pb hG => w_skip p s i n be ba Pb w1 hG (by omega) (by omega)) fun j1 hz1 => ?_
 obtain ⟨hz1e, hz1a, hz1b⟩ := hz1
 refine l_nil (e_go hK2 ?_)
 refine c_seq fun _ hK3 => ?_
 refine c_region ?_
 refine l_val wn (r_move rfl) rfl ?_
 refine l_val wn (r_nilCheck rfl) rfl ?_
 refine l_val wn (r_fa rfl fld69_1) rfl ?_
 refine l_val wn (r_lb 0 rfl rfl rfl flat3) rfl ?_
 refine l_val wn (r_assign rfl) rfl ?_
 refine l_nil (e_go hK3 ?_)
 refine c_cut [(0, .pointer (some ⟨p, 0, none⟩)), (3, iV ((Pz.wend s j1) : Int))] (Mem w ⟨fpOf [Wb 69 p s i n be ba], Pb⟩ [.pub (fun _ _ => j1 ≤ Pz.wend s j1 ∧ Pz.wend s j1 ≤ s.size), Wb 69 p s j1 n be ba]) (fun _ hK4 => ?_) ?_
 · refine c_block ?_
   refine c_loop1 (fun (k : Nat) => [(0, .pointer (some ⟨p, 0, none⟩)), (3, iV k)]) (fun (k : Nat) => [Wb 69 p s j1 n be ba]) (fun (k : Nat) => (k = j1 ∨ (j1 < k ∧ Pz.wend s j1 = Pz.run Pz.wch s k)) ∧ j1 ≤ k ∧ k ≤ s.size) (fun (k : Nat) => s.size - k) j1 (sc rfl (sc rfl sn)) (fun _ h => h) ?_ (fun k hI1 => ?_)
   · exact ⟨.inl rfl, Nat.le_refl _, by omega⟩
   refine c_seq fun _ hK5 => ?_
   refine c_seq fun _ hK6 => ?_
   refine c_region ?_
   refine l_val wn (r_move rfl) rfl ?_
   refine l_val wn (r_move rfl) rfl ?_
   refine l_val wn (r_nilCheck rfl) rfl ?_
   refine l_val wn (r_fa rfl fld69_0) rfl ?_
   refine l_val wn (r_lb 0 rfl rfl rfl flat9) rfl ?_
   refine l_val wn (r_slen rfl Tryd.underlying9) rfl ?_
   refine l_val wn (r_lss rfl rfl) rfl ?_
   refine l_nil (e_go hK6 ?_)
   refine c_cond rfl (fun h1 => ?_) (fun h1 => ?_)
   · refine c_skip (e_go hK5 ?_)
     refine c_block ?_
     refine c_seq fun _ hK7 => ?_
     refine c_region ?_
     refine l_val wn (r_move rfl) rfl ?_
     refine l_val wn (r_nilCheck rfl) rfl ?_
     refine l_val wn (r_fa rfl fld69_0) rfl ?_
     refine l_val wn (r_lb 0 rfl rfl rfl flat9) rfl ?_
     refine l_val wn (r_move rfl) rfl ?_
     obtain ⟨c1, hc1⟩ : ∃ x, s[k]? = some x := ⟨_, byte_at (by first | omega | (simp <;> omega))⟩
     refine l_val wn (r_sidx rfl rfl (by omega) hc1 Tryd.underlying9) rfl ?_
     refine l_val wn (r_assign rfl) rfl ?_
     refine l_nil (e_go hK7 ?_)
     refine c_seq fun _ hK8 => ?_
     refine c_region ?_
     refine l_val wn (r_move rfl) rfl ?_
     refine l_val wn (r_geq rfl rfl) rfl ?_
     refine l_val wn (r_move rfl) rfl ?_
     refine l_case (t := 28) rfl (fun h2 => ?_) (fun h2 => ?_)
     · refine l_val (wg rfl rfl rfl) (r_move rfl) rfl ?_
       refine l_val (wg rfl rfl rfl) (r_leq rfl rfl) rfl ?_
       refine l_val wn (r_pick rfl rfl) rfl ?_
       refine l_val wn (r_assign rfl) rfl ?_
       refine l_nil (e_go hK8 ?_)
       refine c_seq fun _ hK9 => ?_
       refine c_seq fun _ hK10 => ?_
       refine c_region ?_
       refine l_val wn (r_move rfl) rfl ?_
       refine l_val wn (r_not rfl) rfl ?_
       refine l_val wn (r_move rfl) rfl ?_
       refine l_case (t := 34) rfl (fun h3 => ?_) (fun h3 => ?_)
       · refine l_val (wg rfl rfl rfl) (r_move rfl) rfl ?_
         refine l_val (wg rfl rfl rfl) (r_move rfl) rfl ?_
         refine l_val (wg rfl rfl rfl) (r_nilCheck rfl) rfl ?_
         refine l_val (wg rfl rfl rfl) (r_fa rfl fld69_1) rfl ?_
         refine l_val (wg rfl rfl rfl) (r_lb 0 rfl rfl rfl flat3) rfl ?_
         refine l_val (wg rfl rfl rfl) (r_eql rfl rfl) rfl ?_
         refine l_val (wg rfl rfl rfl) (r_move rfl) rfl ?_
         refine l_case (t := 41) rfl (fun h4 => ?_) (fun h4 => ?_)
         · refine l_skip (wg rfl rfl rfl) rfl ?_
           refine l_skip (wg rfl rfl rfl) rfl ?_
           refine l_skip (wg rfl rfl rfl) rfl ?_
           refine l_skip (wu rfl rfl) rfl ?_
           refine l_skip (wu rfl rfl) rfl ?_
           refine l_skip (wu rfl rfl) rfl ?_
           refine l_skip (wu rfl rfl) rfl ?_
           refine l_skip (wu rfl rfl) rfl ?_
           refine l_skip (wu rfl rfl) rfl ?_
           refine l_skip (wg rfl rfl rfl) rfl ?_
           refine l_val (wg rfl rfl rfl) (r_pick rfl rfl) rfl ?_
           refine l_val wn (r_pick rfl rfl) rfl ?_
           refine l_nil (e_go hK10 ?_)
           refine c_true rfl rfl ?_
           have hw9 : Pz.wend s j1 = k := Pz.wend_done hc1 hI1.1 (by omega)
           refine c_exit (e_then_x (e_in_miss rfl (e_loop1_x (e_in_hit (e_cut hK4 (sc rfl (sc (ji (by omega)) sn)) (fun _ h => have h := Mem.fact ((by rw [hw9]; exact ⟨hI1.2.1, hI1.2.2⟩)) h; h))))))
         refine l_val (wg rfl rfl rfl) (r_move rfl) rfl ?_
         refine l_val (wg rfl rfl rfl) (r_neq rfl rfl) rfl ?_
         refine l_val (wg rfl rfl rfl) (r_move rfl) rfl ?_
         refine l_case (t := 44) rfl (fun h5 => ?_) (fun h5 => ?_)
         · refine l_val (wg rfl rfl rfl) (r_move rfl) rfl ?_
           refine l_val (wg rfl rfl rfl) (r_lss rfl rfl) rfl ?_
           refine l_val (wg rfl rfl rfl) (r_move rfl) rfl ?_
           refine l_case (t := 47) rfl (fun h6 => ?_) (fun h6 => ?_)
           · refine l_skip (wg rfl rfl rfl) rfl ?_
             refine l_skip (wg rfl rfl rfl) rfl ?_
             refine l_val (wg rfl rfl rfl) (r_pick rfl rfl) rfl ?_
             refine l_val (wg rfl rfl rfl) (r_pick rfl rfl) rfl ?_
             refine l_val (wg rfl rfl rfl) (r_pick rfl rfl) rfl ?_
             refine l_val wn (r_pick rfl rfl) rfl ?_
             refine l_nil (e_go hK10 ?_)
             refine c_true rfl rfl ?_
             have hw9 : Pz.wend s j1 = k := Pz.wend_done hc1 hI1.1 (by omega)
             refine c_exit (e_then_x (e_in_miss rfl (e_loop1_x (e_in_hit (e_cut hK4 (sc rfl (sc (ji (by omega)) sn)) (fun _ h => have h := Mem.fact ((by rw [hw9]; exact ⟨hI1.2.1, hI1.2.2⟩)) h; h))))))
           refine l_val (wg rfl rfl rfl) (r_move rfl) rfl ?_
           refine l_val (wg rfl rfl rfl) (r_gtr rfl rfl) rfl ?_
           refine l_val (wg rfl rfl rfl) (r_pick rfl rfl) rfl ?_
           refine l_val (wg rfl rfl rfl) (r_pick rfl rfl) rfl ?_
           refine l_val (wg rfl rfl rfl) (r_pick rfl rfl) rfl ?_
           refine l_val wn (r_pick rfl rfl) rfl ?_
           refine l_nil (e_go hK10 ?_)
           refine c_cond rfl (fun h7 => ?_) (fun h7 => ?_)
           · have hw9 : Pz.wend s j1 = k := Pz.wend_done hc1 hI1.1 (by omega)
             refine c_exit (e_then_x (e_in_miss rfl (e_loop1_x (e_in_hit (e_cut hK4 (sc rfl (sc (ji (by omega)) sn)) (fun _ h => have h := Mem.fact ((by rw [hw9]; exact ⟨hI1.2.1, hI1.2.2⟩)) h; h))))))
           refine c_skip (e_go hK9 ?_)
           refine c_region ?_
           refine l_val wn (r_move rfl) rfl ?_
           refine l_val wn (r_addn rfl rfl (by omega)) rfl ?_
           refine l_val wn (r_assign rfl) rfl ?_
           refine l_nil (e_in_n (e_round1 (k + 1) (sc rfl (sc (ji (by omega)) sn)) (fun _ h => h) ?_ ?_))
           · exact ⟨.inr ⟨by omega, Pz.wend_next hc1 hI1.1 (by omega)⟩, by omega, by omega⟩
           omega
         refine l_skip (wg rfl rfl rfl) rfl ?_
         refine l_skip (wg rfl rfl rfl) rfl ?_
         refine l_skip (wg rfl rfl rfl) rfl ?_
         refine l_skip (wu rfl rfl) rfl ?_
         refine l_skip (wu rfl rfl) rfl ?_
         refine l_skip (wg rfl rfl rfl) rfl ?_
         refine l_val (wg rfl rfl rfl) (r_pick rfl rfl) rfl ?_
         refine l_val (wg rfl rfl rfl) (r_pick rfl rfl) rfl ?_
         refine l_val wn (r_pick rfl rfl) rfl ?_
         refine l_nil (e_go hK10 ?_)
         refine c_false rfl rfl ?_
         refine c_skip (e_go hK9 ?_)
         refine c_region ?_
         refine l_val wn (r_move rfl) rfl ?_
         refine l_val wn (r_addn rfl rfl (by omega)) rfl ?_
         refine l_val wn (r_assign rfl) rfl ?_
         refine l_nil (e_in_n (e_round1 (k + 1) (sc rfl (sc (ji (by omega)) sn)) (fun _ h => h) ?_ ?_))
         · exact ⟨.inr ⟨by omega, Pz.wend_next hc1 hI1.1 (by omega)⟩, by omega, by omega⟩
         omega
       refine l_skip (wg rfl rfl rfl) rfl ?_
       refine l_skip (wg rfl rfl rfl) rfl ?_
       refine l_skip (wg rfl rfl rfl) rfl ?_
       refine l_skip (wg rfl rfl rfl) rfl ?_
       refine l_skip (wg rfl rfl rfl) rfl ?_
       refine l_skip (wg rfl rfl rfl) rfl ?_
       refine l_skip (wg rfl rfl rfl) rfl ?_
       refine l_skip (wu rfl rfl) rfl ?_
       refine l_skip (wu rfl rfl) rfl ?_
       refine l_skip (wu rfl rfl) rfl ?_
       refine l_skip (wu rfl rfl) rfl ?_
       refine l_skip (wu rfl rfl) rfl ?_
       refine l_skip (wu rfl rfl) rfl ?_
       refine l_skip (wu rfl rfl) rfl ?_
       refine l_skip (wu rfl rfl) rfl ?_
       refine l_skip (wu rfl rfl) rfl ?_
       refine l_skip (wu rfl rfl) rfl ?_
       refine l_skip (wg rfl rfl rfl) rfl ?_
       refine l_val wn (r_pick rfl rfl) rfl ?_
       refine l_nil (e_go hK10 ?_)
       refine c_false rfl rfl ?_
       refine c_skip (e_go hK9 ?_)
       refine c_region ?_
       refine l_val wn (r_move rfl) rfl ?_
       refine l_val wn (r_addn rfl rfl (by omega)) rfl ?_
       refine l_val wn (r_assign rfl) rfl ?_
       refine l_nil (e_in_n (e_round1 (k + 1) (sc rfl (sc (ji (by omega)) sn)) (fun _ h => h) ?_ ?_))
       · exact ⟨.inr ⟨by omega, Pz.wend_next hc1 hI1.1 (by omega)⟩, by omega, by omega⟩
       omega
     refine l_skip (wg rfl rfl rfl) rfl ?_
     refine l_skip (wg rfl rfl rfl) rfl ?_
     refine l_val wn (r_pick rfl rfl) rfl ?_
     refine l_val wn (r_assign rfl) rfl ?_
     refine l_nil (e_go hK8 ?_)
     refine c_seq fun _ hK11 => ?_
     refine c_seq fun _ hK12 => ?_
     refine c_region ?_
     refine l_val wn (r_move rfl) rfl ?_
     refine l_val wn (r_notb rfl) rfl ?_
     refine l_val wn (r_move rfl) rfl ?_
     refine l_val (wg rfl rfl rfl) (r_move rfl) rfl ?_
     refine l_val (wg rfl rfl rfl) (r_move rfl) rfl ?_
     refine l_val (wg rfl rfl rfl) (r_nilCheck rfl) rfl ?_
     refine l_val (wg rfl rfl rfl) (r_fa rfl fld69_1) rfl ?_
     refine l_val (wg rfl rfl rfl) (r_lb 0 rfl rfl rfl flat3) rfl ?_
     refine l_val (wg rfl rfl rfl) (r_eql rfl rfl) rfl ?_
     refine l_val (wg rfl rfl rfl) (r_move rfl) rfl ?_
     refine l_case (t := 41) rfl (fun h8 => ?_) (fun h8 => ?_)
     · refine l_skip (wg rfl rfl rfl) rfl ?_
       refine l_skip (wg rfl rfl rfl) rfl ?_
       refine l_skip (wg rfl rfl rfl) rfl ?_
       refine l_skip (wu rfl rfl) rfl ?_
       refine l_skip (wu rfl rfl) rfl ?_
       refine l_skip (wu rfl rfl) rfl ?_
       refine l_skip (wu rfl rfl) rfl ?_
       refine l_skip (wu rfl rfl) rfl ?_
       refine l_skip (wu rfl rfl) rfl ?_
       refine l_skip (wg rfl rfl rfl) rfl ?_
       refine l_val (wg rfl rfl rfl) (r_pick rfl rfl) rfl ?_
       refine l_val wn (r_pick rfl rfl) rfl ?_
       refine l_nil (e_go hK12 ?_)
       refine c_true rfl rfl ?_
       have hw9 : Pz.wend s j1 = k := Pz.wend_done hc1 hI1.1 (by omega)
       refine c_exit (e_then_x (e_in_miss rfl (e_loop1_x (e_in_hit (e_cut hK4 (sc rfl (sc (ji (by omega)) sn)) (fun _ h => have h := Mem.fact ((by rw [hw9]; exact ⟨hI1.2.1, hI1.2.2⟩)) h; h))))))
     refine l_val (wg rfl rfl rfl) (r_move rfl) rfl ?_
     refine l_val (wg rfl rfl rfl) (r_neq rfl rfl) rfl ?_
     refine l_val (wg rfl rfl rfl) (r_move rfl) rfl ?_
     refine l_case (t := 44) rfl (fun h9 => ?_) (fun h9 => ?_)
     · refine l_val (wg rfl rfl rfl) (r_move rfl) rfl ?_
       refine l_val (wg rfl rfl rfl) (r_lss rfl rfl) rfl ?_
       refine l_val (wg rfl rfl rfl) (r_move rfl) rfl ?_
       refine l_case (t := 47) rfl (fun h10 => ?_) (fun h10 => ?_)
       · refine l_skip (wg rfl rfl rfl) rfl ?_
         refine l_skip (wg rfl rfl rfl) rfl ?_
         refine l_val (wg rfl rfl rfl) (r_pick rfl rfl) rfl ?_
         refine l_val (wg rfl rfl rfl) (r_pick rfl rfl) rfl ?_
         refine l_val (wg rfl rfl rfl) (r_pick rfl rfl) rfl ?_
         refine l_val wn (r_pick rfl rfl) rfl ?_
         refine l_nil (e_go hK12 ?_)
         refine c_true rfl rfl ?_
         have hw9 : Pz.wend s j1 = k := Pz.wend_done hc1 hI1.1 (by omega)
         refine c_exit (e_then_x (e_in_miss rfl (e_loop1_x (e_in_hit (e_cut hK4 (sc rfl (sc (ji (by omega)) sn)) (fun _ h => have h := Mem.fact ((by rw [hw9]; exact ⟨hI1.2.1, hI1.2.2⟩)) h; h))))))
       refine l_val (wg rfl rfl rfl) (r_move rfl) rfl ?_
       refine l_val (wg rfl rfl rfl) (r_gtr rfl rfl) rfl ?_
       refine l_val (wg rfl rfl rfl) (r_pick rfl rfl) rfl ?_
       refine l_val (wg rfl rfl rfl) (r_pick rfl rfl) rfl ?_
       refine l_val (wg rfl rfl rfl) (r_pick rfl rfl) rfl ?_
       refine l_val wn (r_pick rfl rfl) rfl ?_
       refine l_nil (e_go hK12 ?_)
       refine c_cond rfl (fun h11 => ?_) (fun h11 => ?_)
       · have hw9 : Pz.wend s j1 = k := Pz.wend_done hc1 hI1.1 (by omega)
         refine c_exit (e_then_x (e_in_miss rfl (e_loop1_x (e_in_hit (e_cut hK4 (sc rfl (sc (ji (by omega)) sn)) (fun _ h => have h := Mem.fact ((by rw [hw9]; exact ⟨hI1.2.1, hI1.2.2⟩)) h; h))))))
       refine c_skip (e_go hK11 ?_)
       refine c_region ?_
       refine l_val wn (r_move rfl) rfl ?_
       refine l_val wn (r_addn rfl rfl (by omega)) rfl ?_
       refine l_val wn (r_assign rfl) rfl ?_
       refine l_nil (e_in_n (e_round1 (k + 1) (sc rfl (sc (ji (by omega)) sn)) (fun _ h => h) ?_ ?_))
       · exact ⟨.inr ⟨by omega, Pz.wend_next hc1 hI1.1 (by omega)⟩, by omega, by omega⟩
       omega
     refine l_skip (wg rfl rfl rfl) rfl ?_
     refine l_skip (wg rfl rfl rfl) rfl ?_
     refine l_skip (wg rfl rfl rfl) rfl ?_
     refine l_skip (wu rfl rfl) rfl ?_
     refine l_skip (wu rfl rfl) rfl ?_
     refine l_skip (wg rfl rfl rfl) rfl ?_
     refine l_val (wg rfl rfl rfl) (r_pick rfl rfl) rfl ?_
     refine l_val (wg rfl rfl rfl) (r_pick rfl rfl) rfl ?_
     refine l_val wn (r_pick rfl rfl) rfl ?_
     refine l_nil (e_go hK12 ?_)
     refine c_false rfl rfl ?_
     refine c_skip (e_go hK11 ?_)
     refine c_region ?_
     refine l_val wn (r_move rfl) rfl ?_
     refine l_val wn (r_addn rfl rfl (by omega)) rfl ?_
     refine l_val wn (r_assign rfl) rfl ?_
     refine l_nil (e_in_n (e_round1 (k + 1) (sc rfl (sc (ji (by omega)) sn)) (fun _ h => h) ?_ ?_))
     · exact ⟨.inr ⟨by omega, Pz.wend_next hc1 hI1.1 (by omega)⟩, by omega, by omega⟩
     omega
   have hw9 : Pz.wend s j1 = k := Pz.wend_end (by omega) hI1.1
   refine c_exit (e_then_x (e_loop1_x (e_in_hit (e_cut hK4 (sc rfl (sc (ji (by omega)) sn)) (fun _ h => have h := Mem.fact ((by rw [hw9]; exact ⟨hI1.2.1, hI1.2.2⟩)) h; h)))))
 refine c_fact fun hF => ?_
 refine c_seq fun _ hK13 => ?_
 refine c_quiet mix (by kernel_rfl) (fun _ h => h.drew) ?_
 refine q_val wn (r_move rfl) rfl ?_
 refine q_val wn (r_nilCheck rfl) rfl ?_
 refine q_val wn (r_fa rfl fld69_0) rfl ?_
 refine q_val wn (r_lb 0 rfl rfl rfl flat9) rfl ?_
 refine q_val wn (r_move rfl) rfl ?_
 refine q_val wn (r_nilCheck rfl) rfl ?_
 refine q_val wn (r_fa rfl fld69_1) rfl ?_
 refine q_val wn (r_lb 0 rfl rfl rfl flat3) rfl ?_
 refine q_val wn (r_move rfl) rfl ?_
 refine q_val wn (r_sslice_lh (l := j1) (h := (Pz.wend s j1)) rfl rfl (by omega) rfl (by omega) (by first | omega | (simp <;> omega)) (by first | omega | (simp <;> omega)) Tryd.underlying9) rfl ?_
 refine q_val wn (r_assign rfl) rfl ?_
 refine q_end (e_go hK13 ?_)
 refine c_seq fun _ hK14 => ?_
 refine c_seq fun _ hK15 => ?_
 refine c_region ?_
 refine l_val wn (r_move rfl) rfl ?_
 refine l_val wn (r_slen rfl Tryd.underlying9) rfl ?_
 refine l_val wn (r_gtr rfl rfl) rfl ?_
 refine l_nil (e_go hK15 ?_)
 refine c_cond rfl (fun h12 => ?_) (fun h12 => ?_)
 · refine c_region ?_
   refine l_val wn (r_move rfl) rfl ?_
   refine l_val wn (r_move rfl) rfl ?_
   refine l_val wn (r_nilCheck rfl) rfl ?_
   refine l_val wn (r_fa rfl fld69_1) rfl ?_
   refine l_val wn (r_lb 0 rfl rfl rfl flat3) rfl ?_
   refine l_give (α := (Int × Int)) [Wb 69 p s j1 n be ba] [] (fun z : Int × Int => .tuple #[]) (fun z1 => (Pz.StopR be ba 7 (j1 : Int) z1)) (fun z1 => [Wb 69 p s j1 n z1.1 z1.2]) _ (fun _ => rfl) (fun _ h => h.sel [0] (by decide) rfl) (fun _ => rfl) wn rfl rfl Tryd.call36 rfl (fun w1 Pb hG => w_stop p s j1 n be ba 7 (j1 : Int) Pb w1 hG ) fun z1 hz2 => ?_
   obtain ⟨be1, ba1⟩ := z1
   have hs1 : Pz.StopR be ba 7 (j1 : Int) (be1, ba1) := hz2
   try simp only at hs1
   refine l_as 74 (.tuple (List.toArray [])) [Wb 69 p s j1 n be1 ba1] ?_
   refine l_nil (e_go hK14 ?_)
   refine c_seq fun _ hK16 => ?_
   refine c_seq fun _ hK17 => ?_
   refine c_region ?_
   refine l_val wn (r_move rfl) rfl ?_
   refine l_give (α := Unit) [Wb 69 p s j1 n be1 ba1] [] (fun _ : Unit => .bool (decide (be1 = 0))) (fun z2 => True) (fun z2 => [Wb 69 p s j1 n be1 ba1]) (fun z2 => [Wb 69 p s j1 n be1 ba1]) (fun _ => rfl) (fun _ h => h.sel [0] (by decide) rfl) (fun _ => rfl) wn rfl rfl Tryd.call34 rfl (fun w1 Pb hG => w_ok p s j1 n be1 ba1 Pb w1 hG) fun z2 hz3 => ?_
   refine l_nil (e_go hK17 ?_)
   refine c_false rfl (decide_eq_false (hs1.ne (by decide))) ?_
   refine c_skip (e_go hK16 ?_)
   refine c_seq fun _ hK18 => ?_
   refine c_region ?_
   refine l_val wn (r_move rfl) rfl ?_
   refine l_val wn (r_assign rfl) rfl ?_
   refine l_nil (e_go hK18 ?_)
   refine c_ret (e_ret1 (.inl rfl) Tryd.results66 (rv_tmp rfl) fun w1 hM => ?_)
   exact hM.retA ((s.extract j1 (Pz.wend s j1)), j1, be1, ba1) rfl ⟨by
       show Pz.Sim s be ba (Pz.word s ⟨i, n⟩) (s.extract j1 (Pz.wend s j1)) ⟨j1, n, be1, ba1⟩
       by_cases h0 : be = 0
       · exact Pz.word_simN hz1e rfl h12 (by omega) (by omega) h0 hs1
       · have h7 := hs1.2 h0; exact Pz.Sim.bad (by show _ ≤ _; omega) h0 (congrArg (·.1) h7) (congrArg (·.2) h7), by show ByteArray.size _ ≤ 2000; rw [Pz.ext_size _ (by omega)]; omega⟩ (fun h => h.sel [0] (by decide) rfl)
 refine c_skip (e_go hK14 ?_)
 refine c_seq fun _ hK19 => ?_
 refine c_seq fun _ hK20 => ?_
 refine c_region ?_
 refine l_val wn (r_move rfl) rfl ?_
 refine l_give (α := Unit) [Wb 69 p s j1 n be ba] [] (fun _ : Unit => .bool (decide (be = 0))) (fun z3 => True) (fun z3 => [Wb 69 p s j1 n be ba]) (fun z3 => [Wb 69 p s j1 n be ba]) (fun _ => rfl) (fun _ h => h.sel [0] (by decide) rfl) (fun _ => rfl) wn rfl rfl Tryd.call34 rfl (fun w1 Pb hG => w_ok p s j1 n be ba Pb w1 hG) fun z3 hz4 => ?_
 refine l_nil (e_go hK20 ?_)
 refine c_cond rfl (fun h13 => ?_) (fun h13 => ?_)
 · refine c_region ?_
   refine l_val wn (r_move rfl) rfl ?_
   refine l_val wn (r_move rfl) rfl ?_
   refine l_val wn (r_nilCheck rfl) rfl ?_
   refine l_val wn (r_fa rfl fld69_1) rfl ?_
   refine l_st1 0 wn rfl rfl rfl rfl inf3 rfl rfl ?_
   refine l_nil (e_go hK19 ?_)
   refine c_seq fun _ hK21 => ?_
   refine c_region ?_
   refine l_val wn (r_move rfl) rfl ?_
   refine l_val wn (r_assign rfl) rfl ?_
   refine l_nil (e_go hK21 ?_)
   refine c_ret (e_ret1 (.inl rfl) Tryd.results66 (rv_tmp rfl) fun w1 hM => ?_)
   exact hM.retA ((s.extract j1 (Pz.wend s j1)), (Pz.wend s j1), be, ba) rfl ⟨(show Pz.Sim s be ba (Pz.word s ⟨i, n⟩) (s.extract j1 (Pz.wend s j1)) ⟨(Pz.wend s j1), n, be, ba⟩ from Pz.word_sim hz1e rfl h12 (by omega) h13), by show ByteArray.size _ ≤ 2000; rw [Pz.ext_size _ (by omega)]; omega⟩ (fun h => h.sel [0] (by decide) rfl)
 refine c_skip (e_go hK19 ?_)
 refine c_seq fun _ hK22 => ?_
 refine c_region ?_
 refine l_val wn (r_move rfl) rfl ?_
 refine l_val wn (r_assign rfl) rfl ?_
 refine l_nil (e_go hK22 ?_)
 refine c_ret (e_ret1 (.inl rfl) Tryd.results66 (rv_tmp rfl) fun w1 hM => ?_)
 exact hM.retA ((s.extract j1 (Pz.wend s j1)), j1, be, ba) rfl ⟨(show Pz.Sim s be ba (Pz.word s ⟨i, n⟩) (s.extract j1 (Pz.wend s j1)) ⟨j1, n, be, ba⟩ from Pz.Sim.bad (by show _ ≤ _; omega) h13 rfl rfl), by show ByteArray.size _ ≤ 2000; rw [Pz.ext_size _ (by omega)]; omega⟩ (fun h => h.sel [0] (by decide) rfl)

theorem w_name (p : Nat) (s : ByteArray) (i : Nat) (n be ba : Int) (Pb : Nat → Prop) (w : World) (hG : Mem w ⟨fpOf [Wb 69 p s i n be ba], Pb⟩ [Wb 69 p s i n be ba] w) (hi : i ≤ s.size) (hs : s.size ≤ 2000) :
    Calls Tryd.prog 69 #[.pointer (some ⟨p, 0, none⟩)] w (RetA w [Wb 69 p s i n be ba] Pb (fun z : ByteArray × Nat × Int × Int => .string z.1) (fun z => Pz.Sim s be ba (Pz.name s ⟨i, n⟩) z.1 ⟨z.2.1, n, z.2.2.1, z.2.2.2⟩ ∧ z.1.size ≤ 2000) (fun z => [Wb 69 p s z.2.1 n z.2.2.1 z.2.2.2])) := by
 refine fstart (N := 15) (vals := [.pointer (some ⟨p, 0, none⟩)]) (S := Mem w ⟨fpOf [Wb 69 p s i n be ba], Pb⟩ [Wb 69 p s i n be ba]) Tryd.func69 rfl rfl rfl hG ?_
 refine c_seq fun _ hK1 => ?_
 refine c_region ?_
 refine l_val wn (r_assign rfl) rfl ?_
 refine l_nil (e_go hK1 ?_)
 refine c_seq fun _ hK2 => ?_
 refine c_region ?_
 refine l_val wn (r_move rfl) rfl ?_
 refine l_give (α := (ByteArray × Nat × Int × Int)) [Wb 69 p s i n be ba] [] (fun z : ByteArray × Nat × Int × Int => .string z.1) (fun z1 => ((Pz.Sim s be ba (Pz.word s ⟨i, n⟩) z1.1 ⟨z1.2.1, n, z1.2.2.1, z1.2.2.2⟩) ∧ z1.1.size ≤ 2000)) (fun z1 => [Wb 69 p s z1.2.1 n z1.2.2.1 z1.2.2.2]) _ (fun _ => rfl) (fun _ h => h.sel [0] (by decide) rfl) (fun _ => rfl) wn rfl rfl Tryd.call66 rfl (fun w1 Pb hG => w_word p s i n be ba  Pb w1 hG (by omega) (by omega)) fun z1 hz1 => ?_
 obtain ⟨wd1, j1, be1, ba1⟩ := z1
 have hs1 : (Pz.Sim s be ba (Pz.word s ⟨i, n⟩) (wd1, j1, be1, ba1).1 ⟨(wd1, j1, be1, ba1).2.1, n, (wd1, j1, be1, ba1).2.2.1, (wd1, j1, be1, ba1).2.2.2⟩) ∧ (wd1, j1, be1, ba1).1.size ≤ 2000 := hz1
 try simp only at hs1
 have hs1l : j1 ≤ s.size := hs1.1.1
 have hs1z : wd1.size ≤ 2000 := hs1.2
 refine l_as 5 (.string wd1) [Wb 69 p s j1 n be1 ba1] ?_
 refine l_val wn (r_assign rfl) rfl ?_
 refine l_nil (e_go hK2 ?_)
 refine c_seq fun _ hK3 => ?_
 refine c_seq fun _ hK4 => ?_
 refine c_region ?_
 refine l_val wn (r_move rfl) rfl ?_
 refine l_val wn (r_seql rfl rfl) rfl ?_
 refine l_nil (e_go hK4 ?_)
 refine c_cond rfl (fun h1 => ?_) (fun h1 => ?_)
 · refine c_region ?_
   refine l_val wn (r_move rfl) rfl ?_
   refine l_val wn (r_move rfl) rfl ?_
   refine l_val wn (r_nilCheck rfl) rfl ?_
   refine l_val wn (r_fa rfl fld69_1) rfl ?_
   refine l_val wn (r_lb 0 rfl rfl rfl flat3) rfl ?_
   refine l_give (α := (Int × Int)) [Wb 69 p s j1 n be1 ba1] [] (fun z : Int × Int => .tuple #[]) (fun z2 => (Pz.StopR be1 ba1 2 (j1 : Int) z2)) (fun z2 => [Wb 69 p s j1 n z2.1 z2.2]) _ (fun _ => rfl) (fun _ h => h.sel [0] (by decide) rfl) (fun _ => rfl) wn rfl rfl Tryd.call36 rfl (fun w1 Pb hG => w_stop p s j1 n be1 ba1 2 (j1 : Int) Pb w1 hG ) fun z2 hz2 => ?_
   obtain ⟨be2, ba2⟩ := z2
   have hs2 : Pz.StopR be1 ba1 2 (j1 : Int) (be2, ba2) := hz2
   try simp only at hs2
   refine l_as 13 (.tuple (List.toArray [])) [Wb 69 p s j1 n be2 ba2] ?_
   refine l_nil (e_go hK3 ?_)
   refine c_seq fun _ hK5 => ?_
   refine c_region ?_
   refine l_val wn (r_move rfl) rfl ?_
   refine l_val wn (r_assign rfl) rfl ?_
   refine l_nil (e_go hK5 ?_)
   refine c_ret (e_ret1 (.inl rfl) Tryd.results69 (rv_tmp rfl) fun w1 hM => ?_)
   exact hM.retA (wd1, j1, be2, ba2) rfl ⟨Pz.name_simN hs1.1 h1 hs2 rfl, by show _ ≤ _; omega⟩ (fun h => h.sel [0] (by decide) rfl)
 refine c_skip (e_go hK3 ?_)
 refine c_seq fun _ hK6 => ?_
 refine c_region ?_
 refine l_val wn (r_move rfl) rfl ?_
 refine l_val wn (r_assign rfl) rfl ?_
 refine l_nil (e_go hK6 ?_)
 refine c_ret (e_ret1 (.inl rfl) Tryd.results69 (rv_tmp rfl) fun w1 hM => ?_)
 exact hM.retA (wd1, j1, be1, ba1) rfl ⟨Pz.name_sim hs1.1 h1, by show _ ≤ _; omega⟩ (fun h => h.sel [0] (by decide) rfl)

theorem w_num (p : Nat) (s : ByteArray) (i : Nat) (n be ba : Int) (least most : Int) (Pb : Nat → Prop) (w : World) (hG : Mem w ⟨fpOf [Wb 69 p s i n be ba], Pb⟩ [Wb 69 p s i n be ba] w) (hi : i ≤ s.size) (hs : s.size ≤ 2000) (hm : most ≤ 1000000) (hl : least ≤ 1000000) :
    Calls Tryd.prog 67 #[.pointer (some ⟨p, 0, none⟩), iV least, iV most] w (RetA w [Wb 69 p s i n be ba] Pb (fun z : Int × Nat × Int × Int => iV z.1) (fun z => Pz.Sim s be ba (Pz.num s least most ⟨i, n⟩) z.1 ⟨z.2.1, n, z.2.2.1, z.2.2.2⟩) (fun z => [Wb 69 p s z.2.1 n z.2.2.1 z.2.2.2])) := by
 refine fstart (N := 109) (vals := [.pointer (some ⟨p, 0, none⟩), iV least, iV most]) (S := Mem w ⟨fpOf [Wb 69 p s i n be ba], Pb⟩ [Wb 69 p s i n be ba]) Tryd.func67 rfl rfl rfl hG ?_
 refine c_seq fun _ hK1 => ?_
 refine c_region ?_
 refine l_val wn (r_assign rfl) rfl ?_
 refine l_nil (e_go hK1 ?_)
 refine c_seq fun _ hK2 => ?_
 refine c_region ?_
 refine l_val wn (r_move rfl) rfl ?_
 refine l_give (α := Nat) [Wb 69 p s i n be ba] [] (fun _ : Nat => .tuple #[]) (fun j1 => (Pz.blank s i = j1 ∧ i ≤ j1 ∧ j1 ≤ s.size)) (fun j1 => [Wb 69 p s j1 n be ba]) (fun j1 => [Wb 69 p s j1 n be ba]) (fun _ => rfl) (fun _ h => h.sel [0] (by decide) rfl) (fun _ => rfl) wn rfl rfl Tryd.call35 rfl (fun w1 Pb hG => w_skip p s i n be ba Pb w1 hG (by omega) (by omega)) fun j1 hz1 => ?_
 obtain ⟨hz1e, hz1a, hz1b⟩ := hz1
 refine l_nil (e_go hK2 ?_)
 refine c_seq fun _ hK3 => ?_
 refine c_quiet mix (by kernel_rfl) (fun _ h => h.drew) ?_
 refine q_val wn (r_move rfl) rfl ?_
 refine q_val wn (r_nilCheck rfl) rfl ?_
 refine q_val wn (r_fa rfl fld69_1) rfl ?_
 refine q_val wn (r_lb 0 rfl rfl rfl flat3) rfl ?_
 refine q_val wn (r_assign rfl) rfl ?_
 refine q_val wn (r_assign rfl) rfl ?_
 refine q_end (e_go hK3 ?_)
 refine c_cut [(0, .pointer (some ⟨p, 0, none⟩)), (1, iV least), (2, iV most), (7, iV (Pz.capv (s.extract j1 (Pz.run Pz.dig s j1)).data.toList)), (8, iV ((Pz.run Pz.dig s j1) : Int))] (Mem w ⟨fpOf [Wb 69 p s i n be ba], Pb⟩ [.pub (fun _ _ => j1 ≤ Pz.run Pz.dig s j1 ∧ Pz.run Pz.dig s j1 ≤ s.size ∧ Pz.NumR (Pz.dval (s.extract j1 (Pz.run Pz.dig s j1)).data.toList) (Pz.capv (s.extract j1 (Pz.run Pz.dig s j1)).data.toList)), Wb 69 p s j1 n be ba]) (fun _ hK4 => ?_) ?_
 · refine c_block ?_
   refine c_loop2 (fun (k : Nat) (x : Int) => [(0, .pointer (some ⟨p, 0, none⟩)), (1, iV least), (2, iV most), (7, iV x), (8, iV k)]) (fun (k : Nat) (x : Int) => [Wb 69 p s j1 n be ba]) (fun (k : Nat) (x : Int) => Pz.run Pz.dig s j1 = Pz.run Pz.dig s k ∧ j1 ≤ k ∧ k ≤ s.size ∧ Pz.NumR (Pz.dval (s.extract j1 k).data.toList) x ∧ x = Pz.capv (s.extract j1 k).data.toList) (fun (k : Nat) (x : Int) => s.size - k) j1 0 (sc rfl (sc rfl (sc rfl (sc rfl (sc rfl sn))))) (fun _ h => h) ?_ (fun k x hI1 => ?_)
   · exact ⟨rfl, Nat.le_refl _, by omega, by rw [Pz.dval_nil]; exact ⟨by omega, .inl rfl⟩, by rw [Pz.capv_nil]⟩
   have hx9 := hI1.2.2.2.1.1
   have hxc := hI1.2.2.2.2
   refine c_seq fun _ hK5 => ?_
   refine c_seq fun _ hK6 => ?_
   refine c_region ?_
   refine l_val wn (r_move rfl) rfl ?_
   refine l_val wn (r_move rfl) rfl ?_
   refine l_val wn (r_nilCheck rfl) rfl ?_
   refine l_val wn (r_fa rfl fld69_0) rfl ?_
   refine l_val wn (r_lb 0 rfl rfl rfl flat9) rfl ?_
   refine l_val wn (r_slen rfl Tryd.underlying9) rfl ?_
   refine l_val wn (r_lss rfl rfl) rfl ?_
   refine l_val wn (r_move rfl) rfl ?_
   refine l_case (t := 22) rfl (fun h1 => ?_) (fun h1 => ?_)
   · refine l_val (wg rfl rfl rfl) (r_move rfl) rfl ?_
     refine l_val (wg rfl rfl rfl) (r_nilCheck rfl) rfl ?_
     refine l_val (wg rfl rfl rfl) (r_fa rfl fld69_0) rfl ?_
     refine l_val (wg rfl rfl rfl) (r_lb 0 rfl rfl rfl flat9) rfl ?_
     refine l_val (wg rfl rfl rfl) (r_move rfl) rfl ?_
     obtain ⟨c1, hc1⟩ : ∃ x, s[k]? = some x := ⟨_, byte_at (by omega)⟩
     refine l_val (wg rfl rfl rfl) (r_sidx rfl rfl (by omega) hc1 Tryd.underlying9) rfl ?_
     refine l_val (wg rfl rfl rfl) (r_geq rfl rfl) rfl ?_
     refine l_val wn (r_pick rfl rfl) rfl ?_
     refine l_val wn (r_move rfl) rfl ?_
     refine l_case (t := 31) rfl (fun h2 => ?_) (fun h2 => ?_)
     · refine l_val (wg rfl rfl rfl) (r_move rfl) rfl ?_
       refine l_val (wg rfl rfl rfl) (r_nilCheck rfl) rfl ?_
       refine l_val (wg rfl rfl rfl) (r_fa rfl fld69_0) rfl ?_
       refine l_val (wg rfl rfl rfl) (r_lb 0 rfl rfl rfl flat9) rfl ?_
       refine l_val (wg rfl rfl rfl) (r_move rfl) rfl ?_
       refine l_val (wg rfl rfl rfl) (r_sidx rfl rfl (by omega) hc1 Tryd.underlying9) rfl ?_
       refine l_val (wg rfl rfl rfl) (r_leq rfl rfl) rfl ?_
       refine l_val wn (r_pick rfl rfl) rfl ?_
       refine l_nil (e_go hK6 ?_)
       refine c_cond rfl (fun h3 => ?_) (fun h3 => ?_)
       · refine c_skip (e_go hK5 ?_)
         refine c_block ?_
         refine c_seq fun _ hK7 => ?_
         refine c_seq fun _ hK8 => ?_
         refine c_region ?_
         refine l_val wn (r_move rfl) rfl ?_
         refine l_val wn (r_leq rfl rfl) rfl ?_
         refine l_nil (e_go hK8 ?_)
         refine c_cond rfl (fun h4 => ?_) (fun h4 => ?_)
         · refine c_region ?_
           refine l_val wn (r_move rfl) rfl ?_
           refine l_val wn (r_muln rfl rfl (by omega)) rfl ?_
           refine l_val wn (r_move rfl) rfl ?_
           refine l_val wn (r_nilCheck rfl) rfl ?_
           refine l_val wn (r_fa rfl fld69_0) rfl ?_
           refine l_val wn (r_lb 0 rfl rfl rfl flat9) rfl ?_
           refine l_val wn (r_move rfl) rfl ?_
           refine l_val wn (r_sidx rfl rfl (by omega) hc1 Tryd.underlying9) rfl ?_
           refine l_val wn (r_sub8 rfl rfl (by omega)) rfl ?_
           refine l_val wn (r_convu8 rfl (by rw [Tryd.underlying5]; rfl) Tryd.underlying3 (by omega)) rfl ?_
           refine l_val wn (r_addn rfl rfl (by omega)) rfl ?_
           refine l_val wn (r_assign rfl) rfl ?_
           refine l_nil (e_go hK7 ?_)
           refine c_region ?_
           refine l_val wn (r_move rfl) rfl ?_
           refine l_val wn (r_addn rfl rfl (by omega)) rfl ?_
           refine l_val wn (r_assign rfl) rfl ?_
           refine l_nil (e_in_n (e_round2 (k + 1) ((10 * x) + ((c1.toNat : Int) - 48)) (sc rfl (sc rfl (sc rfl (sc rfl (sc (ji (by first | omega | (rw [hw9]; exact hxc))) sn))))) (fun _ h => h) ?_ ?_))
           · exact ⟨hI1.1.trans (Pz.dig_step hc1 (by omega)), by omega, by omega, hI1.2.2.2.1.step hc1 (by omega) (by omega) (by omega) h4, by rw [Pz.capv_succ hc1 (by omega), ← hxc, if_pos h4]⟩
           omega
         refine c_skip (e_go hK7 ?_)
         refine c_region ?_
         refine l_val wn (r_move rfl) rfl ?_
         refine l_val wn (r_addn rfl rfl (by omega)) rfl ?_
         refine l_val wn (r_assign rfl) rfl ?_
         refine l_nil (e_in_n (e_round2 (k + 1) x (sc rfl (sc rfl (sc rfl (sc rfl (sc (ji (by first | omega | (rw [hw9]; exact hxc))) sn))))) (fun _ h => h) ?_ ?_))
         · exact ⟨hI1.1.trans (Pz.dig_step hc1 (by omega)), by omega, by omega, hI1.2.2.2.1.stay hc1 (by omega) h4, by rw [Pz.capv_succ hc1 (by omega), ← hxc, if_neg h4]⟩
         omega
       have hw9 : Pz.run Pz.dig s j1 = k := hI1.1.trans (Pz.dig_stop hc1 (by omega))
       refine c_exit (e_then_x (e_loop2_x (e_in_hit (e_cut hK4 (sc rfl (sc rfl (sc rfl (sc (ji (by first | omega | (rw [hw9]; exact hxc))) (sc (ji (by first | omega | (rw [hw9]; exact hxc))) sn))))) (fun _ h => have h := Mem.fact ((by rw [hw9, ← hI1.2.2.2.2]; exact ⟨hI1.2.1, hI1.2.2.1, hI1.2.2.2.1⟩)) h; h)))))
     refine l_skip (wg rfl rfl rfl) rfl ?_
     refine l_skip (wg rfl rfl rfl) rfl ?_
     refine l_skip (wg rfl rfl rfl) rfl ?_
     refine l_skip (wg rfl rfl rfl) rfl ?_
     refine l_skip (wg rfl rfl rfl) rfl ?_
     refine l_skip (wg rfl rfl rfl) rfl ?_
     refine l_skip (wg rfl rfl rfl) rfl ?_
     refine l_val wn (r_pick rfl rfl) rfl ?_
     refine l_nil (e_go hK6 ?_)
     refine c_false rfl rfl ?_
     have hw9 : Pz.run Pz.dig s j1 = k := hI1.1.trans (Pz.dig_stop hc1 (by omega))
     refine c_exit (e_then_x (e_loop2_x (e_in_hit (e_cut hK4 (sc rfl (sc rfl (sc rfl (sc (ji (by first | omega | (rw [hw9]; exact hxc))) (sc (ji (by first | omega | (rw [hw9]; exact hxc))) sn))))) (fun _ h => have h := Mem.fact ((by rw [hw9, ← hI1.2.2.2.2]; exact ⟨hI1.2.1, hI1.2.2.1, hI1.2.2.2.1⟩)) h; h)))))
   refine l_skip (wg rfl rfl rfl) rfl ?_
   refine l_skip (wg rfl rfl rfl) rfl ?_
   refine l_skip (wg rfl rfl rfl) rfl ?_
   refine l_skip (wg rfl rfl rfl) rfl ?_
   refine l_skip (wg rfl rfl rfl) rfl ?_
   refine l_skip (wg rfl rfl rfl) rfl ?_
   refine l_skip (wg rfl rfl rfl) rfl ?_
   refine l_val wn (r_pick rfl rfl) rfl ?_
   refine l_val wn (r_move rfl) rfl ?_
   refine l_skip (wg rfl rfl rfl) rfl ?_
   refine l_skip (wg rfl rfl rfl) rfl ?_
   refine l_skip (wg rfl rfl rfl) rfl ?_
   refine l_skip (wg rfl rfl rfl) rfl ?_
   refine l_skip (wg rfl rfl rfl) rfl ?_
   refine l_skip (wg rfl rfl rfl) rfl ?_
   refine l_skip (wg rfl rfl rfl) rfl ?_
   refine l_val wn (r_pick rfl rfl) rfl ?_
   refine l_nil (e_go hK6 ?_)
   refine c_false rfl rfl ?_
   have hw9 : Pz.run Pz.dig s j1 = k := hI1.1.trans (Pz.run_end (by omega))
   refine c_exit (e_then_x (e_loop2_x (e_in_hit (e_cut hK4 (sc rfl (sc rfl (sc rfl (sc (ji (by first | omega | (rw [hw9]; exact hxc))) (sc (ji (by first | omega | (rw [hw9]; exact hxc))) sn))))) (fun _ h => have h := Mem.fact ((by rw [hw9, ← hI1.2.2.2.2]; exact ⟨hI1.2.1, hI1.2.2.1, hI1.2.2.2.1⟩)) h; h)))))
 refine c_fact fun hF => ?_
 refine c_seq fun _ hK9 => ?_
 refine c_seq fun _ hK10 => ?_
 refine c_region ?_
 refine l_val wn (r_move rfl) rfl ?_
 refine l_val wn (r_move rfl) rfl ?_
 refine l_val wn (r_nilCheck rfl) rfl ?_
 refine l_val wn (r_fa rfl fld69_1) rfl ?_
 refine l_val wn (r_lb 0 rfl rfl rfl flat3) rfl ?_
 refine l_val wn (r_eql rfl rfl) rfl ?_
 refine l_nil (e_go hK10 ?_)
 refine c_cond rfl (fun h5 => ?_) (fun h5 => ?_)
 · refine c_region ?_
   refine l_val wn (r_move rfl) rfl ?_
   refine l_val wn (r_move rfl) rfl ?_
   refine l_val wn (r_nilCheck rfl) rfl ?_
   refine l_val wn (r_fa rfl fld69_1) rfl ?_
   refine l_val wn (r_lb 0 rfl rfl rfl flat3) rfl ?_
   refine l_give (α := (Int × Int)) [Wb 69 p s j1 n be ba] [] (fun z : Int × Int => .tuple #[]) (fun z1 => (Pz.StopR be ba 2 (j1 : Int) z1)) (fun z1 => [Wb 69 p s j1 n z1.1 z1.2]) _ (fun _ => rfl) (fun _ h => h.sel [0] (by decide) rfl) (fun _ => rfl) wn rfl rfl Tryd.call36 rfl (fun w1 Pb hG => w_stop p s j1 n be ba 2 (j1 : Int) Pb w1 hG ) fun z1 hz2 => ?_
   obtain ⟨be1, ba1⟩ := z1
   have hs1 : Pz.StopR be ba 2 (j1 : Int) (be1, ba1) := hz2
   try simp only at hs1
   refine l_as 66 (.tuple (List.toArray [])) [Wb 69 p s j1 n be1 ba1] ?_
   refine l_nil (e_go hK9 ?_)
   refine c_seq fun _ hK11 => ?_
   refine c_seq fun _ hK12 => ?_
   refine c_region ?_
   refine l_val wn (r_move rfl) rfl ?_
   refine l_give (α := Unit) [Wb 69 p s j1 n be1 ba1] [] (fun _ : Unit => .bool (decide (be1 = 0))) (fun z2 => True) (fun z2 => [Wb 69 p s j1 n be1 ba1]) (fun z2 => [Wb 69 p s j1 n be1 ba1]) (fun _ => rfl) (fun _ h => h.sel [0] (by decide) rfl) (fun _ => rfl) wn rfl rfl Tryd.call34 rfl (fun w1 Pb hG => w_ok p s j1 n be1 ba1 Pb w1 hG) fun z2 hz3 => ?_
   refine l_nil (e_go hK12 ?_)
   refine c_false rfl (decide_eq_false (hs1.ne (by decide))) ?_
   refine c_skip (e_go hK11 ?_)
   refine c_seq fun _ hK13 => ?_
   refine c_region ?_
   refine l_val wn (r_move rfl) rfl ?_
   refine l_val wn (r_assign rfl) rfl ?_
   refine l_nil (e_go hK13 ?_)
   refine c_ret (e_ret1 (.inl rfl) Tryd.results67 (rv_tmp rfl) fun w1 hM => ?_)
   exact hM.retA ((Pz.capv (s.extract j1 (Pz.run Pz.dig s j1)).data.toList), j1, be1, ba1) rfl (show Pz.Sim s be ba (Pz.num s least most ⟨i, n⟩) (Pz.capv (s.extract j1 (Pz.run Pz.dig s j1)).data.toList) ⟨j1, n, be1, ba1⟩ from Pz.num_simF hz1e rfl (by omega) h5 hs1) (fun h => h.sel [0] (by decide) rfl)
 refine c_seq fun _ hK14 => ?_
 refine c_quiet mix (by kernel_rfl) (fun _ h => h.drew) ?_
 refine q_val wn (r_move rfl) rfl ?_
 refine q_val wn (r_move rfl) rfl ?_
 refine q_val wn (r_lss rfl rfl) rfl ?_
 refine q_val wn (r_move rfl) rfl ?_
 refine q_case (t := 70) rfl (fun h6 => ?_) (fun h6 => ?_)
 · refine q_skip (wg rfl rfl rfl) rfl ?_
   refine q_skip (wg rfl rfl rfl) rfl ?_
   refine q_skip (wg rfl rfl rfl) rfl ?_
   refine q_val wn (r_pick rfl rfl) rfl ?_
   refine q_val wn (r_move rfl) rfl ?_
   refine q_skip (wg rfl rfl rfl) rfl ?_
   refine q_skip (wg rfl rfl rfl) rfl ?_
   refine q_skip (wg rfl rfl rfl) rfl ?_
   refine q_skip (wg rfl rfl rfl) rfl ?_
   refine q_skip (wg rfl rfl rfl) rfl ?_
   refine q_skip (wg rfl rfl rfl) rfl ?_
   refine q_skip (wg rfl rfl rfl) rfl ?_
   refine q_skip (wg rfl rfl rfl) rfl ?_
   refine q_skip (wg rfl rfl rfl) rfl ?_
   refine q_skip (wg rfl rfl rfl) rfl ?_
   refine q_skip (wg rfl rfl rfl) rfl ?_
   refine q_skip (wu rfl rfl) rfl ?_
   refine q_skip (wu rfl rfl) rfl ?_
   refine q_skip (wu rfl rfl) rfl ?_
   refine q_skip (wu rfl rfl) rfl ?_
   refine q_skip (wu rfl rfl) rfl ?_
   refine q_skip (wu rfl rfl) rfl ?_
   refine q_skip (wu rfl rfl) rfl ?_
   refine q_skip (wg rfl rfl rfl) rfl ?_
   refine q_val wn (r_pick rfl rfl) rfl ?_
   refine q_end (e_go hK14 ?_)
   refine c_true rfl rfl ?_
   refine c_region ?_
   refine l_val wn (r_move rfl) rfl ?_
   refine l_val wn (r_move rfl) rfl ?_
   refine l_val wn (r_nilCheck rfl) rfl ?_
   refine l_val wn (r_fa rfl fld69_1) rfl ?_
   refine l_val wn (r_lb 0 rfl rfl rfl flat3) rfl ?_
   refine l_give (α := (Int × Int)) [Wb 69 p s j1 n be ba] [] (fun z : Int × Int => .tuple #[]) (fun z3 => (Pz.StopR be ba 3 (j1 : Int) z3)) (fun z3 => [Wb 69 p s j1 n z3.1 z3.2]) _ (fun _ => rfl) (fun _ h => h.sel [0] (by decide) rfl) (fun _ => rfl) wn rfl rfl Tryd.call36 rfl (fun w1 Pb hG => w_stop p s j1 n be ba 3 (j1 : Int) Pb w1 hG ) fun z3 hz4 => ?_
   obtain ⟨be2, ba2⟩ := z3
   have hs2 : Pz.StopR be ba 3 (j1 : Int) (be2, ba2) := hz4
   try simp only at hs2
   refine l_as 101 (.tuple (List.toArray [])) [Wb 69 p s j1 n be2 ba2] ?_
   refine l_nil (e_go hK9 ?_)
   refine c_seq fun _ hK15 => ?_
   refine c_seq fun _ hK16 => ?_
   refine c_region ?_
   refine l_val wn (r_move rfl) rfl ?_
   refine l_give (α := Unit) [Wb 69 p s j1 n be2 ba2] [] (fun _ : Unit => .bool (decide (be2 = 0))) (fun z4 => True) (fun z4 => [Wb 69 p s j1 n be2 ba2]) (fun z4 => [Wb 69 p s j1 n be2 ba2]) (fun _ => rfl) (fun _ h => h.sel [0] (by decide) rfl) (fun _ => rfl) wn rfl rfl Tryd.call34 rfl (fun w1 Pb hG => w_ok p s j1 n be2 ba2 Pb w1 hG) fun z4 hz5 => ?_
   refine l_nil (e_go hK16 ?_)
   refine c_false rfl (decide_eq_false (hs2.ne (by decide))) ?_
   refine c_skip (e_go hK15 ?_)
   refine c_seq fun _ hK17 => ?_
   refine c_region ?_
   refine l_val wn (r_move rfl) rfl ?_
   refine l_val wn (r_assign rfl) rfl ?_
   refine l_nil (e_go hK17 ?_)
   refine c_ret (e_ret1 (.inl rfl) Tryd.results67 (rv_tmp rfl) fun w1 hM => ?_)
   exact hM.retA ((Pz.capv (s.extract j1 (Pz.run Pz.dig s j1)).data.toList), j1, be2, ba2) rfl (show Pz.Sim s be ba (Pz.num s least most ⟨i, n⟩) (Pz.capv (s.extract j1 (Pz.run Pz.dig s j1)).data.toList) ⟨j1, n, be2, ba2⟩ from Pz.num_simR hz1e rfl hF.2.2 hm hl (by omega) h5 (.inl h6) hs2) (fun h => h.sel [0] (by decide) rfl)
 refine q_val (wg rfl rfl rfl) (r_move rfl) rfl ?_
 refine q_val (wg rfl rfl rfl) (r_move rfl) rfl ?_
 refine q_val (wg rfl rfl rfl) (r_gtr rfl rfl) rfl ?_
 refine q_val wn (r_pick rfl rfl) rfl ?_
 refine q_val wn (r_move rfl) rfl ?_
 refine q_case (t := 75) rfl (fun h7 => ?_) (fun h7 => ?_)
 · refine q_skip (wg rfl rfl rfl) rfl ?_
   refine q_skip (wg rfl rfl rfl) rfl ?_
   refine q_skip (wg rfl rfl rfl) rfl ?_
   refine q_skip (wg rfl rfl rfl) rfl ?_
   refine q_skip (wg rfl rfl rfl) rfl ?_
   refine q_skip (wg rfl rfl rfl) rfl ?_
   refine q_skip (wg rfl rfl rfl) rfl ?_
   refine q_skip (wg rfl rfl rfl) rfl ?_
   refine q_skip (wg rfl rfl rfl) rfl ?_
   refine q_skip (wg rfl rfl rfl) rfl ?_
   refine q_skip (wg rfl rfl rfl) rfl ?_
   refine q_skip (wu rfl rfl) rfl ?_
   refine q_skip (wu rfl rfl) rfl ?_
   refine q_skip (wu rfl rfl) rfl ?_
   refine q_skip (wu rfl rfl) rfl ?_
   refine q_skip (wu rfl rfl) rfl ?_
   refine q_skip (wu rfl rfl) rfl ?_
   refine q_skip (wu rfl rfl) rfl ?_
   refine q_skip (wg rfl rfl rfl) rfl ?_
   refine q_val wn (r_pick rfl rfl) rfl ?_
   refine q_end (e_go hK14 ?_)
   refine c_true rfl rfl ?_
   refine c_region ?_
   refine l_val wn (r_move rfl) rfl ?_
   refine l_val wn (r_move rfl) rfl ?_
   refine l_val wn (r_nilCheck rfl) rfl ?_
   refine l_val wn (r_fa rfl fld69_1) rfl ?_
   refine l_val wn (r_lb 0 rfl rfl rfl flat3) rfl ?_
   refine l_give (α := (Int × Int)) [Wb 69 p s j1 n be ba] [] (fun z : Int × Int => .tuple #[]) (fun z5 => (Pz.StopR be ba 3 (j1 : Int) z5)) (fun z5 => [Wb 69 p s j1 n z5.1 z5.2]) _ (fun _ => rfl) (fun _ h => h.sel [0] (by decide) rfl) (fun _ => rfl) wn rfl rfl Tryd.call36 rfl (fun w1 Pb hG => w_stop p s j1 n be ba 3 (j1 : Int) Pb w1 hG ) fun z5 hz6 => ?_
   obtain ⟨be3, ba3⟩ := z5
   have hs3 : Pz.StopR be ba 3 (j1 : Int) (be3, ba3) := hz6
   try simp only at hs3
   refine l_as 101 (.tuple (List.toArray [])) [Wb 69 p s j1 n be3 ba3] ?_
   refine l_nil (e_go hK9 ?_)
   refine c_seq fun _ hK18 => ?_
   refine c_seq fun _ hK19 => ?_
   refine c_region ?_
   refine l_val wn (r_move rfl) rfl ?_
   refine l_give (α := Unit) [Wb 69 p s j1 n be3 ba3] [] (fun _ : Unit => .bool (decide (be3 = 0))) (fun z6 => True) (fun z6 => [Wb 69 p s j1 n be3 ba3]) (fun z6 => [Wb 69 p s j1 n be3 ba3]) (fun _ => rfl) (fun _ h => h.sel [0] (by decide) rfl) (fun _ => rfl) wn rfl rfl Tryd.call34 rfl (fun w1 Pb hG => w_ok p s j1 n be3 ba3 Pb w1 hG) fun z6 hz7 => ?_
   refine l_nil (e_go hK19 ?_)
   refine c_false rfl (decide_eq_false (hs3.ne (by decide))) ?_
   refine c_skip (e_go hK18 ?_)
   refine c_seq fun _ hK20 => ?_
   refine c_region ?_
   refine l_val wn (r_move rfl) rfl ?_
   refine l_val wn (r_assign rfl) rfl ?_
   refine l_nil (e_go hK20 ?_)
   refine c_ret (e_ret1 (.inl rfl) Tryd.results67 (rv_tmp rfl) fun w1 hM => ?_)
   exact hM.retA ((Pz.capv (s.extract j1 (Pz.run Pz.dig s j1)).data.toList), j1, be3, ba3) rfl (show Pz.Sim s be ba (Pz.num s least most ⟨i, n⟩) (Pz.capv (s.extract j1 (Pz.run Pz.dig s j1)).data.toList) ⟨j1, n, be3, ba3⟩ from Pz.num_simR hz1e rfl hF.2.2 hm hl (by omega) h5 (.inr (.inl h7)) hs3) (fun h => h.sel [0] (by decide) rfl)
 refine q_val (wg rfl rfl rfl) (r_move rfl) rfl ?_
 refine q_val (wg rfl rfl rfl) (r_nilCheck rfl) rfl ?_
 refine q_val (wg rfl rfl rfl) (r_fa rfl fld69_0) rfl ?_
 refine q_val (wg rfl rfl rfl) (r_lb 0 rfl rfl rfl flat9) rfl ?_
 refine q_val (wg rfl rfl rfl) (r_move rfl) rfl ?_
 refine q_val (wg rfl rfl rfl) (r_nilCheck rfl) rfl ?_
 refine q_val (wg rfl rfl rfl) (r_fa rfl fld69_1) rfl ?_
 refine q_val (wg rfl rfl rfl) (r_lb 0 rfl rfl rfl flat3) rfl ?_
 obtain ⟨c2, hc2⟩ : ∃ x, s[j1]? = some x := ⟨_, byte_at (by omega)⟩
 refine q_val (wg rfl rfl rfl) (r_sidx rfl rfl (by omega) hc2 Tryd.underlying9) rfl ?_
 refine q_val (wg rfl rfl rfl) (r_eql rfl rfl) rfl ?_
 refine q_val (wg rfl rfl rfl) (r_move rfl) rfl ?_
 refine q_case (t := 86) rfl (fun h8 => ?_) (fun h8 => ?_)
 · refine q_val (wg rfl rfl rfl) (r_move rfl) rfl ?_
   refine q_val (wg rfl rfl rfl) (r_move rfl) rfl ?_
   refine q_val (wg rfl rfl rfl) (r_nilCheck rfl) rfl ?_
   refine q_val (wg rfl rfl rfl) (r_fa rfl fld69_1) rfl ?_
   refine q_val (wg rfl rfl rfl) (r_lb 0 rfl rfl rfl flat3) rfl ?_
   refine q_val (wg rfl rfl rfl) (r_addn rfl rfl (by omega)) rfl ?_
   refine q_val (wg rfl rfl rfl) (r_gtr rfl rfl) rfl ?_
   refine q_val (wg rfl rfl rfl) (r_pick rfl rfl) rfl ?_
   refine q_val wn (r_pick rfl rfl) rfl ?_
   refine q_end (e_go hK14 ?_)
   refine c_cond rfl (fun h9 => ?_) (fun h9 => ?_)
   · refine c_region ?_
     refine l_val wn (r_move rfl) rfl ?_
     refine l_val wn (r_move rfl) rfl ?_
     refine l_val wn (r_nilCheck rfl) rfl ?_
     refine l_val wn (r_fa rfl fld69_1) rfl ?_
     refine l_val wn (r_lb 0 rfl rfl rfl flat3) rfl ?_
     refine l_give (α := (Int × Int)) [Wb 69 p s j1 n be ba] [] (fun z : Int × Int => .tuple #[]) (fun z7 => (Pz.StopR be ba 3 (j1 : Int) z7)) (fun z7 => [Wb 69 p s j1 n z7.1 z7.2]) _ (fun _ => rfl) (fun _ h => h.sel [0] (by decide) rfl) (fun _ => rfl) wn rfl rfl Tryd.call36 rfl (fun w1 Pb hG => w_stop p s j1 n be ba 3 (j1 : Int) Pb w1 hG ) fun z7 hz8 => ?_
     obtain ⟨be4, ba4⟩ := z7
     have hs4 : Pz.StopR be ba 3 (j1 : Int) (be4, ba4) := hz8
     try simp only at hs4
     refine l_as 101 (.tuple (List.toArray [])) [Wb 69 p s j1 n be4 ba4] ?_
     refine l_nil (e_go hK9 ?_)
     refine c_seq fun _ hK21 => ?_
     refine c_seq fun _ hK22 => ?_
     refine c_region ?_
     refine l_val wn (r_move rfl) rfl ?_
     refine l_give (α := Unit) [Wb 69 p s j1 n be4 ba4] [] (fun _ : Unit => .bool (decide (be4 = 0))) (fun z8 => True) (fun z8 => [Wb 69 p s j1 n be4 ba4]) (fun z8 => [Wb 69 p s j1 n be4 ba4]) (fun _ => rfl) (fun _ h => h.sel [0] (by decide) rfl) (fun _ => rfl) wn rfl rfl Tryd.call34 rfl (fun w1 Pb hG => w_ok p s j1 n be4 ba4 Pb w1 hG) fun z8 hz9 => ?_
     refine l_nil (e_go hK22 ?_)
     refine c_false rfl (decide_eq_false (hs4.ne (by decide))) ?_
     refine c_skip (e_go hK21 ?_)
     refine c_seq fun _ hK23 => ?_
     refine c_region ?_
     refine l_val wn (r_move rfl) rfl ?_
     refine l_val wn (r_assign rfl) rfl ?_
     refine l_nil (e_go hK23 ?_)
     refine c_ret (e_ret1 (.inl rfl) Tryd.results67 (rv_tmp rfl) fun w1 hM => ?_)
     exact hM.retA ((Pz.capv (s.extract j1 (Pz.run Pz.dig s j1)).data.toList), j1, be4, ba4) rfl (show Pz.Sim s be ba (Pz.num s least most ⟨i, n⟩) (Pz.capv (s.extract j1 (Pz.run Pz.dig s j1)).data.toList) ⟨j1, n, be4, ba4⟩ from Pz.num_simR hz1e rfl hF.2.2 hm hl (by omega) h5 (.inr (.inr ⟨Pz.at48 hc2 h8, by omega⟩)) hs4) (fun h => h.sel [0] (by decide) rfl)
   refine c_skip (e_go hK9 ?_)
   refine c_seq fun _ hK24 => ?_
   refine c_seq fun _ hK25 => ?_
   refine c_region ?_
   refine l_val wn (r_move rfl) rfl ?_
   refine l_give (α := Unit) [Wb 69 p s j1 n be ba] [] (fun _ : Unit => .bool (decide (be = 0))) (fun z9 => True) (fun z9 => [Wb 69 p s j1 n be ba]) (fun z9 => [Wb 69 p s j1 n be ba]) (fun _ => rfl) (fun _ h => h.sel [0] (by decide) rfl) (fun _ => rfl) wn rfl rfl Tryd.call34 rfl (fun w1 Pb hG => w_ok p s j1 n be ba Pb w1 hG) fun z9 hz10 => ?_
   refine l_nil (e_go hK25 ?_)
   refine c_cond rfl (fun h10 => ?_) (fun h10 => ?_)
   · refine c_region ?_
     refine l_val wn (r_move rfl) rfl ?_
     refine l_val wn (r_move rfl) rfl ?_
     refine l_val wn (r_nilCheck rfl) rfl ?_
     refine l_val wn (r_fa rfl fld69_1) rfl ?_
     refine l_st1 0 wn rfl rfl rfl rfl inf3 rfl rfl ?_
     refine l_nil (e_go hK24 ?_)
     refine c_seq fun _ hK26 => ?_
     refine c_region ?_
     refine l_val wn (r_move rfl) rfl ?_
     refine l_val wn (r_assign rfl) rfl ?_
     refine l_nil (e_go hK26 ?_)
     refine c_ret (e_ret1 (.inl rfl) Tryd.results67 (rv_tmp rfl) fun w1 hM => ?_)
     exact hM.retA ((Pz.capv (s.extract j1 (Pz.run Pz.dig s j1)).data.toList), (Pz.run Pz.dig s j1), be, ba) rfl (show Pz.Sim s be ba (Pz.num s least most ⟨i, n⟩) (Pz.capv (s.extract j1 (Pz.run Pz.dig s j1)).data.toList) ⟨(Pz.run Pz.dig s j1), n, be, ba⟩ from (Pz.num_sim hz1e rfl hF.2.2 hm hl (by omega) h5 (fun g => g.elim h6 (fun g => g.elim h7 (fun g => (by have := g.2; omega)))) : Pz.Sim s be ba (Pz.num s least most ⟨i, n⟩) (Pz.capv (s.extract j1 (Pz.run Pz.dig s j1)).data.toList) ⟨(Pz.run Pz.dig s j1), n, be, ba⟩)) (fun h => h.sel [0] (by decide) rfl)
   refine c_skip (e_go hK24 ?_)
   refine c_seq fun _ hK27 => ?_
   refine c_region ?_
   refine l_val wn (r_move rfl) rfl ?_
   refine l_val wn (r_assign rfl) rfl ?_
   refine l_nil (e_go hK27 ?_)
   refine c_ret (e_ret1 (.inl rfl) Tryd.results67 (rv_tmp rfl) fun w1 hM => ?_)
   exact hM.retA ((Pz.capv (s.extract j1 (Pz.run Pz.dig s j1)).data.toList), j1, be, ba) rfl (show Pz.Sim s be ba (Pz.num s least most ⟨i, n⟩) (Pz.capv (s.extract j1 (Pz.run Pz.dig s j1)).data.toList) ⟨j1, n, be, ba⟩ from Pz.Sim.bad (by show _ ≤ _; omega) h10 rfl rfl) (fun h => h.sel [0] (by decide) rfl)
 refine q_skip (wg rfl rfl rfl) rfl ?_
 refine q_skip (wg rfl rfl rfl) rfl ?_
 refine q_skip (wg rfl rfl rfl) rfl ?_
 refine q_skip (wg rfl rfl rfl) rfl ?_
 refine q_skip (wg rfl rfl rfl) rfl ?_
 refine q_skip (wg rfl rfl rfl) rfl ?_
 refine q_skip (wg rfl rfl rfl) rfl ?_
 refine q_val (wg rfl rfl rfl) (r_pick rfl rfl) rfl ?_
 refine q_val wn (r_pick rfl rfl) rfl ?_
 refine q_end (e_go hK14 ?_)
 refine c_false rfl rfl ?_
 refine c_skip (e_go hK9 ?_)
 refine c_seq fun _ hK28 => ?_
 refine c_seq fun _ hK29 => ?_
 refine c_region ?_
 refine l_val wn (r_move rfl) rfl ?_
 refine l_give (α := Unit) [Wb 69 p s j1 n be ba] [] (fun _ : Unit => .bool (decide (be = 0))) (fun z10 => True) (fun z10 => [Wb 69 p s j1 n be ba]) (fun z10 => [Wb 69 p s j1 n be ba]) (fun _ => rfl) (fun _ h => h.sel [0] (by decide) rfl) (fun _ => rfl) wn rfl rfl Tryd.call34 rfl (fun w1 Pb hG => w_ok p s j1 n be ba Pb w1 hG) fun z10 hz11 => ?_
 refine l_nil (e_go hK29 ?_)
 refine c_cond rfl (fun h11 => ?_) (fun h11 => ?_)
 · refine c_region ?_
   refine l_val wn (r_move rfl) rfl ?_
   refine l_val wn (r_move rfl) rfl ?_
   refine l_val wn (r_nilCheck rfl) rfl ?_
   refine l_val wn (r_fa rfl fld69_1) rfl ?_
   refine l_st1 0 wn rfl rfl rfl rfl inf3 rfl rfl ?_
   refine l_nil (e_go hK28 ?_)
   refine c_seq fun _ hK30 => ?_
   refine c_region ?_
   refine l_val wn (r_move rfl) rfl ?_
   refine l_val wn (r_assign rfl) rfl ?_
   refine l_nil (e_go hK30 ?_)
   refine c_ret (e_ret1 (.inl rfl) Tryd.results67 (rv_tmp rfl) fun w1 hM => ?_)
   exact hM.retA ((Pz.capv (s.extract j1 (Pz.run Pz.dig s j1)).data.toList), (Pz.run Pz.dig s j1), be, ba) rfl (show Pz.Sim s be ba (Pz.num s least most ⟨i, n⟩) (Pz.capv (s.extract j1 (Pz.run Pz.dig s j1)).data.toList) ⟨(Pz.run Pz.dig s j1), n, be, ba⟩ from (Pz.num_sim hz1e rfl hF.2.2 hm hl (by omega) h5 (fun g => g.elim h6 (fun g => g.elim h7 (fun g => Pz.not48 hc2 h8 g))) : Pz.Sim s be ba (Pz.num s least most ⟨i, n⟩) (Pz.capv (s.extract j1 (Pz.run Pz.dig s j1)).data.toList) ⟨(Pz.run Pz.dig s j1), n, be, ba⟩)) (fun h => h.sel [0] (by decide) rfl)
 refine c_skip (e_go hK28 ?_)
 refine c_seq fun _ hK31 => ?_
 refine c_region ?_
 refine l_val wn (r_move rfl) rfl ?_
 refine l_val wn (r_assign rfl) rfl ?_
 refine l_nil (e_go hK31 ?_)
 refine c_ret (e_ret1 (.inl rfl) Tryd.results67 (rv_tmp rfl) fun w1 hM => ?_)
 exact hM.retA ((Pz.capv (s.extract j1 (Pz.run Pz.dig s j1)).data.toList), j1, be, ba) rfl (show Pz.Sim s be ba (Pz.num s least most ⟨i, n⟩) (Pz.capv (s.extract j1 (Pz.run Pz.dig s j1)).data.toList) ⟨j1, n, be, ba⟩ from Pz.Sim.bad (by show _ ≤ _; omega) h11 rfl rfl) (fun h => h.sel [0] (by decide) rfl)

end Go.Proofs.YtffpglgboaigfaaDoor
