/-
  Walks: what each function hands back.
-/
import Derived.Test.YtffpglgboaigfaaDoorWlangS
import Derived.Test.YtffpglgboaigfaaDoorPan
import Derived.Test.YtffpglgboaigfaaDoorShlf
namespace Go.Proofs.YtffpglgboaigfaaDoor
open Ex
set_option linter.unusedVariables false
set_option linter.unusedSimpArgs false
/-- the variable ErrRange, as the package's start lays it -/
def ErrV : (Nat → Prop) → World → Prop := VarI Tryd.prog "strconv.ErrRange"
theorem ErrV.loc : Ex.Loc ErrV := VarI.loc _ _
theorem c_pfx (a b : ByteArray) (w : World) : Calls Tryd.prog 64 #[.string a, .string b] w (Ret w (.bool (Go.Lib.hasPrefix a.data.toList b.data.toList))) := (Tryd.strings_HasPrefix a b w).mono fun e w' ⟨he, hw⟩ => ⟨he, by rw [hw]; exact Fr.refl _ _⟩
theorem c_atoi (t : ByteArray) (P0 : Nat → Prop) (w : World) (hP0 : ∀ b, P0 b → b < w.heap.size) (hne : t.data.toList ≠ []) (hd : ∀ c ∈ t.data.toList, 48 ≤ c.toNat ∧ c.toNat ≤ 57) (hl : t.size ≤ 2000) (hE : ErrV P0 w) :
    Calls Tryd.prog 88 #[.string t] w (RetE w P0 (fun z : Int × Value => .tuple (List.toArray [iV z.1, z.2])) (fun z => Pz.AtoiR t.data.toList z) (fun _ _ _ => True)) := by
 rcases Pz.atoi_dig hne hd with ⟨h1, h2⟩ | ⟨h1, h2⟩
 · refine (Tryd.strconv_Atoi_ok t (by omega) _ h1 w).mono fun e w' ⟨he, hw⟩ => ⟨((Pz.dval t.data.toList : Int), .nilIface), fun _ => False, he, .inl ⟨rfl, rfl⟩, ?_, fun _ h => h.elim, trivial⟩
   rcases hw with rfl | ⟨x, rfl⟩
   · exact Fr.refl _ _
   exact Fr.of_below (Go.Lib.bytesWorld_below _ _ _)
 obtain ⟨_, tp, q, hv⟩ := hE
 refine (Tryd.strconv_Atoi_range_var t (by omega) h1 tp q w hv).mono fun e w' ⟨N, he, _, _, hb⟩ => ⟨(Go.Lib.atoiSat t.data.toList, _), fun _ => False, he, .inr ⟨⟨_, _, rfl⟩, Pz.sat_dig hd, h2⟩, Fr.of_below hb, fun _ h => h.elim, trivial⟩

theorem c_fail (p : Nat) (s : ByteArray) (i : Nat) (n : Int) (err : Int) (Pb : Nat → Prop) (w : World) (hG : Mem w ⟨fpOf [Rb 64 p s i n, .pub ErrV], Pb⟩ [Rb 64 p s i n, .pub ErrV] w)  :
    Calls Tryd.prog 32 #[.pointer (some ⟨p, 0, none⟩), iV err] w (RetX w [Rb 64 p s i n, .pub ErrV] Pb 61 (fun _ : Unit => .tuple #[]) (fun _ => False) (fun _ => [Rb 64 p s i n, .pub ErrV]) (fun f => f = (err, (i : Int)))) := by
 refine fstart (N := 12) (vals := [.pointer (some ⟨p, 0, none⟩), iV err]) (S := Mem w ⟨fpOf [Rb 64 p s i n, .pub ErrV], Pb⟩ [Rb 64 p s i n, .pub ErrV]) Tryd.func32 rfl rfl rfl hG ?_
 refine c_region ?_
 refine l_val wn (r_move rfl) rfl ?_
 refine l_val wn (r_move rfl) rfl ?_
 refine l_val wn (r_nilCheck rfl) rfl ?_
 refine l_val wn (r_fa rfl fld64_1) rfl ?_
 refine l_val wn (r_lb 0 rfl rfl rfl flat3) rfl ?_
 refine l_val wn (r_build [iV err, iV i] pl33 inf33 rfl rfl) rfl ?_
 refine l_val wn (r_build [iV err, iV i] pl61 inf61 rfl rfl) rfl ?_
 refine l_val wn (r_mkI rfl (by kernel_rfl)) rfl ?_
 refine l_panic wn rfl ?_
 refine e_body_p fun w1 hM => ?_
 exact hM.retPan (err, (i : Int)) rfl

theorem c_blank (p : Nat) (s : ByteArray) (i : Nat) (n : Int) (Pb : Nat → Prop) (w : World) (hG : Mem w ⟨fpOf [Rb 64 p s i n, .pub ErrV], Pb⟩ [Rb 64 p s i n, .pub ErrV] w) (hi : i ≤ s.size) (hs : s.size ≤ 2000) :
    Calls Tryd.prog 31 #[.pointer (some ⟨p, 0, none⟩)] w (RetA w [Rb 64 p s i n, .pub ErrV] Pb (fun _ : Nat => .tuple #[]) (fun z => Pz.blank s i = z ∧ i ≤ z ∧ z ≤ s.size) (fun z => [Rb 64 p s z n, .pub ErrV])) := by
 refine fstart (N := 31) (vals := [.pointer (some ⟨p, 0, none⟩)]) (S := Mem w ⟨fpOf [Rb 64 p s i n, .pub ErrV], Pb⟩ [Rb 64 p s i n, .pub ErrV]) Tryd.func31 rfl rfl rfl hG ?_
 refine c_block ?_
 refine c_loop1 (fun (k : Nat) => [(0, .pointer (some ⟨p, 0, none⟩))]) (fun (k : Nat) => [Rb 64 p s k n, .pub ErrV]) (fun (k : Nat) => i ≤ k ∧ k ≤ s.size ∧ Pz.blank s i = Pz.blank s k) (fun (k : Nat) => s.size - k) i (sc rfl sn) (fun _ h => h) ?_ (fun k hI1 => ?_)
 · exact ⟨Nat.le_refl _, hi, rfl⟩
 refine c_seq fun _ hK1 => ?_
 refine c_seq fun _ hK2 => ?_
 refine c_quiet mix (by kernel_rfl) (fun _ h => h.drew) ?_
 refine q_val wn (r_move rfl) rfl ?_
 refine q_val wn (r_nilCheck rfl) rfl ?_
 refine q_val wn (r_fa rfl fld64_1) rfl ?_
 refine q_val wn (r_lb 0 rfl rfl rfl flat3) rfl ?_
 refine q_val wn (r_move rfl) rfl ?_
 refine q_val wn (r_nilCheck rfl) rfl ?_
 refine q_val wn (r_fa rfl fld64_0) rfl ?_
 refine q_val wn (r_lb 0 rfl rfl rfl flat9) rfl ?_
 refine q_val wn (r_slen rfl Tryd.underlying9) rfl ?_
 refine q_val wn (r_lss rfl rfl) rfl ?_
 refine q_val wn (r_move rfl) rfl ?_
 refine q_case (t := 12) rfl (fun h1 => ?_) (fun h1 => ?_)
 · refine q_val (wg rfl rfl rfl) (r_move rfl) rfl ?_
   refine q_val (wg rfl rfl rfl) (r_nilCheck rfl) rfl ?_
   refine q_val (wg rfl rfl rfl) (r_fa rfl fld64_0) rfl ?_
   refine q_val (wg rfl rfl rfl) (r_lb 0 rfl rfl rfl flat9) rfl ?_
   refine q_val (wg rfl rfl rfl) (r_move rfl) rfl ?_
   refine q_val (wg rfl rfl rfl) (r_nilCheck rfl) rfl ?_
   refine q_val (wg rfl rfl rfl) (r_fa rfl fld64_1) rfl ?_
   refine q_val (wg rfl rfl rfl) (r_lb 0 rfl rfl rfl flat3) rfl ?_
   obtain ⟨c1, hc1⟩ : ∃ x, s[k]? = some x := ⟨_, byte_at (by first | omega | (simp <;> omega))⟩
   refine q_val (wg rfl rfl rfl) (r_sidx rfl rfl (by omega) hc1 Tryd.underlying9) rfl ?_
   refine q_val (wg rfl rfl rfl) (r_eql rfl rfl) rfl ?_
   refine q_val wn (r_pick rfl rfl) rfl ?_
   refine q_end (e_go hK2 ?_)
   refine c_cond rfl (fun h2 => ?_) (fun h2 => ?_)
   · refine c_skip (e_go hK1 ?_)
     refine c_block ?_
     refine c_region ?_
     refine l_val wn (r_move rfl) rfl ?_
     refine l_val wn (r_nilCheck rfl) rfl ?_
     refine l_val wn (r_fa rfl fld64_1) rfl ?_
     refine l_val wn (r_lb 0 rfl rfl rfl flat3) rfl ?_
     refine l_val wn (r_addn rfl rfl (by omega)) rfl ?_
     refine l_val wn (r_nilCheck rfl) rfl ?_
     refine l_val wn (r_fa rfl fld64_1) rfl ?_
     refine l_st1 0 wn rfl rfl rfl rfl inf3 rfl rfl ?_
     refine l_nil (e_in_n (e_round1 (k + 1) (sc rfl sn) (fun _ h => h) ?_ ?_))
     · exact ⟨by omega, by omega, hI1.2.2.trans (Pz.blank_step hc1 h2)⟩
     omega
   refine c_exit (e_then_x (e_loop1_x (e_in_hit (e_ret0 (.inr rfl) Tryd.results31  fun w1 hM => ?_))))
   exact hM.retA (k) rfl ⟨hI1.2.2.trans (Pz.blank_stop hc1 h2), hI1.1, hI1.2.1⟩ (fun h => h.sel [0, 1] (by decide) rfl)
 refine q_skip (wg rfl rfl rfl) rfl ?_
 refine q_skip (wg rfl rfl rfl) rfl ?_
 refine q_skip (wg rfl rfl rfl) rfl ?_
 refine q_skip (wg rfl rfl rfl) rfl ?_
 refine q_skip (wg rfl rfl rfl) rfl ?_
 refine q_skip (wg rfl rfl rfl) rfl ?_
 refine q_skip (wg rfl rfl rfl) rfl ?_
 refine q_skip (wg rfl rfl rfl) rfl ?_
 refine q_skip (wg rfl rfl rfl) rfl ?_
 refine q_skip (wg rfl rfl rfl) rfl ?_
 refine q_val wn (r_pick rfl rfl) rfl ?_
 refine q_end (e_go hK2 ?_)
 refine c_false rfl rfl ?_
 refine c_exit (e_then_x (e_loop1_x (e_in_hit (e_ret0 (.inr rfl) Tryd.results31  fun w1 hM => ?_))))
 exact hM.retA (k) rfl ⟨hI1.2.2.trans (Pz.blank_end (by omega)), hI1.1, hI1.2.1⟩ (fun h => h.sel [0, 1] (by decide) rfl)

theorem c_eat (p : Nat) (s : ByteArray) (i : Nat) (n : Int) (sg : ByteArray) (Pb : Nat → Prop) (w : World) (hG : Mem w ⟨fpOf [Rb 64 p s i n, .pub ErrV], Pb⟩ [Rb 64 p s i n, .pub ErrV] w) (hi : i ≤ s.size) (hs : s.size ≤ 2000) :
    Calls Tryd.prog 50 #[.pointer (some ⟨p, 0, none⟩), .string sg] w (RetA w [Rb 64 p s i n, .pub ErrV] Pb (fun z : Bool × Nat => .bool z.1) (fun z => Pz.eat s sg i = z ∧ i ≤ z.2 ∧ z.2 ≤ s.size) (fun z => [Rb 64 p s z.2 n, .pub ErrV])) := by
 refine fstart (N := 28) (vals := [.pointer (some ⟨p, 0, none⟩), .string sg]) (S := Mem w ⟨fpOf [Rb 64 p s i n, .pub ErrV], Pb⟩ [Rb 64 p s i n, .pub ErrV]) Tryd.func50 rfl rfl rfl hG ?_
 refine c_seq fun _ hK1 => ?_
 refine c_region ?_
 refine l_val wn (r_assign rfl) rfl ?_
 refine l_nil (e_go hK1 ?_)
 refine c_seq fun _ hK2 => ?_
 refine c_region ?_
 refine l_val wn (r_move rfl) rfl ?_
 refine l_give (α := Nat) [Rb 64 p s i n, .pub ErrV] [] (fun _ => .tuple #[]) (fun j1 => (Pz.blank s i = j1 ∧ i ≤ j1 ∧ j1 ≤ s.size)) (fun j1 => [Rb 64 p s j1 n, .pub ErrV]) (fun j1 => [Rb 64 p s j1 n, .pub ErrV]) (fun _ => rfl) (fun _ h => h.sel [0, 1] (by decide) rfl) (fun _ => rfl) wn rfl rfl Tryd.call31 rfl (fun w1 Pb hG => c_blank p s i n Pb w1 hG (by omega) (by omega)) fun j1 hz1 => ?_
 obtain ⟨hz1e, hz1a, hz1b⟩ := hz1
 refine l_nil (e_go hK2 ?_)
 refine c_seq fun _ hK3 => ?_
 refine c_seq fun _ hK4 => ?_
 refine c_quiet mix (by kernel_rfl) (fun _ h => h.drew) ?_
 refine q_val wn (r_move rfl) rfl ?_
 refine q_val wn (r_nilCheck rfl) rfl ?_
 refine q_val wn (r_fa rfl fld64_0) rfl ?_
 refine q_val wn (r_lb 0 rfl rfl rfl flat9) rfl ?_
 refine q_val wn (r_move rfl) rfl ?_
 refine q_val wn (r_nilCheck rfl) rfl ?_
 refine q_val wn (r_fa rfl fld64_1) rfl ?_
 refine q_val wn (r_lb 0 rfl rfl rfl flat3) rfl ?_
 refine q_val wn (r_sslice_l (l := j1) rfl rfl (by omega) (by first | omega | (simp <;> omega)) Tryd.underlying9) rfl ?_
 refine q_val wn (r_move rfl) rfl ?_
 refine q_callF wn rfl Tryd.call64 rfl (fun w1 hM => c_pfx (s.extract j1 s.size) sg w1) ?_
 refine q_val wn (r_notb rfl) rfl ?_
 refine q_end (e_go hK4 ?_)
 refine c_condb rfl (fun h1 => ?_) (fun h1 => ?_)
 · refine c_seq fun _ hK5 => ?_
   refine c_region ?_
   refine l_val wn (r_assign rfl) rfl ?_
   refine l_nil (e_go hK5 ?_)
   refine c_ret (e_then_r (e_ret1 (.inl rfl) Tryd.results50 (rv_tmp rfl) fun w1 hM => ?_))
   have h9 : Pz.eat s sg i = (false, j1) := Pz.eat_no hz1e (by rw [← Pz.pfx_ext]; simpa using h1)
   exact hM.retA (false, j1) rfl ⟨h9, by have := Pz.eat_le sg hi; rw [h9] at this; exact this⟩ (fun h => h.sel [0, 1] (by decide) rfl)
 refine c_skip (e_go hK3 ?_)
 refine c_seq fun _ hK6 => ?_
 refine c_region ?_
 have hpl := Pz.pfx_le (s := s) (sg := sg) (i := j1) (by rw [← Pz.pfx_ext]; simpa using h1) (by omega)
 refine l_val wn (r_move rfl) rfl ?_
 refine l_val wn (r_nilCheck rfl) rfl ?_
 refine l_val wn (r_fa rfl fld64_1) rfl ?_
 refine l_val wn (r_lb 0 rfl rfl rfl flat3) rfl ?_
 refine l_val wn (r_move rfl) rfl ?_
 refine l_val wn (r_slen rfl Tryd.underlying9) rfl ?_
 refine l_val wn (r_addn rfl rfl (by omega)) rfl ?_
 refine l_val wn (r_nilCheck rfl) rfl ?_
 refine l_val wn (r_fa rfl fld64_1) rfl ?_
 refine l_st1 0 wn rfl rfl rfl rfl inf3 rfl rfl ?_
 refine l_nil (e_go hK6 ?_)
 refine c_seq fun _ hK7 => ?_
 refine c_region ?_
 refine l_val wn (r_assign rfl) rfl ?_
 refine l_nil (e_go hK7 ?_)
 refine c_ret (e_ret1 (.inl rfl) Tryd.results50 (rv_tmp rfl) fun w1 hM => ?_)
 have h9 : Pz.eat s sg i = (true, (j1 + sg.size)) := Pz.eat_yes hz1e (by rw [← Pz.pfx_ext]; simpa using h1)
 exact hM.retA (true, (j1 + sg.size)) rfl ⟨h9, by have := Pz.eat_le sg hi; rw [h9] at this; exact this⟩ (fun h => h.sel [0, 1] (by decide) rfl)

theorem c_must (p : Nat) (s : ByteArray) (i : Nat) (n : Int) (sg : ByteArray) (Pb : Nat → Prop) (w : World) (hG : Mem w ⟨fpOf [Rb 64 p s i n, .pub ErrV], Pb⟩ [Rb 64 p s i n, .pub ErrV] w) (hi : i ≤ s.size) (hs : s.size ≤ 2000) (hn : 0 ≤ n ∧ n ≤ 100) :
    Calls Tryd.prog 76 #[.pointer (some ⟨p, 0, none⟩), .string sg] w (RetX w [Rb 64 p s i n, .pub ErrV] Pb 61 (fun z : Pz.St => .tuple #[]) (fun z => Pz.must s sg ⟨i, n⟩ = .ok z ∧ Pz.Good s ⟨i, n⟩ z) (fun z => [Rb 64 p s z.at_ z.nd, .pub ErrV]) (fun f => Pz.must s sg ⟨i, n⟩ = .no f)) := by
 refine fstart (N := 10) (vals := [.pointer (some ⟨p, 0, none⟩), .string sg]) (S := Mem w ⟨fpOf [Rb 64 p s i n, .pub ErrV], Pb⟩ [Rb 64 p s i n, .pub ErrV]) Tryd.func76 rfl rfl rfl hG ?_
 refine c_seq fun _ hK1 => ?_
 refine c_region ?_
 refine l_val wn (r_move rfl) rfl ?_
 refine l_val wn (r_move rfl) rfl ?_
 refine l_give (α := (Bool × Nat)) [Rb 64 p s i n, .pub ErrV] [] (fun z : Bool × Nat => .bool z.1) (fun z1 => (Pz.eat s sg i = z1 ∧ i ≤ z1.2 ∧ z1.2 ≤ s.size)) (fun z1 => [Rb 64 p s z1.2 n, .pub ErrV]) _ (fun _ => rfl) (fun _ h => h.sel [0, 1] (by decide) rfl) (fun _ => rfl) wn rfl rfl Tryd.call50 rfl (fun w1 Pb hG => c_eat p s i n sg Pb w1 hG (by omega) (by omega)) fun z1 hz1 => ?_
 obtain ⟨bo1, j1⟩ := z1
 have he1 : Pz.eat s sg i = (bo1, j1) := hz1.1
 have hz1a : i ≤ j1 := hz1.2.1
 have hz1b : j1 ≤ s.size := hz1.2.2
 refine l_as 6 (.bool bo1) [Rb 64 p s j1 n, .pub ErrV] ?_
 refine l_val wn (r_notb rfl) rfl ?_
 refine l_nil (e_go hK1 ?_)
 refine c_condb rfl (fun h1 => ?_) (fun h1 => ?_)
 · have g1 : bo1 = false := by simpa using h1
   refine c_region ?_
   refine l_val wn (r_move rfl) rfl ?_
   refine l_giveX (α := Unit) (PT := 61) [Rb 64 p s j1 n, .pub ErrV] [] (fun _ : Unit => .tuple #[]) (fun z2 => False) (fun z2 => [Rb 64 p s j1 n, .pub ErrV]) (fun z2 => [Rb 64 p s j1 n, .pub ErrV]) (fun f1 => f1 = (2, (j1 : Int))) (fun _ => rfl) (fun _ h => h.sel [0, 1] (by decide) rfl) (fun _ => rfl) wn rfl rfl Tryd.call32 rfl (fun w1 Pb hG => c_fail p s j1 n 2 Pb w1 hG) ?_ fun z2 hz2 => ?_
   · intro f1 hf1
     refine e_body_p fun w1 hM => ?_
     exact hM.retPan f1 (by first | (simp only [Pz.then_ok, Pz.then_no, Pz.St.go, if_true, if_false, Bool.false_eq_true, Bool.true_eq_false, not_true_eq_false, not_false_eq_true, ne_eq, and_true, true_and, and_false, false_and, and_self, not_and, Pz.must, he1, g1, h1, hf1]; done) | simp [Pz.then_ok, Pz.then_no, Pz.St.go, if_true, if_false, Bool.false_eq_true, Bool.true_eq_false, not_true_eq_false, not_false_eq_true, ne_eq, and_true, true_and, and_false, false_and, and_self, not_and, Pz.must, he1, g1, h1, hf1])
   exact hz2.elim
 have g2 : bo1 = true := by simpa using h1
 refine c_skip (e_ret0 (.inr rfl) Tryd.results76  fun w1 hM => ?_)
 have h9 : Pz.must s sg ⟨i, n⟩ = .ok ⟨j1, n⟩ := by first | (simp only [Pz.then_ok, Pz.then_no, Pz.St.go, if_true, if_false, Bool.false_eq_true, Bool.true_eq_false, not_true_eq_false, not_false_eq_true, ne_eq, and_true, true_and, and_false, false_and, and_self, not_and, Pz.must, he1, g2, h1]; done) | simp [Pz.then_ok, Pz.then_no, Pz.St.go, if_true, if_false, Bool.false_eq_true, Bool.true_eq_false, not_true_eq_false, not_false_eq_true, ne_eq, and_true, true_and, and_false, false_and, and_self, not_and, Pz.must, he1, g2, h1]
 exact hM.retX (⟨j1, n⟩ : Pz.St) rfl ⟨h9, (Pz.must_fine _ hi).ok_ h9⟩ (fun h => h.sel [0, 1] (by decide) rfl)

theorem c_word (p : Nat) (s : ByteArray) (i : Nat) (n : Int) (Pb : Nat → Prop) (w : World) (hG : Mem w ⟨fpOf [Rb 64 p s i n, .pub ErrV], Pb⟩ [Rb 64 p s i n, .pub ErrV] w) (hi : i ≤ s.size) (hs : s.size ≤ 2000) (hn : 0 ≤ n ∧ n ≤ 100) :
    Calls Tryd.prog 77 #[.pointer (some ⟨p, 0, none⟩)] w (RetX w [Rb 64 p s i n, .pub ErrV] Pb 61 (fun z : ByteArray × Pz.St => .string z.1) (fun z => Pz.word s ⟨i, n⟩ = .ok z ∧ Pz.Good s ⟨i, n⟩ z.2) (fun z => [Rb 64 p s z.2.at_ z.2.nd, .pub ErrV]) (fun f => Pz.word s ⟨i, n⟩ = .no f)) := by
 refine fstart (N := 73) (vals := [.pointer (some ⟨p, 0, none⟩)]) (S := Mem w ⟨fpOf [Rb 64 p s i n, .pub ErrV], Pb⟩ [Rb 64 p s i n, .pub ErrV]) Tryd.func77 rfl rfl rfl hG ?_
 refine c_seq fun _ hK1 => ?_
 refine c_region ?_
 refine l_val wn (r_assign rfl) rfl ?_
 refine l_nil (e_go hK1 ?_)
 refine c_seq fun _ hK2 => ?_
 refine c_region ?_
 refine l_val wn (r_move rfl) rfl ?_
 refine l_give (α := Nat) [Rb 64 p s i n, .pub ErrV] [] (fun _ => .tuple #[]) (fun j1 => (Pz.blank s i = j1 ∧ i ≤ j1 ∧ j1 ≤ s.size)) (fun j1 => [Rb 64 p s j1 n, .pub ErrV]) (fun j1 => [Rb 64 p s j1 n, .pub ErrV]) (fun _ => rfl) (fun _ h => h.sel [0, 1] (by decide) rfl) (fun _ => rfl) wn rfl rfl Tryd.call31 rfl (fun w1 Pb hG => c_blank p s i n Pb w1 hG (by omega) (by omega)) fun j1 hz1 => ?_
 obtain ⟨hz1e, hz1a, hz1b⟩ := hz1
 refine l_nil (e_go hK2 ?_)
 refine c_seq fun _ hK3 => ?_
 refine c_region ?_
 refine l_val wn (r_move rfl) rfl ?_
 refine l_val wn (r_nilCheck rfl) rfl ?_
 refine l_val wn (r_fa rfl fld64_1) rfl ?_
 refine l_val wn (r_lb 0 rfl rfl rfl flat3) rfl ?_
 refine l_val wn (r_assign rfl) rfl ?_
 refine l_nil (e_go hK3 ?_)
 refine c_cut [(0, .pointer (some ⟨p, 0, none⟩)), (3, iV ((Pz.wend s j1) : Int))] (Mem w ⟨fpOf [Rb 64 p s i n, .pub ErrV], Pb⟩ [.pub (fun _ _ => j1 ≤ Pz.wend s j1 ∧ Pz.wend s j1 ≤ s.size), Rb 64 p s j1 n, .pub ErrV]) (fun _ hK4 => ?_) ?_
 · refine c_block ?_
   refine c_loop1 (fun (k : Nat) => [(0, .pointer (some ⟨p, 0, none⟩)), (3, iV k)]) (fun (k : Nat) => [Rb 64 p s j1 n, .pub ErrV]) (fun (k : Nat) => (k = j1 ∨ (j1 < k ∧ Pz.wend s j1 = Pz.run Pz.wch s k)) ∧ j1 ≤ k ∧ k ≤ s.size) (fun (k : Nat) => s.size - k) j1 (sc rfl (sc rfl sn)) (fun _ h => h) ?_ (fun k hI1 => ?_)
   · exact ⟨.inl rfl, Nat.le_refl _, by omega⟩
   refine c_seq fun _ hK5 => ?_
   refine c_seq fun _ hK6 => ?_
   refine c_region ?_
   refine l_val wn (r_move rfl) rfl ?_
   refine l_val wn (r_move rfl) rfl ?_
   refine l_val wn (r_nilCheck rfl) rfl ?_
   refine l_val wn (r_fa rfl fld64_0) rfl ?_
   refine l_val wn (r_lb 0 rfl rfl rfl flat9) rfl ?_
   refine l_val wn (r_slen rfl Tryd.underlying9) rfl ?_
   refine l_val wn (r_lss rfl rfl) rfl ?_
   refine l_nil (e_go hK6 ?_)
   refine c_cond rfl (fun h1 => ?_) (fun h1 => ?_)
   · refine c_skip (e_go hK5 ?_)
     refine c_block ?_
     refine c_seq fun _ hK7 => ?_
     refine c_region ?_
     refine l_val wn (r_move rfl) rfl ?_
     refine l_val wn (r_nilCheck rfl) rfl ?_
     refine l_val wn (r_fa rfl fld64_0) rfl ?_
     refine l_val wn (r_lb 0 rfl rfl rfl flat9) rfl ?_
     refine l_val wn (r_move rfl) rfl ?_
     obtain ⟨c1, hc1⟩ : ∃ x, s[k]? = some x := ⟨_, byte_at (by first | omega | (simp <;> omega))⟩
     refine l_val wn (r_sidx rfl rfl (by omega) hc1 Tryd.underlying9) rfl ?_
     refine l_val wn (r_assign rfl) rfl ?_
     refine l_nil (e_go hK7 ?_)
     refine c_seq fun _ hK8 => ?_
     refine c_cut [(0, .pointer (some ⟨p, 0, none⟩)), (3, iV k), (50, .bool (decide ((((c1.toNat : Int) < 97) ∧ (((k : Int) = (j1 : Int)) ∨ ((((c1.toNat : Int) < 48) ∧ ((c1.toNat : Int) ≠ 95)) ∨ (¬ ((c1.toNat : Int) < 48) ∧ ((57 < (c1.toNat : Int)) ∧ ((c1.toNat : Int) ≠ 95)))))) ∨ (¬ ((c1.toNat : Int) < 97) ∧ ((122 < (c1.toNat : Int)) ∧ (((k : Int) = (j1 : Int)) ∨ ((((c1.toNat : Int) < 48) ∧ ((c1.toNat : Int) ≠ 95)) ∨ (¬ ((c1.toNat : Int) < 48) ∧ ((57 < (c1.toNat : Int)) ∧ ((c1.toNat : Int) ≠ 95))))))))))] (Mem w ⟨fpOf [Rb 64 p s i n, .pub ErrV], Pb⟩ [Rb 64 p s j1 n, .pub ErrV]) (fun _ hK9 => ?_) ?_
     · refine c_region ?_
       refine l_val wn (r_move rfl) rfl ?_
       refine l_val wn (r_lss rfl rfl) rfl ?_
       refine l_val wn (r_move rfl) rfl ?_
       refine l_case (t := 27) rfl (fun h2 => ?_) (fun h2 => ?_)
       · refine l_skip (wg rfl rfl rfl) rfl ?_
         refine l_skip (wg rfl rfl rfl) rfl ?_
         refine l_val wn (r_pick rfl rfl) rfl ?_
         refine l_val wn (r_move rfl) rfl ?_
         refine l_val (wg rfl rfl rfl) (r_move rfl) rfl ?_
         refine l_val (wg rfl rfl rfl) (r_move rfl) rfl ?_
         refine l_val (wg rfl rfl rfl) (r_nilCheck rfl) rfl ?_
         refine l_val (wg rfl rfl rfl) (r_fa rfl fld64_1) rfl ?_
         refine l_val (wg rfl rfl rfl) (r_lb 0 rfl rfl rfl flat3) rfl ?_
         refine l_val (wg rfl rfl rfl) (r_eql rfl rfl) rfl ?_
         refine l_val (wg rfl rfl rfl) (r_move rfl) rfl ?_
         refine l_case (t := 38) rfl (fun h3 => ?_) (fun h3 => ?_)
         · refine l_skip (wg rfl rfl rfl) rfl ?_
           refine l_skip (wg rfl rfl rfl) rfl ?_
           refine l_skip (wg rfl rfl rfl) rfl ?_
           refine l_skip (wu rfl rfl) rfl ?_
           refine l_skip (wu rfl rfl) rfl ?_
           refine l_skip (wg rfl rfl rfl) rfl ?_
           refine l_skip (wg rfl rfl rfl) rfl ?_
           refine l_skip (wu rfl rfl) rfl ?_
           refine l_skip (wu rfl rfl) rfl ?_
           refine l_skip (wg rfl rfl rfl) rfl ?_
           refine l_val (wg rfl rfl rfl) (r_pick rfl rfl) rfl ?_
           refine l_val wn (r_pick rfl rfl) rfl ?_
           refine l_nil (e_cut hK9 (sc rfl (sc rfl (sc (jt (Or.inl ⟨h2, (Or.inl h3)⟩)) sn))) (fun _ h => h))
         refine l_val (wg rfl rfl rfl) (r_move rfl) rfl ?_
         refine l_val (wg rfl rfl rfl) (r_lss rfl rfl) rfl ?_
         refine l_val (wg rfl rfl rfl) (r_move rfl) rfl ?_
         refine l_case (t := 41) rfl (fun h4 => ?_) (fun h4 => ?_)
         · refine l_skip (wg rfl rfl rfl) rfl ?_
           refine l_skip (wg rfl rfl rfl) rfl ?_
           refine l_val (wg rfl rfl rfl) (r_pick rfl rfl) rfl ?_
           refine l_val (wg rfl rfl rfl) (r_move rfl) rfl ?_
           refine l_val (wg rfl rfl rfl) (r_move rfl) rfl ?_
           refine l_val (wg rfl rfl rfl) (r_neq rfl rfl) rfl ?_
           refine l_val (wg rfl rfl rfl) (r_pick rfl rfl) rfl ?_
           refine l_val (wg rfl rfl rfl) (r_pick rfl rfl) rfl ?_
           refine l_val wn (r_pick rfl rfl) rfl ?_
           refine l_nil (e_cut hK9 (sc rfl (sc rfl (sc (jp (iff_ite_l h2 (iff_or_right h3 (iff_ite_l h4 Iff.rfl)))) sn))) (fun _ h => h))
         refine l_val (wg rfl rfl rfl) (r_move rfl) rfl ?_
         refine l_val (wg rfl rfl rfl) (r_gtr rfl rfl) rfl ?_
         refine l_val (wg rfl rfl rfl) (r_pick rfl rfl) rfl ?_
         refine l_val (wg rfl rfl rfl) (r_move rfl) rfl ?_
         refine l_case (t := 45) rfl (fun h5 => ?_) (fun h5 => ?_)
         · refine l_val (wg rfl rfl rfl) (r_move rfl) rfl ?_
           refine l_val (wg rfl rfl rfl) (r_neq rfl rfl) rfl ?_
           refine l_val (wg rfl rfl rfl) (r_pick rfl rfl) rfl ?_
           refine l_val (wg rfl rfl rfl) (r_pick rfl rfl) rfl ?_
           refine l_val wn (r_pick rfl rfl) rfl ?_
           refine l_nil (e_cut hK9 (sc rfl (sc rfl (sc (jp (iff_ite_l h2 (iff_or_right h3 (iff_ite_r h4 (iff_and_right h5 Iff.rfl))))) sn))) (fun _ h => h))
         refine l_skip (wg rfl rfl rfl) rfl ?_
         refine l_skip (wg rfl rfl rfl) rfl ?_
         refine l_val (wg rfl rfl rfl) (r_pick rfl rfl) rfl ?_
         refine l_val (wg rfl rfl rfl) (r_pick rfl rfl) rfl ?_
         refine l_val wn (r_pick rfl rfl) rfl ?_
         refine l_nil (e_cut hK9 (sc rfl (sc rfl (sc (jf (fun g => g.elim (fun k => (fun g => g.elim h3 (fun g => g.elim (fun k => h4 k.1) (fun k => (fun g => h5 g.1) k.2))) k.2) (fun k => k.1 h2))) sn))) (fun _ h => h))
       refine l_val (wg rfl rfl rfl) (r_move rfl) rfl ?_
       refine l_val (wg rfl rfl rfl) (r_gtr rfl rfl) rfl ?_
       refine l_val wn (r_pick rfl rfl) rfl ?_
       refine l_val wn (r_move rfl) rfl ?_
       refine l_case (t := 31) rfl (fun h6 => ?_) (fun h6 => ?_)
       · refine l_val (wg rfl rfl rfl) (r_move rfl) rfl ?_
         refine l_val (wg rfl rfl rfl) (r_move rfl) rfl ?_
         refine l_val (wg rfl rfl rfl) (r_nilCheck rfl) rfl ?_
         refine l_val (wg rfl rfl rfl) (r_fa rfl fld64_1) rfl ?_
         refine l_val (wg rfl rfl rfl) (r_lb 0 rfl rfl rfl flat3) rfl ?_
         refine l_val (wg rfl rfl rfl) (r_eql rfl rfl) rfl ?_
         refine l_val (wg rfl rfl rfl) (r_move rfl) rfl ?_
         refine l_case (t := 38) rfl (fun h7 => ?_) (fun h7 => ?_)
         · refine l_skip (wg rfl rfl rfl) rfl ?_
           refine l_skip (wg rfl rfl rfl) rfl ?_
           refine l_skip (wg rfl rfl rfl) rfl ?_
           refine l_skip (wu rfl rfl) rfl ?_
           refine l_skip (wu rfl rfl) rfl ?_
           refine l_skip (wg rfl rfl rfl) rfl ?_
           refine l_skip (wg rfl rfl rfl) rfl ?_
           refine l_skip (wu rfl rfl) rfl ?_
           refine l_skip (wu rfl rfl) rfl ?_
           refine l_skip (wg rfl rfl rfl) rfl ?_
           refine l_val (wg rfl rfl rfl) (r_pick rfl rfl) rfl ?_
           refine l_val wn (r_pick rfl rfl) rfl ?_
           refine l_nil (e_cut hK9 (sc rfl (sc rfl (sc (jt (Or.inr ⟨h2, ⟨h6, (Or.inl h7)⟩⟩)) sn))) (fun _ h => h))
         refine l_val (wg rfl rfl rfl) (r_move rfl) rfl ?_
         refine l_val (wg rfl rfl rfl) (r_lss rfl rfl) rfl ?_
         refine l_val (wg rfl rfl rfl) (r_move rfl) rfl ?_
         refine l_case (t := 41) rfl (fun h8 => ?_) (fun h8 => ?_)
         · refine l_skip (wg rfl rfl rfl) rfl ?_
           refine l_skip (wg rfl rfl rfl) rfl ?_
           refine l_val (wg rfl rfl rfl) (r_pick rfl rfl) rfl ?_
           refine l_val (wg rfl rfl rfl) (r_move rfl) rfl ?_
           refine l_val (wg rfl rfl rfl) (r_move rfl) rfl ?_
           refine l_val (wg rfl rfl rfl) (r_neq rfl rfl) rfl ?_
           refine l_val (wg rfl rfl rfl) (r_pick rfl rfl) rfl ?_
           refine l_val (wg rfl rfl rfl) (r_pick rfl rfl) rfl ?_
           refine l_val wn (r_pick rfl rfl) rfl ?_
           refine l_nil (e_cut hK9 (sc rfl (sc rfl (sc (jp (iff_ite_r h2 (iff_and_right h6 (iff_or_right h7 (iff_ite_l h8 Iff.rfl))))) sn))) (fun _ h => h))
         refine l_val (wg rfl rfl rfl) (r_move rfl) rfl ?_
         refine l_val (wg rfl rfl rfl) (r_gtr rfl rfl) rfl ?_
         refine l_val (wg rfl rfl rfl) (r_pick rfl rfl) rfl ?_
         refine l_val (wg rfl rfl rfl) (r_move rfl) rfl ?_
         refine l_case (t := 45) rfl (fun h9 => ?_) (fun h9 => ?_)
         · refine l_val (wg rfl rfl rfl) (r_move rfl) rfl ?_
           refine l_val (wg rfl rfl rfl) (r_neq rfl rfl) rfl ?_
           refine l_val (wg rfl rfl rfl) (r_pick rfl rfl) rfl ?_
           refine l_val (wg rfl rfl rfl) (r_pick rfl rfl) rfl ?_
           refine l_val wn (r_pick rfl rfl) rfl ?_
           refine l_nil (e_cut hK9 (sc rfl (sc rfl (sc (jp (iff_ite_r h2 (iff_and_right h6 (iff_or_right h7 (iff_ite_r h8 (iff_and_right h9 Iff.rfl)))))) sn))) (fun _ h => h))
         refine l_skip (wg rfl rfl rfl) rfl ?_
         refine l_skip (wg rfl rfl rfl) rfl ?_
         refine l_val (wg rfl rfl rfl) (r_pick rfl rfl) rfl ?_
         refine l_val (wg rfl rfl rfl) (r_pick rfl rfl) rfl ?_
         refine l_val wn (r_pick rfl rfl) rfl ?_
         refine l_nil (e_cut hK9 (sc rfl (sc rfl (sc (jf (fun g => g.elim (fun k => h2 k.1) (fun k => (fun g => (fun g => g.elim h7 (fun g => g.elim (fun k => h8 k.1) (fun k => (fun g => h9 g.1) k.2))) g.2) k.2))) sn))) (fun _ h => h))
       refine l_skip (wg rfl rfl rfl) rfl ?_
       refine l_skip (wg rfl rfl rfl) rfl ?_
       refine l_skip (wg rfl rfl rfl) rfl ?_
       refine l_skip (wg rfl rfl rfl) rfl ?_
       refine l_skip (wg rfl rfl rfl) rfl ?_
       refine l_skip (wg rfl rfl rfl) rfl ?_
       refine l_skip (wg rfl rfl rfl) rfl ?_
       refine l_skip (wu rfl rfl) rfl ?_
       refine l_skip (wu rfl rfl) rfl ?_
       refine l_skip (wu rfl rfl) rfl ?_
       refine l_skip (wu rfl rfl) rfl ?_
       refine l_skip (wu rfl rfl) rfl ?_
       refine l_skip (wu rfl rfl) rfl ?_
       refine l_skip (wu rfl rfl) rfl ?_
       refine l_skip (wu rfl rfl) rfl ?_
       refine l_skip (wu rfl rfl) rfl ?_
       refine l_skip (wu rfl rfl) rfl ?_
       refine l_skip (wg rfl rfl rfl) rfl ?_
       refine l_val wn (r_pick rfl rfl) rfl ?_
       refine l_nil (e_cut hK9 (sc rfl (sc rfl (sc (jf (fun g => g.elim (fun k => h2 k.1) (fun k => (fun g => h6 g.1) k.2))) sn))) (fun _ h => h))
     refine c_cond rfl (fun h10 => ?_) (fun h10 => ?_)
     · have hw9 : Pz.wend s j1 = k := Pz.wend_done hc1 hI1.1 (by omega)
       refine c_exit (e_then_x (e_in_miss rfl (e_loop1_x (e_in_hit (e_cut hK4 (sc rfl (sc (ji (by omega)) sn)) (fun _ h => have h := Mem.fact ((by rw [hw9]; exact ⟨hI1.2.1, hI1.2.2⟩)) h; h))))))
     refine c_skip (e_go hK8 ?_)
     refine c_region ?_
     refine l_val wn (r_move rfl) rfl ?_
     refine l_val wn (r_addn rfl rfl (by omega)) rfl ?_
     refine l_val wn (r_assign rfl) rfl ?_
     refine l_nil (e_in_n (e_round1 (k + 1) (sc rfl (sc (ji (by omega)) sn)) (fun _ h => h) ?_ ?_))
     · exact ⟨.inr ⟨by omega, Pz.wend_next hc1 hI1.1 (by omega)⟩, by omega, by omega⟩
     omega
   have hw9 : Pz.wend s j1 = k := Pz.wend_end (by omega) hI1.1
   refine c_exit (e_then_x (e_loop1_x (e_in_hit (e_cut hK4 (sc rfl (sc (ji (by omega)) sn)) (fun _ h => have h := Mem.fact ((by rw [hw9]; exact ⟨hI1.2.1, hI1.2.2⟩)) h; h)))))
 refine c_fact fun hF => ?_
 refine c_seq fun _ hK10 => ?_
 refine c_quiet mix (by kernel_rfl) (fun _ h => h.drew) ?_
 refine q_val wn (r_move rfl) rfl ?_
 refine q_val wn (r_nilCheck rfl) rfl ?_
 refine q_val wn (r_fa rfl fld64_0) rfl ?_
 refine q_val wn (r_lb 0 rfl rfl rfl flat9) rfl ?_
 refine q_val wn (r_move rfl) rfl ?_
 refine q_val wn (r_nilCheck rfl) rfl ?_
 refine q_val wn (r_fa rfl fld64_1) rfl ?_
 refine q_val wn (r_lb 0 rfl rfl rfl flat3) rfl ?_
 refine q_val wn (r_move rfl) rfl ?_
 refine q_val wn (r_sslice_lh (l := j1) (h := (Pz.wend s j1)) rfl rfl (by omega) rfl (by omega) (by first | omega | (simp <;> omega)) (by first | omega | (simp <;> omega)) Tryd.underlying9) rfl ?_
 refine q_val wn (r_assign rfl) rfl ?_
 refine q_end (e_go hK10 ?_)
 refine c_seq fun _ hK11 => ?_
 refine c_seq fun _ hK12 => ?_
 refine c_region ?_
 refine l_val wn (r_move rfl) rfl ?_
 refine l_val wn (r_slen rfl Tryd.underlying9) rfl ?_
 refine l_val wn (r_gtr rfl rfl) rfl ?_
 refine l_nil (e_go hK12 ?_)
 refine c_cond rfl (fun h11 => ?_) (fun h11 => ?_)
 · refine c_region ?_
   refine l_val wn (r_move rfl) rfl ?_
   refine l_giveX (α := Unit) (PT := 61) [Rb 64 p s j1 n, .pub ErrV] [] (fun _ : Unit => .tuple #[]) (fun z1 => False) (fun z1 => [Rb 64 p s j1 n, .pub ErrV]) (fun z1 => [Rb 64 p s j1 n, .pub ErrV]) (fun f1 => f1 = (7, (j1 : Int))) (fun _ => rfl) (fun _ h => h.sel [0, 1] (by decide) rfl) (fun _ => rfl) wn rfl rfl Tryd.call32 rfl (fun w1 Pb hG => c_fail p s j1 n 7 Pb w1 hG) ?_ fun z1 hz2 => ?_
   · intro f1 hf1
     refine e_then_p (e_body_p fun w1 hM => ?_)
     exact hM.retPan f1 (by rw [hf1]; exact Pz.word_no hz1e rfl h11 (by omega))
   exact hz2.elim
 refine c_skip (e_go hK11 ?_)
 refine c_seq fun _ hK13 => ?_
 refine c_region ?_
 refine l_val wn (r_move rfl) rfl ?_
 refine l_val wn (r_move rfl) rfl ?_
 refine l_val wn (r_nilCheck rfl) rfl ?_
 refine l_val wn (r_fa rfl fld64_1) rfl ?_
 refine l_st1 0 wn rfl rfl rfl rfl inf3 rfl rfl ?_
 refine l_nil (e_go hK13 ?_)
 refine c_seq fun _ hK14 => ?_
 refine c_region ?_
 refine l_val wn (r_move rfl) rfl ?_
 refine l_val wn (r_assign rfl) rfl ?_
 refine l_nil (e_go hK14 ?_)
 refine c_ret (e_ret1 (.inl rfl) Tryd.results77 (rv_tmp rfl) fun w1 hM => ?_)
 have h9 : Pz.word s ⟨i, n⟩ = .ok ((s.extract j1 (Pz.wend s j1)), ⟨(Pz.wend s j1), n⟩) := by exact Pz.word_ok hz1e rfl h11 (by omega)
 exact hM.retX (((s.extract j1 (Pz.wend s j1)), ⟨(Pz.wend s j1), n⟩) : ByteArray × Pz.St) rfl ⟨h9, (Pz.word_fine hi).ok_ h9⟩ (fun h => h.sel [0, 1] (by decide) rfl)

theorem c_name (p : Nat) (s : ByteArray) (i : Nat) (n : Int) (Pb : Nat → Prop) (w : World) (hG : Mem w ⟨fpOf [Rb 64 p s i n, .pub ErrV], Pb⟩ [Rb 64 p s i n, .pub ErrV] w) (hi : i ≤ s.size) (hs : s.size ≤ 2000) (hn : 0 ≤ n ∧ n ≤ 100) :
    Calls Tryd.prog 87 #[.pointer (some ⟨p, 0, none⟩)] w (RetX w [Rb 64 p s i n, .pub ErrV] Pb 61 (fun z : ByteArray × Pz.St => .string z.1) (fun z => Pz.name s ⟨i, n⟩ = .ok z ∧ Pz.Good s ⟨i, n⟩ z.2) (fun z => [Rb 64 p s z.2.at_ z.2.nd, .pub ErrV]) (fun f => Pz.name s ⟨i, n⟩ = .no f)) := by
 refine fstart (N := 11) (vals := [.pointer (some ⟨p, 0, none⟩)]) (S := Mem w ⟨fpOf [Rb 64 p s i n, .pub ErrV], Pb⟩ [Rb 64 p s i n, .pub ErrV]) Tryd.func87 rfl rfl rfl hG ?_
 refine c_seq fun _ hK1 => ?_
 refine c_region ?_
 refine l_val wn (r_assign rfl) rfl ?_
 refine l_nil (e_go hK1 ?_)
 refine c_seq fun _ hK2 => ?_
 refine c_region ?_
 refine l_val wn (r_move rfl) rfl ?_
 refine l_giveX (α := ByteArray × Pz.St) (PT := 61) [Rb 64 p s i n, .pub ErrV] [] (fun z : ByteArray × Pz.St => .string z.1) (fun z1 => Pz.word s ⟨i, n⟩ = .ok z1 ∧ Pz.Good s ⟨i, n⟩ z1.2) (fun z1 => [Rb 64 p s z1.2.at_ z1.2.nd, .pub ErrV]) _ (fun f1 => Pz.word s ⟨i, n⟩ = .no f1) (fun _ => rfl) (fun _ h => h.sel [0, 1] (by decide) rfl) (fun _ => rfl) wn rfl rfl Tryd.call77 rfl (fun w1 Pb hG => c_word p s i n  Pb w1 hG (by omega) (by omega) (by omega) ) ?_ fun z1 hz1 => ?_
 · intro f1 hf1
   refine e_then_p (e_body_p fun w1 hM => ?_)
   exact hM.retPan f1 (by first | (simp only [Pz.then_ok, Pz.then_no, Pz.St.go, if_true, if_false, Bool.false_eq_true, Bool.true_eq_false, not_true_eq_false, not_false_eq_true, ne_eq, and_true, true_and, and_false, false_and, and_self, not_and, Pz.name, hf1]; done) | simp [Pz.then_ok, Pz.then_no, Pz.St.go, if_true, if_false, Bool.false_eq_true, Bool.true_eq_false, not_true_eq_false, not_false_eq_true, ne_eq, and_true, true_and, and_false, false_and, and_self, not_and, Pz.name, hf1])
 obtain ⟨wd1, j1, m1⟩ := z1
 have he1 : Pz.word s ⟨i, n⟩ = .ok (wd1, ⟨j1, m1⟩) := hz1.1
 have ga1 : j1 ≤ s.size := hz1.2.at_
 have gm1 : n ≤ m1 := hz1.2.mono
 have gn1 : m1 ≤ 100 := hz1.2.most (show n ≤ 100 by omega)
 have wz1 : wd1.size ≤ 12 := Pz.word_size (t := ⟨i, n⟩) (show i ≤ _ by omega) he1
 refine l_as 5 (.string wd1) [Rb 64 p s j1 m1, .pub ErrV] ?_
 refine l_val wn (r_assign rfl) rfl ?_
 refine l_nil (e_go hK2 ?_)
 refine c_seq fun _ hK3 => ?_
 refine c_seq fun _ hK4 => ?_
 refine c_region ?_
 refine l_val wn (r_move rfl) rfl ?_
 refine l_val wn (r_seql rfl rfl) rfl ?_
 refine l_nil (e_go hK4 ?_)
 refine c_cond rfl (fun h1 => ?_) (fun h1 => ?_)
 · have g1 : (wd1 = ⟨#[]⟩) = True := eq_true h1
   refine c_region ?_
   refine l_val wn (r_move rfl) rfl ?_
   refine l_giveX (α := Unit) (PT := 61) [Rb 64 p s j1 m1, .pub ErrV] [] (fun _ : Unit => .tuple #[]) (fun z2 => False) (fun z2 => [Rb 64 p s j1 m1, .pub ErrV]) (fun z2 => [Rb 64 p s j1 m1, .pub ErrV]) (fun f2 => f2 = (2, (j1 : Int))) (fun _ => rfl) (fun _ h => h.sel [0, 1] (by decide) rfl) (fun _ => rfl) wn rfl rfl Tryd.call32 rfl (fun w1 Pb hG => c_fail p s j1 m1 2 Pb w1 hG) ?_ fun z2 hz2 => ?_
   · intro f2 hf2
     refine e_then_p (e_body_p fun w1 hM => ?_)
     exact hM.retPan f2 (by first | (simp only [Pz.then_ok, Pz.then_no, Pz.St.go, if_true, if_false, Bool.false_eq_true, Bool.true_eq_false, not_true_eq_false, not_false_eq_true, ne_eq, and_true, true_and, and_false, false_and, and_self, not_and, Pz.name, he1, g1, hf2]; done) | simp [Pz.then_ok, Pz.then_no, Pz.St.go, if_true, if_false, Bool.false_eq_true, Bool.true_eq_false, not_true_eq_false, not_false_eq_true, ne_eq, and_true, true_and, and_false, false_and, and_self, not_and, Pz.name, he1, g1, hf2])
   exact hz2.elim
 have g2 : (wd1 = ⟨#[]⟩) = False := eq_false h1
 refine c_skip (e_go hK3 ?_)
 refine c_seq fun _ hK5 => ?_
 refine c_region ?_
 refine l_val wn (r_move rfl) rfl ?_
 refine l_val wn (r_assign rfl) rfl ?_
 refine l_nil (e_go hK5 ?_)
 refine c_ret (e_ret1 (.inl rfl) Tryd.results87 (rv_tmp rfl) fun w1 hM => ?_)
 have h9 : Pz.name s ⟨i, n⟩ = .ok (wd1, ⟨j1, m1⟩) := by first | (simp only [Pz.then_ok, Pz.then_no, Pz.St.go, if_true, if_false, Bool.false_eq_true, Bool.true_eq_false, not_true_eq_false, not_false_eq_true, ne_eq, and_true, true_and, and_false, false_and, and_self, not_and, Pz.name, he1, g2]; done) | simp [Pz.then_ok, Pz.then_no, Pz.St.go, if_true, if_false, Bool.false_eq_true, Bool.true_eq_false, not_true_eq_false, not_false_eq_true, ne_eq, and_true, true_and, and_false, false_and, and_self, not_and, Pz.name, he1, g2]
 exact hM.retX ((wd1, ⟨j1, m1⟩) : ByteArray × Pz.St) rfl ⟨h9, (Pz.name_fine hi).ok_ h9⟩ (fun h => h.sel [0, 1] (by decide) rfl)

theorem c_num (p : Nat) (s : ByteArray) (i : Nat) (n : Int) (least : Int) (most : Int) (Pb : Nat → Prop) (w : World) (hG : Mem w ⟨fpOf [Rb 64 p s i n, .pub ErrV], Pb⟩ [Rb 64 p s i n, .pub ErrV] w) (hi : i ≤ s.size) (hs : s.size ≤ 2000) (hn : 0 ≤ n ∧ n ≤ 100) (hm : most ≤ 9223372036854775806) :
    Calls Tryd.prog 79 #[.pointer (some ⟨p, 0, none⟩), iV least, iV most] w (RetX w [Rb 64 p s i n, .pub ErrV] Pb 61 (fun z : Int × Pz.St => iV z.1) (fun z => Pz.num s least most ⟨i, n⟩ = .ok z ∧ Pz.Good s ⟨i, n⟩ z.2) (fun z => [Rb 64 p s z.2.at_ z.2.nd, .pub ErrV]) (fun f => Pz.num s least most ⟨i, n⟩ = .no f)) := by
 refine fstart (N := 105) (vals := [.pointer (some ⟨p, 0, none⟩), iV least, iV most]) (S := Mem w ⟨fpOf [Rb 64 p s i n, .pub ErrV], Pb⟩ [Rb 64 p s i n, .pub ErrV]) Tryd.func79 rfl rfl rfl hG ?_
 refine c_seq fun _ hK1 => ?_
 refine c_region ?_
 refine l_val wn (r_assign rfl) rfl ?_
 refine l_nil (e_go hK1 ?_)
 refine c_seq fun _ hK2 => ?_
 refine c_region ?_
 refine l_val wn (r_move rfl) rfl ?_
 refine l_give (α := Nat) [Rb 64 p s i n, .pub ErrV] [] (fun _ => .tuple #[]) (fun j1 => (Pz.blank s i = j1 ∧ i ≤ j1 ∧ j1 ≤ s.size)) (fun j1 => [Rb 64 p s j1 n, .pub ErrV]) (fun j1 => [Rb 64 p s j1 n, .pub ErrV]) (fun _ => rfl) (fun _ h => h.sel [0, 1] (by decide) rfl) (fun _ => rfl) wn rfl rfl Tryd.call31 rfl (fun w1 Pb hG => c_blank p s i n Pb w1 hG (by omega) (by omega)) fun j1 hz1 => ?_
 obtain ⟨hz1e, hz1a, hz1b⟩ := hz1
 refine l_nil (e_go hK2 ?_)
 refine c_seq fun _ hK3 => ?_
 refine c_region ?_
 refine l_val wn (r_move rfl) rfl ?_
 refine l_val wn (r_nilCheck rfl) rfl ?_
 refine l_val wn (r_fa rfl fld64_1) rfl ?_
 refine l_val wn (r_lb 0 rfl rfl rfl flat3) rfl ?_
 refine l_val wn (r_assign rfl) rfl ?_
 refine l_nil (e_go hK3 ?_)
 refine c_cut [(0, .pointer (some ⟨p, 0, none⟩)), (1, iV least), (2, iV most), (7, iV ((Pz.run Pz.dig s j1) : Int))] (Mem w ⟨fpOf [Rb 64 p s i n, .pub ErrV], Pb⟩ [.pub (fun _ _ => j1 ≤ Pz.run Pz.dig s j1 ∧ Pz.run Pz.dig s j1 ≤ s.size), Rb 64 p s j1 n, .pub ErrV]) (fun _ hK4 => ?_) ?_
 · refine c_block ?_
   refine c_loop1 (fun (k : Nat) => [(0, .pointer (some ⟨p, 0, none⟩)), (1, iV least), (2, iV most), (7, iV k)]) (fun (k : Nat) => [Rb 64 p s j1 n, .pub ErrV]) (fun (k : Nat) => Pz.run Pz.dig s j1 = Pz.run Pz.dig s k ∧ j1 ≤ k ∧ k ≤ s.size) (fun (k : Nat) => s.size - k) j1 (sc rfl (sc rfl (sc rfl (sc rfl sn)))) (fun _ h => h) ?_ (fun k hI1 => ?_)
   · exact ⟨rfl, Nat.le_refl _, by omega⟩
   refine c_seq fun _ hK5 => ?_
   refine c_seq fun _ hK6 => ?_
   refine c_region ?_
   refine l_val wn (r_move rfl) rfl ?_
   refine l_val wn (r_move rfl) rfl ?_
   refine l_val wn (r_nilCheck rfl) rfl ?_
   refine l_val wn (r_fa rfl fld64_0) rfl ?_
   refine l_val wn (r_lb 0 rfl rfl rfl flat9) rfl ?_
   refine l_val wn (r_slen rfl Tryd.underlying9) rfl ?_
   refine l_val wn (r_lss rfl rfl) rfl ?_
   refine l_val wn (r_move rfl) rfl ?_
   refine l_case (t := 23) rfl (fun h1 => ?_) (fun h1 => ?_)
   · refine l_val (wg rfl rfl rfl) (r_move rfl) rfl ?_
     refine l_val (wg rfl rfl rfl) (r_nilCheck rfl) rfl ?_
     refine l_val (wg rfl rfl rfl) (r_fa rfl fld64_0) rfl ?_
     refine l_val (wg rfl rfl rfl) (r_lb 0 rfl rfl rfl flat9) rfl ?_
     refine l_val (wg rfl rfl rfl) (r_move rfl) rfl ?_
     obtain ⟨c1, hc1⟩ : ∃ x, s[k]? = some x := ⟨_, byte_at (by omega)⟩
     refine l_val (wg rfl rfl rfl) (r_sidx rfl rfl (by omega) hc1 Tryd.underlying9) rfl ?_
     refine l_val (wg rfl rfl rfl) (r_geq rfl rfl) rfl ?_
     refine l_val wn (r_pick rfl rfl) rfl ?_
     refine l_val wn (r_move rfl) rfl ?_
     refine l_case (t := 32) rfl (fun h2 => ?_) (fun h2 => ?_)
     · refine l_val (wg rfl rfl rfl) (r_move rfl) rfl ?_
       refine l_val (wg rfl rfl rfl) (r_nilCheck rfl) rfl ?_
       refine l_val (wg rfl rfl rfl) (r_fa rfl fld64_0) rfl ?_
       refine l_val (wg rfl rfl rfl) (r_lb 0 rfl rfl rfl flat9) rfl ?_
       refine l_val (wg rfl rfl rfl) (r_move rfl) rfl ?_
       refine l_val (wg rfl rfl rfl) (r_sidx rfl rfl (by omega) hc1 Tryd.underlying9) rfl ?_
       refine l_val (wg rfl rfl rfl) (r_leq rfl rfl) rfl ?_
       refine l_val wn (r_pick rfl rfl) rfl ?_
       refine l_nil (e_go hK6 ?_)
       refine c_cond rfl (fun h3 => ?_) (fun h3 => ?_)
       · refine c_skip (e_go hK5 ?_)
         refine c_block ?_
         refine c_region ?_
         refine l_val wn (r_move rfl) rfl ?_
         refine l_val wn (r_addn rfl rfl (by omega)) rfl ?_
         refine l_val wn (r_assign rfl) rfl ?_
         refine l_nil (e_in_n (e_round1 (k + 1) (sc rfl (sc rfl (sc rfl (sc (ji (by omega)) sn)))) (fun _ h => h) ?_ ?_))
         · exact ⟨hI1.1.trans (Pz.dig_step hc1 (by omega)), by omega, by omega⟩
         omega
       have hw9 : Pz.run Pz.dig s j1 = k := hI1.1.trans (Pz.dig_stop hc1 (by omega))
       refine c_exit (e_then_x (e_loop1_x (e_in_hit (e_cut hK4 (sc rfl (sc rfl (sc rfl (sc (ji (by omega)) sn)))) (fun _ h => have h := Mem.fact ((by rw [hw9]; exact ⟨hI1.2.1, hI1.2.2⟩)) h; h)))))
     refine l_skip (wg rfl rfl rfl) rfl ?_
     refine l_skip (wg rfl rfl rfl) rfl ?_
     refine l_skip (wg rfl rfl rfl) rfl ?_
     refine l_skip (wg rfl rfl rfl) rfl ?_
     refine l_skip (wg rfl rfl rfl) rfl ?_
     refine l_skip (wg rfl rfl rfl) rfl ?_
     refine l_skip (wg rfl rfl rfl) rfl ?_
     refine l_val wn (r_pick rfl rfl) rfl ?_
     refine l_nil (e_go hK6 ?_)
     refine c_false rfl rfl ?_
     have hw9 : Pz.run Pz.dig s j1 = k := hI1.1.trans (Pz.dig_stop hc1 (by omega))
     refine c_exit (e_then_x (e_loop1_x (e_in_hit (e_cut hK4 (sc rfl (sc rfl (sc rfl (sc (ji (by omega)) sn)))) (fun _ h => have h := Mem.fact ((by rw [hw9]; exact ⟨hI1.2.1, hI1.2.2⟩)) h; h)))))
   refine l_skip (wg rfl rfl rfl) rfl ?_
   refine l_skip (wg rfl rfl rfl) rfl ?_
   refine l_skip (wg rfl rfl rfl) rfl ?_
   refine l_skip (wg rfl rfl rfl) rfl ?_
   refine l_skip (wg rfl rfl rfl) rfl ?_
   refine l_skip (wg rfl rfl rfl) rfl ?_
   refine l_skip (wg rfl rfl rfl) rfl ?_
   refine l_val wn (r_pick rfl rfl) rfl ?_
   refine l_val wn (r_move rfl) rfl ?_
   refine l_skip (wg rfl rfl rfl) rfl ?_
   refine l_skip (wg rfl rfl rfl) rfl ?_
   refine l_skip (wg rfl rfl rfl) rfl ?_
   refine l_skip (wg rfl rfl rfl) rfl ?_
   refine l_skip (wg rfl rfl rfl) rfl ?_
   refine l_skip (wg rfl rfl rfl) rfl ?_
   refine l_skip (wg rfl rfl rfl) rfl ?_
   refine l_val wn (r_pick rfl rfl) rfl ?_
   refine l_nil (e_go hK6 ?_)
   refine c_false rfl rfl ?_
   have hw9 : Pz.run Pz.dig s j1 = k := hI1.1.trans (Pz.run_end (by omega))
   refine c_exit (e_then_x (e_loop1_x (e_in_hit (e_cut hK4 (sc rfl (sc rfl (sc rfl (sc (ji (by omega)) sn)))) (fun _ h => have h := Mem.fact ((by rw [hw9]; exact ⟨hI1.2.1, hI1.2.2⟩)) h; h)))))
 refine c_fact fun hF => ?_
 refine c_seq fun _ hK7 => ?_
 refine c_seq fun _ hK8 => ?_
 refine c_region ?_
 refine l_val wn (r_move rfl) rfl ?_
 refine l_val wn (r_move rfl) rfl ?_
 refine l_val wn (r_nilCheck rfl) rfl ?_
 refine l_val wn (r_fa rfl fld64_1) rfl ?_
 refine l_val wn (r_lb 0 rfl rfl rfl flat3) rfl ?_
 refine l_val wn (r_eql rfl rfl) rfl ?_
 refine l_nil (e_go hK8 ?_)
 refine c_cond rfl (fun h4 => ?_) (fun h4 => ?_)
 · refine c_region ?_
   refine l_val wn (r_move rfl) rfl ?_
   refine l_giveX (α := Unit) (PT := 61) [Rb 64 p s j1 n, .pub ErrV] [] (fun _ : Unit => .tuple #[]) (fun z1 => False) (fun z1 => [Rb 64 p s j1 n, .pub ErrV]) (fun z1 => [Rb 64 p s j1 n, .pub ErrV]) (fun f1 => f1 = (2, (j1 : Int))) (fun _ => rfl) (fun _ h => h.sel [0, 1] (by decide) rfl) (fun _ => rfl) wn rfl rfl Tryd.call32 rfl (fun w1 Pb hG => c_fail p s j1 n 2 Pb w1 hG) ?_ fun z1 hz2 => ?_
   · intro f1 hf1
     refine e_then_p (e_body_p fun w1 hM => ?_)
     exact hM.retPan f1 (by rw [hf1]; exact Pz.num_form least most hz1e rfl h4)
   exact hz2.elim
 refine c_skip (e_go hK7 ?_)
 refine c_seq fun _ hK9 => ?_
 refine c_nodes (Mem w ⟨fpOf [Rb 64 p s i n, .pub ErrV], Pb⟩ [Rb 64 p s j1 n, .pub ErrV]) mix (fun _ h => h.drew) rfl ?_
 refine n_run (f := 6) [0, 1, 2, 3, 4, 5, 6, 7, 8, 9] rfl rfl (by kernel_rfl) (by kernel_rfl) (fun _ h => h) fun KS hKS => ?_
 refine s_val wn (r_move rfl) rfl ?_
 refine s_val wn (r_nilCheck rfl) rfl ?_
 refine s_val wn (r_fa rfl fld64_0) rfl ?_
 refine s_val wn (r_lb 0 rfl rfl rfl flat9) rfl ?_
 refine s_val wn (r_move rfl) rfl ?_
 refine s_val wn (r_nilCheck rfl) rfl ?_
 refine s_val wn (r_fa rfl fld64_1) rfl ?_
 refine s_val wn (r_lb 0 rfl rfl rfl flat3) rfl ?_
 refine s_val wn (r_move rfl) rfl ?_
 refine s_val wn (r_sslice_lh (l := j1) (h := (Pz.run Pz.dig s j1)) rfl rfl (by omega) rfl (by omega) (by omega) (by omega) Tryd.underlying9) rfl ?_
 refine s_end hKS ?_
 refine n_step1 (f := 5) (i := 10) rfl (by kernel_rfl) ?_
 refine n_oneX (i := 10) rfl fun KN hKN hPN => ?_
 refine l_callE0 (β := Int × Value) (fun z => .tuple (List.toArray [iV z.1, z.2])) (fun z => Pz.AtoiR (s.extract j1 (Pz.run Pz.dig s j1)).data.toList z) (fun _ _ _ => True) (fun _ => fun _ _ _ _ _ _ _ => trivial) wn rfl Tryd.call88 rfl (fun w1 Pb hM pp => c_atoi (s.extract j1 (Pz.run Pz.dig s j1)) Pb w1 pp.lt (Pz.atoi_lt h4 rfl (by omega)) (Pz.ext_dig rfl) (by rw [Pz.ext_size _ (by omega)]; omega) (pp.at_ 1 _ rfl)) fun z2 hz3 => ?_
 refine l_mem (fun _ h => h.drop1) ?_
 refine l_nil (hKN _ _ (fun _ h => h) ?_)
 refine n_run (f := 0) [11, 12, 13, 14, 15] rfl rfl (by kernel_rfl) (by kernel_rfl) (fun _ h => h) fun KS hKS => ?_
 refine s_val wn (r_move rfl) rfl ?_
 refine s_val wn (r_extract rfl rfl) rfl ?_
 refine s_val wn (r_extract rfl rfl) rfl ?_
 refine s_val wn (r_assign rfl) rfl ?_
 refine s_val wn (r_assign rfl) rfl ?_
 refine s_end hKS ?_
 refine n_done (by kernel_rfl) (e_go hK9 ?_)
 refine c_seq fun _ hK10 => ?_
 refine c_seq fun _ hK11 => ?_
 refine c_quiet mix (by kernel_rfl) (fun _ h => h.drew) ?_
 refine q_val wn (r_move rfl) rfl ?_
 refine q_val wn (r_ineq rfl hz3.ifc Tryd.underlying76) rfl ?_
 refine q_val wn (r_move rfl) rfl ?_
 refine q_caseb (t := 67) rfl (fun h5 => ?_) (fun h5 => ?_)
 · have g1 : (isNil z2.2) = false := by simpa using h5
   refine q_skip (wg rfl rfl rfl) rfl ?_
   refine q_skip (wg rfl rfl rfl) rfl ?_
   refine q_skip (wg rfl rfl rfl) rfl ?_
   refine q_val wn (r_pick rfl rfl) rfl ?_
   refine q_val wn (r_move rfl) rfl ?_
   refine q_skip (wg rfl rfl rfl) rfl ?_
   refine q_skip (wg rfl rfl rfl) rfl ?_
   refine q_skip (wg rfl rfl rfl) rfl ?_
   refine q_val wn (r_pick rfl rfl) rfl ?_
   refine q_val wn (r_move rfl) rfl ?_
   refine q_skip (wg rfl rfl rfl) rfl ?_
   refine q_skip (wg rfl rfl rfl) rfl ?_
   refine q_skip (wg rfl rfl rfl) rfl ?_
   refine q_skip (wg rfl rfl rfl) rfl ?_
   refine q_skip (wg rfl rfl rfl) rfl ?_
   refine q_skip (wg rfl rfl rfl) rfl ?_
   refine q_skip (wg rfl rfl rfl) rfl ?_
   refine q_skip (wg rfl rfl rfl) rfl ?_
   refine q_skip (wg rfl rfl rfl) rfl ?_
   refine q_skip (wg rfl rfl rfl) rfl ?_
   refine q_skip (wg rfl rfl rfl) rfl ?_
   refine q_skip (wu rfl rfl) rfl ?_
   refine q_skip (wu rfl rfl) rfl ?_
   refine q_skip (wu rfl rfl) rfl ?_
   refine q_skip (wu rfl rfl) rfl ?_
   refine q_skip (wu rfl rfl) rfl ?_
   refine q_skip (wu rfl rfl) rfl ?_
   refine q_skip (wu rfl rfl) rfl ?_
   refine q_skip (wg rfl rfl rfl) rfl ?_
   refine q_val wn (r_pick rfl rfl) rfl ?_
   refine q_end (e_go hK11 ?_)
   refine c_true rfl rfl ?_
   refine c_region ?_
   refine l_val wn (r_move rfl) rfl ?_
   refine l_giveX (α := Unit) (PT := 61) [Rb 64 p s j1 n, .pub ErrV] [] (fun _ : Unit => .tuple #[]) (fun z3 => False) (fun z3 => [Rb 64 p s j1 n, .pub ErrV]) (fun z3 => [Rb 64 p s j1 n, .pub ErrV]) (fun f2 => f2 = (3, (j1 : Int))) (fun _ => rfl) (fun _ h => h.sel [0, 1] (by decide) rfl) (fun _ => rfl) wn rfl rfl Tryd.call32 rfl (fun w1 Pb hG => c_fail p s j1 n 3 Pb w1 hG) ?_ fun z3 hz4 => ?_
   · intro f2 hf2
     refine e_then_p (e_body_p fun w1 hM => ?_)
     exact hM.retPan f2 (by rw [hf2]; exact Pz.num_no hz1e rfl h4 (Pz.num_bad rfl hz3 hm (.inl h5)))
   exact hz4.elim
 have g2 : (isNil z2.2) = true := by simpa using h5
 refine q_val (wg rfl rfl rfl) (r_move rfl) rfl ?_
 refine q_val (wg rfl rfl rfl) (r_move rfl) rfl ?_
 refine q_val (wg rfl rfl rfl) (r_lss rfl rfl) rfl ?_
 refine q_val wn (r_pick rfl rfl) rfl ?_
 refine q_val wn (r_move rfl) rfl ?_
 refine q_case (t := 72) rfl (fun h6 => ?_) (fun h6 => ?_)
 · refine q_skip (wg rfl rfl rfl) rfl ?_
   refine q_skip (wg rfl rfl rfl) rfl ?_
   refine q_skip (wg rfl rfl rfl) rfl ?_
   refine q_val wn (r_pick rfl rfl) rfl ?_
   refine q_val wn (r_move rfl) rfl ?_
   refine q_skip (wg rfl rfl rfl) rfl ?_
   refine q_skip (wg rfl rfl rfl) rfl ?_
   refine q_skip (wg rfl rfl rfl) rfl ?_
   refine q_skip (wg rfl rfl rfl) rfl ?_
   refine q_skip (wg rfl rfl rfl) rfl ?_
   refine q_skip (wg rfl rfl rfl) rfl ?_
   refine q_skip (wg rfl rfl rfl) rfl ?_
   refine q_skip (wg rfl rfl rfl) rfl ?_
   refine q_skip (wg rfl rfl rfl) rfl ?_
   refine q_skip (wg rfl rfl rfl) rfl ?_
   refine q_skip (wg rfl rfl rfl) rfl ?_
   refine q_skip (wu rfl rfl) rfl ?_
   refine q_skip (wu rfl rfl) rfl ?_
   refine q_skip (wu rfl rfl) rfl ?_
   refine q_skip (wu rfl rfl) rfl ?_
   refine q_skip (wu rfl rfl) rfl ?_
   refine q_skip (wu rfl rfl) rfl ?_
   refine q_skip (wu rfl rfl) rfl ?_
   refine q_skip (wg rfl rfl rfl) rfl ?_
   refine q_val wn (r_pick rfl rfl) rfl ?_
   refine q_end (e_go hK11 ?_)
   refine c_true rfl rfl ?_
   refine c_region ?_
   refine l_val wn (r_move rfl) rfl ?_
   refine l_giveX (α := Unit) (PT := 61) [Rb 64 p s j1 n, .pub ErrV] [] (fun _ : Unit => .tuple #[]) (fun z4 => False) (fun z4 => [Rb 64 p s j1 n, .pub ErrV]) (fun z4 => [Rb 64 p s j1 n, .pub ErrV]) (fun f3 => f3 = (3, (j1 : Int))) (fun _ => rfl) (fun _ h => h.sel [0, 1] (by decide) rfl) (fun _ => rfl) wn rfl rfl Tryd.call32 rfl (fun w1 Pb hG => c_fail p s j1 n 3 Pb w1 hG) ?_ fun z4 hz5 => ?_
   · intro f3 hf3
     refine e_then_p (e_body_p fun w1 hM => ?_)
     exact hM.retPan f3 (by rw [hf3]; exact Pz.num_no hz1e rfl h4 (Pz.num_bad rfl hz3 hm (.inr (.inl h6))))
   exact hz5.elim
 refine q_val (wg rfl rfl rfl) (r_move rfl) rfl ?_
 refine q_val (wg rfl rfl rfl) (r_move rfl) rfl ?_
 refine q_val (wg rfl rfl rfl) (r_gtr rfl rfl) rfl ?_
 refine q_val wn (r_pick rfl rfl) rfl ?_
 refine q_val wn (r_move rfl) rfl ?_
 refine q_case (t := 77) rfl (fun h7 => ?_) (fun h7 => ?_)
 · refine q_skip (wg rfl rfl rfl) rfl ?_
   refine q_skip (wg rfl rfl rfl) rfl ?_
   refine q_skip (wg rfl rfl rfl) rfl ?_
   refine q_skip (wg rfl rfl rfl) rfl ?_
   refine q_skip (wg rfl rfl rfl) rfl ?_
   refine q_skip (wg rfl rfl rfl) rfl ?_
   refine q_skip (wg rfl rfl rfl) rfl ?_
   refine q_skip (wg rfl rfl rfl) rfl ?_
   refine q_skip (wg rfl rfl rfl) rfl ?_
   refine q_skip (wg rfl rfl rfl) rfl ?_
   refine q_skip (wg rfl rfl rfl) rfl ?_
   refine q_skip (wu rfl rfl) rfl ?_
   refine q_skip (wu rfl rfl) rfl ?_
   refine q_skip (wu rfl rfl) rfl ?_
   refine q_skip (wu rfl rfl) rfl ?_
   refine q_skip (wu rfl rfl) rfl ?_
   refine q_skip (wu rfl rfl) rfl ?_
   refine q_skip (wu rfl rfl) rfl ?_
   refine q_skip (wg rfl rfl rfl) rfl ?_
   refine q_val wn (r_pick rfl rfl) rfl ?_
   refine q_end (e_go hK11 ?_)
   refine c_true rfl rfl ?_
   refine c_region ?_
   refine l_val wn (r_move rfl) rfl ?_
   refine l_giveX (α := Unit) (PT := 61) [Rb 64 p s j1 n, .pub ErrV] [] (fun _ : Unit => .tuple #[]) (fun z5 => False) (fun z5 => [Rb 64 p s j1 n, .pub ErrV]) (fun z5 => [Rb 64 p s j1 n, .pub ErrV]) (fun f4 => f4 = (3, (j1 : Int))) (fun _ => rfl) (fun _ h => h.sel [0, 1] (by decide) rfl) (fun _ => rfl) wn rfl rfl Tryd.call32 rfl (fun w1 Pb hG => c_fail p s j1 n 3 Pb w1 hG) ?_ fun z5 hz6 => ?_
   · intro f4 hf4
     refine e_then_p (e_body_p fun w1 hM => ?_)
     exact hM.retPan f4 (by rw [hf4]; exact Pz.num_no hz1e rfl h4 (Pz.num_bad rfl hz3 hm (.inr (.inr (.inl h7)))))
   exact hz6.elim
 refine q_val (wg rfl rfl rfl) (r_move rfl) rfl ?_
 refine q_val (wg rfl rfl rfl) (r_nilCheck rfl) rfl ?_
 refine q_val (wg rfl rfl rfl) (r_fa rfl fld64_0) rfl ?_
 refine q_val (wg rfl rfl rfl) (r_lb 0 rfl rfl rfl flat9) rfl ?_
 refine q_val (wg rfl rfl rfl) (r_move rfl) rfl ?_
 refine q_val (wg rfl rfl rfl) (r_nilCheck rfl) rfl ?_
 refine q_val (wg rfl rfl rfl) (r_fa rfl fld64_1) rfl ?_
 refine q_val (wg rfl rfl rfl) (r_lb 0 rfl rfl rfl flat3) rfl ?_
 obtain ⟨c2, hc2⟩ : ∃ x, s[j1]? = some x := ⟨_, byte_at (by omega)⟩
 refine q_val (wg rfl rfl rfl) (r_sidx rfl rfl (by omega) hc2 Tryd.underlying9) rfl ?_
 refine q_val (wg rfl rfl rfl) (r_eql rfl rfl) rfl ?_
 refine q_val (wg rfl rfl rfl) (r_move rfl) rfl ?_
 refine q_case (t := 88) rfl (fun h8 => ?_) (fun h8 => ?_)
 · refine q_val (wg rfl rfl rfl) (r_move rfl) rfl ?_
   refine q_val (wg rfl rfl rfl) (r_move rfl) rfl ?_
   refine q_val (wg rfl rfl rfl) (r_nilCheck rfl) rfl ?_
   refine q_val (wg rfl rfl rfl) (r_fa rfl fld64_1) rfl ?_
   refine q_val (wg rfl rfl rfl) (r_lb 0 rfl rfl rfl flat3) rfl ?_
   refine q_val (wg rfl rfl rfl) (r_addn rfl rfl (by omega)) rfl ?_
   refine q_val (wg rfl rfl rfl) (r_gtr rfl rfl) rfl ?_
   refine q_val (wg rfl rfl rfl) (r_pick rfl rfl) rfl ?_
   refine q_val wn (r_pick rfl rfl) rfl ?_
   refine q_end (e_go hK11 ?_)
   refine c_cond rfl (fun h9 => ?_) (fun h9 => ?_)
   · refine c_region ?_
     refine l_val wn (r_move rfl) rfl ?_
     refine l_giveX (α := Unit) (PT := 61) [Rb 64 p s j1 n, .pub ErrV] [] (fun _ : Unit => .tuple #[]) (fun z6 => False) (fun z6 => [Rb 64 p s j1 n, .pub ErrV]) (fun z6 => [Rb 64 p s j1 n, .pub ErrV]) (fun f5 => f5 = (3, (j1 : Int))) (fun _ => rfl) (fun _ h => h.sel [0, 1] (by decide) rfl) (fun _ => rfl) wn rfl rfl Tryd.call32 rfl (fun w1 Pb hG => c_fail p s j1 n 3 Pb w1 hG) ?_ fun z6 hz7 => ?_
     · intro f5 hf5
       refine e_then_p (e_body_p fun w1 hM => ?_)
       exact hM.retPan f5 (by rw [hf5]; exact Pz.num_no hz1e rfl h4 (Pz.num_bad rfl hz3 hm (.inr (.inr (.inr ⟨Pz.at48 hc2 h8, h9⟩)))))
     exact hz7.elim
   refine c_skip (e_go hK10 ?_)
   refine c_seq fun _ hK12 => ?_
   refine c_region ?_
   refine l_val wn (r_move rfl) rfl ?_
   refine l_val wn (r_move rfl) rfl ?_
   refine l_val wn (r_nilCheck rfl) rfl ?_
   refine l_val wn (r_fa rfl fld64_1) rfl ?_
   refine l_st1 0 wn rfl rfl rfl rfl inf3 rfl rfl ?_
   refine l_nil (e_go hK12 ?_)
   refine c_seq fun _ hK13 => ?_
   refine c_region ?_
   refine l_val wn (r_move rfl) rfl ?_
   refine l_val wn (r_assign rfl) rfl ?_
   refine l_nil (e_go hK13 ?_)
   refine c_ret (e_ret1 (.inl rfl) Tryd.results79 (rv_tmp rfl) fun w1 hM => ?_)
   have h8 := Pz.num_good rfl hz3 h5 h6 h7 (fun g => h9 g.2)
   have h9 : Pz.num s least most ⟨i, n⟩ = .ok (z2.1, ⟨(Pz.run Pz.dig s j1), n⟩) := by rw [← h8.2]; exact Pz.num_ok hz1e rfl h4 h8.1
   exact hM.retX ((z2.1, ⟨(Pz.run Pz.dig s j1), n⟩) : Int × Pz.St) rfl ⟨h9, (Pz.num_fine _ _ hi).ok_ h9⟩ (fun h => h.sel [0, 1] (by decide) rfl)
 refine q_skip (wg rfl rfl rfl) rfl ?_
 refine q_skip (wg rfl rfl rfl) rfl ?_
 refine q_skip (wg rfl rfl rfl) rfl ?_
 refine q_skip (wg rfl rfl rfl) rfl ?_
 refine q_skip (wg rfl rfl rfl) rfl ?_
 refine q_skip (wg rfl rfl rfl) rfl ?_
 refine q_skip (wg rfl rfl rfl) rfl ?_
 refine q_val (wg rfl rfl rfl) (r_pick rfl rfl) rfl ?_
 refine q_val wn (r_pick rfl rfl) rfl ?_
 refine q_end (e_go hK11 ?_)
 refine c_false rfl rfl ?_
 refine c_skip (e_go hK10 ?_)
 refine c_seq fun _ hK14 => ?_
 refine c_region ?_
 refine l_val wn (r_move rfl) rfl ?_
 refine l_val wn (r_move rfl) rfl ?_
 refine l_val wn (r_nilCheck rfl) rfl ?_
 refine l_val wn (r_fa rfl fld64_1) rfl ?_
 refine l_st1 0 wn rfl rfl rfl rfl inf3 rfl rfl ?_
 refine l_nil (e_go hK14 ?_)
 refine c_seq fun _ hK15 => ?_
 refine c_region ?_
 refine l_val wn (r_move rfl) rfl ?_
 refine l_val wn (r_assign rfl) rfl ?_
 refine l_nil (e_go hK15 ?_)
 refine c_ret (e_ret1 (.inl rfl) Tryd.results79 (rv_tmp rfl) fun w1 hM => ?_)
 have h8 := Pz.num_good rfl hz3 h5 h6 h7 (Pz.not48 hc2 h8)
 have h9 : Pz.num s least most ⟨i, n⟩ = .ok (z2.1, ⟨(Pz.run Pz.dig s j1), n⟩) := by rw [← h8.2]; exact Pz.num_ok hz1e rfl h4 h8.1
 exact hM.retX ((z2.1, ⟨(Pz.run Pz.dig s j1), n⟩) : Int × Pz.St) rfl ⟨h9, (Pz.num_fine _ _ hi).ok_ h9⟩ (fun h => h.sel [0, 1] (by decide) rfl)

theorem c_node (p : Nat) (s : ByteArray) (i : Nat) (n : Int) (k m r : Int) (wd : ByteArray) (A4 : Option Addr) (l4 c4 : Nat) (A5 : Option Addr) (l5 c5 : Nat) (A6 : Option Addr) (l6 c6 : Nat) (Pb : Nat → Prop) (w : World) (hG : Mem w ⟨fpOf [Rb 64 p s i n, .pub ErrV], Pb⟩ [Rb 64 p s i n, .pub ErrV] w) (hi : i ≤ s.size) (hs : s.size ≤ 2000) (hn : 0 ≤ n ∧ n ≤ 100) :
    Calls Tryd.prog 51 #[.pointer (some ⟨p, 0, none⟩), .agg (List.toArray [iV k, iV m, iV r, .string wd, .slice A4 l4 c4, .slice A5 l5 c5, .slice A6 l6 c6])] w (RetX w [Rb 64 p s i n, .pub ErrV] Pb 61 (fun _ : Unit => .agg (List.toArray [iV k, iV m, iV r, .string wd, .slice A4 l4 c4, .slice A5 l5 c5, .slice A6 l6 c6])) (fun _ => n + 1 ≤ 100) (fun _ => [Rb 64 p s i (n + 1), .pub ErrV]) (fun f => Pz.node ⟨i, n⟩ = .no f)) := by
 refine fstart (N := 20) (vals := [.pointer (some ⟨p, 0, none⟩), .agg (List.toArray [iV k, iV m, iV r, .string wd, .slice A4 l4 c4, .slice A5 l5 c5, .slice A6 l6 c6])]) (S := Mem w ⟨fpOf [Rb 64 p s i n, .pub ErrV], Pb⟩ [Rb 64 p s i n, .pub ErrV]) Tryd.func51 rfl rfl rfl hG ?_
 refine c_seq fun _ hK1 => ?_
 refine c_region ?_
 refine l_box wn rfl rfl fun b3 => ?_
 refine l_alloc wn inf26 rfl fun b4 => ?_
 refine l_nil (e_go hK1 ?_)
 refine c_seq fun _ hK2 => ?_
 refine c_seq fun _ hK3 => ?_
 refine c_region ?_
 refine l_val wn (r_move rfl) rfl ?_
 refine l_val wn (r_nilCheck rfl) rfl ?_
 refine l_val wn (r_fa rfl fld64_2) rfl ?_
 refine l_val wn (r_lb 2 rfl rfl rfl flat3) rfl ?_
 refine l_val wn (r_addn rfl rfl (by omega)) rfl ?_
 refine l_val wn (r_nilCheck rfl) rfl ?_
 refine l_val wn (r_fa rfl fld64_2) rfl ?_
 refine l_st1 2 wn rfl rfl rfl rfl inf3 rfl rfl ?_
 refine l_nil (e_go hK3 ?_)
 refine c_seq fun _ hK4 => ?_
 refine c_region ?_
 refine l_val wn (r_move rfl) rfl ?_
 refine l_val wn (r_nilCheck rfl) rfl ?_
 refine l_val wn (r_fa rfl fld64_2) rfl ?_
 refine l_val wn (r_lb 2 rfl rfl rfl flat3) rfl ?_
 refine l_val wn (r_gtr rfl rfl) rfl ?_
 refine l_nil (e_go hK4 ?_)
 refine c_cond rfl (fun h1 => ?_) (fun h1 => ?_)
 · refine c_region ?_
   refine l_val wn (r_move rfl) rfl ?_
   refine l_giveX (α := Unit) (PT := 61) [Rb 64 p s i (n + 1), .pub ErrV] [.blk b4 Zx 26, .blk b3 [iV k, iV m, iV r, .string wd, .slice A4 l4 c4, .slice A5 l5 c5, .slice A6 l6 c6] 26] (fun _ : Unit => .tuple #[]) (fun z1 => False) (fun z1 => [Rb 64 p s i (n + 1), .pub ErrV]) (fun z1 => [Rb 64 p s i (n + 1), .pub ErrV, .blk b4 Zx 26, .blk b3 [iV k, iV m, iV r, .string wd, .slice A4 l4 c4, .slice A5 l5 c5, .slice A6 l6 c6] 26]) (fun f1 => f1 = (4, (i : Int))) (fun _ => rfl) (fun _ h => h.sel [2, 3, 0, 1] (by decide) rfl) (fun _ => rfl) wn rfl rfl Tryd.call32 rfl (fun w1 Pb hG => c_fail p s i (n + 1) 4 Pb w1 hG) ?_ fun z1 hz1 => ?_
   · intro f1 hf1
     refine e_then_p (e_body_p fun w1 hM => ?_)
     exact hM.retPan f1 (by rw [hf1]; exact Pz.node_no h1)
   exact hz1.elim
 refine c_skip (e_go hK2 ?_)
 refine c_seq fun _ hK5 => ?_
 refine c_region ?_
 refine l_val wn (r_lbn 1 [iV k, iV m, iV r, .string wd, .slice A4 l4 c4, .slice A5 l5 c5, .slice A6 l6 c6] rfl rfl rfl rfl agg26 inf26) rfl ?_
 refine l_stn 0 wn rfl rfl rfl inf26 rfl rfl rfl ?_
 refine l_nil (e_go hK5 ?_)
 refine c_ret (e_ret1 (.inl rfl) Tryd.results51 (rv_cell 0 rfl rfl agg26 inf26 rfl) fun w1 hM => ?_)
 exact hM.retX () rfl (by have := h1; omega) (fun h => h.sel [2, 3] (by decide) rfl)

theorem c_pmatch (p : Nat) (s : ByteArray) (i : Nat) (n : Int) (Pb : Nat → Prop) (w : World) (hG : Mem w ⟨fpOf [Rb 64 p s i n, .pub ErrV], Pb⟩ [Rb 64 p s i n, .pub ErrV] w) (hi : i ≤ s.size) (hs : s.size ≤ 2000) (hn : 0 ≤ n ∧ n ≤ 100) :
    Calls Tryd.prog 89 #[.pointer (some ⟨p, 0, none⟩)] w (RetX w [Rb 64 p s i n, .pub ErrV] Pb 61 (fun z : Match × Pz.St => .agg (matchE z.1).toArray) (fun z => Pz.match_ s ⟨i, n⟩ = .ok z ∧ Pz.Good s ⟨i, n⟩ z.2) (fun z => [Rb 64 p s z.2.at_ z.2.nd, .pub ErrV]) (fun f => Pz.match_ s ⟨i, n⟩ = .no f)) := by
 refine fstart (N := 27) (vals := [.pointer (some ⟨p, 0, none⟩)]) (S := Mem w ⟨fpOf [Rb 64 p s i n, .pub ErrV], Pb⟩ [Rb 64 p s i n, .pub ErrV]) Tryd.func89 rfl rfl rfl hG ?_
 refine c_seq fun _ hK1 => ?_
 refine c_region ?_
 refine l_alloc wn inf74 rfl fun b2 => ?_
 refine l_nil (e_go hK1 ?_)
 refine c_seq fun _ hK2 => ?_
 refine c_seq fun _ hK3 => ?_
 refine c_region ?_
 refine l_val wn (r_move rfl) rfl ?_
 refine l_give (α := (Bool × Nat)) [Rb 64 p s i n, .pub ErrV] [.blk b2 [iV 0, .string ⟨#[]⟩, .string ⟨#[]⟩] 74] (fun z : Bool × Nat => .bool z.1) (fun z1 => (Pz.eat s ⟨#[33]⟩ i = z1 ∧ i ≤ z1.2 ∧ z1.2 ≤ s.size)) (fun z1 => [Rb 64 p s z1.2 n, .pub ErrV]) _ (fun _ => rfl) (fun _ h => h.sel [1, 2, 0] (by decide) rfl) (fun _ => rfl) wn rfl rfl Tryd.call50 rfl (fun w1 Pb hG => c_eat p s i n ⟨#[33]⟩ Pb w1 hG (by omega) (by omega)) fun z1 hz1 => ?_
 obtain ⟨bo1, j1⟩ := z1
 have he1 : Pz.eat s ⟨#[33]⟩ i = (bo1, j1) := hz1.1
 have hz1a : i ≤ j1 := hz1.2.1
 have hz1b : j1 ≤ s.size := hz1.2.2
 refine l_as 5 (.bool bo1) [Rb 64 p s j1 n, .pub ErrV, .blk b2 [iV 0, .string ⟨#[]⟩, .string ⟨#[]⟩] 74] ?_
 refine l_nil (e_go hK3 ?_)
 refine c_condb rfl (fun h1 => ?_) (fun h1 => ?_)
 · refine c_seq fun _ hK4 => ?_
   refine c_region ?_
   refine l_val wn (r_move rfl) rfl ?_
   refine l_giveX (α := ByteArray × Pz.St) (PT := 61) [Rb 64 p s j1 n, .pub ErrV] [.blk b2 [iV 0, .string ⟨#[]⟩, .string ⟨#[]⟩] 74] (fun z : ByteArray × Pz.St => .string z.1) (fun z2 => Pz.name s ⟨j1, n⟩ = .ok z2 ∧ Pz.Good s ⟨j1, n⟩ z2.2) (fun z2 => [Rb 64 p s z2.2.at_ z2.2.nd, .pub ErrV]) _ (fun f1 => Pz.name s ⟨j1, n⟩ = .no f1) (fun _ => rfl) (fun _ h => h.sel [0, 1, 2] (by decide) rfl) (fun _ => rfl) wn rfl rfl Tryd.call87 rfl (fun w1 Pb hG => c_name p s j1 n  Pb w1 hG (by omega) (by omega) (by omega) ) ?_ fun z2 hz2 => ?_
   · intro f1 hf1
     refine e_then_p (e_then_p (e_body_p fun w1 hM => ?_))
     exact hM.retPan f1 (by first | (simp only [Pz.then_ok, Pz.then_no, Pz.St.go, if_true, if_false, Bool.false_eq_true, Bool.true_eq_false, not_true_eq_false, not_false_eq_true, ne_eq, and_true, true_and, and_false, false_and, and_self, not_and, Pz.match_, he1, h1, hf1]; done) | simp [Pz.then_ok, Pz.then_no, Pz.St.go, if_true, if_false, Bool.false_eq_true, Bool.true_eq_false, not_true_eq_false, not_false_eq_true, ne_eq, and_true, true_and, and_false, false_and, and_self, not_and, Pz.match_, he1, h1, hf1])
   obtain ⟨wd1, j2, m1⟩ := z2
   have he2 : Pz.name s ⟨j1, n⟩ = .ok (wd1, ⟨j2, m1⟩) := hz2.1
   have ga1 : j2 ≤ s.size := hz2.2.at_
   have gm1 : n ≤ m1 := hz2.2.mono
   have gn1 : m1 ≤ 100 := hz2.2.most (show n ≤ 100 by omega)
   have wz1 : wd1.size ≤ 12 := Pz.name_size (t := ⟨j1, n⟩) (show j1 ≤ _ by omega) he2
   refine l_as 7 (.string wd1) [Rb 64 p s j2 m1, .pub ErrV, .blk b2 [iV 0, .string ⟨#[]⟩, .string ⟨#[]⟩] 74] ?_
   refine l_val wn (r_build [iV 4, .string wd1, .string ⟨#[]⟩] pl74 inf74 rfl rfl) rfl ?_
   refine l_stn 2 wn rfl rfl rfl inf74 rfl rfl rfl ?_
   refine l_nil (e_go hK4 ?_)
   refine c_ret (e_then_r (e_ret1 (.inl rfl) Tryd.results89 (rv_cell 2 rfl rfl agg74 inf74 rfl) fun w1 hM => ?_))
   have h9 : Pz.match_ s ⟨i, n⟩ = .ok ((⟨4, wd1, ⟨#[]⟩⟩ : Match), ⟨j2, m1⟩) := by first | (simp only [Pz.then_ok, Pz.then_no, Pz.St.go, if_true, if_false, Bool.false_eq_true, Bool.true_eq_false, not_true_eq_false, not_false_eq_true, ne_eq, and_true, true_and, and_false, false_and, and_self, not_and, Pz.match_, he1, he2, h1]; done) | simp [Pz.then_ok, Pz.then_no, Pz.St.go, if_true, if_false, Bool.false_eq_true, Bool.true_eq_false, not_true_eq_false, not_false_eq_true, ne_eq, and_true, true_and, and_false, false_and, and_self, not_and, Pz.match_, he1, he2, h1]
   exact hM.retX (((⟨4, wd1, ⟨#[]⟩⟩ : Match), ⟨j2, m1⟩) : Match × Pz.St) rfl ⟨h9, (Pz.match_fine hi).ok_ h9⟩ (fun h => h.sel [0, 1] (by decide) rfl)
 have g1 : bo1 = false := by simpa using h1
 refine c_skip (e_go hK2 ?_)
 refine c_seq fun _ hK5 => ?_
 refine c_region ?_
 refine l_val wn (r_move rfl) rfl ?_
 refine l_giveX (α := ByteArray × Pz.St) (PT := 61) [Rb 64 p s j1 n, .pub ErrV] [.blk b2 [iV 0, .string ⟨#[]⟩, .string ⟨#[]⟩] 74] (fun z : ByteArray × Pz.St => .string z.1) (fun z3 => Pz.name s ⟨j1, n⟩ = .ok z3 ∧ Pz.Good s ⟨j1, n⟩ z3.2) (fun z3 => [Rb 64 p s z3.2.at_ z3.2.nd, .pub ErrV]) _ (fun f2 => Pz.name s ⟨j1, n⟩ = .no f2) (fun _ => rfl) (fun _ h => h.sel [0, 1, 2] (by decide) rfl) (fun _ => rfl) wn rfl rfl Tryd.call87 rfl (fun w1 Pb hG => c_name p s j1 n  Pb w1 hG (by omega) (by omega) (by omega) ) ?_ fun z3 hz3 => ?_
 · intro f2 hf2
   refine e_then_p (e_body_p fun w1 hM => ?_)
   exact hM.retPan f2 (by first | (simp only [Pz.then_ok, Pz.then_no, Pz.St.go, if_true, if_false, Bool.false_eq_true, Bool.true_eq_false, not_true_eq_false, not_false_eq_true, ne_eq, and_true, true_and, and_false, false_and, and_self, not_and, Pz.match_, he1, g1, h1, hf2]; done) | simp [Pz.then_ok, Pz.then_no, Pz.St.go, if_true, if_false, Bool.false_eq_true, Bool.true_eq_false, not_true_eq_false, not_false_eq_true, ne_eq, and_true, true_and, and_false, false_and, and_self, not_and, Pz.match_, he1, g1, h1, hf2])
 obtain ⟨wd2, j3, m2⟩ := z3
 have he3 : Pz.name s ⟨j1, n⟩ = .ok (wd2, ⟨j3, m2⟩) := hz3.1
 have ga2 : j3 ≤ s.size := hz3.2.at_
 have gm2 : n ≤ m2 := hz3.2.mono
 have gn2 : m2 ≤ 100 := hz3.2.most (show n ≤ 100 by omega)
 have wz2 : wd2.size ≤ 12 := Pz.name_size (t := ⟨j1, n⟩) (show j1 ≤ _ by omega) he3
 refine l_as 10 (.string wd2) [Rb 64 p s j3 m2, .pub ErrV, .blk b2 [iV 0, .string ⟨#[]⟩, .string ⟨#[]⟩] 74] ?_
 refine l_val wn (r_build [iV 3, .string wd2, .string ⟨#[]⟩] pl74 inf74 rfl rfl) rfl ?_
 refine l_alloc wn inf74 rfl fun b3 => ?_
 refine l_stn 0 wn rfl rfl rfl inf74 rfl rfl rfl ?_
 refine l_nil (e_go hK5 ?_)
 refine c_seq fun _ hK6 => ?_
 refine c_block ?_
 refine c_seq fun _ hK7 => ?_
 refine c_region ?_
 refine l_val wn (r_move rfl) rfl ?_
 refine l_give (α := (Bool × Nat)) [Rb 64 p s j3 m2, .pub ErrV] [.blk b3 [iV 3, .string wd2, .string ⟨#[]⟩] 74, .blk b2 [iV 0, .string ⟨#[]⟩, .string ⟨#[]⟩] 74] (fun z : Bool × Nat => .bool z.1) (fun z4 => (Pz.eat s ⟨#[33, 61]⟩ j3 = z4 ∧ j3 ≤ z4.2 ∧ z4.2 ≤ s.size)) (fun z4 => [Rb 64 p s z4.2 m2, .pub ErrV]) _ (fun _ => rfl) (fun _ h => h.sel [1, 2, 0, 3] (by decide) rfl) (fun _ => rfl) wn rfl rfl Tryd.call50 rfl (fun w1 Pb hG => c_eat p s j3 m2 ⟨#[33, 61]⟩ Pb w1 hG (by omega) (by omega)) fun z4 hz4 => ?_
 obtain ⟨bo2, j4⟩ := z4
 have he4 : Pz.eat s ⟨#[33, 61]⟩ j3 = (bo2, j4) := hz4.1
 have hz4a : j3 ≤ j4 := hz4.2.1
 have hz4b : j4 ≤ s.size := hz4.2.2
 refine l_as 14 (.bool bo2) [Rb 64 p s j4 m2, .pub ErrV, .blk b3 [iV 3, .string wd2, .string ⟨#[]⟩] 74, .blk b2 [iV 0, .string ⟨#[]⟩, .string ⟨#[]⟩] 74] ?_
 refine l_val wn (r_assign rfl) rfl ?_
 refine l_nil (e_go hK7 ?_)
 refine c_condb rfl (fun h2 => ?_) (fun h2 => ?_)
 · refine c_region ?_
   refine l_val wn (r_move rfl) rfl ?_
   refine l_giveX (α := ByteArray × Pz.St) (PT := 61) [Rb 64 p s j4 m2, .pub ErrV] [.blk b3 [iV 3, .string wd2, .string ⟨#[]⟩] 74, .blk b2 [iV 0, .string ⟨#[]⟩, .string ⟨#[]⟩] 74] (fun z : ByteArray × Pz.St => .string z.1) (fun z5 => Pz.name s ⟨j4, m2⟩ = .ok z5 ∧ Pz.Good s ⟨j4, m2⟩ z5.2) (fun z5 => [Rb 64 p s z5.2.at_ z5.2.nd, .pub ErrV]) _ (fun f3 => Pz.name s ⟨j4, m2⟩ = .no f3) (fun _ => rfl) (fun _ h => h.sel [0, 1, 2, 3] (by decide) rfl) (fun _ => rfl) wn rfl rfl Tryd.call87 rfl (fun w1 Pb hG => c_name p s j4 m2  Pb w1 hG (by omega) (by omega) (by omega) ) ?_ fun z5 hz5 => ?_
   · intro f3 hf3
     refine e_in_p (e_then_p (e_body_p fun w1 hM => ?_))
     exact hM.retPan f3 (by first | (simp only [Pz.then_ok, Pz.then_no, Pz.St.go, if_true, if_false, Bool.false_eq_true, Bool.true_eq_false, not_true_eq_false, not_false_eq_true, ne_eq, and_true, true_and, and_false, false_and, and_self, not_and, Pz.match_, he1, g1, he3, he4, h1, h2, hf3]; done) | simp [Pz.then_ok, Pz.then_no, Pz.St.go, if_true, if_false, Bool.false_eq_true, Bool.true_eq_false, not_true_eq_false, not_false_eq_true, ne_eq, and_true, true_and, and_false, false_and, and_self, not_and, Pz.match_, he1, g1, he3, he4, h1, h2, hf3])
   obtain ⟨wd3, j5, m3⟩ := z5
   have he5 : Pz.name s ⟨j4, m2⟩ = .ok (wd3, ⟨j5, m3⟩) := hz5.1
   have ga3 : j5 ≤ s.size := hz5.2.at_
   have gm3 : m2 ≤ m3 := hz5.2.mono
   have gn3 : m3 ≤ 100 := hz5.2.most (show m2 ≤ 100 by omega)
   have wz3 : wd3.size ≤ 12 := Pz.name_size (t := ⟨j4, m2⟩) (show j4 ≤ _ by omega) he5
   refine l_as 16 (.string wd3) [Rb 64 p s j5 m3, .pub ErrV, .blk b3 [iV 3, .string wd2, .string ⟨#[]⟩] 74, .blk b2 [iV 0, .string ⟨#[]⟩, .string ⟨#[]⟩] 74] ?_
   refine l_val wn (r_fa rfl fld74_0) rfl ?_
   refine l_st1 2 wn rfl rfl rfl rfl inf3 rfl rfl ?_
   refine l_val wn (r_fa rfl fld74_2) rfl ?_
   refine l_st1 2 wn rfl rfl rfl rfl inf9 rfl rfl ?_
   refine l_nil (e_in_n (e_go hK6 ?_))
   refine c_seq fun _ hK8 => ?_
   refine c_region ?_
   refine l_val wn (r_lbn 2 [iV 2, .string wd2, .string wd3] rfl rfl rfl rfl agg74 inf74) rfl ?_
   refine l_stn 3 wn rfl rfl rfl inf74 rfl rfl rfl ?_
   refine l_nil (e_go hK8 ?_)
   refine c_ret (e_ret1 (.inl rfl) Tryd.results89 (rv_cell 3 rfl rfl agg74 inf74 rfl) fun w1 hM => ?_)
   have h9 : Pz.match_ s ⟨i, n⟩ = .ok ((⟨2, wd2, wd3⟩ : Match), ⟨j5, m3⟩) := by first | (simp only [Pz.then_ok, Pz.then_no, Pz.St.go, if_true, if_false, Bool.false_eq_true, Bool.true_eq_false, not_true_eq_false, not_false_eq_true, ne_eq, and_true, true_and, and_false, false_and, and_self, not_and, Pz.match_, he1, g1, he3, he4, he5, h1, h2]; done) | simp [Pz.then_ok, Pz.then_no, Pz.St.go, if_true, if_false, Bool.false_eq_true, Bool.true_eq_false, not_true_eq_false, not_false_eq_true, ne_eq, and_true, true_and, and_false, false_and, and_self, not_and, Pz.match_, he1, g1, he3, he4, he5, h1, h2]
   exact hM.retX (((⟨2, wd2, wd3⟩ : Match), ⟨j5, m3⟩) : Match × Pz.St) rfl ⟨h9, (Pz.match_fine hi).ok_ h9⟩ (fun h => h.sel [0, 1] (by decide) rfl)
 have g2 : bo2 = false := by simpa using h2
 refine c_seq fun _ hK9 => ?_
 refine c_region ?_
 refine l_val wn (r_move rfl) rfl ?_
 refine l_give (α := (Bool × Nat)) [Rb 64 p s j4 m2, .pub ErrV] [.blk b3 [iV 3, .string wd2, .string ⟨#[]⟩] 74, .blk b2 [iV 0, .string ⟨#[]⟩, .string ⟨#[]⟩] 74] (fun z : Bool × Nat => .bool z.1) (fun z6 => (Pz.eat s ⟨#[61]⟩ j4 = z6 ∧ j4 ≤ z6.2 ∧ z6.2 ≤ s.size)) (fun z6 => [Rb 64 p s z6.2 m2, .pub ErrV]) _ (fun _ => rfl) (fun _ h => h.sel [0, 1, 2, 3] (by decide) rfl) (fun _ => rfl) wn rfl rfl Tryd.call50 rfl (fun w1 Pb hG => c_eat p s j4 m2 ⟨#[61]⟩ Pb w1 hG (by omega) (by omega)) fun z6 hz6 => ?_
 obtain ⟨bo3, j6⟩ := z6
 have he6 : Pz.eat s ⟨#[61]⟩ j4 = (bo3, j6) := hz6.1
 have hz6a : j4 ≤ j6 := hz6.2.1
 have hz6b : j6 ≤ s.size := hz6.2.2
 refine l_as 21 (.bool bo3) [Rb 64 p s j6 m2, .pub ErrV, .blk b3 [iV 3, .string wd2, .string ⟨#[]⟩] 74, .blk b2 [iV 0, .string ⟨#[]⟩, .string ⟨#[]⟩] 74] ?_
 refine l_val wn (r_assign rfl) rfl ?_
 refine l_nil (e_go hK9 ?_)
 refine c_condb rfl (fun h3 => ?_) (fun h3 => ?_)
 · refine c_region ?_
   refine l_val wn (r_move rfl) rfl ?_
   refine l_giveX (α := ByteArray × Pz.St) (PT := 61) [Rb 64 p s j6 m2, .pub ErrV] [.blk b3 [iV 3, .string wd2, .string ⟨#[]⟩] 74, .blk b2 [iV 0, .string ⟨#[]⟩, .string ⟨#[]⟩] 74] (fun z : ByteArray × Pz.St => .string z.1) (fun z7 => Pz.name s ⟨j6, m2⟩ = .ok z7 ∧ Pz.Good s ⟨j6, m2⟩ z7.2) (fun z7 => [Rb 64 p s z7.2.at_ z7.2.nd, .pub ErrV]) _ (fun f4 => Pz.name s ⟨j6, m2⟩ = .no f4) (fun _ => rfl) (fun _ h => h.sel [0, 1, 2, 3] (by decide) rfl) (fun _ => rfl) wn rfl rfl Tryd.call87 rfl (fun w1 Pb hG => c_name p s j6 m2  Pb w1 hG (by omega) (by omega) (by omega) ) ?_ fun z7 hz7 => ?_
   · intro f4 hf4
     refine e_in_p (e_then_p (e_body_p fun w1 hM => ?_))
     exact hM.retPan f4 (by first | (simp only [Pz.then_ok, Pz.then_no, Pz.St.go, if_true, if_false, Bool.false_eq_true, Bool.true_eq_false, not_true_eq_false, not_false_eq_true, ne_eq, and_true, true_and, and_false, false_and, and_self, not_and, Pz.match_, he1, g1, he3, he4, g2, he6, h1, h2, h3, hf4]; done) | simp [Pz.then_ok, Pz.then_no, Pz.St.go, if_true, if_false, Bool.false_eq_true, Bool.true_eq_false, not_true_eq_false, not_false_eq_true, ne_eq, and_true, true_and, and_false, false_and, and_self, not_and, Pz.match_, he1, g1, he3, he4, g2, he6, h1, h2, h3, hf4])
   obtain ⟨wd4, j7, m4⟩ := z7
   have he7 : Pz.name s ⟨j6, m2⟩ = .ok (wd4, ⟨j7, m4⟩) := hz7.1
   have ga4 : j7 ≤ s.size := hz7.2.at_
   have gm4 : m2 ≤ m4 := hz7.2.mono
   have gn4 : m4 ≤ 100 := hz7.2.most (show m2 ≤ 100 by omega)
   have wz4 : wd4.size ≤ 12 := Pz.name_size (t := ⟨j6, m2⟩) (show j6 ≤ _ by omega) he7
   refine l_as 23 (.string wd4) [Rb 64 p s j7 m4, .pub ErrV, .blk b3 [iV 3, .string wd2, .string ⟨#[]⟩] 74, .blk b2 [iV 0, .string ⟨#[]⟩, .string ⟨#[]⟩] 74] ?_
   refine l_val wn (r_fa rfl fld74_0) rfl ?_
   refine l_st1 2 wn rfl rfl rfl rfl inf3 rfl rfl ?_
   refine l_val wn (r_fa rfl fld74_2) rfl ?_
   refine l_st1 2 wn rfl rfl rfl rfl inf9 rfl rfl ?_
   refine l_nil (e_in_n (e_go hK6 ?_))
   refine c_seq fun _ hK10 => ?_
   refine c_region ?_
   refine l_val wn (r_lbn 2 [iV 1, .string wd2, .string wd4] rfl rfl rfl rfl agg74 inf74) rfl ?_
   refine l_stn 3 wn rfl rfl rfl inf74 rfl rfl rfl ?_
   refine l_nil (e_go hK10 ?_)
   refine c_ret (e_ret1 (.inl rfl) Tryd.results89 (rv_cell 3 rfl rfl agg74 inf74 rfl) fun w1 hM => ?_)
   have h9 : Pz.match_ s ⟨i, n⟩ = .ok ((⟨1, wd2, wd4⟩ : Match), ⟨j7, m4⟩) := by first | (simp only [Pz.then_ok, Pz.then_no, Pz.St.go, if_true, if_false, Bool.false_eq_true, Bool.true_eq_false, not_true_eq_false, not_false_eq_true, ne_eq, and_true, true_and, and_false, false_and, and_self, not_and, Pz.match_, he1, g1, he3, he4, g2, he6, he7, h1, h2, h3]; done) | simp [Pz.then_ok, Pz.then_no, Pz.St.go, if_true, if_false, Bool.false_eq_true, Bool.true_eq_false, not_true_eq_false, not_false_eq_true, ne_eq, and_true, true_and, and_false, false_and, and_self, not_and, Pz.match_, he1, g1, he3, he4, g2, he6, he7, h1, h2, h3]
   exact hM.retX (((⟨1, wd2, wd4⟩ : Match), ⟨j7, m4⟩) : Match × Pz.St) rfl ⟨h9, (Pz.match_fine hi).ok_ h9⟩ (fun h => h.sel [0, 1] (by decide) rfl)
 have g3 : bo3 = false := by simpa using h3
 refine c_skip (e_in_n (e_go hK6 ?_))
 refine c_seq fun _ hK11 => ?_
 refine c_region ?_
 refine l_val wn (r_lbn 2 [iV 3, .string wd2, .string ⟨#[]⟩] rfl rfl rfl rfl agg74 inf74) rfl ?_
 refine l_stn 3 wn rfl rfl rfl inf74 rfl rfl rfl ?_
 refine l_nil (e_go hK11 ?_)
 refine c_ret (e_ret1 (.inl rfl) Tryd.results89 (rv_cell 3 rfl rfl agg74 inf74 rfl) fun w1 hM => ?_)
 have h9 : Pz.match_ s ⟨i, n⟩ = .ok ((⟨3, wd2, ⟨#[]⟩⟩ : Match), ⟨j6, m2⟩) := by first | (simp only [Pz.then_ok, Pz.then_no, Pz.St.go, if_true, if_false, Bool.false_eq_true, Bool.true_eq_false, not_true_eq_false, not_false_eq_true, ne_eq, and_true, true_and, and_false, false_and, and_self, not_and, Pz.match_, he1, g1, he3, he4, g2, he6, g3, h1, h2, h3]; done) | simp [Pz.then_ok, Pz.then_no, Pz.St.go, if_true, if_false, Bool.false_eq_true, Bool.true_eq_false, not_true_eq_false, not_false_eq_true, ne_eq, and_true, true_and, and_false, false_and, and_self, not_and, Pz.match_, he1, g1, he3, he4, g2, he6, g3, h1, h2, h3]
 exact hM.retX (((⟨3, wd2, ⟨#[]⟩⟩ : Match), ⟨j6, m2⟩) : Match × Pz.St) rfl ⟨h9, (Pz.match_fine hi).ok_ h9⟩ (fun h => h.sel [0, 1] (by decide) rfl)

end Go.Proofs.YtffpglgboaigfaaDoor
