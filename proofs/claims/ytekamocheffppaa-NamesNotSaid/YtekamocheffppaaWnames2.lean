/-
  Walks: what each function hands back.
-/
import Derived.Test.YtekamocheffppaaWnames
namespace Go.Proofs.Ytekamocheffppaa
open Ex
set_option linter.unusedVariables false
set_option linter.unusedSimpArgs false
theorem c_alive4  (w : World)   :
    Calls Try.prog 18 #[] w (Ret w (.bool true)) := by
  refine fstart (N := 34) (vals := []) (S := Mem w no []) Try.func18 rfl rfl rfl (Mem.ofDats dn) ?_
  refine c_seq fun K1 hK1 => ?_
  refine c_region ?_
  refine l_val wn (r_assign rfl) rfl ?_
  refine l_nil (e_go hK1 ?_)
  refine c_seq fun K2 hK2 => ?_
  refine c_region ?_
  refine l_callL ([⟨⟨#[104, 111, 115, 116]⟩, ⟨#[97]⟩⟩] : List Label) wn rfl Try.call35 rfl (fun w1 hM => c_host ⟨#[97]⟩ w1) fun A1 cp1 hc1 hm1 hA1 => ?_
  refine l_callF wn rfl Try.call30 rfl (fun w1 hM => c_get _ ([⟨⟨#[104, 111, 115, 116]⟩, ⟨#[97]⟩⟩] : List Label) ⟨#[104, 111, 115, 116]⟩ w1 (RowSl encLabel hM 0 rfl)) ?_
  refine l_val wn (r_move rfl) rfl ?_
  refine l_val wn (r_extract rfl rfl) rfl ?_
  refine l_val wn (r_extract rfl rfl) rfl ?_
  refine l_val wn (r_assign rfl) rfl ?_
  refine l_val wn (r_assign rfl) rfl ?_
  refine l_nil (e_go hK2 ?_)
  refine c_seq fun K3 hK3 => ?_
  refine c_region ?_
  refine l_callL ([⟨⟨#[104, 111, 115, 116]⟩, ⟨#[97]⟩⟩] : List Label) wn rfl Try.call35 rfl (fun w1 hM => c_host ⟨#[97]⟩ w1) fun A2 cp2 hc2 hm2 hA2 => ?_
  refine l_callF wn rfl Try.call25 rfl (fun w1 hM => c_namesWrong _ ([⟨⟨#[104, 111, 115, 116]⟩, ⟨#[97]⟩⟩] : List Label) w1 (RowSl encLabel hM 0 rfl)) ?_
  refine l_val wn (r_eql rfl rfl) rfl ?_
  refine l_val wn (r_move rfl) rfl ?_
  refine l_litt (t := 11) rfl (by first | decide +kernel | (simp; decide +kernel)) ?_
  refine l_callL ([⟨⟨#[104, 111, 115, 116]⟩, ⟨#[97]⟩⟩] : List Label) (wg rfl rfl rfl) rfl Try.call35 rfl (fun w1 hM => c_host ⟨#[97]⟩ w1) fun A3 cp3 hc3 hm3 hA3 => ?_
  refine l_callL ([⟨⟨#[104, 111, 115, 116]⟩, ⟨#[98]⟩⟩] : List Label) (wg rfl rfl rfl) rfl Try.call35 rfl (fun w1 hM => c_host ⟨#[98]⟩ w1) fun A4 cp4 hc4 hm4 hA4 => ?_
  refine l_callF (wg rfl rfl rfl) rfl Try.call19 rfl (fun w1 hM => c_compare _ ([⟨⟨#[104, 111, 115, 116]⟩, ⟨#[97]⟩⟩] : List Label) _ ([⟨⟨#[104, 111, 115, 116]⟩, ⟨#[98]⟩⟩] : List Label) w1 (RowSl encLabel hM 1 rfl) (RowSl encLabel hM 0 rfl)) ?_
  refine l_val (wg rfl rfl rfl) (r_lss rfl rfl) rfl ?_
  refine l_val wn (r_pick rfl rfl) rfl ?_
  refine l_val wn (r_move rfl) rfl ?_
  refine l_litt (t := 17) rfl (by first | decide +kernel | (simp; decide +kernel)) ?_
  refine l_val (wg rfl rfl rfl) (r_move rfl) rfl ?_
  refine l_val wn (r_pick rfl rfl) rfl ?_
  refine l_val wn (r_move rfl) rfl ?_
  refine l_littb (t := 20) rfl (by first | decide +kernel | (simp; decide +kernel)) ?_
  refine l_val (wg rfl rfl rfl) (r_move rfl) rfl ?_
  refine l_val (wg rfl rfl rfl) (r_seql rfl rfl) rfl ?_
  refine l_val wn (r_pick rfl rfl) rfl ?_
  refine l_val wn (r_move rfl) rfl ?_
  refine l_litt (t := 24) rfl (by first | decide +kernel | (simp; decide +kernel)) ?_
  refine l_callL ([⟨⟨#[104, 111, 115, 116]⟩, ⟨#[97]⟩⟩] : List Label) (wg rfl rfl rfl) rfl Try.call35 rfl (fun w1 hM => c_host ⟨#[97]⟩ w1) fun A5 cp5 hc5 hm5 hA5 => ?_
  refine l_val (wg rfl rfl rfl) (r_build [.int .i64 1, .string ⟨#[104, 111, 115, 116]⟩, .string ⟨#[97]⟩] pl46 inf46 rfl rfl) rfl ?_
  refine l_bsL matchE ([(⟨1, ⟨#[104, 111, 115, 116]⟩, ⟨#[97]⟩⟩ : Match)] : List Match) (wg rfl rfl rfl) Try.underlying44 inf46 rfl rfl rfl rfl (by decide) (by decide) rfl fun b27 => ?_
  refine l_callF (wg rfl rfl rfl) rfl Try.call21 rfl (fun w1 hM => c_matches _ ([⟨⟨#[104, 111, 115, 116]⟩, ⟨#[97]⟩⟩] : List Label) _ ([(⟨1, ⟨#[104, 111, 115, 116]⟩, ⟨#[97]⟩⟩ : Match)] : List Match) w1 (RowSl encLabel hM 1 rfl) (RowSl encMatch hM 0 rfl)) ?_
  refine l_val wn (r_pick rfl rfl) rfl ?_
  refine l_val wn (r_move rfl) rfl ?_
  refine l_littb (t := 30) rfl (by first | decide +kernel | (simp; decide +kernel)) ?_
  refine l_callF (wg rfl rfl rfl) rfl Try.call23 rfl (fun w1 hM => c_named ⟨#[65]⟩ w1) ?_
  refine l_val (wg rfl rfl rfl) (r_notb rfl) rfl ?_
  refine l_val wn (r_pick rfl rfl) rfl ?_
  refine l_val wn (r_assign rfl) rfl ?_
  refine l_nil (e_go hK3 ?_)
  refine c_ret (e_ret1 (.inl rfl) Try.results18 (rv_tmp rfl) fun w1 hM => ?_)
  exact ret_ok (by first | rfl | decide +kernel) hM

end Go.Proofs.Ytekamocheffppaa
