/-
  Walks: what each function hands back.
-/
import Derived.Test.YtekamocheffppaaWcodec
import Derived.Test.YtekamocheffppaaPCodec
namespace Go.Proofs.Ytekamocheffppaa
open Ex
set_option linter.unusedVariables false
set_option linter.unusedSimpArgs false
theorem c_put (lv : Value) (l : List UInt8) (n : Int) (w : World) (hl : w.ownsRow 0 5 1 lv l.length (l.flatMap byteE)) (hn : -9223372036854775808 ≤ n ∧ n ≤ 9223372036854775807) (hl1 : l.length ≤ 140000000) :
    Calls Try.prog 31 #[lv, .int .i64 n] w (RetU w lv 5 1 byteE (l ++ Codec.putB n)) := by
  refine fstart (N := 28) (vals := [lv, .int .i64 n]) (S := Mem w (fun b => lv.ownBlock = some b) [Row lv 5 1 byteE l]) Try.func31 rfl rfl rfl (Mem.ownArg hl) ?_
  refine c_open 0 (l := l) rfl fun A0 cp0 hv0 hc0 hm0 hA0 => ?_
  subst hv0
  refine c_seq fun K1 hK1 => ?_
  refine c_region ?_
  refine l_val wn (r_assign rfl) rfl ?_
  refine l_nil (e_go hK1 ?_)
  refine c_seq fun K2 hK2 => ?_
  refine c_region ?_
  refine l_val wn (r_move rfl) rfl ?_
  refine l_val wn (r_conv rfl (by rw [Try.underlying3]; rfl) Try.underlying73) rfl ?_
  refine l_val wn (r_shl (j := 1) rfl rfl (by omega) (by omega)) rfl ?_
  refine l_val wn (r_assign rfl) rfl ?_
  refine l_nil (e_go hK2 ?_)
  refine c_cut [(0, .slice A0 l.length cp0), (5, .int .u64 (if n < 0 then (18446744073709551615 - (IntKind.wrap .u64 ((IntKind.wrap .u64 n) * 2 ^ 1))) else (IntKind.wrap .u64 ((IntKind.wrap .u64 n) * 2 ^ 1))))] (Mem w (fun b => (Value.slice A0 l.length cp0).ownBlock = some b) [Row (.slice A0 l.length cp0) 5 1 byteE l]) (fun K3 hK3 => ?_) ?_
  ·
    refine c_seq fun K4 hK4 => ?_
    refine c_region ?_
    refine l_val wn (r_move rfl) rfl ?_
    refine l_val wn (r_lss rfl rfl) rfl ?_
    refine l_nil (e_go hK4 ?_)
    refine c_cond rfl (fun h1 => ?_) (fun h1 => ?_)
    ·
      refine c_region ?_
      refine l_val wn (r_move rfl) rfl ?_
      refine l_val wn (r_cpl rfl (by first | omega | exact u64_rng _)) rfl ?_
      refine l_val wn (r_assign rfl) rfl ?_
      refine l_nil (e_cut hK3 (sc rfl (sc (by first | (simp only [if_pos h1]; done) | (simp only [if_pos h1]; rfl)) sn)) (fun _ h => h))
    ·
      refine c_skip (e_cut hK3 (sc rfl (sc (by first | (simp only [if_neg h1]; done) | (simp only [if_neg h1]; rfl)) sn)) (fun _ h => h))
  ·
    refine c_seq fun K5 hK5 => ?_
    refine c_block ?_
    refine c_loop3 (fun (bs : List UInt8) (u : Nat) (vr : Value) => [(0, vr), (5, .int .u64 ((u : Nat) : Int))]) (fun (bs : List UInt8) (u : Nat) (vr : Value) => [Row vr 5 1 byteE bs]) (fun (bs : List UInt8) (u : Nat) (vr : Value) => l ++ Codec.digs (Codec.zig n) = bs ++ Codec.digs u) (fun (bs : List UInt8) (u : Nat) (vr : Value) => u) l (Codec.zig n) (.slice A0 l.length cp0) (sc rfl (sc (ji (by first | exact Codec.zig_eq hn | omega)) sn)) (fun _ h => h) ?_ (fun bs u vr hI1 => ?_)
    · rfl
    ·
      have hln := congrArg List.length hI1
      simp only [List.length_append] at hln
      have hz := Codec.putB_len hn
      unfold Codec.putB at hz
      refine c_open 0 (l := bs) rfl fun A1 cp1 hv1 hc1 hm1 hA1 => ?_
      subst hv1
      refine c_seq fun K6 hK6 => ?_
      refine c_seq fun K7 hK7 => ?_
      refine c_region ?_
      refine l_val wn (r_move rfl) rfl ?_
      refine l_val wn (r_geq rfl rfl) rfl ?_
      refine l_nil (e_go hK7 ?_)
      refine c_cond rfl (fun h2 => ?_) (fun h2 => ?_)
      ·
        refine c_skip (e_go hK6 ?_)
        refine c_block ?_
        refine c_seq fun K8 hK8 => ?_
        refine c_region ?_
        refine l_val wn (r_move rfl) rfl ?_
        refine l_val wn (r_move rfl) rfl ?_
        refine l_val wn (r_low8 (a := u) rfl (by rw [Try.underlying73]; rfl) Try.underlying5) rfl ?_
        refine l_val wn (r_or8 (a := (UInt8.ofNat u)) (b := 128) rfl rfl (by decide)) rfl ?_
        refine l_bsL byteE ([((UInt8.ofNat u) ||| 128)] : List UInt8) wn Try.underlying23 inf5 rfl rfl rfl rfl (by decide) (by decide) rfl fun b19 => ?_
        refine l_app 1 bs ([((UInt8.ofNat u) ||| 128)] : List UInt8) encByte wn rfl rfl rfl (fun _ hM => (RowSl encByte hM 0 rfl)) Try.underlying23 inf5 rfl rfl (by simp only [List.length_append, List.length_cons, List.length_nil]; omega) rfl fun A2 cp2 hc2 hm2 hA2 => ?_
        refine l_val wn (r_assign rfl) rfl ?_
        refine l_nil (e_go hK8 ?_)
        refine c_region ?_
        refine l_val wn (r_move rfl) rfl ?_
        refine l_val wn (r_shr (u := u) (j := 7) rfl rfl (by omega) (by omega)) rfl ?_
        refine l_val wn (r_assign rfl) rfl ?_
        refine l_nil (e_in_n (e_round3 (bs ++ ([((UInt8.ofNat u) ||| 128)] : List UInt8)) (u / 2 ^ 7) (.slice A2 ((bs ++ ([((UInt8.ofNat u) ||| 128)] : List UInt8)).length) cp2) (sc rfl (sc rfl sn)) (fun _ h => (h.sel [1] (by decide) rfl)) ?_ ?_))
        · rw [hI1, Codec.digs_more (by omega), List.append_assoc]; rfl
        · omega
      ·
        refine c_exit (e_then_x (e_loop3_x (e_in_hit (e_go hK5 ?_))))
        refine c_seq fun K9 hK9 => ?_
        refine c_region ?_
        refine l_val wn (r_move rfl) rfl ?_
        refine l_val wn (r_move rfl) rfl ?_
        refine l_val wn (r_low8 (a := u) rfl (by rw [Try.underlying73]; rfl) Try.underlying5) rfl ?_
        refine l_bsL byteE ([(UInt8.ofNat u)] : List UInt8) wn Try.underlying23 inf5 rfl rfl rfl rfl (by decide) (by decide) rfl fun b26 => ?_
        refine l_app 1 bs ([(UInt8.ofNat u)] : List UInt8) encByte wn rfl rfl rfl (fun _ hM => (RowSl encByte hM 0 rfl)) Try.underlying23 inf5 rfl rfl (by simp only [List.length_append, List.length_cons, List.length_nil]; omega) rfl fun A3 cp3 hc3 hm3 hA3 => ?_
        refine l_val wn (r_assign rfl) rfl ?_
        refine l_nil (e_go hK9 ?_)
        refine c_ret (e_ret1 (.inl rfl) Try.results31 (rv_tmp rfl) fun w1 hM => ?_)
        exact hM.retU' 1 rfl (by rw [Codec.putB, hI1, Codec.digs_small (by omega)])

theorem c_bytes (lv : Value) (l : List Sample) (w : World) (hl : FlatSl (In w) 2 sampleE lv l w)  :
    Calls Try.prog 10 #[lv] w (RetLT w 5 1 byteE (Codec.bytesF l) (fun r => .tuple [r, .agg (faultE (Codec.wrong l)).toArray].toArray)) := by
  obtain ⟨lA, lc, rfl, hlc, hlm, hlA⟩ := hl.form
  refine fstart (N := 50) (vals := [.slice lA l.length lc]) (S := Mem w no [slO (In w) 2 sampleE (.slice lA l.length lc) l]) Try.func10 rfl rfl rfl (Mem.ofDats (dc (dl hl) dn)) ?_
  refine c_seq fun K1 hK1 => ?_
  refine c_region ?_
  refine l_val wn (r_assign rfl) rfl ?_
  refine l_alloc wn inf26 rfl fun b3 => ?_
  refine l_nil (e_go hK1 ?_)
  refine c_seq fun K2 hK2 => ?_
  refine c_seq fun K3 hK3 => ?_
  refine c_region ?_
  refine l_val wn (r_move rfl) rfl ?_
  refine l_callF wn rfl Try.call12 rfl (fun w1 hM => c_codecWrong _ l w1 (hM.sl 1 rfl)) ?_
  refine l_alloc wn inf26 rfl fun b4 => ?_
  refine l_stn 0 wn rfl rfl rfl inf26 rfl rfl rfl ?_
  refine l_nil (e_go hK3 ?_)
  refine c_seq fun K4 hK4 => ?_
  refine c_region ?_
  refine l_val wn (r_fa rfl fld26_0) rfl ?_
  refine l_val wn (r_lb 0 rfl rfl rfl flat24) rfl ?_
  refine l_val wn (r_neq rfl rfl) rfl ?_
  refine l_nil (e_go hK4 ?_)
  refine c_cond rfl (fun h1 => ?_) (fun h1 => ?_)
  ·
    refine c_seq fun K5 hK5 => ?_
    refine c_quietT 2 mix (by kernel_rfl) (fun _ h => h.drew) fun _ hT1 => ?_
    refine q_val wn (r_lbn 0 [.int .i64 ((Codec.wrong l).err), .int .i64 ((Codec.wrong l).at_)] rfl rfl rfl rfl agg26 inf26) rfl ?_
    refine q_val wn (r_assign rfl) rfl ?_
    refine q_tail hT1 ?_
    refine l_stn 1 wn rfl rfl rfl inf26 rfl rfl rfl ?_
    refine l_nil (e_go hK5 ?_)
    refine c_ret (e_then_r (e_ret2 (.inl rfl) Try.results10 (rv_tmp rfl) (rv_cell 1 rfl rfl agg26 inf26 rfl) fun w1 hM => ?_))
    have hM := hM.nilRow UInt8 5 1 byteE
    exact hM.retLT 0 rfl (by rw [Codec.bytesF, if_neg h1]) rfl
  ·
    have hrt := Codec.right_of (Classical.not_not.1 h1)
    have hrg := hrt.rng
    have hln := hrt.len
    have hpl := fun k => Codec.preB_len (k := k) hrg hln
    refine c_skip (e_go hK2 ?_)
    refine c_seq fun K6 hK6 => ?_
    refine c_region ?_
    refine l_val wn (r_move rfl) rfl ?_
    refine l_val wn (r_len rfl Try.underlying22) rfl ?_
    refine l_nilRow (byteE : UInt8 → List Value) 5 1 ?_
    refine l_callU 0 (([] : List UInt8) ++ Codec.putB (l.length : Int)) rfl wn rfl Try.call31 rfl (fun w1 hM => c_put _ ([] : List UInt8) (l.length : Int) w1 (hM.row (i := 0) rfl) (by omega) (by first | omega | exact Codec.len_app (by omega) (by omega) | simp)) fun A1 cp1 hc1 hm1 hA1 => ?_
    refine l_val wn (r_assign rfl) rfl ?_
    refine l_nil (e_go hK6 ?_)
    refine c_seq fun K7 hK7 => ?_
    refine c_region ?_
    refine l_val wn (r_assign rfl) rfl ?_
    refine l_val wn (r_assign rfl) rfl ?_
    refine l_val wn (r_assign rfl) rfl ?_
    refine l_nil (e_go hK7 ?_)
    refine c_seq fun K8 hK8 => ?_
    refine c_seq fun K9 hK9 => ?_
    refine c_region ?_
    refine l_val wn (r_move rfl) rfl ?_
    refine l_val wn (r_len rfl Try.underlying22) rfl ?_
    refine l_val wn (r_move rfl) rfl ?_
    refine l_nil (e_go hK9 ?_)
    refine c_block ?_
    refine c_loop2 (fun (k : Nat) (vr : Value) => [(3, .pointer (some ⟨b3, 0, none⟩)), (5, vr), (6, .int .i64 ((Codec.at3 (l.take k)).last)), (7, .int .i64 ((Codec.at3 (l.take k)).step)), (8, .int .i64 ((Codec.at3 (l.take k)).value)), (21, .slice lA l.length lc), (22, .int .i64 (l.length : Int)), (23, .int .i64 (k : Int))]) (fun (k : Nat) (vr : Value) => [Row vr 5 1 byteE (Codec.preB l k), .blk b4 [.int .i64 ((Codec.wrong l).err), .int .i64 ((Codec.wrong l).at_)] 26, .blk b3 [.int .i64 0, .int .i64 0] 26, slO (In w) 2 sampleE (.slice lA l.length lc) l]) (fun (k : Nat) (vr : Value) => k ≤ l.length) (fun (k : Nat) (vr : Value) => l.length - k) 0 (.slice A1 ((([] : List UInt8) ++ Codec.putB (l.length : Int)).length) cp1) (sc rfl (sc rfl (sc (ji (by first | omega | (rw [Codec.at3_succ hs1]; rfl) | rfl)) (sc (ji (by first | omega | (rw [Codec.at3_succ hs1]; rfl) | rfl)) (sc (ji (by first | omega | (rw [Codec.at3_succ hs1]; rfl) | rfl)) (sc rfl (sc rfl (sc (ji (by first | omega | (rw [Codec.at3_succ hs1]; rfl) | rfl)) sn)))))))) (fun _ h => by rw [Codec.preB_zero]; exact h) ?_ (fun k vr hI1 => ?_)
    · omega
    ·
      have hb3 := Codec.at3_bound (l := l.take k) (fun x hx => hrg x (List.mem_of_mem_take hx))
      have hpk := hpl k
      refine c_open 0 (l := (Codec.preB l k)) rfl fun A2 cp2 hv1 hc2 hm2 hA2 => ?_
      subst hv1
      refine c_seq fun K10 hK10 => ?_
      refine c_region ?_
      refine l_val wn (r_lss rfl rfl) rfl ?_
      refine l_nil (e_go hK10 ?_)
      refine c_seq fun K11 hK11 => ?_
      refine c_cond rfl (fun h2 => ?_) (fun h2 => ?_)
      ·
        refine c_skip (e_go hK11 ?_)
        refine c_seq fun K12 hK12 => ?_
        refine c_block ?_
        refine c_seq fun K13 hK13 => ?_
        refine c_region ?_
        obtain ⟨ad1, hd1⟩ := hlA (ne_nil (i := k) (by first | omega | decide | (simp only [List.length_cons, List.length_nil, List.length_append, List.length_take, List.length_set]; omega)))
        refine l_val wn (r_ia (i := k) rfl hd1 rfl (by omega) (by first | omega | decide | (simp only [List.length_cons, List.length_nil, List.length_append, List.length_take, List.length_set]; omega)) Try.underlying22 inf36) rfl ?_
        obtain ⟨s1, hs1⟩ : ∃ x, l[k]? = some x := ⟨_, List.getElem?_eq_getElem (by first | omega | decide | (simp only [List.length_cons, List.length_nil, List.length_append, List.length_take, List.length_set]; omega))⟩
        have hrs1 := hrg s1 (List.mem_of_getElem? hs1)
        refine l_val wn (r_eln 3 [.int .i64 s1.time, .int .i64 s1.value] rfl rfl hd1 hs1 rfl rfl agg36 inf36) rfl ?_
        refine l_alloc wn inf36 rfl fun b10 => ?_
        refine l_stn 0 wn rfl rfl rfl inf36 rfl rfl rfl ?_
        refine l_nil (e_go hK13 ?_)
        refine c_seq fun K14 hK14 => ?_
        refine c_region ?_
        refine l_val wn (r_fa rfl fld36_0) rfl ?_
        refine l_val wn (r_lb 0 rfl rfl rfl flat3) rfl ?_
        refine l_val wn (r_move rfl) rfl ?_
        refine l_val wn (r_subn rfl rfl (by omega)) rfl ?_
        refine l_val wn (r_assign rfl) rfl ?_
        refine l_nil (e_go hK14 ?_)
        refine c_seq fun K15 hK15 => ?_
        refine c_region ?_
        refine l_val wn (r_move rfl) rfl ?_
        refine l_val wn (r_move rfl) rfl ?_
        refine l_val wn (r_move rfl) rfl ?_
        refine l_val wn (r_subn rfl rfl (by omega)) rfl ?_
        refine l_callU 1 ((Codec.preB l k) ++ Codec.putB ((s1.time - (Codec.at3 (l.take k)).last) - (Codec.at3 (l.take k)).step)) rfl wn rfl Try.call31 rfl (fun w1 hM => c_put _ (Codec.preB l k) ((s1.time - (Codec.at3 (l.take k)).last) - (Codec.at3 (l.take k)).step) w1 (hM.row (i := 1) rfl) (by omega) (by first | omega | exact Codec.len_app (by omega) (by omega) | simp)) fun A3 cp3 hc3 hm3 hA3 => ?_
        refine l_val wn (r_assign rfl) rfl ?_
        refine l_nil (e_go hK15 ?_)
        refine c_seq fun K16 hK16 => ?_
        refine c_region ?_
        refine l_val wn (r_move rfl) rfl ?_
        refine l_val wn (r_fa rfl fld36_1) rfl ?_
        refine l_val wn (r_lb 0 rfl rfl rfl flat3) rfl ?_
        refine l_val wn (r_move rfl) rfl ?_
        refine l_val wn (r_subn rfl rfl (by omega)) rfl ?_
        refine l_callU 1 (((Codec.preB l k) ++ Codec.putB ((s1.time - (Codec.at3 (l.take k)).last) - (Codec.at3 (l.take k)).step)) ++ Codec.putB (s1.value - (Codec.at3 (l.take k)).value)) rfl wn rfl Try.call31 rfl (fun w1 hM => c_put _ ((Codec.preB l k) ++ Codec.putB ((s1.time - (Codec.at3 (l.take k)).last) - (Codec.at3 (l.take k)).step)) (s1.value - (Codec.at3 (l.take k)).value) w1 (hM.row (i := 1) rfl) (by omega) (by first | omega | exact Codec.len_app (by omega) (by omega) | simp)) fun A4 cp4 hc4 hm4 hA4 => ?_
        refine l_val wn (r_assign rfl) rfl ?_
        refine l_nil (e_go hK16 ?_)
        refine c_quiet mix (by kernel_rfl) (fun _ h => h.drew) ?_
        refine q_val wn (r_fa rfl fld36_0) rfl ?_
        refine q_val wn (r_lb 0 rfl rfl rfl flat3) rfl ?_
        refine q_val wn (r_move rfl) rfl ?_
        refine q_val wn (r_fa rfl fld36_1) rfl ?_
        refine q_val wn (r_lb 0 rfl rfl rfl flat3) rfl ?_
        refine q_val wn (r_assign rfl) rfl ?_
        refine q_val wn (r_assign rfl) rfl ?_
        refine q_val wn (r_assign rfl) rfl ?_
        refine q_end (e_in_n (e_go hK12 ?_))
        refine c_region ?_
        refine l_val wn (r_addn rfl rfl (by omega)) rfl ?_
        refine l_val wn (r_move rfl) rfl ?_
        refine l_nil (e_round2 (k + 1) (.slice A4 ((((Codec.preB l k) ++ Codec.putB ((s1.time - (Codec.at3 (l.take k)).last) - (Codec.at3 (l.take k)).step)) ++ Codec.putB (s1.value - (Codec.at3 (l.take k)).value)).length) cp4) (sc rfl (sc rfl (sc (ji (by first | omega | (rw [Codec.at3_succ hs1]; rfl) | rfl)) (sc (ji (by first | omega | (rw [Codec.at3_succ hs1]; rfl) | rfl)) (sc (ji (by first | omega | (rw [Codec.at3_succ hs1]; rfl) | rfl)) (sc rfl (sc rfl (sc (ji (by first | omega | (rw [Codec.at3_succ hs1]; rfl) | rfl)) sn)))))))) (fun _ h => by rw [Codec.preB_succ hs1]; exact (h.sel [1, 2, 3, 4] (by decide) rfl)) ?_ ?_)
        · omega
        · omega
      ·
        refine c_exit (e_then_x (e_loop2_x (e_in_hit (e_go hK8 ?_))))
        refine c_seq fun K17 hK17 => ?_
        refine c_region ?_
        refine l_val wn (r_move rfl) rfl ?_
        refine l_val wn (r_build [.int .i64 0, .int .i64 0] pl26 inf26 rfl rfl) rfl ?_
        refine l_val wn (r_assign rfl) rfl ?_
        refine l_stn 2 wn rfl rfl rfl inf26 rfl rfl rfl ?_
        refine l_nil (e_go hK17 ?_)
        refine c_ret (e_ret2 (.inl rfl) Try.results10 (rv_tmp rfl) (rv_cell 2 rfl rfl agg26 inf26 rfl) fun w1 hM => ?_)
        exact hM.retLT 0 rfl (by rw [Codec.bytesF, if_pos (Classical.not_not.1 h1), Codec.preB_end (by omega)]) (by rw [Codec.wrong_zero (Classical.not_not.1 h1)]; rfl)

theorem c_num (p : Nat) (rv : Value) (r : List UInt8) (ok : Bool) (P0 : Nat → Prop) (w : World) (hp : w.heap[p]? = some (.cells [rv, .bool ok].toArray 61 (0, 0))) (hP : ∀ b, P0 b → b < w.heap.size ∧ b ≠ p) (hr : FlatSl P0 1 byteE rv r w)  :
    Calls Try.prog 33 #[.pointer (some ⟨p, 0, none⟩)] w (RetPS w P0 p 61 1 byteE (.int .i64 (Codec.numV r)) (Codec.numR r) [.bool (ok && Codec.numOk r)]) := by
  obtain ⟨rA, rc, rfl, hrc, hrm, hrA⟩ := hr.form
  refine fstart (N := 59) (vals := [.pointer (some ⟨p, 0, none⟩)]) (S := Mem w ⟨(· = p), P0⟩ [.blk p [.slice rA r.length rc, .bool ok] 61, slP 1 byteE (.slice rA r.length rc) r]) Try.func33 rfl rfl rfl (Mem.ptrArg hp hP (FlatSl.loc _ _ _ _) hr) ?_
  refine c_seq fun K1 hK1 => ?_
  refine c_region ?_
  refine l_val wn (r_assign rfl) rfl ?_
  refine l_nil (e_go hK1 ?_)
  refine c_seq fun K2 hK2 => ?_
  refine c_region ?_
  refine l_val wn (r_assign rfl) rfl ?_
  refine l_nil (e_go hK2 ?_)
  refine c_seq fun K3 hK3 => ?_
  refine c_seq fun K4 hK4 => ?_
  refine c_region ?_
  refine l_val wn (r_move rfl) rfl ?_
  refine l_val wn (r_nilCheck rfl) rfl ?_
  refine l_val wn (r_fa rfl fld61_0) rfl ?_
  refine l_val wn (r_lb 0 rfl rfl rfl flat23) rfl ?_
  refine l_val wn (r_len rfl Try.underlying23) rfl ?_
  refine l_val wn (r_move rfl) rfl ?_
  refine l_nil (e_go hK4 ?_)
  refine c_block ?_
  refine c_loop2 (fun (k : Nat) (u : Nat) => [(0, .pointer (some ⟨p, 0, none⟩)), (3, .int .u64 ((u : Nat) : Int)), (9, .slice rA r.length rc), (10, .int .i64 (r.length : Int)), (11, .int .i64 (k : Int))]) (fun (k : Nat) (u : Nat) => [.blk p [.slice rA r.length rc, .bool ok] 61, slP 1 byteE (.slice rA r.length rc) r]) (fun (k : Nat) (u : Nat) => k ≤ r.length ∧ k ≤ 6 ∧ u < 2 ^ (7 * k) ∧ Codec.dec 0 0 r = Codec.dec k u (r.drop k)) (fun (k : Nat) (u : Nat) => r.length - k) 0 0 (sc rfl (sc (ji (by omega)) (sc rfl (sc rfl (sc (ji (by omega)) sn))))) (fun _ h => h) ?_ (fun k u hI1 => ?_)
  · simp
  ·
    refine c_seq fun K5 hK5 => ?_
    refine c_region ?_
    refine l_val wn (r_lss rfl rfl) rfl ?_
    refine l_nil (e_go hK5 ?_)
    refine c_seq fun K6 hK6 => ?_
    refine c_cond rfl (fun h1 => ?_) (fun h1 => ?_)
    ·
      refine c_skip (e_go hK6 ?_)
      refine c_seq fun K7 hK7 => ?_
      refine c_block ?_
      refine c_seq fun K8 hK8 => ?_
      refine c_region ?_
      refine l_val wn (r_move rfl) rfl ?_
      obtain ⟨ad1, hd1⟩ := hrA (ne_nil (i := k) (by first | omega | decide | (simp only [List.length_cons, List.length_nil, List.length_append, List.length_take, List.length_set]; omega)))
      refine l_val wn (r_ia (i := k) rfl hd1 rfl (by omega) (by first | omega | decide | (simp only [List.length_cons, List.length_nil, List.length_append, List.length_take, List.length_set]; omega)) Try.underlying23 inf5) rfl ?_
      obtain ⟨s1, hs1⟩ : ∃ x, r[k]? = some x := ⟨_, List.getElem?_eq_getElem (by first | omega | decide | (simp only [List.length_cons, List.length_nil, List.length_append, List.length_take, List.length_set]; omega))⟩
      have hc127 : (s1 &&& 127).toNat < 128 := by rw [Codec.and127]; omega
      have hpw := Codec.pow_small (k := k)
      refine l_val wn (r_pl 1 rfl rfl hd1 hs1 rfl flat5) rfl ?_
      refine l_val wn (r_assign rfl) rfl ?_
      refine l_val wn (r_assign rfl) rfl ?_
      refine l_nil (e_go hK8 ?_)
      refine c_seq fun K9 hK9 => ?_
      refine c_seq fun K10 hK10 => ?_
      refine c_region ?_
      refine l_val wn (r_move rfl) rfl ?_
      refine l_val wn (r_eql rfl rfl) rfl ?_
      refine l_nil (e_go hK10 ?_)
      refine c_cond rfl (fun h2 => ?_) (fun h2 => ?_)
      ·
        refine c_exit (e_then_x (e_in_miss rfl (e_then_x (e_loop2_x (e_in_hit (e_go hK3 ?_))))))
        refine c_seq fun K11 hK11 => ?_
        refine c_region ?_
        refine l_val wn (r_move rfl) rfl ?_
        refine l_val wn (r_nilCheck rfl) rfl ?_
        refine l_val wn (r_fa rfl fld61_1) rfl ?_
        refine l_st1 0 wn rfl rfl rfl rfl inf4 rfl rfl ?_
        refine l_nil (e_go hK11 ?_)
        refine c_seq fun K12 hK12 => ?_
        refine c_region ?_
        refine l_val wn (r_assign rfl) rfl ?_
        refine l_nil (e_go hK12 ?_)
        refine c_ret (e_ret1 (.inl rfl) Try.results33 (rv_tmp rfl) fun w1 hM => ?_)
        have hd : Codec.dec 0 0 r = none := by rw [hI1.2.2.2, Codec.dec_step hs1]; first | (rw [if_pos (by omega)]; done) | (rw [if_neg (by omega), if_neg (by omega), if_pos (by omega)]; done)
        exact hM.retPS 0 1 rfl rfl (by simp [Codec.numR, hd]) (by simp [Codec.numV, hd]) (by simp [Codec.numOk, hd])
      ·
        have hp5 := Codec.pow_small (k := k) (by omega)
        have hm5 := Nat.mul_le_mul (show (s1 &&& 127).toNat ≤ 127 by omega) hp5
        have hu5 := Codec.dec_lt hI1.2.2.1 hc127
        have hp6 : 2 ^ (7 * (k + 1)) ≤ 4398046511104 := Nat.le_trans (Nat.pow_le_pow_right (by decide) (by omega : 7 * (k + 1) ≤ 42)) (by decide)
        refine c_skip (e_go hK9 ?_)
        refine c_seq fun K13 hK13 => ?_
        refine c_region ?_
        refine l_val wn (r_move rfl) rfl ?_
        refine l_val wn (r_move rfl) rfl ?_
        refine l_val wn (r_and8 (a := s1) (b := 127) rfl rfl (by decide)) rfl ?_
        refine l_val wn (r_up64 (a := (s1 &&& 127)) rfl (by rw [Try.underlying5]; rfl) Try.underlying73) rfl ?_
        refine l_val wn (r_move rfl) rfl ?_
        refine l_val wn (r_muln rfl rfl (by omega)) rfl ?_
        refine l_val wn (r_shlN (a := (s1 &&& 127).toNat) (j := (7 * k)) rfl rfl (by omega) (by omega) (by first | omega | (have := Nat.pow_pos (n := 7 * k) (show 0 < 2 by decide); omega))) rfl ?_
        refine l_val wn (r_or (a := u) (b := (s1 &&& 127).toNat) (j := (7 * k)) rfl rfl rfl (by first | omega | (have := Nat.pow_pos (n := 7 * k) (show 0 < 2 by decide); omega)) (by first | omega | (have := Nat.pow_pos (n := 7 * k) (show 0 < 2 by decide); omega))) rfl ?_
        refine l_val wn (r_assign rfl) rfl ?_
        refine l_nil (e_go hK13 ?_)
        refine c_seq fun K14 hK14 => ?_
        refine c_seq fun K15 hK15 => ?_
        refine c_region ?_
        refine l_val wn (r_move rfl) rfl ?_
        refine l_val wn (r_geq rfl rfl) rfl ?_
        refine l_nil (e_go hK15 ?_)
        refine c_cond rfl (fun h3 => ?_) (fun h3 => ?_)
        ·
          refine c_exit (e_then_x (e_in_hit (e_go hK7 ?_)))
          refine c_region ?_
          refine l_val wn (r_addn rfl rfl (by omega)) rfl ?_
          refine l_val wn (r_move rfl) rfl ?_
          refine l_nil (e_round2 (k + 1) (u + (s1 &&& 127).toNat * 2 ^ (7 * k)) (sc rfl (sc rfl (sc rfl (sc rfl (sc (ji (by omega)) sn))))) (fun _ h => h) ?_ ?_)
          · exact ⟨by omega, by omega, hu5, by rw [hI1.2.2.2, Codec.dec_step hs1, if_neg (by omega), if_pos (by omega)]⟩
          · omega
        ·
          refine c_skip (e_go hK14 ?_)
          refine c_seq fun K16 hK16 => ?_
          refine c_seq fun K17 hK17 => ?_
          refine c_region ?_
          refine l_val wn (r_move rfl) rfl ?_
          refine l_val wn (r_gtr rfl rfl) rfl ?_
          refine l_val wn (r_move rfl) rfl ?_
          refine l_case (t := 30) rfl (fun h4 => ?_) (fun h4 => ?_)
          ·
            refine l_val (wg rfl rfl rfl) (r_move rfl) rfl ?_
            refine l_val (wg rfl rfl rfl) (r_eql rfl rfl) rfl ?_
            refine l_val wn (r_pick rfl rfl) rfl ?_
            refine l_nil (e_go hK17 ?_)
            refine c_cond rfl (fun h5 => ?_) (fun h5 => ?_)
            ·
              refine c_exit (e_then_x (e_in_miss rfl (e_then_x (e_loop2_x (e_in_hit (e_go hK3 ?_))))))
              refine c_seq fun K18 hK18 => ?_
              refine c_region ?_
              refine l_val wn (r_move rfl) rfl ?_
              refine l_val wn (r_nilCheck rfl) rfl ?_
              refine l_val wn (r_fa rfl fld61_1) rfl ?_
              refine l_st1 0 wn rfl rfl rfl rfl inf4 rfl rfl ?_
              refine l_nil (e_go hK18 ?_)
              refine c_seq fun K19 hK19 => ?_
              refine c_region ?_
              refine l_val wn (r_assign rfl) rfl ?_
              refine l_nil (e_go hK19 ?_)
              refine c_ret (e_ret1 (.inl rfl) Try.results33 (rv_tmp rfl) fun w1 hM => ?_)
              have hd : Codec.dec 0 0 r = none := by rw [hI1.2.2.2, Codec.dec_step hs1]; first | (rw [if_pos (by omega)]; done) | (rw [if_neg (by omega), if_neg (by omega), if_pos (by omega)]; done)
              exact hM.retPS 0 1 rfl rfl (by simp [Codec.numR, hd]) (by simp [Codec.numV, hd]) (by simp [Codec.numOk, hd])
            ·
              refine c_skip (e_go hK16 ?_)
              refine c_seq fun K20 hK20 => ?_
              refine c_region ?_
              refine l_val wn (r_move rfl) rfl ?_
              refine l_val wn (r_move rfl) rfl ?_
              refine l_val wn (r_nilCheck rfl) rfl ?_
              refine l_val wn (r_fa rfl fld61_0) rfl ?_
              refine l_val wn (r_lb 0 rfl rfl rfl flat23) rfl ?_
              refine l_val wn (r_move rfl) rfl ?_
              refine l_val wn (r_addn rfl rfl (by omega)) rfl ?_
              refine l_dslP 1 (lo := (k + 1)) (hi := r.length) (r.drop (k + 1)) wn rfl rfl (lo1 rfl (by omega)) hi0 (by first | omega | decide | (simp only [List.length_cons, List.length_nil, List.length_append, List.length_take, List.length_set]; omega)) (by first | omega | decide | (simp only [List.length_cons, List.length_nil, List.length_append, List.length_take, List.length_set]; omega)) (by first | omega | decide | (simp only [List.length_cons, List.length_nil, List.length_append, List.length_take, List.length_set]; omega)) (by first | rfl | simp | (rw [List.take_length]; done)) Try.underlying23 inf5 rfl fun A1 cp1 hc1 hm1 hA1 => ?_
              refine l_val wn (r_nilCheck rfl) rfl ?_
              refine l_val wn (r_fa rfl fld61_0) rfl ?_
              refine l_st1 1 wn rfl rfl rfl rfl inf23 rfl rfl ?_
              refine l_nil (e_go hK20 ?_)
              refine c_seq fun K21 hK21 => ?_
              refine c_seq fun K22 hK22 => ?_
              refine c_region ?_
              refine l_val wn (r_move rfl) rfl ?_
              refine l_val wn (r_and (a := (u + (s1 &&& 127).toNat * 2 ^ (7 * k))) (j := 1) rfl rfl (by decide) (by first | omega | (have := Nat.pow_pos (n := 7 * k) (show 0 < 2 by decide); omega)) (by decide)) rfl ?_
              refine l_val wn (r_eql rfl rfl) rfl ?_
              refine l_nil (e_go hK22 ?_)
              refine c_cond rfl (fun h6 => ?_) (fun h6 => ?_)
              ·
                refine c_seq fun K23 hK23 => ?_
                refine c_region ?_
                refine l_val wn (r_move rfl) rfl ?_
                refine l_val wn (r_shr (u := (u + (s1 &&& 127).toNat * 2 ^ (7 * k))) (j := 1) rfl rfl (by omega) (by omega)) rfl ?_
                refine l_val wn (r_int64 (a := ((u + (s1 &&& 127).toNat * 2 ^ (7 * k)) / 2 ^ 1)) rfl (by first | omega | (have := Nat.pow_pos (n := 7 * k) (show 0 < 2 by decide); omega)) (by rw [Try.underlying73]; rfl) Try.underlying3) rfl ?_
                refine l_val wn (r_neg rfl (by omega)) rfl ?_
                refine l_val wn (r_subn rfl rfl (by omega)) rfl ?_
                refine l_val wn (r_assign rfl) rfl ?_
                refine l_nil (e_go hK23 ?_)
                refine c_ret (e_then_r (e_in_r (e_then_r (e_loop2_r (e_in_r (e_then_r (e_ret1 (.inl rfl) Try.results33 (rv_tmp rfl) fun w1 hM => ?_)))))))
                have hd : Codec.dec 0 0 r = some ((u + (s1 &&& 127).toNat * 2 ^ (7 * k)), r.drop (k + 1)) := by rw [hI1.2.2.2, Codec.dec_step hs1, if_neg (by omega), if_neg (by omega), if_neg (by omega)]
                exact hM.retPS 1 0 rfl rfl (by simp [Codec.numR, hd]) (by simp only [Codec.numV, hd, Codec.unzig]; rw [if_pos (by exact h6)]) (by simp [Codec.numOk, hd])
              ·
                refine c_skip (e_go hK21 ?_)
                refine c_seq fun K24 hK24 => ?_
                refine c_region ?_
                refine l_val wn (r_move rfl) rfl ?_
                refine l_val wn (r_shr (u := (u + (s1 &&& 127).toNat * 2 ^ (7 * k))) (j := 1) rfl rfl (by omega) (by omega)) rfl ?_
                refine l_val wn (r_int64 (a := ((u + (s1 &&& 127).toNat * 2 ^ (7 * k)) / 2 ^ 1)) rfl (by first | omega | (have := Nat.pow_pos (n := 7 * k) (show 0 < 2 by decide); omega)) (by rw [Try.underlying73]; rfl) Try.underlying3) rfl ?_
                refine l_val wn (r_assign rfl) rfl ?_
                refine l_nil (e_go hK24 ?_)
                refine c_ret (e_in_r (e_then_r (e_loop2_r (e_in_r (e_then_r (e_ret1 (.inl rfl) Try.results33 (rv_tmp rfl) fun w1 hM => ?_))))))
                have hd : Codec.dec 0 0 r = some ((u + (s1 &&& 127).toNat * 2 ^ (7 * k)), r.drop (k + 1)) := by rw [hI1.2.2.2, Codec.dec_step hs1, if_neg (by omega), if_neg (by omega), if_neg (by omega)]
                exact hM.retPS 1 0 rfl rfl (by simp [Codec.numR, hd]) (by simp only [Codec.numV, hd, Codec.unzig]; rw [if_neg (by exact h6)]) (by simp [Codec.numOk, hd])
          ·
            refine l_skip (wg rfl rfl rfl) rfl ?_
            refine l_skip (wg rfl rfl rfl) rfl ?_
            refine l_val wn (r_pick rfl rfl) rfl ?_
            refine l_nil (e_go hK17 ?_)
            refine c_false rfl rfl ?_
            refine c_skip (e_go hK16 ?_)
            refine c_seq fun K25 hK25 => ?_
            refine c_region ?_
            refine l_val wn (r_move rfl) rfl ?_
            refine l_val wn (r_move rfl) rfl ?_
            refine l_val wn (r_nilCheck rfl) rfl ?_
            refine l_val wn (r_fa rfl fld61_0) rfl ?_
            refine l_val wn (r_lb 0 rfl rfl rfl flat23) rfl ?_
            refine l_val wn (r_move rfl) rfl ?_
            refine l_val wn (r_addn rfl rfl (by omega)) rfl ?_
            refine l_dslP 1 (lo := (k + 1)) (hi := r.length) (r.drop (k + 1)) wn rfl rfl (lo1 rfl (by omega)) hi0 (by first | omega | decide | (simp only [List.length_cons, List.length_nil, List.length_append, List.length_take, List.length_set]; omega)) (by first | omega | decide | (simp only [List.length_cons, List.length_nil, List.length_append, List.length_take, List.length_set]; omega)) (by first | omega | decide | (simp only [List.length_cons, List.length_nil, List.length_append, List.length_take, List.length_set]; omega)) (by first | rfl | simp | (rw [List.take_length]; done)) Try.underlying23 inf5 rfl fun A2 cp2 hc2 hm2 hA2 => ?_
            refine l_val wn (r_nilCheck rfl) rfl ?_
            refine l_val wn (r_fa rfl fld61_0) rfl ?_
            refine l_st1 1 wn rfl rfl rfl rfl inf23 rfl rfl ?_
            refine l_nil (e_go hK25 ?_)
            refine c_seq fun K26 hK26 => ?_
            refine c_seq fun K27 hK27 => ?_
            refine c_region ?_
            refine l_val wn (r_move rfl) rfl ?_
            refine l_val wn (r_and (a := (u + (s1 &&& 127).toNat * 2 ^ (7 * k))) (j := 1) rfl rfl (by decide) (by first | omega | (have := Nat.pow_pos (n := 7 * k) (show 0 < 2 by decide); omega)) (by decide)) rfl ?_
            refine l_val wn (r_eql rfl rfl) rfl ?_
            refine l_nil (e_go hK27 ?_)
            refine c_cond rfl (fun h7 => ?_) (fun h7 => ?_)
            ·
              refine c_seq fun K28 hK28 => ?_
              refine c_region ?_
              refine l_val wn (r_move rfl) rfl ?_
              refine l_val wn (r_shr (u := (u + (s1 &&& 127).toNat * 2 ^ (7 * k))) (j := 1) rfl rfl (by omega) (by omega)) rfl ?_
              refine l_val wn (r_int64 (a := ((u + (s1 &&& 127).toNat * 2 ^ (7 * k)) / 2 ^ 1)) rfl (by first | omega | (have := Nat.pow_pos (n := 7 * k) (show 0 < 2 by decide); omega)) (by rw [Try.underlying73]; rfl) Try.underlying3) rfl ?_
              refine l_val wn (r_neg rfl (by omega)) rfl ?_
              refine l_val wn (r_subn rfl rfl (by omega)) rfl ?_
              refine l_val wn (r_assign rfl) rfl ?_
              refine l_nil (e_go hK28 ?_)
              refine c_ret (e_then_r (e_in_r (e_then_r (e_loop2_r (e_in_r (e_then_r (e_ret1 (.inl rfl) Try.results33 (rv_tmp rfl) fun w1 hM => ?_)))))))
              have hd : Codec.dec 0 0 r = some ((u + (s1 &&& 127).toNat * 2 ^ (7 * k)), r.drop (k + 1)) := by rw [hI1.2.2.2, Codec.dec_step hs1, if_neg (by omega), if_neg (by omega), if_neg (by omega)]
              exact hM.retPS 1 0 rfl rfl (by simp [Codec.numR, hd]) (by simp only [Codec.numV, hd, Codec.unzig]; rw [if_pos (by exact h7)]) (by simp [Codec.numOk, hd])
            ·
              refine c_skip (e_go hK26 ?_)
              refine c_seq fun K29 hK29 => ?_
              refine c_region ?_
              refine l_val wn (r_move rfl) rfl ?_
              refine l_val wn (r_shr (u := (u + (s1 &&& 127).toNat * 2 ^ (7 * k))) (j := 1) rfl rfl (by omega) (by omega)) rfl ?_
              refine l_val wn (r_int64 (a := ((u + (s1 &&& 127).toNat * 2 ^ (7 * k)) / 2 ^ 1)) rfl (by first | omega | (have := Nat.pow_pos (n := 7 * k) (show 0 < 2 by decide); omega)) (by rw [Try.underlying73]; rfl) Try.underlying3) rfl ?_
              refine l_val wn (r_assign rfl) rfl ?_
              refine l_nil (e_go hK29 ?_)
              refine c_ret (e_in_r (e_then_r (e_loop2_r (e_in_r (e_then_r (e_ret1 (.inl rfl) Try.results33 (rv_tmp rfl) fun w1 hM => ?_))))))
              have hd : Codec.dec 0 0 r = some ((u + (s1 &&& 127).toNat * 2 ^ (7 * k)), r.drop (k + 1)) := by rw [hI1.2.2.2, Codec.dec_step hs1, if_neg (by omega), if_neg (by omega), if_neg (by omega)]
              exact hM.retPS 1 0 rfl rfl (by simp [Codec.numR, hd]) (by simp only [Codec.numV, hd, Codec.unzig]; rw [if_neg (by exact h7)]) (by simp [Codec.numOk, hd])
    ·
      refine c_exit (e_then_x (e_loop2_x (e_in_hit (e_go hK3 ?_))))
      refine c_seq fun K30 hK30 => ?_
      refine c_region ?_
      refine l_val wn (r_move rfl) rfl ?_
      refine l_val wn (r_nilCheck rfl) rfl ?_
      refine l_val wn (r_fa rfl fld61_1) rfl ?_
      refine l_st1 0 wn rfl rfl rfl rfl inf4 rfl rfl ?_
      refine l_nil (e_go hK30 ?_)
      refine c_seq fun K31 hK31 => ?_
      refine c_region ?_
      refine l_val wn (r_assign rfl) rfl ?_
      refine l_nil (e_go hK31 ?_)
      refine c_ret (e_ret1 (.inl rfl) Try.results33 (rv_tmp rfl) fun w1 hM => ?_)
      have hd : Codec.dec 0 0 r = none := by rw [hI1.2.2.2, Codec.dec_end (by omega)]
      exact hM.retPS 0 1 rfl rfl (by simp [Codec.numR, hd]) (by simp [Codec.numV, hd]) (by simp [Codec.numOk, hd])

theorem c_parse (bv : Value) (b : List UInt8) (w : World) (hb : FlatSl (In w) 1 byteE bv b w) (hl1 : b.length ≤ 1048576) :
    Calls Try.prog 14 #[bv] w (RetLT w 36 2 sampleE (Codec.parse b).1 (fun r => .tuple [r, .int .i64 (Codec.parse b).2].toArray)) := by
  obtain ⟨bA, bc, rfl, hbc, hbm, hbA⟩ := hb.form
  refine fstart (N := 75) (vals := [.slice bA b.length bc]) (S := Mem w ⟨no, In w⟩ [slP 1 byteE (.slice bA b.length bc) b]) Try.func14 rfl rfl rfl (Mem.ofDatsP (fun _ h => h) (dc (dlp hb) dn)) ?_
  refine c_seq fun K1 hK1 => ?_
  refine c_region ?_
  refine l_nilRow (sampleE : Sample → List Value) 36 2 ?_
  refine l_val wn (r_assign rfl) rfl ?_
  refine l_val wn (r_assign rfl) rfl ?_
  refine l_nil (e_go hK1 ?_)
  refine c_seq fun K2 hK2 => ?_
  refine c_region ?_
  refine l_val wn (r_move rfl) rfl ?_
  refine l_val wn (r_build [.slice bA b.length bc, .bool true] pl61 inf61 rfl rfl) rfl ?_
  refine l_box wn rfl rfl fun b13 => ?_
  refine l_val wn (r_assign rfl) rfl ?_
  refine l_nil (e_go hK2 ?_)
  refine c_seq fun K3 hK3 => ?_
  refine c_region ?_
  refine l_val wn (r_move rfl) rfl ?_
  refine l_callPS 0 (.int .i64 (Codec.numV b)) (Codec.numR b) [.bool (true && Codec.numOk b)] wn rfl rfl Try.call33 rfl (fun w1 Pb hM pp => c_num _ _ b true Pb w1 (hM.blk (i := 0) rfl) (pp.sub' (i := 0) rfl) (pp.sl 2 rfl)) fun A1 cp1 hc1 hm1 hA1 => ?_
  refine l_val wn (r_assign rfl) rfl ?_
  refine l_nil (e_go hK3 ?_)
  refine c_seq fun K4 hK4 => ?_
  refine c_cut [(4, .pointer (some ⟨b13, 0, none⟩)), (5, .int .i64 (Codec.numV b)), (34, .bool (decide (((!(true && Codec.numOk b)) = true) ∨ (((Codec.numV b) < 0) ∨ ((((Codec.numR b).length : Int) / 2) < (Codec.numV b))))))] (Mem w ⟨no, In w⟩ [slP 1 byteE (.slice A1 ((Codec.numR b).length) cp1) (Codec.numR b), .blk b13 [.slice A1 ((Codec.numR b).length) cp1, .bool (true && Codec.numOk b)] 61, Row (.slice none 0 0) 36 2 sampleE ([] : List Sample), slP 1 byteE (.slice bA b.length bc) b]) (fun K5 hK5 => ?_) ?_
  ·
    refine c_region ?_
    refine l_val wn (r_move rfl) rfl ?_
    refine l_val wn (r_nilCheck rfl) rfl ?_
    refine l_val wn (r_fa rfl fld61_1) rfl ?_
    refine l_val wn (r_lb 1 rfl rfl rfl flat4) rfl ?_
    refine l_val wn (r_notb rfl) rfl ?_
    refine l_val wn (r_move rfl) rfl ?_
    refine l_caseb (t := 21) rfl (fun h1 => ?_) (fun h1 => ?_)
    ·
      refine l_skip (wg rfl rfl rfl) rfl ?_
      refine l_skip (wg rfl rfl rfl) rfl ?_
      refine l_val wn (r_pick rfl rfl) rfl ?_
      refine l_val wn (r_move rfl) rfl ?_
      refine l_skip (wg rfl rfl rfl) rfl ?_
      refine l_skip (wg rfl rfl rfl) rfl ?_
      refine l_skip (wg rfl rfl rfl) rfl ?_
      refine l_skip (wg rfl rfl rfl) rfl ?_
      refine l_skip (wg rfl rfl rfl) rfl ?_
      refine l_skip (wg rfl rfl rfl) rfl ?_
      refine l_skip (wg rfl rfl rfl) rfl ?_
      refine l_skip (wg rfl rfl rfl) rfl ?_
      refine l_val wn (r_pick rfl rfl) rfl ?_
      refine l_nil (e_cut hK5 (sc rfl (sc rfl (sc (jt (Or.inl h1)) sn))) (fun _ h => h))
    ·
      refine l_val (wg rfl rfl rfl) (r_move rfl) rfl ?_
      refine l_val (wg rfl rfl rfl) (r_lss rfl rfl) rfl ?_
      refine l_val wn (r_pick rfl rfl) rfl ?_
      refine l_val wn (r_move rfl) rfl ?_
      refine l_case (t := 25) rfl (fun h2 => ?_) (fun h2 => ?_)
      ·
        refine l_skip (wg rfl rfl rfl) rfl ?_
        refine l_skip (wg rfl rfl rfl) rfl ?_
        refine l_skip (wg rfl rfl rfl) rfl ?_
        refine l_skip (wg rfl rfl rfl) rfl ?_
        refine l_skip (wg rfl rfl rfl) rfl ?_
        refine l_skip (wg rfl rfl rfl) rfl ?_
        refine l_skip (wg rfl rfl rfl) rfl ?_
        refine l_skip (wg rfl rfl rfl) rfl ?_
        refine l_val wn (r_pick rfl rfl) rfl ?_
        refine l_nil (e_cut hK5 (sc rfl (sc rfl (sc (jt (Or.inr (Or.inl h2))) sn))) (fun _ h => h))
      ·
        refine l_val (wg rfl rfl rfl) (r_move rfl) rfl ?_
        refine l_val (wg rfl rfl rfl) (r_move rfl) rfl ?_
        refine l_val (wg rfl rfl rfl) (r_nilCheck rfl) rfl ?_
        refine l_val (wg rfl rfl rfl) (r_fa rfl fld61_0) rfl ?_
        refine l_val (wg rfl rfl rfl) (r_lb 1 rfl rfl rfl flat23) rfl ?_
        refine l_val (wg rfl rfl rfl) (r_len rfl Try.underlying23) rfl ?_
        refine l_val (wg rfl rfl rfl) (r_quon rfl rfl (by omega) (by omega)) rfl ?_
        refine l_val (wg rfl rfl rfl) (r_gtr rfl rfl) rfl ?_
        refine l_val wn (r_pick rfl rfl) rfl ?_
        refine l_nil (e_cut hK5 (sc rfl (sc rfl (sc (jp (iff_or_right h1 (iff_or_right h2 Iff.rfl))) sn))) (fun _ h => h))
  ·
    refine c_cond rfl (fun h3 => ?_) (fun h3 => ?_)
    ·
      refine c_seq fun K6 hK6 => ?_
      refine c_region ?_
      refine l_nilRow (sampleE : Sample → List Value) 36 2 ?_
      refine l_val wn (r_assign rfl) rfl ?_
      refine l_val wn (r_assign rfl) rfl ?_
      refine l_nil (e_go hK6 ?_)
      refine c_ret (e_then_r (e_ret2 (.inl rfl) Try.results14 (rv_tmp rfl) (rv_tmp rfl) fun w1 hM => ?_))
      have hp := Codec.parse_bad h3
      exact hM.retLT 0 rfl (by rw [hp]) (by first | (rw [hp]; done) | (rw [hp]; rfl))
    ·
      have hnl := Codec.numR_len b
      have hok0 := Codec.ok_of h3
      have hnn : 0 ≤ Codec.numV b ∧ Codec.numV b ≤ ((Codec.numR b).length : Int) / 2 := by have := (not_or.1 h3).2; omega
      refine c_skip (e_go hK4 ?_)
      refine c_seq fun K7 hK7 => ?_
      refine c_region ?_
      refine l_nilRow (sampleE : Sample → List Value) 36 2 ?_
      refine l_val wn (r_assign rfl) rfl ?_
      refine l_nil (e_go hK7 ?_)
      refine c_seq fun K8 hK8 => ?_
      refine c_region ?_
      refine l_val wn (r_assign rfl) rfl ?_
      refine l_val wn (r_assign rfl) rfl ?_
      refine l_val wn (r_assign rfl) rfl ?_
      refine l_nil (e_go hK8 ?_)
      refine c_seq fun K9 hK9 => ?_
      refine c_seq fun K10 hK10 => ?_
      refine c_region ?_
      refine l_val wn (r_move rfl) rfl ?_
      refine l_val wn (r_move rfl) rfl ?_
      refine l_nil (e_go hK10 ?_)
      refine c_block ?_
      refine c_loop6 (fun (k : Nat) (bs : List UInt8) (t : Codec.T3) (acc : List Sample) (va : Value) (vb : Value) => [(4, .pointer (some ⟨b13, 0, none⟩)), (6, va), (7, .int .i64 t.last), (8, .int .i64 t.step), (9, .int .i64 t.value), (35, .int .i64 (Codec.numV b)), (36, .int .i64 (k : Int))]) (fun (k : Nat) (bs : List UInt8) (t : Codec.T3) (acc : List Sample) (va : Value) (vb : Value) => [Row va 36 2 sampleE acc, slP 1 byteE vb bs, .blk b13 [vb, .bool true] 61, Row (.slice none 0 0) 36 2 sampleE ([] : List Sample), slP 1 byteE (.slice bA b.length bc) b]) (fun (k : Nat) (bs : List UInt8) (t : Codec.T3) (acc : List Sample) (va : Value) (vb : Value) => Codec.prs (Codec.numV b).toNat (Codec.numR b) ⟨0, 0, 0⟩ [] = Codec.prs ((Codec.numV b).toNat - k) bs t acc ∧ acc.length = k ∧ (k : Int) ≤ Codec.numV b) (fun (k : Nat) (bs : List UInt8) (t : Codec.T3) (acc : List Sample) (va : Value) (vb : Value) => (Codec.numV b).toNat - k) 0 (Codec.numR b) (⟨0, 0, 0⟩ : Codec.T3) ([] : List Sample) (.slice none 0 0) (.slice A1 ((Codec.numR b).length) cp1) (sc rfl (sc rfl (sc (ji (by first | omega | rfl)) (sc (ji (by first | omega | rfl)) (sc (ji (by first | omega | rfl)) (sc rfl (sc (ji (by first | omega | rfl)) sn))))))) (fun _ h => by rw [show (true && Codec.numOk b) = true from hok0] at h; exact h) ?_ (fun k bs t acc va vb hI1 => ?_)
      · exact ⟨rfl, rfl, by omega⟩
      ·
        refine c_open 0 (l := acc) rfl fun A2 cp2 hv1 hc2 hm2 hA2 => ?_
        subst hv1
        refine c_openP 1 (l := bs) rfl fun A3 cp3 hv2 hc3 hm3 hA3 => ?_
        subst hv2
        refine c_seq fun K11 hK11 => ?_
        refine c_region ?_
        refine l_val wn (r_lss rfl rfl) rfl ?_
        refine l_nil (e_go hK11 ?_)
        refine c_seq fun K12 hK12 => ?_
        refine c_cond rfl (fun h4 => ?_) (fun h4 => ?_)
        ·
          refine c_skip (e_go hK12 ?_)
          refine c_seq fun K13 hK13 => ?_
          refine c_block ?_
          refine c_seq fun K14 hK14 => ?_
          refine c_region ?_
          refine l_val wn (r_move rfl) rfl ?_
          refine l_val wn (r_move rfl) rfl ?_
          refine l_callPS 2 (.int .i64 (Codec.numV bs)) (Codec.numR bs) [.bool (true && Codec.numOk bs)] wn rfl rfl Try.call33 rfl (fun w1 Pb hM pp => c_num _ _ bs true Pb w1 (hM.blk (i := 2) rfl) (pp.sub' (i := 2) rfl) (pp.sl 1 rfl)) fun A4 cp4 hc4 hm4 hA4 => ?_
          refine l_val wn (r_add rfl rfl) rfl ?_
          refine l_val wn (r_assign rfl) rfl ?_
          refine l_nil (e_go hK14 ?_)
          refine c_seq fun K15 hK15 => ?_
          refine c_region ?_
          refine l_val wn (r_move rfl) rfl ?_
          refine l_val wn (r_move rfl) rfl ?_
          refine l_val wn (r_add rfl rfl) rfl ?_
          refine l_val wn (r_assign rfl) rfl ?_
          refine l_nil (e_go hK15 ?_)
          refine c_seq fun K16 hK16 => ?_
          refine c_region ?_
          refine l_val wn (r_move rfl) rfl ?_
          refine l_val wn (r_move rfl) rfl ?_
          refine l_callPS 3 (.int .i64 (Codec.numV (Codec.numR bs))) (Codec.numR (Codec.numR bs)) [.bool ((true && Codec.numOk bs) && Codec.numOk (Codec.numR bs))] wn rfl rfl Try.call33 rfl (fun w1 Pb hM pp => c_num _ _ (Codec.numR bs) (true && Codec.numOk bs) Pb w1 (hM.blk (i := 3) rfl) (pp.sub' (i := 3) rfl) (pp.sl 0 rfl)) fun A5 cp5 hc5 hm5 hA5 => ?_
          refine l_val wn (r_add rfl rfl) rfl ?_
          refine l_val wn (r_assign rfl) rfl ?_
          refine l_nil (e_go hK16 ?_)
          refine c_seq fun K17 hK17 => ?_
          refine c_seq fun K18 hK18 => ?_
          refine c_region ?_
          refine l_val wn (r_move rfl) rfl ?_
          refine l_val wn (r_nilCheck rfl) rfl ?_
          refine l_val wn (r_fa rfl fld61_1) rfl ?_
          refine l_val wn (r_lb 4 rfl rfl rfl flat4) rfl ?_
          refine l_val wn (r_notb rfl) rfl ?_
          refine l_nil (e_go hK18 ?_)
          refine c_condb rfl (fun h5 => ?_) (fun h5 => ?_)
          ·
            refine c_seq fun K19 hK19 => ?_
            refine c_region ?_
            refine l_nilRow (sampleE : Sample → List Value) 36 2 ?_
            refine l_val wn (r_assign rfl) rfl ?_
            refine l_val wn (r_assign rfl) rfl ?_
            refine l_nil (e_go hK19 ?_)
            refine c_ret (e_then_r (e_in_r (e_then_r (e_loop6_r (e_in_r (e_then_r (e_ret2 (.inl rfl) Try.results14 (rv_tmp rfl) (rv_tmp rfl) fun w1 hM => ?_)))))))
            have hp := Codec.parse_stop h3 hI1.1 (by omega) ((Bool.not_eq_true' _).mp h5)
            exact hM.retLT 0 rfl (by rw [hp]) (by first | (rw [hp]; done) | (rw [hp]; rfl))
          ·
            have hok : ((true && Codec.numOk bs) && Codec.numOk (Codec.numR bs)) = true := by simpa using h5
            refine c_skip (e_go hK17 ?_)
            refine c_region ?_
            refine l_val wn (r_move rfl) rfl ?_
            refine l_val wn (r_move rfl) rfl ?_
            refine l_val wn (r_move rfl) rfl ?_
            refine l_val wn (r_build [.int .i64 (IntKind.wrap .i64 (t.last + (IntKind.wrap .i64 (t.step + (Codec.numV bs))))), .int .i64 (IntKind.wrap .i64 (t.value + (Codec.numV (Codec.numR bs))))] pl36 inf36 rfl rfl) rfl ?_
            refine l_bsL sampleE ([(⟨(IntKind.wrap .i64 (t.last + (IntKind.wrap .i64 (t.step + (Codec.numV bs))))), (IntKind.wrap .i64 (t.value + (Codec.numV (Codec.numR bs))))⟩ : Sample)] : List Sample) wn Try.underlying22 inf36 rfl rfl rfl rfl (by decide) (by decide) rfl fun b58 => ?_
            refine l_app 3 acc ([(⟨(IntKind.wrap .i64 (t.last + (IntKind.wrap .i64 (t.step + (Codec.numV bs))))), (IntKind.wrap .i64 (t.value + (Codec.numV (Codec.numR bs))))⟩ : Sample)] : List Sample) encSample wn rfl rfl rfl (fun _ hM => (RowSl encSample hM 0 rfl)) Try.underlying22 inf36 rfl rfl (by simp only [List.length_append, List.length_cons, List.length_nil]; omega) rfl fun A6 cp6 hc6 hm6 hA6 => ?_
            refine l_val wn (r_assign rfl) rfl ?_
            refine l_nil (e_in_n (e_go hK13 ?_))
            refine c_region ?_
            refine l_val wn (r_addn rfl rfl (by omega)) rfl ?_
            refine l_val wn (r_move rfl) rfl ?_
            refine l_nil (e_round6 (k + 1) (Codec.numR (Codec.numR bs)) (⟨(IntKind.wrap .i64 (t.last + (IntKind.wrap .i64 (t.step + (Codec.numV bs))))), (IntKind.wrap .i64 (t.step + (Codec.numV bs))), (IntKind.wrap .i64 (t.value + (Codec.numV (Codec.numR bs))))⟩ : Codec.T3) (acc ++ ([(⟨(IntKind.wrap .i64 (t.last + (IntKind.wrap .i64 (t.step + (Codec.numV bs))))), (IntKind.wrap .i64 (t.value + (Codec.numV (Codec.numR bs))))⟩ : Sample)] : List Sample)) (.slice A6 ((acc ++ ([(⟨(IntKind.wrap .i64 (t.last + (IntKind.wrap .i64 (t.step + (Codec.numV bs))))), (IntKind.wrap .i64 (t.value + (Codec.numV (Codec.numR bs))))⟩ : Sample)] : List Sample)).length) cp6) (.slice A5 ((Codec.numR (Codec.numR bs)).length) cp5) (sc rfl (sc rfl (sc (ji (by first | omega | rfl)) (sc (ji (by first | omega | rfl)) (sc (ji (by first | omega | rfl)) (sc rfl (sc (ji (by first | omega | rfl)) sn))))))) (fun _ h => by rw [hok] at h; exact (h.sel [3, 1, 5, 6, 7] (by decide) rfl)) ?_ ?_)
            · exact ⟨by rw [hI1.1]; exact Codec.prs_step (by omega) hok, by rw [List.length_append, hI1.2.1]; rfl, by omega⟩
            · omega
        ·
          refine c_exit (e_then_x (e_loop6_x (e_in_hit (e_go hK9 ?_))))
          refine c_seq fun K20 hK20 => ?_
          refine c_seq fun K21 hK21 => ?_
          refine c_region ?_
          refine l_val wn (r_move rfl) rfl ?_
          refine l_val wn (r_nilCheck rfl) rfl ?_
          refine l_val wn (r_fa rfl fld61_0) rfl ?_
          refine l_val wn (r_lb 2 rfl rfl rfl flat23) rfl ?_
          refine l_val wn (r_len rfl Try.underlying23) rfl ?_
          refine l_val wn (r_gtr rfl rfl) rfl ?_
          refine l_nil (e_go hK21 ?_)
          refine c_cond rfl (fun h6 => ?_) (fun h6 => ?_)
          ·
            refine c_seq fun K22 hK22 => ?_
            refine c_region ?_
            refine l_nilRow (sampleE : Sample → List Value) 36 2 ?_
            refine l_val wn (r_assign rfl) rfl ?_
            refine l_val wn (r_assign rfl) rfl ?_
            refine l_nil (e_go hK22 ?_)
            refine c_ret (e_then_r (e_ret2 (.inl rfl) Try.results14 (rv_tmp rfl) (rv_tmp rfl) fun w1 hM => ?_))
            have hp := Codec.parse_over h3 hI1.1 (by omega) (by omega)
            exact hM.retLT 0 rfl (by rw [hp]) (by first | (rw [hp]; done) | (rw [hp]; rfl))
          ·
            refine c_skip (e_go hK20 ?_)
            refine c_seq fun K23 hK23 => ?_
            refine c_seq fun K24 hK24 => ?_
            refine c_region ?_
            refine l_val wn (r_move rfl) rfl ?_
            refine l_callF wn rfl Try.call12 rfl (fun w1 hM => c_codecWrong _ acc w1 (RowSl encSample hM 0 rfl)) ?_
            refine l_alloc wn inf26 rfl fun b10 => ?_
            refine l_stn 0 wn rfl rfl rfl inf26 rfl rfl rfl ?_
            refine l_nil (e_go hK24 ?_)
            refine c_seq fun K25 hK25 => ?_
            refine c_region ?_
            refine l_val wn (r_fa rfl fld26_0) rfl ?_
            refine l_val wn (r_lb 0 rfl rfl rfl flat24) rfl ?_
            refine l_val wn (r_neq rfl rfl) rfl ?_
            refine l_nil (e_go hK25 ?_)
            refine c_cond rfl (fun h7 => ?_) (fun h7 => ?_)
            ·
              refine c_seq fun K26 hK26 => ?_
              refine c_quiet mix (by kernel_rfl) (fun _ h => h.drew) ?_
              refine q_val wn (r_fa rfl fld26_0) rfl ?_
              refine q_val wn (r_lb 0 rfl rfl rfl flat24) rfl ?_
              refine q_val wn (r_assign rfl) rfl ?_
              refine q_val wn (r_assign rfl) rfl ?_
              refine q_end (e_go hK26 ?_)
              refine c_ret (e_then_r (e_ret2 (.inl rfl) Try.results14 (rv_tmp rfl) (rv_tmp rfl) fun w1 hM => ?_))
              have hz := Codec.parse_done h3 hI1.1 (by omega) (by omega)
              have hM := hM.nilRow Sample 36 2 sampleE
              have hp := hz.trans (by rw [if_pos h7])
              exact hM.retLT 0 rfl (by rw [hp]) (by first | (rw [hp]; done) | (rw [hp]; rfl))
            ·
              refine c_skip (e_go hK23 ?_)
              refine c_seq fun K27 hK27 => ?_
              refine c_region ?_
              refine l_val wn (r_move rfl) rfl ?_
              refine l_val wn (r_assign rfl) rfl ?_
              refine l_val wn (r_assign rfl) rfl ?_
              refine l_nil (e_go hK27 ?_)
              refine c_ret (e_ret2 (.inl rfl) Try.results14 (rv_tmp rfl) (rv_tmp rfl) fun w1 hM => ?_)
              have hz := Codec.parse_done h3 hI1.1 (by omega) (by omega)
              have hp := hz.trans (by rw [if_neg h7])
              exact hM.retLT 1 rfl (by rw [hp]) (by first | (rw [hp]; done) | (rw [hp]; rfl))

end Go.Proofs.Ytekamocheffppaa
