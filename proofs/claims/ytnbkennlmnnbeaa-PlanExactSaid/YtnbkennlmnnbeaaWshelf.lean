/-
  Walks: what each function hands back.
-/
import Derived.Test.YtnbkennlmnnbeaaWroll
import Derived.Test.YtnbkennlmnnbeaaWcodec
import Derived.Test.YtnbkennlmnnbeaaWnames
import Derived.Test.YtnbkennlmnnbeaaPShelf
namespace Go.Proofs.Ytnbkennlmnnbeaa
open Ex
set_option linter.unusedVariables false
set_option linter.unusedSimpArgs false
theorem c_within1 (x : Bucket) (fp : Nat) (f : Int) (tp : Nat) (t : Int) (w : World) (hfp : w.heap[fp]? = some (.cells [.int .i64 f].toArray 3 (0, 0))) (htp : w.heap[tp]? = some (.cells [.int .i64 t].toArray 3 (0, 0)))  :
    Calls Try.prog 74 #[.agg (bucketE x).toArray, .pointer (some ⟨fp, 0, none⟩), .pointer (some ⟨tp, 0, none⟩)] w (Ret w (.bool (!decide (f ≤ x.at_ ∧ x.at_ < t)))) := by
 refine fstart (N := 15) (vals := [.agg (bucketE x).toArray, .pointer (some ⟨fp, 0, none⟩), .pointer (some ⟨tp, 0, none⟩)]) (S := Mem w no [datB fp [.int .i64 f] 3, datB tp [.int .i64 t] 3]) Try.func74 rfl rfl rfl (Mem.ofDats (dc (ddb hfp) (dc (ddb htp) dn))) ?_
 refine c_seq fun _ hK1 => ?_
 refine c_region ?_
 refine l_box wn rfl rfl fun b3 => ?_
 refine l_val wn (r_assign rfl) rfl ?_
 refine l_nil (e_go hK1 ?_)
 refine c_seq fun _ hK2 => ?_
 refine c_region ?_
 refine l_val wn (r_fa rfl fld78_0) rfl ?_
 refine l_val wn (r_lb 0 rfl rfl rfl flat3) rfl ?_
 refine l_val wn (r_ldb 1 rfl rfl rfl flat3) rfl ?_
 refine l_val wn (r_lss rfl rfl) rfl ?_
 refine l_val wn (r_move rfl) rfl ?_
 refine l_case (t := 9) rfl (fun h1 => ?_) (fun h1 => ?_)
 · refine l_skip (wg rfl rfl rfl) rfl ?_
   refine l_skip (wg rfl rfl rfl) rfl ?_
   refine l_skip (wg rfl rfl rfl) rfl ?_
   refine l_skip (wg rfl rfl rfl) rfl ?_
   refine l_val wn (r_pick rfl rfl) rfl ?_
   refine l_val wn (r_assign rfl) rfl ?_
   refine l_nil (e_go hK2 ?_)
   refine c_ret (e_ret1 (.inl rfl) Try.results74 (rv_tmp rfl) fun w1 hM => ?_)
   exact ret_ok (congrArg Value.bool (by rw [Bool.eq_iff_iff]; simp; omega)) hM
 refine l_val (wg rfl rfl rfl) (r_fa rfl fld78_0) rfl ?_
 refine l_val (wg rfl rfl rfl) (r_lb 0 rfl rfl rfl flat3) rfl ?_
 refine l_val (wg rfl rfl rfl) (r_ldb 2 rfl rfl rfl flat3) rfl ?_
 refine l_val (wg rfl rfl rfl) (r_geq rfl rfl) rfl ?_
 refine l_val wn (r_pick rfl rfl) rfl ?_
 refine l_val wn (r_assign rfl) rfl ?_
 refine l_nil (e_go hK2 ?_)
 refine c_ret (e_ret1 (.inl rfl) Try.results74 (rv_tmp rfl) fun w1 hM => ?_)
 exact ret_ok (congrArg Value.bool (by rw [Bool.eq_iff_iff]; simp; omega)) hM

theorem c_idxS (lv : Value) (l : List Sample) (f : Nat) (fcap : Array Value) (fp : Sample → Bool) (w : World) (hl : FlatSl (In w) 2 sampleE lv l w) (fc : ∀ vs w, (callFunc f vs).run Try.prog w = .ok (.enter f vs) w) (fh : ∀ (x : Sample) (w1 : World), Fr no w w1 → Calls Try.prog f (#[.agg (sampleE x).toArray] ++ fcap) w1 (Ret w1 (.bool (fp x))))  :
    Calls Try.prog 78 #[lv, .func (.func f) #[] fcap] w (Ret w (.int .i64 (Sh.idx fp l))) := by
 obtain ⟨lA, lc, rfl, hlc, hlm, hlA⟩ := hl.form
 refine fstart (N := 19) (vals := [.slice lA l.length lc, .func (.func f) #[] fcap]) (S := Mem w no [slO (In w) 2 sampleE (.slice lA l.length lc) l]) Try.func78 rfl rfl rfl (Mem.ofDats (dc (dl hl) dn)) ?_
 refine c_seq fun _ hK1 => ?_
 refine c_region ?_
 refine l_val wn (r_assign rfl) rfl ?_
 refine l_nil (e_go hK1 ?_)
 refine c_seq fun _ hK2 => ?_
 refine c_seq fun _ hK3 => ?_
 refine c_region ?_
 refine l_val wn (r_move rfl) rfl ?_
 refine l_val wn (r_len rfl Try.underlying24) rfl ?_
 refine l_val wn (r_move rfl) rfl ?_
 refine l_nil (e_go hK3 ?_)
 refine c_block ?_
 refine c_loop1 (fun (k : Nat) => [(0, .slice lA l.length lc), (1, .func (.func f) #[] fcap), (7, .int .i64 (l.length : Int)), (8, .int .i64 (k : Int))]) (fun (k : Nat) => [slO (In w) 2 sampleE (.slice lA l.length lc) l]) (fun (k : Nat) => k ≤ l.length ∧ ∀ y ∈ l.take k, fp y = false) (fun (k : Nat) => l.length - k) 0 (sc rfl (sc rfl (sc rfl (sc (ji (by omega)) sn)))) (fun _ h => h) ?_ (fun k hI1 => ?_)
 · simp
 refine c_seq fun _ hK4 => ?_
 refine c_region ?_
 refine l_val wn (r_lss rfl rfl) rfl ?_
 refine l_nil (e_go hK4 ?_)
 refine c_seq fun _ hK5 => ?_
 refine c_cond rfl (fun h1 => ?_) (fun h1 => ?_)
 · refine c_skip (e_go hK5 ?_)
   refine c_seq fun _ hK6 => ?_
   refine c_block ?_
   refine c_seq fun _ hK7 => ?_
   refine c_region ?_
   refine l_val wn (r_move rfl) rfl ?_
   refine l_val wn (r_assign rfl) rfl ?_
   refine l_nil (e_go hK7 ?_)
   refine c_seq fun _ hK8 => ?_
   refine c_region ?_
   refine l_val wn (r_move rfl) rfl ?_
   refine l_val wn (r_move rfl) rfl ?_
   refine l_val wn (r_move rfl) rfl ?_
   obtain ⟨ad1, hd1⟩ := hlA (ne_nil (i := k) (by first | omega | decide | (simp only [List.length_cons, List.length_nil, List.length_append, List.length_take, List.length_set]; omega)))
   refine l_val wn (r_ia (i := k) rfl hd1 rfl (by omega) (by first | omega | decide | (simp only [List.length_cons, List.length_nil, List.length_append, List.length_take, List.length_set]; omega)) Try.underlying24 inf39) rfl ?_
   obtain ⟨s1, hs1⟩ : ∃ x, l[k]? = some x := ⟨_, List.getElem?_eq_getElem (by first | omega | decide | (simp only [List.length_cons, List.length_nil, List.length_append, List.length_take, List.length_set]; omega))⟩
   refine l_val wn (r_eln 0 [.int .i64 s1.time, .int .i64 s1.value] rfl rfl hd1 hs1 rfl rfl agg39 inf39) rfl ?_
   refine l_callR wn rfl rfl fc rfl (fun w1 hM => fh s1 w1 hM.fr) ?_
   refine l_nil (e_go hK8 ?_)
   refine c_condb rfl (fun h2 => ?_) (fun h2 => ?_)
   · refine c_seq fun _ hK9 => ?_
     refine c_region ?_
     refine l_val wn (r_move rfl) rfl ?_
     refine l_val wn (r_assign rfl) rfl ?_
     refine l_nil (e_go hK9 ?_)
     refine c_ret (e_in_r (e_then_r (e_loop1_r (e_in_r (e_then_r (e_ret1 (.inl rfl) Try.results78 (rv_tmp rfl) fun w1 hM => ?_))))))
     exact ret_ok (by rw [Sh.idx_at hI1.2 hs1 h2]) hM
   refine c_skip (e_in_n (e_go hK6 ?_))
   refine c_region ?_
   refine l_val wn (r_addn rfl rfl (by omega)) rfl ?_
   refine l_val wn (r_move rfl) rfl ?_
   refine l_nil (e_round1 (k + 1) (sc rfl (sc rfl (sc rfl (sc (ji (by omega)) sn)))) (fun _ h => h) ?_ ?_)
   · exact ⟨by omega, Sh.none_step hI1.2 hs1 h2⟩
   omega
 refine c_exit (e_then_x (e_loop1_x (e_in_hit (e_go hK2 ?_))))
 refine c_seq fun _ hK10 => ?_
 refine c_region ?_
 refine l_val wn (r_assign rfl) rfl ?_
 refine l_nil (e_go hK10 ?_)
 refine c_ret (e_ret1 (.inl rfl) Try.results78 (rv_tmp rfl) fun w1 hM => ?_)
 exact ret_ok (by rw [Sh.idx_none hI1.2 (by omega)]) hM

theorem c_idxB (lv : Value) (l : List Bucket) (f : Nat) (fcap : Array Value) (fp : Bucket → Bool) (w : World) (hl : FlatSl (In w) 8 bucketE lv l w) (fc : ∀ vs w, (callFunc f vs).run Try.prog w = .ok (.enter f vs) w) (fh : ∀ (x : Bucket) (w1 : World), Fr no w w1 → Calls Try.prog f (#[.agg (bucketE x).toArray] ++ fcap) w1 (Ret w1 (.bool (fp x))))  :
    Calls Try.prog 79 #[lv, .func (.func f) #[] fcap] w (Ret w (.int .i64 (Sh.idx fp l))) := by
 obtain ⟨lA, lc, rfl, hlc, hlm, hlA⟩ := hl.form
 refine fstart (N := 19) (vals := [.slice lA l.length lc, .func (.func f) #[] fcap]) (S := Mem w no [slO (In w) 8 bucketE (.slice lA l.length lc) l]) Try.func79 rfl rfl rfl (Mem.ofDats (dc (dl hl) dn)) ?_
 refine c_seq fun _ hK1 => ?_
 refine c_region ?_
 refine l_val wn (r_assign rfl) rfl ?_
 refine l_nil (e_go hK1 ?_)
 refine c_seq fun _ hK2 => ?_
 refine c_seq fun _ hK3 => ?_
 refine c_region ?_
 refine l_val wn (r_move rfl) rfl ?_
 refine l_val wn (r_len rfl Try.underlying25) rfl ?_
 refine l_val wn (r_move rfl) rfl ?_
 refine l_nil (e_go hK3 ?_)
 refine c_block ?_
 refine c_loop1 (fun (k : Nat) => [(0, .slice lA l.length lc), (1, .func (.func f) #[] fcap), (7, .int .i64 (l.length : Int)), (8, .int .i64 (k : Int))]) (fun (k : Nat) => [slO (In w) 8 bucketE (.slice lA l.length lc) l]) (fun (k : Nat) => k ≤ l.length ∧ ∀ y ∈ l.take k, fp y = false) (fun (k : Nat) => l.length - k) 0 (sc rfl (sc rfl (sc rfl (sc (ji (by omega)) sn)))) (fun _ h => h) ?_ (fun k hI1 => ?_)
 · simp
 refine c_seq fun _ hK4 => ?_
 refine c_region ?_
 refine l_val wn (r_lss rfl rfl) rfl ?_
 refine l_nil (e_go hK4 ?_)
 refine c_seq fun _ hK5 => ?_
 refine c_cond rfl (fun h1 => ?_) (fun h1 => ?_)
 · refine c_skip (e_go hK5 ?_)
   refine c_seq fun _ hK6 => ?_
   refine c_block ?_
   refine c_seq fun _ hK7 => ?_
   refine c_region ?_
   refine l_val wn (r_move rfl) rfl ?_
   refine l_val wn (r_assign rfl) rfl ?_
   refine l_nil (e_go hK7 ?_)
   refine c_seq fun _ hK8 => ?_
   refine c_region ?_
   refine l_val wn (r_move rfl) rfl ?_
   refine l_val wn (r_move rfl) rfl ?_
   refine l_val wn (r_move rfl) rfl ?_
   obtain ⟨ad1, hd1⟩ := hlA (ne_nil (i := k) (by first | omega | decide | (simp only [List.length_cons, List.length_nil, List.length_append, List.length_take, List.length_set]; omega)))
   refine l_val wn (r_ia (i := k) rfl hd1 rfl (by omega) (by first | omega | decide | (simp only [List.length_cons, List.length_nil, List.length_append, List.length_take, List.length_set]; omega)) Try.underlying25 inf78) rfl ?_
   obtain ⟨s1, hs1⟩ : ∃ x, l[k]? = some x := ⟨_, List.getElem?_eq_getElem (by first | omega | decide | (simp only [List.length_cons, List.length_nil, List.length_append, List.length_take, List.length_set]; omega))⟩
   refine l_val wn (r_eln 0 [.int .i64 s1.at_, .int .i64 s1.sum.count, .int .i64 s1.sum.total, .int .i64 s1.sum.min, .int .i64 s1.sum.max, .int .i64 s1.sum.first, .int .i64 s1.sum.last, .int .i64 s1.sum.rise] rfl rfl hd1 hs1 rfl rfl agg78 inf78) rfl ?_
   refine l_callR wn rfl rfl fc rfl (fun w1 hM => fh s1 w1 hM.fr) ?_
   refine l_nil (e_go hK8 ?_)
   refine c_condb rfl (fun h2 => ?_) (fun h2 => ?_)
   · refine c_seq fun _ hK9 => ?_
     refine c_region ?_
     refine l_val wn (r_move rfl) rfl ?_
     refine l_val wn (r_assign rfl) rfl ?_
     refine l_nil (e_go hK9 ?_)
     refine c_ret (e_in_r (e_then_r (e_loop1_r (e_in_r (e_then_r (e_ret1 (.inl rfl) Try.results79 (rv_tmp rfl) fun w1 hM => ?_))))))
     exact ret_ok (by rw [Sh.idx_at hI1.2 hs1 h2]) hM
   refine c_skip (e_in_n (e_go hK6 ?_))
   refine c_region ?_
   refine l_val wn (r_addn rfl rfl (by omega)) rfl ?_
   refine l_val wn (r_move rfl) rfl ?_
   refine l_nil (e_round1 (k + 1) (sc rfl (sc rfl (sc rfl (sc (ji (by omega)) sn)))) (fun _ h => h) ?_ ?_)
   · exact ⟨by omega, Sh.none_step hI1.2 hs1 h2⟩
   omega
 refine c_exit (e_then_x (e_loop1_x (e_in_hit (e_go hK2 ?_))))
 refine c_seq fun _ hK10 => ?_
 refine c_region ?_
 refine l_val wn (r_assign rfl) rfl ?_
 refine l_nil (e_go hK10 ?_)
 refine c_ret (e_ret1 (.inl rfl) Try.results79 (rv_tmp rfl) fun w1 hM => ?_)
 exact ret_ok (by rw [Sh.idx_none hI1.2 (by omega)]) hM

theorem c_delS (lv : Value) (l : List Sample) (f : Nat) (fcap : Array Value) (fp : Sample → Bool) (w : World) (hl : w.ownsRow 0 39 2 lv l.length (l.flatMap sampleE)) (fc : ∀ vs w, (callFunc f vs).run Try.prog w = .ok (.enter f vs) w) (fh : ∀ (x : Sample) (w1 : World), Fr (fun b => lv.ownBlock = some b) w w1 → Calls Try.prog f (#[.agg (sampleE x).toArray] ++ fcap) w1 (Ret w1 (.bool (fp x))))  :
    Calls Try.prog 63 #[lv, .func (.func f) #[] fcap] w (RetU w lv 39 2 sampleE (l.filter fun x => !fp x)) := by
 refine fstart (N := 42) (vals := [lv, .func (.func f) #[] fcap]) (S := Mem w (fun b => lv.ownBlock = some b) [Row lv 39 2 sampleE l]) Try.func63 rfl rfl rfl (Mem.ownArg hl) ?_
 refine c_open 0 (l := l) rfl fun A0 cp0 hv0 hc0 hm0 hA0 => ?_
 subst hv0
 refine c_seq fun _ hK1 => ?_
 refine c_region ?_
 refine l_val wn (r_assign rfl) rfl ?_
 refine l_nil (e_go hK1 ?_)
 refine c_seq fun _ hK2 => ?_
 refine c_region ?_
 refine l_val wn (r_move rfl) rfl ?_
 refine l_val wn (r_move rfl) rfl ?_
 refine l_callF wn rfl Try.call78 rfl (fun w1 hM => c_idxS _ l f fcap fp w1 (RowSl encSample hM 0 rfl) fc (fun x w2 h2 => fh x w2 (hM.fr.trans h2 (fun _ _ h => h.elim)))) ?_
 refine l_val wn (r_assign rfl) rfl ?_
 refine l_nil (e_go hK2 ?_)
 refine c_seq fun _ hK3 => ?_
 refine c_seq fun _ hK4 => ?_
 refine c_region ?_
 refine l_val wn (r_move rfl) rfl ?_
 refine l_val wn (r_eql rfl rfl) rfl ?_
 refine l_nil (e_go hK4 ?_)
 refine c_cond rfl (fun h1 => ?_) (fun h1 => ?_)
 · refine c_seq fun _ hK5 => ?_
   refine c_region ?_
   refine l_val wn (r_move rfl) rfl ?_
   refine l_val wn (r_assign rfl) rfl ?_
   refine l_nil (e_go hK5 ?_)
   refine c_ret (e_then_r (e_ret1 (.inl rfl) Try.results63 (rv_tmp rfl) fun w1 hM => ?_))
   exact hM.retU' 0 rfl ((List.filter_eq_self.2 fun y hy => by rcases Sh.idx_cases fp l with h | ⟨i, x, h, _⟩; exact (by simp [h.2 y hy]); omega).symm)
 obtain ⟨ni, ⟨n, xn, hi, hxn, hpn, hnn⟩⟩ : Sh.idx fp l ≠ -1 ∧ ∃ (i : Nat) (x : Sample), Sh.idx fp l = (i : Int) ∧ l[i]? = some x ∧ fp x = true ∧ ∀ y ∈ l.take i, fp y = false := ⟨h1, (Sh.idx_cases fp l).resolve_left (fun e => h1 e.1)⟩
 have hnl := (List.getElem?_eq_some_iff.1 hxn).1
 refine c_skip (e_go hK3 ?_)
 refine c_seq fun _ hK6 => ?_
 refine c_seq fun _ hK7 => ?_
 refine c_region ?_
 refine l_val wn (r_move rfl) rfl ?_
 refine l_val wn (r_addn rfl rfl (by omega)) rfl ?_
 refine l_val wn (r_assign rfl) rfl ?_
 refine l_nil (e_go hK7 ?_)
 refine c_block ?_
 refine c_loop4 (fun (i : Nat) (j : Nat) (r : List Sample) (vr : Value) => [(0, vr), (1, .func (.func f) #[] fcap), (5, .int .i64 (i : Int)), (6, .int .i64 (j : Int))]) (fun (i : Nat) (j : Nat) (r : List Sample) (vr : Value) => [Row vr 39 2 sampleE r]) (fun (i : Nat) (j : Nat) (r : List Sample) (vr : Value) => Sh.Del fp l r i j) (fun (i : Nat) (j : Nat) (r : List Sample) (vr : Value) => l.length - j) n (n + 1) l (.slice A0 l.length cp0) (sc rfl (sc rfl (sc (ji (by omega)) (sc (ji (by omega)) sn)))) (fun _ h => h) ?_ (fun i j r vr hI1 => ?_)
 · exact Sh.Del.start hxn hpn hnn
 have hlt := hI1.lt
 have hle := hI1.le
 have hlen := hI1.len
 refine c_open 0 (l := r) rfl fun A1 cp1 hv1 hc1 hm1 hA1 => ?_
 subst hv1
 refine c_seq fun _ hK8 => ?_
 refine c_seq fun _ hK9 => ?_
 refine c_region ?_
 refine l_val wn (r_move rfl) rfl ?_
 refine l_val wn (r_move rfl) rfl ?_
 refine l_val wn (r_len rfl Try.underlying24) rfl ?_
 refine l_val wn (r_lss rfl rfl) rfl ?_
 refine l_nil (e_go hK9 ?_)
 refine c_cond rfl (fun h2 => ?_) (fun h2 => ?_)
 · refine c_skip (e_go hK8 ?_)
   refine c_seq fun _ hK10 => ?_
   refine c_block ?_
   refine c_seq fun _ hK11 => ?_
   refine c_region ?_
   refine l_val wn (r_move rfl) rfl ?_
   refine l_val wn (r_move rfl) rfl ?_
   obtain ⟨ad1, hd1⟩ := hA1 (ne_nil (i := j) (by first | omega | decide | (simp only [List.length_cons, List.length_nil, List.length_append, List.length_take, List.length_set]; omega)))
   refine l_val wn (r_ia (i := j) rfl hd1 rfl (by omega) (by first | omega | decide | (simp only [List.length_cons, List.length_nil, List.length_append, List.length_take, List.length_set]; omega)) Try.underlying24 inf39) rfl ?_
   obtain ⟨s1, hs1⟩ : ∃ x, r[j]? = some x := ⟨_, List.getElem?_eq_getElem (by first | omega | decide | (simp only [List.length_cons, List.length_nil, List.length_append, List.length_take, List.length_set]; omega))⟩
   refine l_val wn (r_rln 0 [.int .i64 s1.time, .int .i64 s1.value] encSample rfl rfl hd1 hs1 rfl rfl agg39 inf39) rfl ?_
   refine l_alloc wn inf39 rfl fun b7 => ?_
   refine l_stn 0 wn rfl rfl rfl inf39 rfl rfl rfl ?_
   refine l_nil (e_go hK11 ?_)
   refine c_seq fun _ hK12 => ?_
   refine c_region ?_
   refine l_val wn (r_move rfl) rfl ?_
   refine l_val wn (r_lbn 0 [.int .i64 s1.time, .int .i64 s1.value] rfl rfl rfl rfl agg39 inf39) rfl ?_
   refine l_callR wn rfl rfl fc rfl (fun w1 hM => fh s1 w1 hM.fr) ?_
   refine l_val wn (r_notb rfl) rfl ?_
   refine l_nil (e_go hK12 ?_)
   refine c_condb rfl (fun h3 => ?_) (fun h3 => ?_)
   · refine c_seq fun _ hK13 => ?_
     refine c_region ?_
     refine l_val wn (r_move rfl) rfl ?_
     refine l_val wn (r_move rfl) rfl ?_
     refine l_val wn (r_lbn 0 [.int .i64 s1.time, .int .i64 s1.value] rfl rfl rfl rfl agg39 inf39) rfl ?_
     refine l_val wn (r_ia (i := i) rfl hd1 rfl (by omega) (by first | omega | decide | (simp only [List.length_cons, List.length_nil, List.length_append, List.length_take, List.length_set]; omega)) Try.underlying24 inf39) rfl ?_
     obtain ⟨s2, hs2⟩ : ∃ x, r[i]? = some x := ⟨_, List.getElem?_eq_getElem (by first | omega | decide | (simp only [List.length_cons, List.length_nil, List.length_append, List.length_take, List.length_set]; omega))⟩
     refine l_rst 1 (vs := [.int .i64 s1.time, .int .i64 s1.value]) s1 encSample wn rfl rfl rfl rfl hd1 hs2 inf39 rfl rfl rfl rfl ?_
     refine l_nil (e_go hK13 ?_)
     refine c_region ?_
     refine l_val wn (r_move rfl) rfl ?_
     refine l_val wn (r_addn rfl rfl (by omega)) rfl ?_
     refine l_val wn (r_assign rfl) rfl ?_
     refine l_nil (e_in_n (e_go hK10 ?_))
     refine c_region ?_
     refine l_val wn (r_move rfl) rfl ?_
     refine l_val wn (r_addn rfl rfl (by omega)) rfl ?_
     refine l_val wn (r_assign rfl) rfl ?_
     refine l_nil (e_round4 (i + 1) (j + 1) (r.set i s1) (.slice A1 r.length cp1) (sc rfl (sc rfl (sc (ji (by omega)) (sc (ji (by omega)) sn)))) (fun _ h => (h.sel [1] (by decide) rfl)) ?_ ?_)
     · exact hI1.keep hs1 (by simpa using h3)
     omega
   refine c_skip (e_in_n (e_go hK10 ?_))
   refine c_region ?_
   refine l_val wn (r_move rfl) rfl ?_
   refine l_val wn (r_addn rfl rfl (by omega)) rfl ?_
   refine l_val wn (r_assign rfl) rfl ?_
   refine l_nil (e_round4 i (j + 1) r (.slice A1 r.length cp1) (sc rfl (sc rfl (sc rfl (sc (ji (by omega)) sn)))) (fun _ h => (h.sel [1] (by decide) rfl)) ?_ ?_)
   · exact hI1.drop hs1 (by simpa using h3)
   omega
 refine c_exit (e_then_x (e_loop4_x (e_in_hit (e_go hK6 ?_))))
 refine c_seq fun _ hK14 => ?_
 refine c_region ?_
 refine l_val wn (r_move rfl) rfl ?_
 refine l_val wn (r_move rfl) rfl ?_
 refine l_val wn (r_dsl (lo := i) (hi := r.length) rfl (lo1 rfl (by omega)) hi0 (by first | omega | decide | (simp only [List.length_cons, List.length_nil, List.length_append, List.length_take, List.length_set]; omega)) (by first | omega | decide | (simp only [List.length_cons, List.length_nil, List.length_append, List.length_take, List.length_set]; omega)) (by first | omega | decide | (simp only [List.length_cons, List.length_nil, List.length_append, List.length_take, List.length_set]; omega)) Try.underlying24 inf39) rfl ?_
 obtain ⟨ad2, hd2⟩ := hA1 (ne_nil (i := i) (by first | omega | decide | (simp only [List.length_cons, List.length_nil, List.length_append, List.length_take, List.length_set]; omega)))
 refine l_clear 0 (lo := i) encSample wn rfl rfl hd2 Try.underlying24 inf39 rfl rfl (by first | omega | decide | (simp only [List.length_cons, List.length_nil, List.length_append, List.length_take, List.length_set]; omega)) ?_
 refine l_nil (e_go hK14 ?_)
 refine c_seq fun _ hK15 => ?_
 refine c_region ?_
 refine l_val wn (r_move rfl) rfl ?_
 refine l_val wn (r_move rfl) rfl ?_
 refine l_val wn (r_take (hi := i) (r.take i) rfl (hi1 rfl (by omega)) (by first | omega | decide | (simp only [List.length_cons, List.length_nil, List.length_append, List.length_take, List.length_set]; omega)) (by first | omega | decide | (simp only [List.length_cons, List.length_nil, List.length_append, List.length_take, List.length_set]; omega)) (by simp only [List.length_take]; omega) Try.underlying24 inf39) rfl ?_
 refine l_val wn (r_assign rfl) rfl ?_
 refine l_nil (e_go hK15 ?_)
 refine c_ret (e_ret1 (.inl rfl) Try.results63 (rv_tmp rfl) fun w1 hM => ?_)
 exact hM.retU' 0 rfl (hI1.done (by omega))

theorem c_delB (lv : Value) (l : List Bucket) (f : Nat) (fcap : Array Value) (fp : Bucket → Bool) (w : World) (hl : w.ownsRow 0 78 8 lv l.length (l.flatMap bucketE)) (fc : ∀ vs w, (callFunc f vs).run Try.prog w = .ok (.enter f vs) w) (fh : ∀ (x : Bucket) (w1 : World), Fr (fun b => lv.ownBlock = some b) w w1 → Calls Try.prog f (#[.agg (bucketE x).toArray] ++ fcap) w1 (Ret w1 (.bool (fp x))))  :
    Calls Try.prog 65 #[lv, .func (.func f) #[] fcap] w (RetU w lv 78 8 bucketE (l.filter fun x => !fp x)) := by
 refine fstart (N := 42) (vals := [lv, .func (.func f) #[] fcap]) (S := Mem w (fun b => lv.ownBlock = some b) [Row lv 78 8 bucketE l]) Try.func65 rfl rfl rfl (Mem.ownArg hl) ?_
 refine c_open 0 (l := l) rfl fun A0 cp0 hv0 hc0 hm0 hA0 => ?_
 subst hv0
 refine c_seq fun _ hK1 => ?_
 refine c_region ?_
 refine l_val wn (r_assign rfl) rfl ?_
 refine l_nil (e_go hK1 ?_)
 refine c_seq fun _ hK2 => ?_
 refine c_region ?_
 refine l_val wn (r_move rfl) rfl ?_
 refine l_val wn (r_move rfl) rfl ?_
 refine l_callF wn rfl Try.call79 rfl (fun w1 hM => c_idxB _ l f fcap fp w1 (RowSl encBucket hM 0 rfl) fc (fun x w2 h2 => fh x w2 (hM.fr.trans h2 (fun _ _ h => h.elim)))) ?_
 refine l_val wn (r_assign rfl) rfl ?_
 refine l_nil (e_go hK2 ?_)
 refine c_seq fun _ hK3 => ?_
 refine c_seq fun _ hK4 => ?_
 refine c_region ?_
 refine l_val wn (r_move rfl) rfl ?_
 refine l_val wn (r_eql rfl rfl) rfl ?_
 refine l_nil (e_go hK4 ?_)
 refine c_cond rfl (fun h1 => ?_) (fun h1 => ?_)
 · refine c_seq fun _ hK5 => ?_
   refine c_region ?_
   refine l_val wn (r_move rfl) rfl ?_
   refine l_val wn (r_assign rfl) rfl ?_
   refine l_nil (e_go hK5 ?_)
   refine c_ret (e_then_r (e_ret1 (.inl rfl) Try.results65 (rv_tmp rfl) fun w1 hM => ?_))
   exact hM.retU' 0 rfl ((List.filter_eq_self.2 fun y hy => by rcases Sh.idx_cases fp l with h | ⟨i, x, h, _⟩; exact (by simp [h.2 y hy]); omega).symm)
 obtain ⟨ni, ⟨n, xn, hi, hxn, hpn, hnn⟩⟩ : Sh.idx fp l ≠ -1 ∧ ∃ (i : Nat) (x : Bucket), Sh.idx fp l = (i : Int) ∧ l[i]? = some x ∧ fp x = true ∧ ∀ y ∈ l.take i, fp y = false := ⟨h1, (Sh.idx_cases fp l).resolve_left (fun e => h1 e.1)⟩
 have hnl := (List.getElem?_eq_some_iff.1 hxn).1
 refine c_skip (e_go hK3 ?_)
 refine c_seq fun _ hK6 => ?_
 refine c_seq fun _ hK7 => ?_
 refine c_region ?_
 refine l_val wn (r_move rfl) rfl ?_
 refine l_val wn (r_addn rfl rfl (by omega)) rfl ?_
 refine l_val wn (r_assign rfl) rfl ?_
 refine l_nil (e_go hK7 ?_)
 refine c_block ?_
 refine c_loop4 (fun (i : Nat) (j : Nat) (r : List Bucket) (vr : Value) => [(0, vr), (1, .func (.func f) #[] fcap), (5, .int .i64 (i : Int)), (6, .int .i64 (j : Int))]) (fun (i : Nat) (j : Nat) (r : List Bucket) (vr : Value) => [Row vr 78 8 bucketE r]) (fun (i : Nat) (j : Nat) (r : List Bucket) (vr : Value) => Sh.Del fp l r i j) (fun (i : Nat) (j : Nat) (r : List Bucket) (vr : Value) => l.length - j) n (n + 1) l (.slice A0 l.length cp0) (sc rfl (sc rfl (sc (ji (by omega)) (sc (ji (by omega)) sn)))) (fun _ h => h) ?_ (fun i j r vr hI1 => ?_)
 · exact Sh.Del.start hxn hpn hnn
 have hlt := hI1.lt
 have hle := hI1.le
 have hlen := hI1.len
 refine c_open 0 (l := r) rfl fun A1 cp1 hv1 hc1 hm1 hA1 => ?_
 subst hv1
 refine c_seq fun _ hK8 => ?_
 refine c_seq fun _ hK9 => ?_
 refine c_region ?_
 refine l_val wn (r_move rfl) rfl ?_
 refine l_val wn (r_move rfl) rfl ?_
 refine l_val wn (r_len rfl Try.underlying25) rfl ?_
 refine l_val wn (r_lss rfl rfl) rfl ?_
 refine l_nil (e_go hK9 ?_)
 refine c_cond rfl (fun h2 => ?_) (fun h2 => ?_)
 · refine c_skip (e_go hK8 ?_)
   refine c_seq fun _ hK10 => ?_
   refine c_block ?_
   refine c_seq fun _ hK11 => ?_
   refine c_region ?_
   refine l_val wn (r_move rfl) rfl ?_
   refine l_val wn (r_move rfl) rfl ?_
   obtain ⟨ad1, hd1⟩ := hA1 (ne_nil (i := j) (by first | omega | decide | (simp only [List.length_cons, List.length_nil, List.length_append, List.length_take, List.length_set]; omega)))
   refine l_val wn (r_ia (i := j) rfl hd1 rfl (by omega) (by first | omega | decide | (simp only [List.length_cons, List.length_nil, List.length_append, List.length_take, List.length_set]; omega)) Try.underlying25 inf78) rfl ?_
   obtain ⟨s1, hs1⟩ : ∃ x, r[j]? = some x := ⟨_, List.getElem?_eq_getElem (by first | omega | decide | (simp only [List.length_cons, List.length_nil, List.length_append, List.length_take, List.length_set]; omega))⟩
   refine l_val wn (r_rln 0 [.int .i64 s1.at_, .int .i64 s1.sum.count, .int .i64 s1.sum.total, .int .i64 s1.sum.min, .int .i64 s1.sum.max, .int .i64 s1.sum.first, .int .i64 s1.sum.last, .int .i64 s1.sum.rise] encBucket rfl rfl hd1 hs1 rfl rfl agg78 inf78) rfl ?_
   refine l_alloc wn inf78 rfl fun b7 => ?_
   refine l_stn 0 wn rfl rfl rfl inf78 rfl rfl rfl ?_
   refine l_nil (e_go hK11 ?_)
   refine c_seq fun _ hK12 => ?_
   refine c_region ?_
   refine l_val wn (r_move rfl) rfl ?_
   refine l_val wn (r_lbn 0 [.int .i64 s1.at_, .int .i64 s1.sum.count, .int .i64 s1.sum.total, .int .i64 s1.sum.min, .int .i64 s1.sum.max, .int .i64 s1.sum.first, .int .i64 s1.sum.last, .int .i64 s1.sum.rise] rfl rfl rfl rfl agg78 inf78) rfl ?_
   refine l_callR wn rfl rfl fc rfl (fun w1 hM => fh s1 w1 hM.fr) ?_
   refine l_val wn (r_notb rfl) rfl ?_
   refine l_nil (e_go hK12 ?_)
   refine c_condb rfl (fun h3 => ?_) (fun h3 => ?_)
   · refine c_seq fun _ hK13 => ?_
     refine c_region ?_
     refine l_val wn (r_move rfl) rfl ?_
     refine l_val wn (r_move rfl) rfl ?_
     refine l_val wn (r_lbn 0 [.int .i64 s1.at_, .int .i64 s1.sum.count, .int .i64 s1.sum.total, .int .i64 s1.sum.min, .int .i64 s1.sum.max, .int .i64 s1.sum.first, .int .i64 s1.sum.last, .int .i64 s1.sum.rise] rfl rfl rfl rfl agg78 inf78) rfl ?_
     refine l_val wn (r_ia (i := i) rfl hd1 rfl (by omega) (by first | omega | decide | (simp only [List.length_cons, List.length_nil, List.length_append, List.length_take, List.length_set]; omega)) Try.underlying25 inf78) rfl ?_
     obtain ⟨s2, hs2⟩ : ∃ x, r[i]? = some x := ⟨_, List.getElem?_eq_getElem (by first | omega | decide | (simp only [List.length_cons, List.length_nil, List.length_append, List.length_take, List.length_set]; omega))⟩
     refine l_rst 1 (vs := [.int .i64 s1.at_, .int .i64 s1.sum.count, .int .i64 s1.sum.total, .int .i64 s1.sum.min, .int .i64 s1.sum.max, .int .i64 s1.sum.first, .int .i64 s1.sum.last, .int .i64 s1.sum.rise]) s1 encBucket wn rfl rfl rfl rfl hd1 hs2 inf78 rfl rfl rfl rfl ?_
     refine l_nil (e_go hK13 ?_)
     refine c_region ?_
     refine l_val wn (r_move rfl) rfl ?_
     refine l_val wn (r_addn rfl rfl (by omega)) rfl ?_
     refine l_val wn (r_assign rfl) rfl ?_
     refine l_nil (e_in_n (e_go hK10 ?_))
     refine c_region ?_
     refine l_val wn (r_move rfl) rfl ?_
     refine l_val wn (r_addn rfl rfl (by omega)) rfl ?_
     refine l_val wn (r_assign rfl) rfl ?_
     refine l_nil (e_round4 (i + 1) (j + 1) (r.set i s1) (.slice A1 r.length cp1) (sc rfl (sc rfl (sc (ji (by omega)) (sc (ji (by omega)) sn)))) (fun _ h => (h.sel [1] (by decide) rfl)) ?_ ?_)
     · exact hI1.keep hs1 (by simpa using h3)
     omega
   refine c_skip (e_in_n (e_go hK10 ?_))
   refine c_region ?_
   refine l_val wn (r_move rfl) rfl ?_
   refine l_val wn (r_addn rfl rfl (by omega)) rfl ?_
   refine l_val wn (r_assign rfl) rfl ?_
   refine l_nil (e_round4 i (j + 1) r (.slice A1 r.length cp1) (sc rfl (sc rfl (sc rfl (sc (ji (by omega)) sn)))) (fun _ h => (h.sel [1] (by decide) rfl)) ?_ ?_)
   · exact hI1.drop hs1 (by simpa using h3)
   omega
 refine c_exit (e_then_x (e_loop4_x (e_in_hit (e_go hK6 ?_))))
 refine c_seq fun _ hK14 => ?_
 refine c_region ?_
 refine l_val wn (r_move rfl) rfl ?_
 refine l_val wn (r_move rfl) rfl ?_
 refine l_val wn (r_dsl (lo := i) (hi := r.length) rfl (lo1 rfl (by omega)) hi0 (by first | omega | decide | (simp only [List.length_cons, List.length_nil, List.length_append, List.length_take, List.length_set]; omega)) (by first | omega | decide | (simp only [List.length_cons, List.length_nil, List.length_append, List.length_take, List.length_set]; omega)) (by first | omega | decide | (simp only [List.length_cons, List.length_nil, List.length_append, List.length_take, List.length_set]; omega)) Try.underlying25 inf78) rfl ?_
 obtain ⟨ad2, hd2⟩ := hA1 (ne_nil (i := i) (by first | omega | decide | (simp only [List.length_cons, List.length_nil, List.length_append, List.length_take, List.length_set]; omega)))
 refine l_clear 0 (lo := i) encBucket wn rfl rfl hd2 Try.underlying25 inf78 rfl rfl (by first | omega | decide | (simp only [List.length_cons, List.length_nil, List.length_append, List.length_take, List.length_set]; omega)) ?_
 refine l_nil (e_go hK14 ?_)
 refine c_seq fun _ hK15 => ?_
 refine c_region ?_
 refine l_val wn (r_move rfl) rfl ?_
 refine l_val wn (r_move rfl) rfl ?_
 refine l_val wn (r_take (hi := i) (r.take i) rfl (hi1 rfl (by omega)) (by first | omega | decide | (simp only [List.length_cons, List.length_nil, List.length_append, List.length_take, List.length_set]; omega)) (by first | omega | decide | (simp only [List.length_cons, List.length_nil, List.length_append, List.length_take, List.length_set]; omega)) (by simp only [List.length_take]; omega) Try.underlying25 inf78) rfl ?_
 refine l_val wn (r_assign rfl) rfl ?_
 refine l_nil (e_go hK15 ?_)
 refine c_ret (e_ret1 (.inl rfl) Try.results65 (rv_tmp rfl) fun w1 hM => ?_)
 exact hM.retU' 0 rfl (hI1.done (by omega))

theorem c_contB (lv : Value) (l : List Bucket) (f : Nat) (fcap : Array Value) (fp : Bucket → Bool) (w : World) (hl : FlatSl (In w) 8 bucketE lv l w) (fc : ∀ vs w, (callFunc f vs).run Try.prog w = .ok (.enter f vs) w) (fh : ∀ (x : Bucket) (w1 : World), Fr no w w1 → Calls Try.prog f (#[.agg (bucketE x).toArray] ++ fcap) w1 (Ret w1 (.bool (fp x))))  :
    Calls Try.prog 73 #[lv, .func (.func f) #[] fcap] w (Ret w (.bool (l.any fp))) := by
 obtain ⟨lA, lc, rfl, hlc, hlm, hlA⟩ := hl.form
 refine fstart (N := 9) (vals := [.slice lA l.length lc, .func (.func f) #[] fcap]) (S := Mem w no [slO (In w) 8 bucketE (.slice lA l.length lc) l]) Try.func73 rfl rfl rfl (Mem.ofDats (dc (dl hl) dn)) ?_
 refine c_seq fun _ hK1 => ?_
 refine c_region ?_
 refine l_val wn (r_assign rfl) rfl ?_
 refine l_nil (e_go hK1 ?_)
 refine c_seq fun _ hK2 => ?_
 refine c_region ?_
 refine l_val wn (r_move rfl) rfl ?_
 refine l_val wn (r_move rfl) rfl ?_
 refine l_callF wn rfl Try.call79 rfl (fun w1 hM => c_idxB _ l f fcap fp w1 (hM.sl 0 rfl) fc (fun x w2 h2 => fh x w2 (hM.fr.trans h2 (fun _ _ h => h)))) ?_
 refine l_val wn (r_geq rfl rfl) rfl ?_
 refine l_val wn (r_assign rfl) rfl ?_
 refine l_nil (e_go hK2 ?_)
 refine c_ret (e_ret1 (.inl rfl) Try.results73 (rv_tmp rfl) fun w1 hM => ?_)
 exact ret_ok (congrArg Value.bool (by rw [Bool.eq_iff_iff, decide_eq_true_iff]; exact Sh.idx_any)) hM

theorem c_within (lv : Value) (l : List Bucket) (f : Int) (t : Int) (w : World) (hl : FlatSl (In w) 8 bucketE lv l w)  :
    Calls Try.prog 51 #[lv, .int .i64 f, .int .i64 t] w (Ret w (.bool (Sh.within l f t))) := by
 obtain ⟨lA, lc, rfl, hlc, hlm, hlA⟩ := hl.form
 refine fstart (N := 11) (vals := [.slice lA l.length lc, .int .i64 f, .int .i64 t]) (S := Mem w no [slO (In w) 8 bucketE (.slice lA l.length lc) l]) Try.func51 rfl rfl rfl (Mem.ofDats (dc (dl hl) dn)) ?_
 refine c_seq fun _ hK1 => ?_
 refine c_region ?_
 refine l_box1 wn rfl rfl rfl fun b4 => ?_
 refine l_box1 wn rfl rfl rfl fun b5 => ?_
 refine l_val wn (r_assign rfl) rfl ?_
 refine l_nil (e_go hK1 ?_)
 refine c_seq fun _ hK2 => ?_
 refine c_region ?_
 refine l_val wn (r_move rfl) rfl ?_
 refine l_val wn (r_makeFunc rfl rfl) rfl ?_
 refine l_callF wn rfl Try.call73 rfl (fun w1 hM => c_contB _ l 74 #[.pointer (some ⟨b4, 0, none⟩), .pointer (some ⟨b5, 0, none⟩)] (fun x => !decide (f ≤ x.at_ ∧ x.at_ < t)) w1 (hM.sl 2 rfl) Try.call74 (fun x w2 h2 => by simpa using c_within1 x b4 f b5 t w2 (hM.blkKeep (i := 1) rfl h2) (hM.blkKeep (i := 0) rfl h2))) ?_
 refine l_val wn (r_notb rfl) rfl ?_
 refine l_val wn (r_assign rfl) rfl ?_
 refine l_nil (e_go hK2 ?_)
 refine c_ret (e_ret1 (.inl rfl) Try.results51 (rv_tmp rfl) fun w1 hM => ?_)
 exact ret_ok (congrArg Value.bool (by rw [Sh.within, List.all_eq_not_any_not])) hM

theorem c_times (zp : Nat) (z0 : Value) (z1 : Value) (z2 : Value) (z3 : Value) (z : Shelf) (w : World) (hzp : w.heap[zp]? = some (.cells [z0, z1, z2, z3, .int .i64 z.rawFrom, .int .i64 z.fineFrom, .int .i64 z.fineTo, .int .i64 z.coarseFrom, .int .i64 z.coarseTo].toArray 27 (0, 0)))  :
    Calls Try.prog 50 #[.pointer (some ⟨zp, 0, none⟩)] w (Ret w (.bool (decide (Sh.times z)))) := by
 refine fstart (N := 99) (vals := [.pointer (some ⟨zp, 0, none⟩)]) (S := Mem w no [datB zp [z0, z1, z2, z3, .int .i64 z.rawFrom, .int .i64 z.fineFrom, .int .i64 z.fineTo, .int .i64 z.coarseFrom, .int .i64 z.coarseTo] 27]) Try.func50 rfl rfl rfl (Mem.ofDats (dc (ddb hzp) dn)) ?_
 refine c_seq fun _ hK1 => ?_
 refine c_region ?_
 refine l_val wn (r_assign rfl) rfl ?_
 refine l_nil (e_go hK1 ?_)
 refine c_seq fun _ hK2 => ?_
 refine c_seq fun _ hK3 => ?_
 refine c_nodes (Mem w no [datB zp [z0, z1, z2, z3, .int .i64 z.rawFrom, .int .i64 z.fineFrom, .int .i64 z.fineTo, .int .i64 z.coarseFrom, .int .i64 z.coarseTo] 27]) mix (fun _ h => h.drew) rfl ?_
 refine n_run (f := 2) [0, 1, 2, 3, 4, 5, 6, 7, 8, 9, 10, 11, 12, 13, 14, 15, 16, 17, 20] rfl rfl (by kernel_rfl) (by kernel_rfl) (fun _ h => h) fun KS hKS => ?_
 refine s_val wn (r_move rfl) rfl ?_
 refine s_val wn (r_nilCheck rfl) rfl ?_
 refine s_val wn (r_fa rfl fld27_5) rfl ?_
 refine s_val wn (r_ldb 0 rfl rfl rfl flat3) rfl ?_
 refine s_val wn (r_move rfl) rfl ?_
 refine s_val wn (r_nilCheck rfl) rfl ?_
 refine s_val wn (r_fa rfl fld27_6) rfl ?_
 refine s_val wn (r_ldb 0 rfl rfl rfl flat3) rfl ?_
 refine s_val wn (r_build [.int .i64 z.fineFrom, .int .i64 z.fineTo, .int .i64 10] pl104 inf104 rfl rfl) rfl ?_
 refine s_val wn (r_move rfl) rfl ?_
 refine s_val wn (r_nilCheck rfl) rfl ?_
 refine s_val wn (r_fa rfl fld27_7) rfl ?_
 refine s_val wn (r_ldb 0 rfl rfl rfl flat3) rfl ?_
 refine s_val wn (r_move rfl) rfl ?_
 refine s_val wn (r_nilCheck rfl) rfl ?_
 refine s_val wn (r_fa rfl fld27_8) rfl ?_
 refine s_val wn (r_ldb 0 rfl rfl rfl flat3) rfl ?_
 refine s_val wn (r_build [.int .i64 z.coarseFrom, .int .i64 z.coarseTo, .int .i64 60] pl104 inf104 rfl rfl) rfl ?_
 refine s_val wn (r_move rfl) rfl ?_
 refine s_end hKS ?_
 refine n_step1 (f := 1) (i := 18) rfl (by kernel_rfl) ?_
 refine n_one (i := 18) rfl fun KN hKN => ?_
 refine l_bsL triE ([(⟨z.fineFrom, z.fineTo, 10⟩ : Tri), (⟨z.coarseFrom, z.coarseTo, 60⟩ : Tri)] : List Tri) wn Try.underlying105 inf104 rfl rfl rfl rfl (by decide) (by decide) rfl fun b23 => ?_
 refine l_nil (hKN _ _ (fun _ h => (h.sel [1] (by decide) rfl)) ?_)
 refine n_run (f := 0) [19] rfl rfl (by kernel_rfl) (by kernel_rfl) (fun _ h => (h.sel [1] (by decide) rfl)) fun KS hKS => ?_
 refine s_val wn (r_len rfl Try.underlying105) rfl ?_
 refine s_end hKS ?_
 refine n_done (by kernel_rfl) (e_go hK3 ?_)
 refine c_block ?_
 refine c_loop1 (fun (k : Nat) => [(0, .pointer (some ⟨zp, 0, none⟩)), (23, .slice (some ⟨b23, 0, none⟩) 2 2), (24, .int .i64 2), (25, .int .i64 (k : Int))]) (fun (k : Nat) => [Row (.slice (some ⟨b23, 0, none⟩) 2 2) 104 3 triE ([(⟨z.fineFrom, z.fineTo, 10⟩ : Tri), (⟨z.coarseFrom, z.coarseTo, 60⟩ : Tri)] : List Tri), datB zp [z0, z1, z2, z3, .int .i64 z.rawFrom, .int .i64 z.fineFrom, .int .i64 z.fineTo, .int .i64 z.coarseFrom, .int .i64 z.coarseTo] 27]) (fun (k : Nat) => k ≤ 2 ∧ ∀ (j : Nat) (y : Tri), j < k → [(⟨z.fineFrom, z.fineTo, 10⟩ : Tri), (⟨z.coarseFrom, z.coarseTo, 60⟩ : Tri)][j]? = some y → ¬ Sh.badT y) (fun (k : Nat) => 2 - k) 0 (sc rfl (sc rfl (sc rfl (sc (ji (by omega)) sn)))) (fun _ h => h) ?_ (fun k hI1 => ?_)
 · exact ⟨by omega, fun j y h => absurd h (Nat.not_lt_zero j)⟩
 refine c_seq fun _ hK4 => ?_
 refine c_region ?_
 refine l_val wn (r_lss rfl rfl) rfl ?_
 refine l_nil (e_go hK4 ?_)
 refine c_seq fun _ hK5 => ?_
 refine c_cond rfl (fun h1 => ?_) (fun h1 => ?_)
 · refine c_skip (e_go hK5 ?_)
   refine c_seq fun _ hK6 => ?_
   refine c_block ?_
   refine c_seq fun _ hK7 => ?_
   refine c_region ?_
   refine l_val wn (r_ia (i := k) rfl rfl rfl (by omega) (by first | omega | decide | (simp only [List.length_cons, List.length_nil, List.length_append, List.length_take, List.length_set]; omega)) Try.underlying105 inf104) rfl ?_
   obtain ⟨s1, hs1⟩ : ∃ x, ([(⟨z.fineFrom, z.fineTo, 10⟩ : Tri), (⟨z.coarseFrom, z.coarseTo, 60⟩ : Tri)] : List Tri)[k]? = some x := ⟨_, List.getElem?_eq_getElem (by first | omega | decide | (simp only [List.length_cons, List.length_nil, List.length_append, List.length_take, List.length_set]; omega))⟩
   have hsc : 0 < s1.c := by rcases Sh.two hs1 with e | e <;> rw [e] <;> simp
   refine l_val wn (r_rln 0 [.int .i64 s1.a, .int .i64 s1.b, .int .i64 s1.c] encTri rfl rfl rfl hs1 rfl rfl agg104 inf104) rfl ?_
   refine l_alloc wn inf104 rfl fun b4 => ?_
   refine l_stn 0 wn rfl rfl rfl inf104 rfl rfl rfl ?_
   refine l_nil (e_go hK7 ?_)
   refine c_seq fun _ hK8 => ?_
   refine c_region ?_
   refine l_val wn (r_fa rfl fld104_0) rfl ?_
   refine l_val wn (r_lb 0 rfl rfl rfl flat3) rfl ?_
   refine l_val wn (r_lss rfl rfl) rfl ?_
   refine l_val wn (r_move rfl) rfl ?_
   refine l_case (t := 32) rfl (fun h2 => ?_) (fun h2 => ?_)
   · refine l_skip (wg rfl rfl rfl) rfl ?_
     refine l_skip (wg rfl rfl rfl) rfl ?_
     refine l_skip (wg rfl rfl rfl) rfl ?_
     refine l_skip (wg rfl rfl rfl) rfl ?_
     refine l_skip (wg rfl rfl rfl) rfl ?_
     refine l_val wn (r_pick rfl rfl) rfl ?_
     refine l_val wn (r_move rfl) rfl ?_
     refine l_skip (wg rfl rfl rfl) rfl ?_
     refine l_skip (wg rfl rfl rfl) rfl ?_
     refine l_skip (wg rfl rfl rfl) rfl ?_
     refine l_val wn (r_pick rfl rfl) rfl ?_
     refine l_val wn (r_move rfl) rfl ?_
     refine l_skip (wg rfl rfl rfl) rfl ?_
     refine l_skip (wg rfl rfl rfl) rfl ?_
     refine l_skip (wg rfl rfl rfl) rfl ?_
     refine l_skip (wg rfl rfl rfl) rfl ?_
     refine l_skip (wg rfl rfl rfl) rfl ?_
     refine l_skip (wg rfl rfl rfl) rfl ?_
     refine l_val wn (r_pick rfl rfl) rfl ?_
     refine l_val wn (r_move rfl) rfl ?_
     refine l_skip (wg rfl rfl rfl) rfl ?_
     refine l_skip (wg rfl rfl rfl) rfl ?_
     refine l_skip (wg rfl rfl rfl) rfl ?_
     refine l_skip (wg rfl rfl rfl) rfl ?_
     refine l_skip (wg rfl rfl rfl) rfl ?_
     refine l_skip (wg rfl rfl rfl) rfl ?_
     refine l_val wn (r_pick rfl rfl) rfl ?_
     refine l_nil (e_go hK8 ?_)
     refine c_true rfl rfl ?_
     refine c_seq fun _ hK9 => ?_
     refine c_region ?_
     refine l_val wn (r_assign rfl) rfl ?_
     refine l_nil (e_go hK9 ?_)
     refine c_ret (e_in_r (e_then_r (e_loop1_r (e_in_r (e_then_r (e_ret1 (.inl rfl) Try.results50 (rv_tmp rfl) fun w1 hM => ?_))))))
     have hb : Sh.badT s1 := by unfold Sh.badT; omega
     exact ret_ok (congrArg Value.bool (decide_eq_false (fun h => by rcases Sh.two hs1 with e | e <;> rw [e] at hb <;> first | exact h.1.1 hb | exact h.1.2 hb)).symm) hM
   refine l_val (wg rfl rfl rfl) (r_fa rfl fld104_0) rfl ?_
   refine l_val (wg rfl rfl rfl) (r_lb 0 rfl rfl rfl flat3) rfl ?_
   refine l_val (wg rfl rfl rfl) (r_fa rfl fld104_1) rfl ?_
   refine l_val (wg rfl rfl rfl) (r_lb 0 rfl rfl rfl flat3) rfl ?_
   refine l_val (wg rfl rfl rfl) (r_gtr rfl rfl) rfl ?_
   refine l_val wn (r_pick rfl rfl) rfl ?_
   refine l_val wn (r_move rfl) rfl ?_
   refine l_case (t := 39) rfl (fun h3 => ?_) (fun h3 => ?_)
   · refine l_skip (wg rfl rfl rfl) rfl ?_
     refine l_skip (wg rfl rfl rfl) rfl ?_
     refine l_skip (wg rfl rfl rfl) rfl ?_
     refine l_val wn (r_pick rfl rfl) rfl ?_
     refine l_val wn (r_move rfl) rfl ?_
     refine l_skip (wg rfl rfl rfl) rfl ?_
     refine l_skip (wg rfl rfl rfl) rfl ?_
     refine l_skip (wg rfl rfl rfl) rfl ?_
     refine l_skip (wg rfl rfl rfl) rfl ?_
     refine l_skip (wg rfl rfl rfl) rfl ?_
     refine l_skip (wg rfl rfl rfl) rfl ?_
     refine l_val wn (r_pick rfl rfl) rfl ?_
     refine l_val wn (r_move rfl) rfl ?_
     refine l_skip (wg rfl rfl rfl) rfl ?_
     refine l_skip (wg rfl rfl rfl) rfl ?_
     refine l_skip (wg rfl rfl rfl) rfl ?_
     refine l_skip (wg rfl rfl rfl) rfl ?_
     refine l_skip (wg rfl rfl rfl) rfl ?_
     refine l_skip (wg rfl rfl rfl) rfl ?_
     refine l_val wn (r_pick rfl rfl) rfl ?_
     refine l_nil (e_go hK8 ?_)
     refine c_true rfl rfl ?_
     refine c_seq fun _ hK10 => ?_
     refine c_region ?_
     refine l_val wn (r_assign rfl) rfl ?_
     refine l_nil (e_go hK10 ?_)
     refine c_ret (e_in_r (e_then_r (e_loop1_r (e_in_r (e_then_r (e_ret1 (.inl rfl) Try.results50 (rv_tmp rfl) fun w1 hM => ?_))))))
     have hb : Sh.badT s1 := by unfold Sh.badT; omega
     exact ret_ok (congrArg Value.bool (decide_eq_false (fun h => by rcases Sh.two hs1 with e | e <;> rw [e] at hb <;> first | exact h.1.1 hb | exact h.1.2 hb)).symm) hM
   refine l_val (wg rfl rfl rfl) (r_fa rfl fld104_1) rfl ?_
   refine l_val (wg rfl rfl rfl) (r_lb 0 rfl rfl rfl flat3) rfl ?_
   refine l_val (wg rfl rfl rfl) (r_gtr rfl rfl) rfl ?_
   refine l_val wn (r_pick rfl rfl) rfl ?_
   refine l_val wn (r_move rfl) rfl ?_
   refine l_case (t := 44) rfl (fun h4 => ?_) (fun h4 => ?_)
   · refine l_skip (wg rfl rfl rfl) rfl ?_
     refine l_skip (wg rfl rfl rfl) rfl ?_
     refine l_skip (wg rfl rfl rfl) rfl ?_
     refine l_skip (wg rfl rfl rfl) rfl ?_
     refine l_skip (wg rfl rfl rfl) rfl ?_
     refine l_skip (wg rfl rfl rfl) rfl ?_
     refine l_val wn (r_pick rfl rfl) rfl ?_
     refine l_val wn (r_move rfl) rfl ?_
     refine l_skip (wg rfl rfl rfl) rfl ?_
     refine l_skip (wg rfl rfl rfl) rfl ?_
     refine l_skip (wg rfl rfl rfl) rfl ?_
     refine l_skip (wg rfl rfl rfl) rfl ?_
     refine l_skip (wg rfl rfl rfl) rfl ?_
     refine l_skip (wg rfl rfl rfl) rfl ?_
     refine l_val wn (r_pick rfl rfl) rfl ?_
     refine l_nil (e_go hK8 ?_)
     refine c_true rfl rfl ?_
     refine c_seq fun _ hK11 => ?_
     refine c_region ?_
     refine l_val wn (r_assign rfl) rfl ?_
     refine l_nil (e_go hK11 ?_)
     refine c_ret (e_in_r (e_then_r (e_loop1_r (e_in_r (e_then_r (e_ret1 (.inl rfl) Try.results50 (rv_tmp rfl) fun w1 hM => ?_))))))
     have hb : Sh.badT s1 := by unfold Sh.badT; omega
     exact ret_ok (congrArg Value.bool (decide_eq_false (fun h => by rcases Sh.two hs1 with e | e <;> rw [e] at hb <;> first | exact h.1.1 hb | exact h.1.2 hb)).symm) hM
   refine l_val (wg rfl rfl rfl) (r_fa rfl fld104_0) rfl ?_
   refine l_val (wg rfl rfl rfl) (r_lb 0 rfl rfl rfl flat3) rfl ?_
   refine l_val (wg rfl rfl rfl) (r_fa rfl fld104_2) rfl ?_
   refine l_val (wg rfl rfl rfl) (r_lb 0 rfl rfl rfl flat3) rfl ?_
   refine l_val (wg rfl rfl rfl) (r_remn rfl rfl (by omega) (by omega)) rfl ?_
   refine l_val (wg rfl rfl rfl) (r_neq rfl rfl) rfl ?_
   refine l_val wn (r_pick rfl rfl) rfl ?_
   refine l_val wn (r_move rfl) rfl ?_
   refine l_case (t := 52) rfl (fun h5 => ?_) (fun h5 => ?_)
   · refine l_skip (wg rfl rfl rfl) rfl ?_
     refine l_skip (wg rfl rfl rfl) rfl ?_
     refine l_skip (wg rfl rfl rfl) rfl ?_
     refine l_skip (wg rfl rfl rfl) rfl ?_
     refine l_skip (wg rfl rfl rfl) rfl ?_
     refine l_skip (wg rfl rfl rfl) rfl ?_
     refine l_val wn (r_pick rfl rfl) rfl ?_
     refine l_nil (e_go hK8 ?_)
     refine c_true rfl rfl ?_
     refine c_seq fun _ hK12 => ?_
     refine c_region ?_
     refine l_val wn (r_assign rfl) rfl ?_
     refine l_nil (e_go hK12 ?_)
     refine c_ret (e_in_r (e_then_r (e_loop1_r (e_in_r (e_then_r (e_ret1 (.inl rfl) Try.results50 (rv_tmp rfl) fun w1 hM => ?_))))))
     have hb : Sh.badT s1 := by unfold Sh.badT; omega
     exact ret_ok (congrArg Value.bool (decide_eq_false (fun h => by rcases Sh.two hs1 with e | e <;> rw [e] at hb <;> first | exact h.1.1 hb | exact h.1.2 hb)).symm) hM
   refine l_val (wg rfl rfl rfl) (r_fa rfl fld104_1) rfl ?_
   refine l_val (wg rfl rfl rfl) (r_lb 0 rfl rfl rfl flat3) rfl ?_
   refine l_val (wg rfl rfl rfl) (r_fa rfl fld104_2) rfl ?_
   refine l_val (wg rfl rfl rfl) (r_lb 0 rfl rfl rfl flat3) rfl ?_
   refine l_val (wg rfl rfl rfl) (r_remn rfl rfl (by omega) (by omega)) rfl ?_
   refine l_val (wg rfl rfl rfl) (r_neq rfl rfl) rfl ?_
   refine l_val wn (r_pick rfl rfl) rfl ?_
   refine l_nil (e_go hK8 ?_)
   refine c_cond rfl (fun h6 => ?_) (fun h6 => ?_)
   · refine c_seq fun _ hK13 => ?_
     refine c_region ?_
     refine l_val wn (r_assign rfl) rfl ?_
     refine l_nil (e_go hK13 ?_)
     refine c_ret (e_in_r (e_then_r (e_loop1_r (e_in_r (e_then_r (e_ret1 (.inl rfl) Try.results50 (rv_tmp rfl) fun w1 hM => ?_))))))
     have hb : Sh.badT s1 := by unfold Sh.badT; omega
     exact ret_ok (congrArg Value.bool (decide_eq_false (fun h => by rcases Sh.two hs1 with e | e <;> rw [e] at hb <;> first | exact h.1.1 hb | exact h.1.2 hb)).symm) hM
   refine c_skip (e_in_n (e_go hK6 ?_))
   refine c_region ?_
   refine l_val wn (r_addn rfl rfl (by omega)) rfl ?_
   refine l_val wn (r_move rfl) rfl ?_
   refine l_nil (e_round1 (k + 1) (sc rfl (sc rfl (sc rfl (sc (ji (by omega)) sn)))) (fun _ h => (h.sel [1, 2] (by decide) rfl)) ?_ ?_)
   · refine ⟨by omega, fun j y hj hy => ?_⟩
     rcases Nat.lt_or_ge j k with h | h
     · exact hI1.2 j y h hy
     obtain rfl : j = k := by omega
     obtain rfl : s1 = y := Option.some.inj (hs1.symm.trans hy)
     unfold Sh.badT; omega
   omega
 refine c_exit (e_then_x (e_loop1_x (e_in_hit (e_go hK2 ?_))))
 refine c_seq fun _ hK14 => ?_
 refine c_quiet mix (by kernel_rfl) (fun _ h => h.drew) ?_
 refine q_val wn (r_move rfl) rfl ?_
 refine q_val wn (r_nilCheck rfl) rfl ?_
 refine q_val wn (r_fa rfl fld27_4) rfl ?_
 refine q_val wn (r_ldb 1 rfl rfl rfl flat3) rfl ?_
 refine q_val wn (r_geq rfl rfl) rfl ?_
 refine q_val wn (r_move rfl) rfl ?_
 refine q_case (t := 66) rfl (fun h7 => ?_) (fun h7 => ?_)
 · refine q_val (wg rfl rfl rfl) (r_move rfl) rfl ?_
   refine q_val (wg rfl rfl rfl) (r_nilCheck rfl) rfl ?_
   refine q_val (wg rfl rfl rfl) (r_fa rfl fld27_4) rfl ?_
   refine q_val (wg rfl rfl rfl) (r_ldb 1 rfl rfl rfl flat3) rfl ?_
   refine q_val (wg rfl rfl rfl) (r_move rfl) rfl ?_
   refine q_val (wg rfl rfl rfl) (r_nilCheck rfl) rfl ?_
   refine q_val (wg rfl rfl rfl) (r_fa rfl fld27_6) rfl ?_
   refine q_val (wg rfl rfl rfl) (r_ldb 1 rfl rfl rfl flat3) rfl ?_
   refine q_val (wg rfl rfl rfl) (r_leq rfl rfl) rfl ?_
   refine q_val wn (r_pick rfl rfl) rfl ?_
   refine q_val wn (r_move rfl) rfl ?_
   refine q_case (t := 77) rfl (fun h8 => ?_) (fun h8 => ?_)
   · refine q_val (wg rfl rfl rfl) (r_move rfl) rfl ?_
     refine q_val (wg rfl rfl rfl) (r_nilCheck rfl) rfl ?_
     refine q_val (wg rfl rfl rfl) (r_fa rfl fld27_5) rfl ?_
     refine q_val (wg rfl rfl rfl) (r_ldb 1 rfl rfl rfl flat3) rfl ?_
     refine q_val (wg rfl rfl rfl) (r_move rfl) rfl ?_
     refine q_val (wg rfl rfl rfl) (r_nilCheck rfl) rfl ?_
     refine q_val (wg rfl rfl rfl) (r_fa rfl fld27_8) rfl ?_
     refine q_val (wg rfl rfl rfl) (r_ldb 1 rfl rfl rfl flat3) rfl ?_
     refine q_val (wg rfl rfl rfl) (r_leq rfl rfl) rfl ?_
     refine q_val wn (r_pick rfl rfl) rfl ?_
     refine q_val wn (r_move rfl) rfl ?_
     refine q_case (t := 88) rfl (fun h9 => ?_) (fun h9 => ?_)
     · refine q_val (wg rfl rfl rfl) (r_move rfl) rfl ?_
       refine q_val (wg rfl rfl rfl) (r_nilCheck rfl) rfl ?_
       refine q_val (wg rfl rfl rfl) (r_fa rfl fld27_8) rfl ?_
       refine q_val (wg rfl rfl rfl) (r_ldb 1 rfl rfl rfl flat3) rfl ?_
       refine q_val (wg rfl rfl rfl) (r_move rfl) rfl ?_
       refine q_val (wg rfl rfl rfl) (r_nilCheck rfl) rfl ?_
       refine q_val (wg rfl rfl rfl) (r_fa rfl fld27_6) rfl ?_
       refine q_val (wg rfl rfl rfl) (r_ldb 1 rfl rfl rfl flat3) rfl ?_
       refine q_val (wg rfl rfl rfl) (r_leq rfl rfl) rfl ?_
       refine q_val wn (r_pick rfl rfl) rfl ?_
       refine q_val wn (r_assign rfl) rfl ?_
       refine q_end (e_go hK14 ?_)
       refine c_ret (e_ret1 (.inl rfl) Try.results50 (rv_tmp rfl) fun w1 hM => ?_)
       have hAB : ¬ Sh.badT ⟨z.fineFrom, z.fineTo, 10⟩ ∧ ¬ Sh.badT ⟨z.coarseFrom, z.coarseTo, 60⟩ := ⟨hI1.2 0 _ (by omega) rfl, hI1.2 1 _ (by omega) rfl⟩
       exact ret_ok (congrArg Value.bool (decide_eq_decide.2 (by rw [Sh.times, and_iff_right hAB]; omega))) hM
     refine q_skip (wg rfl rfl rfl) rfl ?_
     refine q_skip (wg rfl rfl rfl) rfl ?_
     refine q_skip (wg rfl rfl rfl) rfl ?_
     refine q_skip (wg rfl rfl rfl) rfl ?_
     refine q_skip (wg rfl rfl rfl) rfl ?_
     refine q_skip (wg rfl rfl rfl) rfl ?_
     refine q_skip (wg rfl rfl rfl) rfl ?_
     refine q_skip (wg rfl rfl rfl) rfl ?_
     refine q_skip (wg rfl rfl rfl) rfl ?_
     refine q_val wn (r_pick rfl rfl) rfl ?_
     refine q_val wn (r_assign rfl) rfl ?_
     refine q_end (e_go hK14 ?_)
     refine c_ret (e_ret1 (.inl rfl) Try.results50 (rv_tmp rfl) fun w1 hM => ?_)
     have hAB : ¬ Sh.badT ⟨z.fineFrom, z.fineTo, 10⟩ ∧ ¬ Sh.badT ⟨z.coarseFrom, z.coarseTo, 60⟩ := ⟨hI1.2 0 _ (by omega) rfl, hI1.2 1 _ (by omega) rfl⟩
     exact ret_ok (congrArg Value.bool (decide_eq_false (fun h => by have := h.2; omega)).symm) hM
   refine q_skip (wg rfl rfl rfl) rfl ?_
   refine q_skip (wg rfl rfl rfl) rfl ?_
   refine q_skip (wg rfl rfl rfl) rfl ?_
   refine q_skip (wg rfl rfl rfl) rfl ?_
   refine q_skip (wg rfl rfl rfl) rfl ?_
   refine q_skip (wg rfl rfl rfl) rfl ?_
   refine q_skip (wg rfl rfl rfl) rfl ?_
   refine q_skip (wg rfl rfl rfl) rfl ?_
   refine q_skip (wg rfl rfl rfl) rfl ?_
   refine q_val wn (r_pick rfl rfl) rfl ?_
   refine q_val wn (r_move rfl) rfl ?_
   refine q_skip (wg rfl rfl rfl) rfl ?_
   refine q_skip (wg rfl rfl rfl) rfl ?_
   refine q_skip (wg rfl rfl rfl) rfl ?_
   refine q_skip (wg rfl rfl rfl) rfl ?_
   refine q_skip (wg rfl rfl rfl) rfl ?_
   refine q_skip (wg rfl rfl rfl) rfl ?_
   refine q_skip (wg rfl rfl rfl) rfl ?_
   refine q_skip (wg rfl rfl rfl) rfl ?_
   refine q_skip (wg rfl rfl rfl) rfl ?_
   refine q_val wn (r_pick rfl rfl) rfl ?_
   refine q_val wn (r_assign rfl) rfl ?_
   refine q_end (e_go hK14 ?_)
   refine c_ret (e_ret1 (.inl rfl) Try.results50 (rv_tmp rfl) fun w1 hM => ?_)
   have hAB : ¬ Sh.badT ⟨z.fineFrom, z.fineTo, 10⟩ ∧ ¬ Sh.badT ⟨z.coarseFrom, z.coarseTo, 60⟩ := ⟨hI1.2 0 _ (by omega) rfl, hI1.2 1 _ (by omega) rfl⟩
   exact ret_ok (congrArg Value.bool (decide_eq_false (fun h => by have := h.2; omega)).symm) hM
 refine q_skip (wg rfl rfl rfl) rfl ?_
 refine q_skip (wg rfl rfl rfl) rfl ?_
 refine q_skip (wg rfl rfl rfl) rfl ?_
 refine q_skip (wg rfl rfl rfl) rfl ?_
 refine q_skip (wg rfl rfl rfl) rfl ?_
 refine q_skip (wg rfl rfl rfl) rfl ?_
 refine q_skip (wg rfl rfl rfl) rfl ?_
 refine q_skip (wg rfl rfl rfl) rfl ?_
 refine q_skip (wg rfl rfl rfl) rfl ?_
 refine q_val wn (r_pick rfl rfl) rfl ?_
 refine q_val wn (r_move rfl) rfl ?_
 refine q_skip (wg rfl rfl rfl) rfl ?_
 refine q_skip (wg rfl rfl rfl) rfl ?_
 refine q_skip (wg rfl rfl rfl) rfl ?_
 refine q_skip (wg rfl rfl rfl) rfl ?_
 refine q_skip (wg rfl rfl rfl) rfl ?_
 refine q_skip (wg rfl rfl rfl) rfl ?_
 refine q_skip (wg rfl rfl rfl) rfl ?_
 refine q_skip (wg rfl rfl rfl) rfl ?_
 refine q_skip (wg rfl rfl rfl) rfl ?_
 refine q_val wn (r_pick rfl rfl) rfl ?_
 refine q_val wn (r_move rfl) rfl ?_
 refine q_skip (wg rfl rfl rfl) rfl ?_
 refine q_skip (wg rfl rfl rfl) rfl ?_
 refine q_skip (wg rfl rfl rfl) rfl ?_
 refine q_skip (wg rfl rfl rfl) rfl ?_
 refine q_skip (wg rfl rfl rfl) rfl ?_
 refine q_skip (wg rfl rfl rfl) rfl ?_
 refine q_skip (wg rfl rfl rfl) rfl ?_
 refine q_skip (wg rfl rfl rfl) rfl ?_
 refine q_skip (wg rfl rfl rfl) rfl ?_
 refine q_val wn (r_pick rfl rfl) rfl ?_
 refine q_val wn (r_assign rfl) rfl ?_
 refine q_end (e_go hK14 ?_)
 refine c_ret (e_ret1 (.inl rfl) Try.results50 (rv_tmp rfl) fun w1 hM => ?_)
 have hAB : ¬ Sh.badT ⟨z.fineFrom, z.fineTo, 10⟩ ∧ ¬ Sh.badT ⟨z.coarseFrom, z.coarseTo, 60⟩ := ⟨hI1.2 0 _ (by omega) rfl, hI1.2 1 _ (by omega) rfl⟩
 exact ret_ok (congrArg Value.bool (decide_eq_false (fun h => by have := h.2; omega)).symm) hM

set_option maxHeartbeats 2000000 in
theorem c_shWrong (z0 : Value) (z1 : Value) (z2 : Value) (z3 : Value) (z : Shelf) (P0 : Nat → Prop) (w : World) (hP0 : ∀ b, P0 b → b < w.heap.size) (hz0 : FlatSl P0 2 labelE z0 z.series w) (hz1 : FlatSl P0 2 sampleE z1 z.raw w) (hz2 : FlatSl P0 8 bucketE z2 z.fine w) (hz3 : FlatSl P0 8 bucketE z3 z.coarse w)  :
    Calls Try.prog 19 #[.agg (List.toArray [z0, z1, z2, z3, .int .i64 z.rawFrom, .int .i64 z.fineFrom, .int .i64 z.fineTo, .int .i64 z.coarseFrom, .int .i64 z.coarseTo])] w (Ret w (.int .i64 (Sh.wrong z))) := by
 obtain ⟨z0A, z0c, rfl, hz0c, hz0m, hz0A⟩ := hz0.form
 obtain ⟨z1A, z1c, rfl, hz1c, hz1m, hz1A⟩ := hz1.form
 obtain ⟨z2A, z2c, rfl, hz2c, hz2m, hz2A⟩ := hz2.form
 obtain ⟨z3A, z3c, rfl, hz3c, hz3m, hz3A⟩ := hz3.form
 refine fstart (N := 75) (vals := [.agg (List.toArray [.slice z0A z.series.length z0c, .slice z1A z.raw.length z1c, .slice z2A z.fine.length z2c, .slice z3A z.coarse.length z3c, .int .i64 z.rawFrom, .int .i64 z.fineFrom, .int .i64 z.fineTo, .int .i64 z.coarseFrom, .int .i64 z.coarseTo])]) (S := Mem w ⟨no, P0⟩ [slP 2 labelE (.slice z0A z.series.length z0c) z.series, slP 2 sampleE (.slice z1A z.raw.length z1c) z.raw, slP 8 bucketE (.slice z2A z.fine.length z2c) z.fine, slP 8 bucketE (.slice z3A z.coarse.length z3c) z.coarse]) Try.func19 rfl rfl rfl (Mem.ofDatsP hP0 (dc (dlp hz0) (dc (dlp hz1) (dc (dlp hz2) (dc (dlp hz3) dn))))) ?_
 refine c_seq fun _ hK1 => ?_
 refine c_region ?_
 refine l_box wn rfl rfl fun b1 => ?_
 refine l_val wn (r_assign rfl) rfl ?_
 refine l_nil (e_go hK1 ?_)
 refine c_seq fun _ hK2 => ?_
 refine c_seq fun _ hK3 => ?_
 refine c_region ?_
 refine l_val wn (r_fa rfl fld27_0) rfl ?_
 refine l_val wn (r_lb 0 rfl rfl rfl flat23) rfl ?_
 refine l_callF wn rfl Try.call47 rfl (fun w1 hM => c_namesWrong _ z.series w1 (hM.slp 1 rfl)) ?_
 refine l_val wn (r_assign rfl) rfl ?_
 refine l_nil (e_go hK3 ?_)
 refine c_seq fun _ hK4 => ?_
 refine c_region ?_
 refine l_val wn (r_move rfl) rfl ?_
 refine l_val wn (r_neq rfl rfl) rfl ?_
 refine l_nil (e_go hK4 ?_)
 refine c_cond rfl (fun h1 => ?_) (fun h1 => ?_)
 · refine c_seq fun _ hK5 => ?_
   refine c_region ?_
   refine l_val wn (r_move rfl) rfl ?_
   refine l_val wn (r_assign rfl) rfl ?_
   refine l_nil (e_go hK5 ?_)
   refine c_ret (e_then_r (e_ret1 (.inl rfl) Try.results19 (rv_tmp rfl) fun w1 hM => ?_))
   exact ret_ok (congrArg (Value.int .i64) (by rw [Sh.wrong, if_pos h1])) hM
 refine c_skip (e_go hK2 ?_)
 refine c_seq fun _ hK6 => ?_
 refine c_seq fun _ hK7 => ?_
 refine c_region ?_
 refine l_val wn (r_fa rfl fld27_1) rfl ?_
 refine l_val wn (r_lb 0 rfl rfl rfl flat24) rfl ?_
 refine l_callF wn rfl Try.call48 rfl (fun w1 hM => c_codecWrong _ z.raw w1 (hM.slp 2 rfl)) ?_
 refine l_alloc wn inf81 rfl fun b4 => ?_
 refine l_stn 0 wn rfl rfl rfl inf81 rfl rfl rfl ?_
 refine l_nil (e_go hK7 ?_)
 refine c_seq fun _ hK8 => ?_
 refine c_region ?_
 refine l_val wn (r_fa rfl fld81_0) rfl ?_
 refine l_val wn (r_lb 0 rfl rfl rfl flat30) rfl ?_
 refine l_val wn (r_neq rfl rfl) rfl ?_
 refine l_nil (e_go hK8 ?_)
 refine c_cond rfl (fun h2 => ?_) (fun h2 => ?_)
 · refine c_seq fun _ hK9 => ?_
   refine c_region ?_
   refine l_val wn (r_fa rfl fld81_0) rfl ?_
   refine l_val wn (r_lb 0 rfl rfl rfl flat30) rfl ?_
   refine l_val wn (r_assign rfl) rfl ?_
   refine l_nil (e_go hK9 ?_)
   refine c_ret (e_then_r (e_ret1 (.inl rfl) Try.results19 (rv_tmp rfl) fun w1 hM => ?_))
   exact ret_ok (congrArg (Value.int .i64) (by rw [Sh.wrong, if_neg h1, if_pos h2])) hM
 refine c_skip (e_go hK6 ?_)
 refine c_seq fun _ hK10 => ?_
 refine c_seq fun _ hK11 => ?_
 refine c_region ?_
 refine l_val wn (r_fa rfl fld27_2) rfl ?_
 refine l_val wn (r_lb 1 rfl rfl rfl flat25) rfl ?_
 refine l_callF wn rfl Try.call49 rfl (fun w1 hM => c_rollWrong _ z.fine 1 w1 (hM.slp 4 rfl)) ?_
 refine l_alloc wn inf81 rfl fun b5 => ?_
 refine l_stn 0 wn rfl rfl rfl inf81 rfl rfl rfl ?_
 refine l_nil (e_go hK11 ?_)
 refine c_seq fun _ hK12 => ?_
 refine c_region ?_
 refine l_val wn (r_fa rfl fld81_0) rfl ?_
 refine l_val wn (r_lb 0 rfl rfl rfl flat30) rfl ?_
 refine l_val wn (r_neq rfl rfl) rfl ?_
 refine l_nil (e_go hK12 ?_)
 refine c_cond rfl (fun h3 => ?_) (fun h3 => ?_)
 · refine c_seq fun _ hK13 => ?_
   refine c_region ?_
   refine l_val wn (r_fa rfl fld81_0) rfl ?_
   refine l_val wn (r_lb 0 rfl rfl rfl flat30) rfl ?_
   refine l_val wn (r_assign rfl) rfl ?_
   refine l_nil (e_go hK13 ?_)
   refine c_ret (e_then_r (e_ret1 (.inl rfl) Try.results19 (rv_tmp rfl) fun w1 hM => ?_))
   exact ret_ok (congrArg (Value.int .i64) (by rw [Sh.wrong, if_neg h1, if_neg h2, if_pos h3])) hM
 refine c_skip (e_go hK10 ?_)
 refine c_seq fun _ hK14 => ?_
 refine c_seq fun _ hK15 => ?_
 refine c_region ?_
 refine l_val wn (r_fa rfl fld27_3) rfl ?_
 refine l_val wn (r_lb 2 rfl rfl rfl flat25) rfl ?_
 refine l_callF wn rfl Try.call49 rfl (fun w1 hM => c_rollWrong _ z.coarse 2 w1 (hM.slp 6 rfl)) ?_
 refine l_alloc wn inf81 rfl fun b6 => ?_
 refine l_stn 0 wn rfl rfl rfl inf81 rfl rfl rfl ?_
 refine l_nil (e_go hK15 ?_)
 refine c_seq fun _ hK16 => ?_
 refine c_region ?_
 refine l_val wn (r_fa rfl fld81_0) rfl ?_
 refine l_val wn (r_lb 0 rfl rfl rfl flat30) rfl ?_
 refine l_val wn (r_neq rfl rfl) rfl ?_
 refine l_nil (e_go hK16 ?_)
 refine c_cond rfl (fun h4 => ?_) (fun h4 => ?_)
 · refine c_seq fun _ hK17 => ?_
   refine c_region ?_
   refine l_val wn (r_fa rfl fld81_0) rfl ?_
   refine l_val wn (r_lb 0 rfl rfl rfl flat30) rfl ?_
   refine l_val wn (r_assign rfl) rfl ?_
   refine l_nil (e_go hK17 ?_)
   refine c_ret (e_then_r (e_ret1 (.inl rfl) Try.results19 (rv_tmp rfl) fun w1 hM => ?_))
   exact ret_ok (congrArg (Value.int .i64) (by rw [Sh.wrong, if_neg h1, if_neg h2, if_neg h3, if_pos h4])) hM
 refine c_skip (e_go hK14 ?_)
 refine c_seq fun _ hK18 => ?_
 refine c_seq fun _ hK19 => ?_
 refine c_quiet mix (by kernel_rfl) (fun _ h => h.drew) ?_
 refine q_callF wn rfl Try.call50 rfl (fun w1 hM => c_times b1 _ _ _ _ z w1 (hM.blk (i := 3) rfl)) ?_
 refine q_val wn (r_not rfl) rfl ?_
 refine q_val wn (r_move rfl) rfl ?_
 refine q_case (t := 39) rfl (fun h5 => ?_) (fun h5 => ?_)
 · refine q_skip (wg rfl rfl rfl) rfl ?_
   refine q_skip (wg rfl rfl rfl) rfl ?_
   refine q_skip (wg rfl rfl rfl) rfl ?_
   refine q_skip (wg rfl rfl rfl) rfl ?_
   refine q_skip (wg rfl rfl rfl) rfl ?_
   refine q_skip (wu rfl rfl) rfl ?_
   refine q_skip (wu rfl rfl) rfl ?_
   refine q_skip (wu rfl rfl) rfl ?_
   refine q_skip (wu rfl rfl) rfl ?_
   refine q_skip (wu rfl rfl) rfl ?_
   refine q_skip (wu rfl rfl) rfl ?_
   refine q_skip (wu rfl rfl) rfl ?_
   refine q_skip (wu rfl rfl) rfl ?_
   refine q_skip (wg rfl rfl rfl) rfl ?_
   refine q_val wn (r_pick rfl rfl) rfl ?_
   refine q_val wn (r_move rfl) rfl ?_
   refine q_skip (wg rfl rfl rfl) rfl ?_
   refine q_skip (wg rfl rfl rfl) rfl ?_
   refine q_skip (wg rfl rfl rfl) rfl ?_
   refine q_skip (wg rfl rfl rfl) rfl ?_
   refine q_skip (wg rfl rfl rfl) rfl ?_
   refine q_skip (wg rfl rfl rfl) rfl ?_
   refine q_skip (wg rfl rfl rfl) rfl ?_
   refine q_skip (wg rfl rfl rfl) rfl ?_
   refine q_val wn (r_pick rfl rfl) rfl ?_
   refine q_val wn (r_move rfl) rfl ?_
   refine q_skip (wg rfl rfl rfl) rfl ?_
   refine q_skip (wg rfl rfl rfl) rfl ?_
   refine q_skip (wg rfl rfl rfl) rfl ?_
   refine q_skip (wg rfl rfl rfl) rfl ?_
   refine q_skip (wg rfl rfl rfl) rfl ?_
   refine q_skip (wg rfl rfl rfl) rfl ?_
   refine q_skip (wg rfl rfl rfl) rfl ?_
   refine q_skip (wg rfl rfl rfl) rfl ?_
   refine q_val wn (r_pick rfl rfl) rfl ?_
   refine q_end (e_go hK19 ?_)
   refine c_true rfl rfl ?_
   refine c_seq fun _ hK20 => ?_
   refine c_region ?_
   refine l_val wn (r_assign rfl) rfl ?_
   refine l_nil (e_go hK20 ?_)
   refine c_ret (e_then_r (e_ret1 (.inl rfl) Try.results19 (rv_tmp rfl) fun w1 hM => ?_))
   exact ret_ok (congrArg (Value.int .i64) (by rw [Sh.wrong_end h1 h2 h3 h4, if_neg (fun h => h5 h.1)])) hM
 refine q_val (wg rfl rfl rfl) (r_fa rfl fld27_1) rfl ?_
 refine q_val (wg rfl rfl rfl) (r_lb 3 rfl rfl rfl flat24) rfl ?_
 refine q_val (wg rfl rfl rfl) (r_len rfl Try.underlying24) rfl ?_
 refine q_val (wg rfl rfl rfl) (r_gtr rfl rfl) rfl ?_
 refine q_val (wg rfl rfl rfl) (r_move rfl) rfl ?_
 refine q_case (t := 44) rfl (fun h6 => ?_) (fun h6 => ?_)
 · refine q_val (wg rfl rfl rfl) (r_fa rfl fld27_1) rfl ?_
   refine q_val (wg rfl rfl rfl) (r_lb 3 rfl rfl rfl flat24) rfl ?_
   obtain ⟨ad1, hd1⟩ := hz1A (ne_nil (i := 0) (by first | omega | decide | (simp only [List.length_cons, List.length_nil, List.length_append, List.length_take, List.length_set]; omega)))
   refine q_val (wg rfl rfl rfl) (r_ia (i := 0) rfl hd1 rfl (by omega) (by first | omega | decide | (simp only [List.length_cons, List.length_nil, List.length_append, List.length_take, List.length_set]; omega)) Try.underlying24 inf39) rfl ?_
   refine q_val (wg rfl rfl rfl) (r_fe rfl fld39_0) rfl ?_
   obtain ⟨s1, hs1⟩ : ∃ x, z.raw[0]? = some x := ⟨_, List.getElem?_eq_getElem (by first | omega | decide | (simp only [List.length_cons, List.length_nil, List.length_append, List.length_take, List.length_set]; omega))⟩
   refine q_val (wg rfl rfl rfl) (r_pl 5 rfl rfl hd1 hs1 rfl flat3) rfl ?_
   refine q_val (wg rfl rfl rfl) (r_fa rfl fld27_4) rfl ?_
   refine q_val (wg rfl rfl rfl) (r_lb 3 rfl rfl rfl flat3) rfl ?_
   refine q_val (wg rfl rfl rfl) (r_lss rfl rfl) rfl ?_
   refine q_val (wg rfl rfl rfl) (r_pick rfl rfl) rfl ?_
   refine q_val wn (r_pick rfl rfl) rfl ?_
   refine q_val wn (r_move rfl) rfl ?_
   refine q_case (t := 55) rfl (fun h7 => ?_) (fun h7 => ?_)
   · refine q_skip (wg rfl rfl rfl) rfl ?_
     refine q_skip (wg rfl rfl rfl) rfl ?_
     refine q_skip (wg rfl rfl rfl) rfl ?_
     refine q_skip (wg rfl rfl rfl) rfl ?_
     refine q_skip (wg rfl rfl rfl) rfl ?_
     refine q_skip (wg rfl rfl rfl) rfl ?_
     refine q_skip (wg rfl rfl rfl) rfl ?_
     refine q_skip (wg rfl rfl rfl) rfl ?_
     refine q_val wn (r_pick rfl rfl) rfl ?_
     refine q_val wn (r_move rfl) rfl ?_
     refine q_skip (wg rfl rfl rfl) rfl ?_
     refine q_skip (wg rfl rfl rfl) rfl ?_
     refine q_skip (wg rfl rfl rfl) rfl ?_
     refine q_skip (wg rfl rfl rfl) rfl ?_
     refine q_skip (wg rfl rfl rfl) rfl ?_
     refine q_skip (wg rfl rfl rfl) rfl ?_
     refine q_skip (wg rfl rfl rfl) rfl ?_
     refine q_skip (wg rfl rfl rfl) rfl ?_
     refine q_val wn (r_pick rfl rfl) rfl ?_
     refine q_end (e_go hK19 ?_)
     refine c_true rfl rfl ?_
     refine c_seq fun _ hK21 => ?_
     refine c_region ?_
     refine l_val wn (r_assign rfl) rfl ?_
     refine l_nil (e_go hK21 ?_)
     refine c_ret (e_then_r (e_ret1 (.inl rfl) Try.results19 (rv_tmp rfl) fun w1 hM => ?_))
     exact ret_ok (congrArg (Value.int .i64) (by rw [Sh.wrong_end h1 h2 h3 h4, if_neg (fun h => absurd ((Sh.headOk_some hs1).symm.trans h.2.1) (by simp; omega))])) hM
   refine q_val (wg rfl rfl rfl) (r_fa rfl fld27_2) rfl ?_
   refine q_val (wg rfl rfl rfl) (r_lb 3 rfl rfl rfl flat25) rfl ?_
   refine q_val (wg rfl rfl rfl) (r_fa rfl fld27_5) rfl ?_
   refine q_val (wg rfl rfl rfl) (r_lb 3 rfl rfl rfl flat3) rfl ?_
   refine q_val (wg rfl rfl rfl) (r_fa rfl fld27_6) rfl ?_
   refine q_val (wg rfl rfl rfl) (r_lb 3 rfl rfl rfl flat3) rfl ?_
   refine q_callF (wg rfl rfl rfl) rfl Try.call51 rfl (fun w1 hM => c_within _ z.fine z.fineFrom z.fineTo w1 (hM.slp 6 rfl)) ?_
   refine q_val (wg rfl rfl rfl) (r_notb rfl) rfl ?_
   refine q_val wn (r_pick rfl rfl) rfl ?_
   refine q_val wn (r_move rfl) rfl ?_
   refine q_caseb (t := 65) rfl (fun h8 => ?_) (fun h8 => ?_)
   · refine q_skip (wg rfl rfl rfl) rfl ?_
     refine q_skip (wg rfl rfl rfl) rfl ?_
     refine q_skip (wg rfl rfl rfl) rfl ?_
     refine q_skip (wg rfl rfl rfl) rfl ?_
     refine q_skip (wg rfl rfl rfl) rfl ?_
     refine q_skip (wg rfl rfl rfl) rfl ?_
     refine q_skip (wg rfl rfl rfl) rfl ?_
     refine q_skip (wg rfl rfl rfl) rfl ?_
     refine q_val wn (r_pick rfl rfl) rfl ?_
     refine q_end (e_go hK19 ?_)
     refine c_true rfl rfl ?_
     refine c_seq fun _ hK22 => ?_
     refine c_region ?_
     refine l_val wn (r_assign rfl) rfl ?_
     refine l_nil (e_go hK22 ?_)
     refine c_ret (e_then_r (e_ret1 (.inl rfl) Try.results19 (rv_tmp rfl) fun w1 hM => ?_))
     exact ret_ok (congrArg (Value.int .i64) (by rw [Sh.wrong_end h1 h2 h3 h4, if_neg (fun h => by have := h.2.2.1; simp [this] at h8)])) hM
   refine q_val (wg rfl rfl rfl) (r_fa rfl fld27_3) rfl ?_
   refine q_val (wg rfl rfl rfl) (r_lb 3 rfl rfl rfl flat25) rfl ?_
   refine q_val (wg rfl rfl rfl) (r_fa rfl fld27_7) rfl ?_
   refine q_val (wg rfl rfl rfl) (r_lb 3 rfl rfl rfl flat3) rfl ?_
   refine q_val (wg rfl rfl rfl) (r_fa rfl fld27_8) rfl ?_
   refine q_val (wg rfl rfl rfl) (r_lb 3 rfl rfl rfl flat3) rfl ?_
   refine q_callF (wg rfl rfl rfl) rfl Try.call51 rfl (fun w1 hM => c_within _ z.coarse z.coarseFrom z.coarseTo w1 (hM.slp 7 rfl)) ?_
   refine q_val (wg rfl rfl rfl) (r_notb rfl) rfl ?_
   refine q_val wn (r_pick rfl rfl) rfl ?_
   refine q_end (e_go hK19 ?_)
   refine c_condb rfl (fun h9 => ?_) (fun h9 => ?_)
   · refine c_seq fun _ hK23 => ?_
     refine c_region ?_
     refine l_val wn (r_assign rfl) rfl ?_
     refine l_nil (e_go hK23 ?_)
     refine c_ret (e_then_r (e_ret1 (.inl rfl) Try.results19 (rv_tmp rfl) fun w1 hM => ?_))
     exact ret_ok (congrArg (Value.int .i64) (by rw [Sh.wrong_end h1 h2 h3 h4, if_neg (fun h => by have := h.2.2.2; simp [this] at h9)])) hM
   refine c_skip (e_go hK18 ?_)
   refine c_seq fun _ hK24 => ?_
   refine c_region ?_
   refine l_val wn (r_assign rfl) rfl ?_
   refine l_nil (e_go hK24 ?_)
   refine c_ret (e_ret1 (.inl rfl) Try.results19 (rv_tmp rfl) fun w1 hM => ?_)
   exact ret_ok (congrArg (Value.int .i64) (by rw [Sh.wrong_end h1 h2 h3 h4, if_pos ⟨Classical.not_not.1 h5, (Sh.headOk_some hs1).trans (decide_eq_true (by omega)), by simpa using h8, by simpa using h9⟩])) hM
 refine q_skip (wg rfl rfl rfl) rfl ?_
 refine q_skip (wg rfl rfl rfl) rfl ?_
 refine q_skip (wg rfl rfl rfl) rfl ?_
 refine q_skip (wg rfl rfl rfl) rfl ?_
 refine q_skip (wg rfl rfl rfl) rfl ?_
 refine q_skip (wg rfl rfl rfl) rfl ?_
 refine q_skip (wg rfl rfl rfl) rfl ?_
 refine q_skip (wg rfl rfl rfl) rfl ?_
 refine q_val (wg rfl rfl rfl) (r_pick rfl rfl) rfl ?_
 refine q_val wn (r_pick rfl rfl) rfl ?_
 refine q_val wn (r_move rfl) rfl ?_
 refine q_val (wg rfl rfl rfl) (r_fa rfl fld27_2) rfl ?_
 refine q_val (wg rfl rfl rfl) (r_lb 3 rfl rfl rfl flat25) rfl ?_
 refine q_val (wg rfl rfl rfl) (r_fa rfl fld27_5) rfl ?_
 refine q_val (wg rfl rfl rfl) (r_lb 3 rfl rfl rfl flat3) rfl ?_
 refine q_val (wg rfl rfl rfl) (r_fa rfl fld27_6) rfl ?_
 refine q_val (wg rfl rfl rfl) (r_lb 3 rfl rfl rfl flat3) rfl ?_
 refine q_callF (wg rfl rfl rfl) rfl Try.call51 rfl (fun w1 hM => c_within _ z.fine z.fineFrom z.fineTo w1 (hM.slp 6 rfl)) ?_
 refine q_val (wg rfl rfl rfl) (r_notb rfl) rfl ?_
 refine q_val wn (r_pick rfl rfl) rfl ?_
 refine q_val wn (r_move rfl) rfl ?_
 refine q_caseb (t := 65) rfl (fun h10 => ?_) (fun h10 => ?_)
 · refine q_skip (wg rfl rfl rfl) rfl ?_
   refine q_skip (wg rfl rfl rfl) rfl ?_
   refine q_skip (wg rfl rfl rfl) rfl ?_
   refine q_skip (wg rfl rfl rfl) rfl ?_
   refine q_skip (wg rfl rfl rfl) rfl ?_
   refine q_skip (wg rfl rfl rfl) rfl ?_
   refine q_skip (wg rfl rfl rfl) rfl ?_
   refine q_skip (wg rfl rfl rfl) rfl ?_
   refine q_val wn (r_pick rfl rfl) rfl ?_
   refine q_end (e_go hK19 ?_)
   refine c_true rfl rfl ?_
   refine c_seq fun _ hK25 => ?_
   refine c_region ?_
   refine l_val wn (r_assign rfl) rfl ?_
   refine l_nil (e_go hK25 ?_)
   refine c_ret (e_then_r (e_ret1 (.inl rfl) Try.results19 (rv_tmp rfl) fun w1 hM => ?_))
   exact ret_ok (congrArg (Value.int .i64) (by rw [Sh.wrong_end h1 h2 h3 h4, if_neg (fun h => by have := h.2.2.1; simp [this] at h10)])) hM
 refine q_val (wg rfl rfl rfl) (r_fa rfl fld27_3) rfl ?_
 refine q_val (wg rfl rfl rfl) (r_lb 3 rfl rfl rfl flat25) rfl ?_
 refine q_val (wg rfl rfl rfl) (r_fa rfl fld27_7) rfl ?_
 refine q_val (wg rfl rfl rfl) (r_lb 3 rfl rfl rfl flat3) rfl ?_
 refine q_val (wg rfl rfl rfl) (r_fa rfl fld27_8) rfl ?_
 refine q_val (wg rfl rfl rfl) (r_lb 3 rfl rfl rfl flat3) rfl ?_
 refine q_callF (wg rfl rfl rfl) rfl Try.call51 rfl (fun w1 hM => c_within _ z.coarse z.coarseFrom z.coarseTo w1 (hM.slp 7 rfl)) ?_
 refine q_val (wg rfl rfl rfl) (r_notb rfl) rfl ?_
 refine q_val wn (r_pick rfl rfl) rfl ?_
 refine q_end (e_go hK19 ?_)
 refine c_condb rfl (fun h11 => ?_) (fun h11 => ?_)
 · refine c_seq fun _ hK26 => ?_
   refine c_region ?_
   refine l_val wn (r_assign rfl) rfl ?_
   refine l_nil (e_go hK26 ?_)
   refine c_ret (e_then_r (e_ret1 (.inl rfl) Try.results19 (rv_tmp rfl) fun w1 hM => ?_))
   exact ret_ok (congrArg (Value.int .i64) (by rw [Sh.wrong_end h1 h2 h3 h4, if_neg (fun h => by have := h.2.2.2; simp [this] at h11)])) hM
 refine c_skip (e_go hK18 ?_)
 refine c_seq fun _ hK27 => ?_
 refine c_region ?_
 refine l_val wn (r_assign rfl) rfl ?_
 refine l_nil (e_go hK27 ?_)
 refine c_ret (e_ret1 (.inl rfl) Try.results19 (rv_tmp rfl) fun w1 hM => ?_)
 exact ret_ok (congrArg (Value.int .i64) (by rw [Sh.wrong_end h1 h2 h3 h4, if_pos ⟨Classical.not_not.1 h5, Sh.headOk_none h6, by simpa using h10, by simpa using h11⟩])) hM

end Go.Proofs.Ytnbkennlmnnbeaa
