/-
  Walks: what each function hands back.
-/
import Derived.Test.YtnbkennlmnnbeaaWshelf2
import Derived.Test.YtnbkennlmnnbeaaPShelf2
import Derived.Test.YtnbkennlmnnbeaaStar
namespace Go.Proofs.Ytnbkennlmnnbeaa
open Ex
set_option linter.unusedVariables false
set_option linter.unusedSimpArgs false
theorem c_new (lv : Value) (l : List Label) (P0 : Nat → Prop) (w : World) (hP0 : ∀ b, P0 b → b < w.heap.size) (hl : FlatSl P0 2 labelE lv l w) (hl1 : l.length ≤ 1048576) :
    Calls Try.prog 22 #[lv] w (RetSh w P0 (fun u => u) ⟨l, [], [], [], 0, 0, 0, 0, 0⟩) := by
 obtain ⟨lA, lc, rfl, hlc, hlm, hlA⟩ := hl.form
 refine fstart (N := 6) (vals := [.slice lA l.length lc]) (S := Mem w ⟨no, P0⟩ [slP 2 labelE (.slice lA l.length lc) l]) Try.func22 rfl rfl rfl (Mem.ofDatsP hP0 (dc (dlp hl) dn)) ?_
 refine c_seq fun _ hK1 => ?_
 refine c_region ?_
 refine l_alloc wn inf27 rfl fun b2 => ?_
 refine l_nil (e_go hK1 ?_)
 refine c_seq fun _ hK2 => ?_
 refine c_region ?_
 refine l_val wn (r_move rfl) rfl ?_
 refine l_callL l wn rfl Try.call56 rfl (fun w1 hM => c_cloneLabel _ l w1 (hM.slp 1 rfl) (by omega)) fun A1 cp1 hc1 hm1 hA1 => ?_
 refine l_val wn (r_build [.slice A1 l.length cp1, .slice none 0 0, .slice none 0 0, .slice none 0 0, .int .i64 0, .int .i64 0, .int .i64 0, .int .i64 0, .int .i64 0] pl27 inf27 rfl rfl) rfl ?_
 refine l_stn 1 wn rfl rfl rfl inf27 rfl rfl rfl ?_
 refine l_nil (e_go hK2 ?_)
 refine c_ret (e_ret1 (.inl rfl) Try.results22 (rv_cell 1 rfl rfl agg27 inf27 rfl) fun w1 hM => ?_)
 have hM := hM.sealRow encLabel (i := 0) rfl rfl
 exact hM.retSh (s' := (⟨l, ([] : List Sample), ([] : List Bucket), ([] : List Bucket), 0, 0, 0, 0, 0⟩ : Shelf)) (fun u => u) rfl (rfl) (fun _ pp => pp.sl 0 rfl) (fun _ _ => FlatSl.nil_ _ _ _ _) (fun _ _ => FlatSl.nil_ _ _ _ _) (fun _ _ => FlatSl.nil_ _ _ _ _)

theorem c_down (n : Int) (st : Int) (w : World)  (hn : 0 ≤ n ∧ n ≤ 9223372036854775807) (hst : 0 < st) :
    Calls Try.prog 58 #[.int .i64 n, .int .i64 st] w (Ret w (.int .i64 (n - n % st))) := by
 obtain ⟨hm1, hm2⟩ := Sh.emod_le hn.1 hst
 refine fstart (N := 10) (vals := [.int .i64 n, .int .i64 st]) (S := Mem w no []) Try.func58 rfl rfl rfl (Mem.ofDats dn) ?_
 refine c_seq fun _ hK1 => ?_
 refine c_region ?_
 refine l_val wn (r_assign rfl) rfl ?_
 refine l_nil (e_go hK1 ?_)
 refine c_seq fun _ hK2 => ?_
 refine c_region ?_
 refine l_val wn (r_move rfl) rfl ?_
 refine l_val wn (r_move rfl) rfl ?_
 refine l_val wn (r_move rfl) rfl ?_
 refine l_val wn (r_remn rfl rfl (by omega) (by omega)) rfl ?_
 refine l_val wn (r_subn rfl rfl (by omega)) rfl ?_
 refine l_val wn (r_assign rfl) rfl ?_
 refine l_nil (e_go hK2 ?_)
 refine c_ret (e_ret1 (.inl rfl) Try.results58 (rv_tmp rfl) fun w1 hM => ?_)
 exact ret_ok rfl hM

theorem c_append (z0 : Value) (z1 : Value) (z2 : Value) (z3 : Value) (z : Shelf) (x : Sample) (P0 : Nat → Prop) (w : World) (hP0 : ∀ b, P0 b → b < w.heap.size) (hz0 : FlatSl P0 2 labelE z0 z.series w) (hz1 : FlatSl P0 2 sampleE z1 z.raw w) (hz2 : FlatSl P0 8 bucketE z2 z.fine w) (hz3 : FlatSl P0 8 bucketE z3 z.coarse w)  :
    Calls Try.prog 23 #[.agg (List.toArray [z0, z1, z2, z3, .int .i64 z.rawFrom, .int .i64 z.fineFrom, .int .i64 z.fineTo, .int .i64 z.coarseFrom, .int .i64 z.coarseTo]), .agg (sampleE x).toArray] w (RetSh w P0 (fun u => .tuple (List.toArray [u, .int .i64 (Sh.append z x).2])) (Sh.append z x).1) := by
 obtain ⟨z0A, z0c, rfl, hz0c, hz0m, hz0A⟩ := hz0.form
 obtain ⟨z1A, z1c, rfl, hz1c, hz1m, hz1A⟩ := hz1.form
 obtain ⟨z2A, z2c, rfl, hz2c, hz2m, hz2A⟩ := hz2.form
 obtain ⟨z3A, z3c, rfl, hz3c, hz3m, hz3A⟩ := hz3.form
 refine fstart (N := 64) (vals := [.agg (List.toArray [.slice z0A z.series.length z0c, .slice z1A z.raw.length z1c, .slice z2A z.fine.length z2c, .slice z3A z.coarse.length z3c, .int .i64 z.rawFrom, .int .i64 z.fineFrom, .int .i64 z.fineTo, .int .i64 z.coarseFrom, .int .i64 z.coarseTo]), .agg (sampleE x).toArray]) (S := Mem w ⟨no, P0⟩ [slP 2 labelE (.slice z0A z.series.length z0c) z.series, slP 2 sampleE (.slice z1A z.raw.length z1c) z.raw, slP 8 bucketE (.slice z2A z.fine.length z2c) z.fine, slP 8 bucketE (.slice z3A z.coarse.length z3c) z.coarse]) Try.func23 rfl rfl rfl (Mem.ofDatsP hP0 (dc (dlp hz0) (dc (dlp hz1) (dc (dlp hz2) (dc (dlp hz3) dn))))) ?_
 refine c_seq fun _ hK1 => ?_
 refine c_region ?_
 refine l_box wn rfl rfl fun b2 => ?_
 refine l_box wn rfl rfl fun b3 => ?_
 refine l_alloc wn inf27 rfl fun b4 => ?_
 refine l_val wn (r_assign rfl) rfl ?_
 refine l_nil (e_go hK1 ?_)
 refine c_seq fun _ hK2 => ?_
 refine c_seq fun _ hK3 => ?_
 refine c_region ?_
 refine l_val wn (r_lbn 2 [.slice z0A z.series.length z0c, .slice z1A z.raw.length z1c, .slice z2A z.fine.length z2c, .slice z3A z.coarse.length z3c, .int .i64 z.rawFrom, .int .i64 z.fineFrom, .int .i64 z.fineTo, .int .i64 z.coarseFrom, .int .i64 z.coarseTo] rfl rfl rfl rfl agg27 inf27) rfl ?_
 refine l_callF wn rfl Try.call19 rfl (fun w1 hM => c_shWrong _ _ _ _ z (In w1) w1 (fun _ h => h) (hM.slp 3 rfl) (hM.slp 4 rfl) (hM.slp 5 rfl) (hM.slp 6 rfl)) ?_
 refine l_val wn (r_assign rfl) rfl ?_
 refine l_nil (e_go hK3 ?_)
 refine c_seq fun _ hK4 => ?_
 refine c_region ?_
 refine l_val wn (r_move rfl) rfl ?_
 refine l_val wn (r_neq rfl rfl) rfl ?_
 refine l_nil (e_go hK4 ?_)
 refine c_cond rfl (fun h1 => ?_) (fun h1 => ?_)
 · refine c_seq fun _ hK5 => ?_
   refine c_region ?_
   refine l_val wn (r_build [.slice none 0 0, .slice none 0 0, .slice none 0 0, .slice none 0 0, .int .i64 0, .int .i64 0, .int .i64 0, .int .i64 0, .int .i64 0] pl27 inf27 rfl rfl) rfl ?_
   refine l_val wn (r_move rfl) rfl ?_
   refine l_stn 0 wn rfl rfl rfl inf27 rfl rfl rfl ?_
   refine l_val wn (r_assign rfl) rfl ?_
   refine l_nil (e_go hK5 ?_)
   refine c_ret (e_then_r (e_ret2 (.inl rfl) Try.results23 (rv_cell 0 rfl rfl agg27 inf27 rfl) (rv_tmp rfl) fun w1 hM => ?_))
   have he : Sh.append z x = ((⟨([] : List Label), ([] : List Sample), ([] : List Bucket), ([] : List Bucket), 0, 0, 0, 0, 0⟩ : Shelf), (Sh.wrong z)) := Sh.append_wrong h1
   rw [he]
   exact hM.retSh (s' := (⟨([] : List Label), ([] : List Sample), ([] : List Bucket), ([] : List Bucket), 0, 0, 0, 0, 0⟩ : Shelf)) (fun u => .tuple (List.toArray [u, .int .i64 (Sh.wrong z)])) rfl (rfl) (fun _ _ => FlatSl.nil_ _ _ _ _) (fun _ _ => FlatSl.nil_ _ _ _ _) (fun _ _ => FlatSl.nil_ _ _ _ _) (fun _ _ => FlatSl.nil_ _ _ _ _)
 obtain ⟨l1, l2, l3, l4⟩ := (Sh.ok_of h1).lens
 refine c_skip (e_go hK2 ?_)
 refine c_seq fun _ hK6 => ?_
 refine c_seq fun _ hK7 => ?_
 refine c_region ?_
 refine l_val wn (r_lbn 1 [.int .i64 x.time, .int .i64 x.value] rfl rfl rfl rfl agg39 inf39) rfl ?_
 refine l_bsL sampleE ([x] : List Sample) wn Try.underlying24 inf39 rfl rfl rfl rfl (by decide) (by decide) rfl fun b17 => ?_
 refine l_callF wn rfl Try.call48 rfl (fun w1 hM => c_codecWrong _ ([x] : List Sample) w1 (RowSl encSample hM 0 rfl)) ?_
 refine l_alloc wn inf81 rfl fun b7 => ?_
 refine l_stn 0 wn rfl rfl rfl inf81 rfl rfl rfl ?_
 refine l_nil (e_go hK7 ?_)
 refine c_seq fun _ hK8 => ?_
 refine c_region ?_
 refine l_val wn (r_fa rfl fld81_0) rfl ?_
 refine l_val wn (r_lb 0 rfl rfl rfl flat30) rfl ?_
 refine l_val wn (r_neq rfl rfl) rfl ?_
 refine l_nil (e_go hK8 ?_)
 refine c_cond rfl (fun h2 => ?_) (fun h2 => ?_)
 · refine c_seq fun _ hK9 => ?_
   refine c_nodes (Mem w ⟨no, P0⟩ [.blk b7 [.int .i64 ((Codec.wrong ([x] : List Sample)).err), .int .i64 ((Codec.wrong ([x] : List Sample)).at_)] 81, Row (.slice (some ⟨b17, 0, none⟩) 1 1) 39 2 sampleE ([x] : List Sample), .blk b4 [.slice none 0 0, .slice none 0 0, .slice none 0 0, .slice none 0 0, .int .i64 0, .int .i64 0, .int .i64 0, .int .i64 0, .int .i64 0] 27, .blk b3 [.int .i64 x.time, .int .i64 x.value] 39, .blk b2 [.slice z0A z.series.length z0c, .slice z1A z.raw.length z1c, .slice z2A z.fine.length z2c, .slice z3A z.coarse.length z3c, .int .i64 z.rawFrom, .int .i64 z.fineFrom, .int .i64 z.fineTo, .int .i64 z.coarseFrom, .int .i64 z.coarseTo] 27, slP 2 labelE (.slice z0A z.series.length z0c) z.series, slP 2 sampleE (.slice z1A z.raw.length z1c) z.raw, slP 8 bucketE (.slice z2A z.fine.length z2c) z.fine, slP 8 bucketE (.slice z3A z.coarse.length z3c) z.coarse]) mix (fun _ h => h.drew) rfl ?_
   refine n_run (f := 2) [0, 1, 2] rfl rfl (by kernel_rfl) (by kernel_rfl) (fun _ h => h) fun KS hKS => ?_
   refine s_val wn (r_build [.slice none 0 0, .slice none 0 0, .slice none 0 0, .slice none 0 0, .int .i64 0, .int .i64 0, .int .i64 0, .int .i64 0, .int .i64 0] pl27 inf27 rfl rfl) rfl ?_
   refine s_val wn (r_fa rfl fld81_0) rfl ?_
   refine s_val wn (r_lb 0 rfl rfl rfl flat30) rfl ?_
   refine s_end hKS ?_
   refine n_step1 (f := 1) (i := 3) rfl (by kernel_rfl) ?_
   refine n_one (i := 3) rfl fun KN hKN => ?_
   refine l_stn 2 wn rfl rfl rfl inf27 rfl rfl rfl ?_
   refine l_nil (hKN _ _ (fun _ h => h) ?_)
   refine n_run (f := 0) [4] rfl rfl (by kernel_rfl) (by kernel_rfl) (fun _ h => h) fun KS hKS => ?_
   refine s_val wn (r_assign rfl) rfl ?_
   refine s_end hKS ?_
   refine n_done (by kernel_rfl) (e_go hK9 ?_)
   refine c_ret (e_then_r (e_ret2 (.inl rfl) Try.results23 (rv_cell 2 rfl rfl agg27 inf27 rfl) (rv_tmp rfl) fun w1 hM => ?_))
   have he : Sh.append z x = ((⟨([] : List Label), ([] : List Sample), ([] : List Bucket), ([] : List Bucket), 0, 0, 0, 0, 0⟩ : Shelf), (Codec.wrong ([x] : List Sample)).err) := Sh.append_bad h1 h2
   rw [he]
   exact hM.retSh (s' := (⟨([] : List Label), ([] : List Sample), ([] : List Bucket), ([] : List Bucket), 0, 0, 0, 0, 0⟩ : Shelf)) (fun u => .tuple (List.toArray [u, .int .i64 ((Codec.wrong ([x] : List Sample)).err)])) rfl (rfl) (fun _ _ => FlatSl.nil_ _ _ _ _) (fun _ _ => FlatSl.nil_ _ _ _ _) (fun _ _ => FlatSl.nil_ _ _ _ _) (fun _ _ => FlatSl.nil_ _ _ _ _)
 refine c_skip (e_go hK6 ?_)
 refine c_seq fun _ hK10 => ?_
 refine c_region ?_
 refine l_val wn (r_fa rfl fld27_1) rfl ?_
 refine l_val wn (r_lb 4 rfl rfl rfl flat24) rfl ?_
 refine l_val wn (r_len rfl Try.underlying24) rfl ?_
 refine l_val wn (r_subn rfl rfl (by omega)) rfl ?_
 refine l_val wn (r_assign rfl) rfl ?_
 refine l_nil (e_go hK10 ?_)
 refine c_seq fun _ hK11 => ?_
 refine c_seq fun _ hK12 => ?_
 refine c_quiet mix (by kernel_rfl) (fun _ h => h.drew) ?_
 refine q_val wn (r_fa rfl fld39_0) rfl ?_
 refine q_val wn (r_lb 3 rfl rfl rfl flat3) rfl ?_
 refine q_val wn (r_fa rfl fld27_6) rfl ?_
 refine q_val wn (r_lb 4 rfl rfl rfl flat3) rfl ?_
 refine q_val wn (r_lss rfl rfl) rfl ?_
 refine q_val wn (r_move rfl) rfl ?_
 refine q_case (t := 34) rfl (fun h3 => ?_) (fun h3 => ?_)
 · refine q_skip (wg rfl rfl rfl) rfl ?_
   refine q_skip (wg rfl rfl rfl) rfl ?_
   refine q_skip (wg rfl rfl rfl) rfl ?_
   refine q_skip (wu rfl rfl) rfl ?_
   refine q_skip (wu rfl rfl) rfl ?_
   refine q_skip (wu rfl rfl) rfl ?_
   refine q_skip (wu rfl rfl) rfl ?_
   refine q_skip (wu rfl rfl) rfl ?_
   refine q_skip (wu rfl rfl) rfl ?_
   refine q_skip (wu rfl rfl) rfl ?_
   refine q_skip (wu rfl rfl) rfl ?_
   refine q_skip (wu rfl rfl) rfl ?_
   refine q_skip (wg rfl rfl rfl) rfl ?_
   refine q_val wn (r_pick rfl rfl) rfl ?_
   refine q_end (e_go hK12 ?_)
   refine c_true rfl rfl ?_
   refine c_seq fun _ hK13 => ?_
   refine c_region ?_
   refine l_val wn (r_build [.slice none 0 0, .slice none 0 0, .slice none 0 0, .slice none 0 0, .int .i64 0, .int .i64 0, .int .i64 0, .int .i64 0, .int .i64 0] pl27 inf27 rfl rfl) rfl ?_
   refine l_stn 2 wn rfl rfl rfl inf27 rfl rfl rfl ?_
   refine l_val wn (r_assign rfl) rfl ?_
   refine l_nil (e_go hK13 ?_)
   refine c_ret (e_then_r (e_ret2 (.inl rfl) Try.results23 (rv_cell 2 rfl rfl agg27 inf27 rfl) (rv_tmp rfl) fun w1 hM => ?_))
   have he : Sh.append z x = ((⟨([] : List Label), ([] : List Sample), ([] : List Bucket), ([] : List Bucket), 0, 0, 0, 0, 0⟩ : Shelf), 9) := Sh.append_late h1 h2 (.inl h3)
   rw [he]
   exact hM.retSh (s' := (⟨([] : List Label), ([] : List Sample), ([] : List Bucket), ([] : List Bucket), 0, 0, 0, 0, 0⟩ : Shelf)) (fun u => .tuple (List.toArray [u, .int .i64 9])) rfl (rfl) (fun _ _ => FlatSl.nil_ _ _ _ _) (fun _ _ => FlatSl.nil_ _ _ _ _) (fun _ _ => FlatSl.nil_ _ _ _ _) (fun _ _ => FlatSl.nil_ _ _ _ _)
 refine q_val (wg rfl rfl rfl) (r_move rfl) rfl ?_
 refine q_val (wg rfl rfl rfl) (r_geq rfl rfl) rfl ?_
 refine q_val (wg rfl rfl rfl) (r_move rfl) rfl ?_
 refine q_case (t := 37) rfl (fun h4 => ?_) (fun h4 => ?_)
 · refine q_val (wg rfl rfl rfl) (r_fa rfl fld39_0) rfl ?_
   refine q_val (wg rfl rfl rfl) (r_lb 3 rfl rfl rfl flat3) rfl ?_
   refine q_val (wg rfl rfl rfl) (r_fa rfl fld27_1) rfl ?_
   refine q_val (wg rfl rfl rfl) (r_lb 4 rfl rfl rfl flat24) rfl ?_
   refine q_val (wg rfl rfl rfl) (r_move rfl) rfl ?_
   obtain ⟨ad1, hd1⟩ := hz1A (ne_nil (i := (z.raw.length - 1)) (by first | omega | decide | (simp only [List.length_cons, List.length_nil, List.length_append, List.length_take, List.length_set]; omega)))
   refine q_val (wg rfl rfl rfl) (r_ia (i := (z.raw.length - 1)) rfl hd1 rfl (by omega) (by first | omega | decide | (simp only [List.length_cons, List.length_nil, List.length_append, List.length_take, List.length_set]; omega)) Try.underlying24 inf39) rfl ?_
   refine q_val (wg rfl rfl rfl) (r_fe rfl fld39_0) rfl ?_
   obtain ⟨s1, hs1⟩ : ∃ x, z.raw[(z.raw.length - 1)]? = some x := ⟨_, List.getElem?_eq_getElem (by first | omega | decide | (simp only [List.length_cons, List.length_nil, List.length_append, List.length_take, List.length_set]; omega))⟩
   refine q_val (wg rfl rfl rfl) (r_pl 6 rfl rfl hd1 hs1 rfl flat3) rfl ?_
   refine q_val (wg rfl rfl rfl) (r_leq rfl rfl) rfl ?_
   refine q_val (wg rfl rfl rfl) (r_pick rfl rfl) rfl ?_
   refine q_val wn (r_pick rfl rfl) rfl ?_
   refine q_end (e_go hK12 ?_)
   refine c_cond rfl (fun h5 => ?_) (fun h5 => ?_)
   · refine c_seq fun _ hK14 => ?_
     refine c_region ?_
     refine l_val wn (r_build [.slice none 0 0, .slice none 0 0, .slice none 0 0, .slice none 0 0, .int .i64 0, .int .i64 0, .int .i64 0, .int .i64 0, .int .i64 0] pl27 inf27 rfl rfl) rfl ?_
     refine l_stn 2 wn rfl rfl rfl inf27 rfl rfl rfl ?_
     refine l_val wn (r_assign rfl) rfl ?_
     refine l_nil (e_go hK14 ?_)
     refine c_ret (e_then_r (e_ret2 (.inl rfl) Try.results23 (rv_cell 2 rfl rfl agg27 inf27 rfl) (rv_tmp rfl) fun w1 hM => ?_))
     have he : Sh.append z x = ((⟨([] : List Label), ([] : List Sample), ([] : List Bucket), ([] : List Bucket), 0, 0, 0, 0, 0⟩ : Shelf), 9) := Sh.append_late h1 h2 (.inr (by rw [Sh.late_some hs1]; exact decide_eq_true h5))
     rw [he]
     exact hM.retSh (s' := (⟨([] : List Label), ([] : List Sample), ([] : List Bucket), ([] : List Bucket), 0, 0, 0, 0, 0⟩ : Shelf)) (fun u => .tuple (List.toArray [u, .int .i64 9])) rfl (rfl) (fun _ _ => FlatSl.nil_ _ _ _ _) (fun _ _ => FlatSl.nil_ _ _ _ _) (fun _ _ => FlatSl.nil_ _ _ _ _) (fun _ _ => FlatSl.nil_ _ _ _ _)
   refine c_skip (e_go hK11 ?_)
   refine c_seq fun _ hK15 => ?_
   refine c_seq fun _ hK16 => ?_
   refine c_region ?_
   refine l_val wn (r_fa rfl fld27_1) rfl ?_
   refine l_val wn (r_lb 4 rfl rfl rfl flat24) rfl ?_
   refine l_val wn (r_len rfl Try.underlying24) rfl ?_
   refine l_val wn (r_eql rfl rfl) rfl ?_
   refine l_nil (e_go hK16 ?_)
   refine c_cond rfl (fun h6 => ?_) (fun h6 => ?_)
   · refine c_seq fun _ hK17 => ?_
     refine c_region ?_
     refine l_val wn (r_build [.slice none 0 0, .slice none 0 0, .slice none 0 0, .slice none 0 0, .int .i64 0, .int .i64 0, .int .i64 0, .int .i64 0, .int .i64 0] pl27 inf27 rfl rfl) rfl ?_
     refine l_stn 2 wn rfl rfl rfl inf27 rfl rfl rfl ?_
     refine l_val wn (r_assign rfl) rfl ?_
     refine l_nil (e_go hK17 ?_)
     refine c_ret (e_then_r (e_ret2 (.inl rfl) Try.results23 (rv_cell 2 rfl rfl agg27 inf27 rfl) (rv_tmp rfl) fun w1 hM => ?_))
     have he : Sh.append z x = ((⟨([] : List Label), ([] : List Sample), ([] : List Bucket), ([] : List Bucket), 0, 0, 0, 0, 0⟩ : Shelf), 5) := Sh.append_many h1 h2 (fun g => g.elim h3 (fun g => by rw [Sh.late_some hs1] at g; exact h5 (of_decide_eq_true g))) h6
     rw [he]
     exact hM.retSh (s' := (⟨([] : List Label), ([] : List Sample), ([] : List Bucket), ([] : List Bucket), 0, 0, 0, 0, 0⟩ : Shelf)) (fun u => .tuple (List.toArray [u, .int .i64 5])) rfl (rfl) (fun _ _ => FlatSl.nil_ _ _ _ _) (fun _ _ => FlatSl.nil_ _ _ _ _) (fun _ _ => FlatSl.nil_ _ _ _ _) (fun _ _ => FlatSl.nil_ _ _ _ _)
   refine c_skip (e_go hK15 ?_)
   refine c_seq fun _ hK18 => ?_
   refine c_region ?_
   refine l_val wn (r_lbn 4 [.slice z0A z.series.length z0c, .slice z1A z.raw.length z1c, .slice z2A z.fine.length z2c, .slice z3A z.coarse.length z3c, .int .i64 z.rawFrom, .int .i64 z.fineFrom, .int .i64 z.fineTo, .int .i64 z.coarseFrom, .int .i64 z.coarseTo] rfl rfl rfl rfl agg27 inf27) rfl ?_
   refine l_callOwn z wn rfl Try.call57 rfl (fun w1 hM => c_own _ _ _ _ z (In w1) w1 (fun _ h => h) (hM.slp 5 rfl) (hM.slp 6 rfl) (hM.slp 7 rfl) (hM.slp 8 rfl) (Sh.wrong_lens (by assumption))) fun A1 cp1 A2 cp2 A3 cp3 A4 cp4 hb1 hA1 hA2 hA3 hA4 => ?_
   refine l_alloc wn inf27 rfl fun b9 => ?_
   refine l_stn 0 wn rfl rfl rfl inf27 rfl rfl rfl ?_
   refine l_nil (e_go hK18 ?_)
   refine c_seq fun _ hK19 => ?_
   refine c_region ?_
   refine l_val wn (r_fa rfl fld27_1) rfl ?_
   refine l_val wn (r_lb 0 rfl rfl rfl flat24) rfl ?_
   refine l_val wn (r_lbn 8 [.int .i64 x.time, .int .i64 x.value] rfl rfl rfl rfl agg39 inf39) rfl ?_
   refine l_bsL sampleE ([x] : List Sample) wn Try.underlying24 inf39 rfl rfl rfl rfl (by decide) (by decide) rfl fun b60 => ?_
   refine l_app 3 z.raw ([x] : List Sample) encSample wn rfl rfl rfl (fun _ hM => (RowSl encSample hM 0 rfl)) Try.underlying24 inf39 rfl rfl (by simp only [List.length_append, List.length_cons, List.length_nil]; omega) rfl fun A5 cp5 hc1 hm1 hA5 => ?_
   refine l_val wn (r_fa rfl fld27_1) rfl ?_
   refine l_st1 1 wn rfl rfl rfl rfl inf24 rfl rfl ?_
   refine l_nil (e_go hK19 ?_)
   refine c_seq fun _ hK20 => ?_
   refine c_region ?_
   refine l_val wn (r_lbn 1 [.slice A1 z.series.length cp1, .slice A5 ((z.raw ++ ([x] : List Sample)).length) cp5, .slice A3 z.fine.length cp3, .slice A4 z.coarse.length cp4, .int .i64 z.rawFrom, .int .i64 z.fineFrom, .int .i64 z.fineTo, .int .i64 z.coarseFrom, .int .i64 z.coarseTo] rfl rfl rfl rfl agg27 inf27) rfl ?_
   refine l_stn 8 wn rfl rfl rfl inf27 rfl rfl rfl ?_
   refine l_val wn (r_assign rfl) rfl ?_
   refine l_nil (e_go hK20 ?_)
   refine c_ret (e_ret2 (.inl rfl) Try.results23 (rv_cell 8 rfl rfl agg27 inf27 rfl) (rv_tmp rfl) fun w1 hM => ?_)
   have he : Sh.append z x = ((⟨z.series, (z.raw ++ ([x] : List Sample)), z.fine, z.coarse, z.rawFrom, z.fineFrom, z.fineTo, z.coarseFrom, z.coarseTo⟩ : Shelf), 0) := Sh.append_ok h1 h2 (fun g => g.elim h3 (fun g => by rw [Sh.late_some hs1] at g; exact h5 (of_decide_eq_true g))) h6
   rw [he]
   have hM := hM.sealRow encLabel (i := 2) rfl rfl
   have hM := hM.sealRow encSample (i := 3) rfl rfl
   have hM := hM.sealRow encBucket (i := 4) rfl rfl
   have hM := hM.sealRow encBucket (i := 5) rfl rfl
   exact hM.retSh (s' := (⟨z.series, (z.raw ++ ([x] : List Sample)), z.fine, z.coarse, z.rawFrom, z.fineFrom, z.fineTo, z.coarseFrom, z.coarseTo⟩ : Shelf)) (fun u => .tuple (List.toArray [u, .int .i64 0])) rfl (rfl) (fun _ pp => pp.sl 2 rfl) (fun _ pp => pp.sl 3 rfl) (fun _ pp => pp.sl 4 rfl) (fun _ pp => pp.sl 5 rfl)
 refine q_skip (wg rfl rfl rfl) rfl ?_
 refine q_skip (wg rfl rfl rfl) rfl ?_
 refine q_skip (wg rfl rfl rfl) rfl ?_
 refine q_skip (wg rfl rfl rfl) rfl ?_
 refine q_skip (wg rfl rfl rfl) rfl ?_
 refine q_skip (wg rfl rfl rfl) rfl ?_
 refine q_skip (wg rfl rfl rfl) rfl ?_
 refine q_skip (wg rfl rfl rfl) rfl ?_
 refine q_skip (wg rfl rfl rfl) rfl ?_
 refine q_val (wg rfl rfl rfl) (r_pick rfl rfl) rfl ?_
 refine q_val wn (r_pick rfl rfl) rfl ?_
 refine q_end (e_go hK12 ?_)
 refine c_false rfl rfl ?_
 refine c_skip (e_go hK11 ?_)
 refine c_seq fun _ hK21 => ?_
 refine c_seq fun _ hK22 => ?_
 refine c_region ?_
 refine l_val wn (r_fa rfl fld27_1) rfl ?_
 refine l_val wn (r_lb 4 rfl rfl rfl flat24) rfl ?_
 refine l_val wn (r_len rfl Try.underlying24) rfl ?_
 refine l_val wn (r_eql rfl rfl) rfl ?_
 refine l_nil (e_go hK22 ?_)
 refine c_cond rfl (fun h7 => ?_) (fun h7 => ?_)
 · refine c_seq fun _ hK23 => ?_
   refine c_region ?_
   refine l_val wn (r_build [.slice none 0 0, .slice none 0 0, .slice none 0 0, .slice none 0 0, .int .i64 0, .int .i64 0, .int .i64 0, .int .i64 0, .int .i64 0] pl27 inf27 rfl rfl) rfl ?_
   refine l_stn 2 wn rfl rfl rfl inf27 rfl rfl rfl ?_
   refine l_val wn (r_assign rfl) rfl ?_
   refine l_nil (e_go hK23 ?_)
   refine c_ret (e_then_r (e_ret2 (.inl rfl) Try.results23 (rv_cell 2 rfl rfl agg27 inf27 rfl) (rv_tmp rfl) fun w1 hM => ?_))
   have he : Sh.append z x = ((⟨([] : List Label), ([] : List Sample), ([] : List Bucket), ([] : List Bucket), 0, 0, 0, 0, 0⟩ : Shelf), 5) := Sh.append_many h1 h2 (fun g => g.elim h3 (fun g => by rw [Sh.late_none h4] at g; cases g)) h7
   rw [he]
   exact hM.retSh (s' := (⟨([] : List Label), ([] : List Sample), ([] : List Bucket), ([] : List Bucket), 0, 0, 0, 0, 0⟩ : Shelf)) (fun u => .tuple (List.toArray [u, .int .i64 5])) rfl (rfl) (fun _ _ => FlatSl.nil_ _ _ _ _) (fun _ _ => FlatSl.nil_ _ _ _ _) (fun _ _ => FlatSl.nil_ _ _ _ _) (fun _ _ => FlatSl.nil_ _ _ _ _)
 refine c_skip (e_go hK21 ?_)
 refine c_seq fun _ hK24 => ?_
 refine c_region ?_
 refine l_val wn (r_lbn 4 [.slice z0A z.series.length z0c, .slice z1A z.raw.length z1c, .slice z2A z.fine.length z2c, .slice z3A z.coarse.length z3c, .int .i64 z.rawFrom, .int .i64 z.fineFrom, .int .i64 z.fineTo, .int .i64 z.coarseFrom, .int .i64 z.coarseTo] rfl rfl rfl rfl agg27 inf27) rfl ?_
 refine l_callOwn z wn rfl Try.call57 rfl (fun w1 hM => c_own _ _ _ _ z (In w1) w1 (fun _ h => h) (hM.slp 5 rfl) (hM.slp 6 rfl) (hM.slp 7 rfl) (hM.slp 8 rfl) (Sh.wrong_lens (by assumption))) fun A6 cp6 A7 cp7 A8 cp8 A9 cp9 hb2 hA6 hA7 hA8 hA9 => ?_
 refine l_alloc wn inf27 rfl fun b9 => ?_
 refine l_stn 0 wn rfl rfl rfl inf27 rfl rfl rfl ?_
 refine l_nil (e_go hK24 ?_)
 refine c_seq fun _ hK25 => ?_
 refine c_region ?_
 refine l_val wn (r_fa rfl fld27_1) rfl ?_
 refine l_val wn (r_lb 0 rfl rfl rfl flat24) rfl ?_
 refine l_val wn (r_lbn 8 [.int .i64 x.time, .int .i64 x.value] rfl rfl rfl rfl agg39 inf39) rfl ?_
 refine l_bsL sampleE ([x] : List Sample) wn Try.underlying24 inf39 rfl rfl rfl rfl (by decide) (by decide) rfl fun b60 => ?_
 refine l_app 3 z.raw ([x] : List Sample) encSample wn rfl rfl rfl (fun _ hM => (RowSl encSample hM 0 rfl)) Try.underlying24 inf39 rfl rfl (by simp only [List.length_append, List.length_cons, List.length_nil]; omega) rfl fun A10 cp10 hc2 hm2 hA10 => ?_
 refine l_val wn (r_fa rfl fld27_1) rfl ?_
 refine l_st1 1 wn rfl rfl rfl rfl inf24 rfl rfl ?_
 refine l_nil (e_go hK25 ?_)
 refine c_seq fun _ hK26 => ?_
 refine c_region ?_
 refine l_val wn (r_lbn 1 [.slice A6 z.series.length cp6, .slice A10 ((z.raw ++ ([x] : List Sample)).length) cp10, .slice A8 z.fine.length cp8, .slice A9 z.coarse.length cp9, .int .i64 z.rawFrom, .int .i64 z.fineFrom, .int .i64 z.fineTo, .int .i64 z.coarseFrom, .int .i64 z.coarseTo] rfl rfl rfl rfl agg27 inf27) rfl ?_
 refine l_stn 8 wn rfl rfl rfl inf27 rfl rfl rfl ?_
 refine l_val wn (r_assign rfl) rfl ?_
 refine l_nil (e_go hK26 ?_)
 refine c_ret (e_ret2 (.inl rfl) Try.results23 (rv_cell 8 rfl rfl agg27 inf27 rfl) (rv_tmp rfl) fun w1 hM => ?_)
 have he : Sh.append z x = ((⟨z.series, (z.raw ++ ([x] : List Sample)), z.fine, z.coarse, z.rawFrom, z.fineFrom, z.fineTo, z.coarseFrom, z.coarseTo⟩ : Shelf), 0) := Sh.append_ok h1 h2 (fun g => g.elim h3 (fun g => by rw [Sh.late_none h4] at g; cases g)) h7
 rw [he]
 have hM := hM.sealRow encLabel (i := 2) rfl rfl
 have hM := hM.sealRow encSample (i := 3) rfl rfl
 have hM := hM.sealRow encBucket (i := 4) rfl rfl
 have hM := hM.sealRow encBucket (i := 5) rfl rfl
 exact hM.retSh (s' := (⟨z.series, (z.raw ++ ([x] : List Sample)), z.fine, z.coarse, z.rawFrom, z.fineFrom, z.fineTo, z.coarseFrom, z.coarseTo⟩ : Shelf)) (fun u => .tuple (List.toArray [u, .int .i64 0])) rfl (rfl) (fun _ pp => pp.sl 2 rfl) (fun _ pp => pp.sl 3 rfl) (fun _ pp => pp.sl 4 rfl) (fun _ pp => pp.sl 5 rfl)

set_option maxHeartbeats 1000000 in
theorem c_roll (z0 : Value) (z1 : Value) (z2 : Value) (z3 : Value) (z : Shelf) (to : Int) (P0 : Nat → Prop) (w : World) (hP0 : ∀ b, P0 b → b < w.heap.size) (hz0 : FlatSl P0 2 labelE z0 z.series w) (hz1 : FlatSl P0 2 sampleE z1 z.raw w) (hz2 : FlatSl P0 8 bucketE z2 z.fine w) (hz3 : FlatSl P0 8 bucketE z3 z.coarse w)  :
    Calls Try.prog 25 #[.agg (List.toArray [z0, z1, z2, z3, .int .i64 z.rawFrom, .int .i64 z.fineFrom, .int .i64 z.fineTo, .int .i64 z.coarseFrom, .int .i64 z.coarseTo]), .int .i64 to] w (RetSh w P0 (fun u => .tuple (List.toArray [u, .int .i64 (Sh.roll z to).2])) (Sh.roll z to).1) := by
 obtain ⟨z0A, z0c, rfl, hz0c, hz0m, hz0A⟩ := hz0.form
 obtain ⟨z1A, z1c, rfl, hz1c, hz1m, hz1A⟩ := hz1.form
 obtain ⟨z2A, z2c, rfl, hz2c, hz2m, hz2A⟩ := hz2.form
 obtain ⟨z3A, z3c, rfl, hz3c, hz3m, hz3A⟩ := hz3.form
 refine fstart (N := 115) (vals := [.agg (List.toArray [.slice z0A z.series.length z0c, .slice z1A z.raw.length z1c, .slice z2A z.fine.length z2c, .slice z3A z.coarse.length z3c, .int .i64 z.rawFrom, .int .i64 z.fineFrom, .int .i64 z.fineTo, .int .i64 z.coarseFrom, .int .i64 z.coarseTo]), .int .i64 to]) (S := Mem w ⟨no, P0⟩ [slP 2 labelE (.slice z0A z.series.length z0c) z.series, slP 2 sampleE (.slice z1A z.raw.length z1c) z.raw, slP 8 bucketE (.slice z2A z.fine.length z2c) z.fine, slP 8 bucketE (.slice z3A z.coarse.length z3c) z.coarse]) Try.func25 rfl rfl rfl (Mem.ofDatsP hP0 (dc (dlp hz0) (dc (dlp hz1) (dc (dlp hz2) (dc (dlp hz3) dn))))) ?_
 refine c_seq fun _ hK1 => ?_
 refine c_region ?_
 refine l_box wn rfl rfl fun b2 => ?_
 refine l_alloc wn inf27 rfl fun b4 => ?_
 refine l_val wn (r_assign rfl) rfl ?_
 refine l_nil (e_go hK1 ?_)
 refine c_seq fun _ hK2 => ?_
 refine c_seq fun _ hK3 => ?_
 refine c_region ?_
 refine l_val wn (r_lbn 1 [.slice z0A z.series.length z0c, .slice z1A z.raw.length z1c, .slice z2A z.fine.length z2c, .slice z3A z.coarse.length z3c, .int .i64 z.rawFrom, .int .i64 z.fineFrom, .int .i64 z.fineTo, .int .i64 z.coarseFrom, .int .i64 z.coarseTo] rfl rfl rfl rfl agg27 inf27) rfl ?_
 refine l_callF wn rfl Try.call19 rfl (fun w1 hM => c_shWrong _ _ _ _ z (In w1) w1 (fun _ h => h) (hM.slp 2 rfl) (hM.slp 3 rfl) (hM.slp 4 rfl) (hM.slp 5 rfl)) ?_
 refine l_val wn (r_assign rfl) rfl ?_
 refine l_nil (e_go hK3 ?_)
 refine c_seq fun _ hK4 => ?_
 refine c_region ?_
 refine l_val wn (r_move rfl) rfl ?_
 refine l_val wn (r_neq rfl rfl) rfl ?_
 refine l_nil (e_go hK4 ?_)
 refine c_cond rfl (fun h1 => ?_) (fun h1 => ?_)
 · refine c_seq fun _ hK5 => ?_
   refine c_region ?_
   refine l_val wn (r_build [.slice none 0 0, .slice none 0 0, .slice none 0 0, .slice none 0 0, .int .i64 0, .int .i64 0, .int .i64 0, .int .i64 0, .int .i64 0] pl27 inf27 rfl rfl) rfl ?_
   refine l_val wn (r_move rfl) rfl ?_
   refine l_stn 0 wn rfl rfl rfl inf27 rfl rfl rfl ?_
   refine l_val wn (r_assign rfl) rfl ?_
   refine l_nil (e_go hK5 ?_)
   refine c_ret (e_then_r (e_ret2 (.inl rfl) Try.results25 (rv_cell 0 rfl rfl agg27 inf27 rfl) (rv_tmp rfl) fun w1 hM => ?_))
   have he : Sh.roll z to = ((⟨([] : List Label), ([] : List Sample), ([] : List Bucket), ([] : List Bucket), 0, 0, 0, 0, 0⟩ : Shelf), (Sh.wrong z)) := Sh.roll_wrong h1
   rw [he]
   exact hM.retSh (s' := (⟨([] : List Label), ([] : List Sample), ([] : List Bucket), ([] : List Bucket), 0, 0, 0, 0, 0⟩ : Shelf)) (fun u => .tuple (List.toArray [u, .int .i64 (Sh.wrong z)])) rfl (rfl) (fun _ _ => FlatSl.nil_ _ _ _ _) (fun _ _ => FlatSl.nil_ _ _ _ _) (fun _ _ => FlatSl.nil_ _ _ _ _) (fun _ _ => FlatSl.nil_ _ _ _ _)
 obtain ⟨l1, l2, l3, l4⟩ := (Sh.ok_of h1).lens
 obtain ⟨⟨g1, g2, g3, g4⟩, ⟨g5, g6, g7, g8, g9⟩, g10, g11, g12, g13, g14⟩ := (Sh.ok_of h1).rng
 refine c_skip (e_go hK2 ?_)
 refine c_seq fun _ hK6 => ?_
 refine c_seq fun _ hK7 => ?_
 refine c_region ?_
 refine l_val wn (r_move rfl) rfl ?_
 refine l_val wn (r_lss rfl rfl) rfl ?_
 refine l_val wn (r_move rfl) rfl ?_
 refine l_case (t := 24) rfl (fun h2 => ?_) (fun h2 => ?_)
 · refine l_skip (wg rfl rfl rfl) rfl ?_
   refine l_skip (wg rfl rfl rfl) rfl ?_
   refine l_val wn (r_pick rfl rfl) rfl ?_
   refine l_nil (e_go hK7 ?_)
   refine c_true rfl rfl ?_
   refine c_seq fun _ hK8 => ?_
   refine c_region ?_
   refine l_val wn (r_build [.slice none 0 0, .slice none 0 0, .slice none 0 0, .slice none 0 0, .int .i64 0, .int .i64 0, .int .i64 0, .int .i64 0, .int .i64 0] pl27 inf27 rfl rfl) rfl ?_
   refine l_stn 0 wn rfl rfl rfl inf27 rfl rfl rfl ?_
   refine l_val wn (r_assign rfl) rfl ?_
   refine l_nil (e_go hK8 ?_)
   refine c_ret (e_then_r (e_ret2 (.inl rfl) Try.results25 (rv_cell 0 rfl rfl agg27 inf27 rfl) (rv_tmp rfl) fun w1 hM => ?_))
   have he : Sh.roll z to = ((⟨([] : List Label), ([] : List Sample), ([] : List Bucket), ([] : List Bucket), 0, 0, 0, 0, 0⟩ : Shelf), 3) := Sh.roll_range h1 (by omega)
   rw [he]
   exact hM.retSh (s' := (⟨([] : List Label), ([] : List Sample), ([] : List Bucket), ([] : List Bucket), 0, 0, 0, 0, 0⟩ : Shelf)) (fun u => .tuple (List.toArray [u, .int .i64 3])) rfl (rfl) (fun _ _ => FlatSl.nil_ _ _ _ _) (fun _ _ => FlatSl.nil_ _ _ _ _) (fun _ _ => FlatSl.nil_ _ _ _ _) (fun _ _ => FlatSl.nil_ _ _ _ _)
 refine l_val (wg rfl rfl rfl) (r_move rfl) rfl ?_
 refine l_val (wg rfl rfl rfl) (r_gtr rfl rfl) rfl ?_
 refine l_val wn (r_pick rfl rfl) rfl ?_
 refine l_nil (e_go hK7 ?_)
 refine c_cond rfl (fun h3 => ?_) (fun h3 => ?_)
 · refine c_seq fun _ hK9 => ?_
   refine c_region ?_
   refine l_val wn (r_build [.slice none 0 0, .slice none 0 0, .slice none 0 0, .slice none 0 0, .int .i64 0, .int .i64 0, .int .i64 0, .int .i64 0, .int .i64 0] pl27 inf27 rfl rfl) rfl ?_
   refine l_stn 0 wn rfl rfl rfl inf27 rfl rfl rfl ?_
   refine l_val wn (r_assign rfl) rfl ?_
   refine l_nil (e_go hK9 ?_)
   refine c_ret (e_then_r (e_ret2 (.inl rfl) Try.results25 (rv_cell 0 rfl rfl agg27 inf27 rfl) (rv_tmp rfl) fun w1 hM => ?_))
   have he : Sh.roll z to = ((⟨([] : List Label), ([] : List Sample), ([] : List Bucket), ([] : List Bucket), 0, 0, 0, 0, 0⟩ : Shelf), 3) := Sh.roll_range h1 (by omega)
   rw [he]
   exact hM.retSh (s' := (⟨([] : List Label), ([] : List Sample), ([] : List Bucket), ([] : List Bucket), 0, 0, 0, 0, 0⟩ : Shelf)) (fun u => .tuple (List.toArray [u, .int .i64 3])) rfl (rfl) (fun _ _ => FlatSl.nil_ _ _ _ _) (fun _ _ => FlatSl.nil_ _ _ _ _) (fun _ _ => FlatSl.nil_ _ _ _ _) (fun _ _ => FlatSl.nil_ _ _ _ _)
 obtain ⟨ft1, ft2, ft3, ft4⟩ := Sh.fineTo_rng (Sh.ok_of h1) (to := to) (by omega) (by omega)
 obtain ⟨ct1, ct2, ct3⟩ := Sh.coarseTo_rng (Sh.ok_of h1) (to := to) (by omega) (by omega)
 have hu0 := Roll.inT_len z.raw z.fineTo (Sh.fineTo z to)
 have hb0 := Sh.bIn_len (z.fine ++ (Roll.up (Roll.inT z.raw z.fineTo (Sh.fineTo z to)) 1)) z.coarseTo (Sh.coarseTo z to)
 have hlen2 : (z.fine ++ (Roll.up (Roll.inT z.raw z.fineTo (Sh.fineTo z to)) 1)).length = z.fine.length + _ := List.length_append
 have hu1 := Nat.le_trans (Roll.up_len (Roll.inT z.raw z.fineTo (Sh.fineTo z to)) 1) hu0
 have hu2 := Nat.le_trans (Roll.greater_len (Sh.bIn (z.fine ++ (Roll.up (Roll.inT z.raw z.fineTo (Sh.fineTo z to)) 1)) z.coarseTo (Sh.coarseTo z to))) hb0
 refine c_skip (e_go hK6 ?_)
 refine c_seq fun _ hK10 => ?_
 refine c_region ?_
 refine l_val wn (r_lbn 1 [.slice z0A z.series.length z0c, .slice z1A z.raw.length z1c, .slice z2A z.fine.length z2c, .slice z3A z.coarse.length z3c, .int .i64 z.rawFrom, .int .i64 z.fineFrom, .int .i64 z.fineTo, .int .i64 z.coarseFrom, .int .i64 z.coarseTo] rfl rfl rfl rfl agg27 inf27) rfl ?_
 refine l_callOwn z wn rfl Try.call57 rfl (fun w1 hM => c_own _ _ _ _ z (In w1) w1 (fun _ h => h) (hM.slp 2 rfl) (hM.slp 3 rfl) (hM.slp 4 rfl) (hM.slp 5 rfl) (Sh.wrong_lens (by assumption))) fun A1 cp1 A2 cp2 A3 cp3 A4 cp4 hb1 hA1 hA2 hA3 hA4 => ?_
 refine l_alloc wn inf27 rfl fun b7 => ?_
 refine l_stn 0 wn rfl rfl rfl inf27 rfl rfl rfl ?_
 refine l_nil (e_go hK10 ?_)
 refine c_seq fun _ hK11 => ?_
 refine c_quiet mix (by kernel_rfl) (fun _ h => h.drew) ?_
 refine q_val wn (r_fa rfl fld27_6) rfl ?_
 refine q_val wn (r_lb 6 rfl rfl rfl flat3) rfl ?_
 refine q_val wn (r_move rfl) rfl ?_
 refine q_callF wn rfl Try.call58 rfl (fun w1 hM => c_down to 10 w1 (by omega) (by omega)) ?_
 refine q_val wn (rv_i (show _ = (Sh.fineTo z to) from rfl) (r_max rfl rfl)) rfl ?_
 refine q_val wn (r_assign rfl) rfl ?_
 refine q_end (e_go hK11 ?_)
 refine c_seq fun _ hK12 => ?_
 refine c_quiet mix (by kernel_rfl) (fun _ h => h.drew) ?_
 refine q_val wn (r_fa rfl fld27_8) rfl ?_
 refine q_val wn (r_lb 6 rfl rfl rfl flat3) rfl ?_
 refine q_val wn (r_move rfl) rfl ?_
 refine q_callF wn rfl Try.call58 rfl (fun w1 hM => c_down (Sh.fineTo z to) 60 w1 (by omega) (by omega)) ?_
 refine q_val wn (rv_i (show _ = (Sh.coarseTo z to) from rfl) (r_max rfl rfl)) rfl ?_
 refine q_val wn (r_assign rfl) rfl ?_
 refine q_end (e_go hK12 ?_)
 refine c_seq fun _ hK13 => ?_
 refine c_region ?_
 refine l_nilRow (sampleE : Sample → List Value) 39 2 ?_
 refine l_val wn (r_assign rfl) rfl ?_
 refine l_nil (e_go hK13 ?_)
 refine c_seq fun _ hK14 => ?_
 refine c_seq fun _ hK15 => ?_
 refine c_region ?_
 refine l_val wn (r_fa rfl fld27_1) rfl ?_
 refine l_val wn (r_lb 7 rfl rfl rfl flat24) rfl ?_
 refine l_val wn (r_len rfl Try.underlying24) rfl ?_
 refine l_val wn (r_move rfl) rfl ?_
 refine l_nil (e_go hK15 ?_)
 refine c_block ?_
 refine c_loop2 (fun (k : Nat) (vr : Value) => [(2, .pointer (some ⟨b2, 0, none⟩)), (4, .pointer (some ⟨b4, 0, none⟩)), (7, .pointer (some ⟨b7, 0, none⟩)), (8, .int .i64 (Sh.fineTo z to)), (9, .int .i64 (Sh.coarseTo z to)), (10, vr), (42, .slice z1A z.raw.length z1c), (43, .int .i64 (z.raw.length : Int)), (44, .int .i64 (k : Int))]) (fun (k : Nat) (vr : Value) => [Row vr 39 2 sampleE (Roll.inT (z.raw.take k) z.fineTo (Sh.fineTo z to)), .blk b7 [.slice A1 z.series.length cp1, .slice A2 z.raw.length cp2, .slice A3 z.fine.length cp3, .slice A4 z.coarse.length cp4, .int .i64 z.rawFrom, .int .i64 z.fineFrom, .int .i64 z.fineTo, .int .i64 z.coarseFrom, .int .i64 z.coarseTo] 27, Row (.slice A1 z.series.length cp1) 89 2 labelE z.series, Row (.slice A2 z.raw.length cp2) 39 2 sampleE z.raw, Row (.slice A3 z.fine.length cp3) 78 8 bucketE z.fine, Row (.slice A4 z.coarse.length cp4) 78 8 bucketE z.coarse, .blk b4 [.slice none 0 0, .slice none 0 0, .slice none 0 0, .slice none 0 0, .int .i64 0, .int .i64 0, .int .i64 0, .int .i64 0, .int .i64 0] 27, .blk b2 [.slice z0A z.series.length z0c, .slice z1A z.raw.length z1c, .slice z2A z.fine.length z2c, .slice z3A z.coarse.length z3c, .int .i64 z.rawFrom, .int .i64 z.fineFrom, .int .i64 z.fineTo, .int .i64 z.coarseFrom, .int .i64 z.coarseTo] 27, slP 2 labelE (.slice z0A z.series.length z0c) z.series, slP 2 sampleE (.slice z1A z.raw.length z1c) z.raw, slP 8 bucketE (.slice z2A z.fine.length z2c) z.fine, slP 8 bucketE (.slice z3A z.coarse.length z3c) z.coarse]) (fun (k : Nat) (vr : Value) => k ≤ z.raw.length) (fun (k : Nat) (vr : Value) => z.raw.length - k) 0 (.slice none 0 0) (sc rfl (sc rfl (sc rfl (sc rfl (sc rfl (sc rfl (sc rfl (sc rfl (sc (ji (by omega)) sn))))))))) (fun _ h => h) ?_ (fun k vr hI1 => ?_)
 · omega
 have hlen := Nat.le_trans (Roll.inT_len (z.raw.take k) z.fineTo (Sh.fineTo z to)) (List.length_take_le k z.raw)
 refine c_open 0 (l := (Roll.inT (z.raw.take k) z.fineTo (Sh.fineTo z to))) rfl fun A5 cp5 hv1 hc1 hm1 hA5 => ?_
 subst hv1
 refine c_seq fun _ hK16 => ?_
 refine c_region ?_
 refine l_val wn (r_lss rfl rfl) rfl ?_
 refine l_nil (e_go hK16 ?_)
 refine c_seq fun _ hK17 => ?_
 refine c_cond rfl (fun h4 => ?_) (fun h4 => ?_)
 · refine c_skip (e_go hK17 ?_)
   refine c_seq fun _ hK18 => ?_
   refine c_block ?_
   refine c_seq fun _ hK19 => ?_
   refine c_region ?_
   obtain ⟨ad1, hd1⟩ := hz1A (ne_nil (i := k) (by first | omega | decide | (simp only [List.length_cons, List.length_nil, List.length_append, List.length_take, List.length_set]; omega)))
   refine l_val wn (r_ia (i := k) rfl hd1 rfl (by omega) (by first | omega | decide | (simp only [List.length_cons, List.length_nil, List.length_append, List.length_take, List.length_set]; omega)) Try.underlying24 inf39) rfl ?_
   obtain ⟨s1, hs1⟩ : ∃ x, z.raw[k]? = some x := ⟨_, List.getElem?_eq_getElem (by first | omega | decide | (simp only [List.length_cons, List.length_nil, List.length_append, List.length_take, List.length_set]; omega))⟩
   refine l_val wn (r_pln 9 [.int .i64 s1.time, .int .i64 s1.value] rfl rfl hd1 hs1 rfl rfl agg39 inf39) rfl ?_
   refine l_alloc wn inf39 rfl fun b12 => ?_
   refine l_stn 0 wn rfl rfl rfl inf39 rfl rfl rfl ?_
   refine l_nil (e_go hK19 ?_)
   refine c_seq fun _ hK20 => ?_
   refine c_region ?_
   refine l_val wn (r_fa rfl fld39_0) rfl ?_
   refine l_val wn (r_lb 0 rfl rfl rfl flat3) rfl ?_
   refine l_val wn (r_fa rfl fld27_6) rfl ?_
   refine l_val wn (r_lb 8 rfl rfl rfl flat3) rfl ?_
   refine l_val wn (r_geq rfl rfl) rfl ?_
   refine l_val wn (r_move rfl) rfl ?_
   refine l_case (t := 53) rfl (fun h5 => ?_) (fun h5 => ?_)
   · refine l_val (wg rfl rfl rfl) (r_fa rfl fld39_0) rfl ?_
     refine l_val (wg rfl rfl rfl) (r_lb 0 rfl rfl rfl flat3) rfl ?_
     refine l_val (wg rfl rfl rfl) (r_move rfl) rfl ?_
     refine l_val (wg rfl rfl rfl) (r_lss rfl rfl) rfl ?_
     refine l_val wn (r_pick rfl rfl) rfl ?_
     refine l_nil (e_go hK20 ?_)
     refine c_cond rfl (fun h6 => ?_) (fun h6 => ?_)
     · refine c_region ?_
       refine l_val wn (r_move rfl) rfl ?_
       refine l_val wn (r_lbn 0 [.int .i64 s1.time, .int .i64 s1.value] rfl rfl rfl rfl agg39 inf39) rfl ?_
       refine l_bsL sampleE ([s1] : List Sample) wn Try.underlying24 inf39 rfl rfl rfl rfl (by decide) (by decide) rfl fun b61 => ?_
       refine l_app 2 (Roll.inT (z.raw.take k) z.fineTo (Sh.fineTo z to)) ([s1] : List Sample) encSample wn rfl rfl rfl (fun _ hM => (RowSl encSample hM 0 rfl)) Try.underlying24 inf39 rfl rfl (by first | omega | (simp only [List.length_append, List.length_cons, List.length_nil]; omega)) rfl fun A6 cp6 hc2 hm2 hA6 => ?_
       refine l_val wn (r_assign rfl) rfl ?_
       refine l_nil (e_in_n (e_go hK18 ?_))
       refine c_region ?_
       refine l_val wn (r_addn rfl rfl (by omega)) rfl ?_
       refine l_val wn (r_move rfl) rfl ?_
       refine l_nil (e_round2 (k + 1) (.slice A6 (((Roll.inT (z.raw.take k) z.fineTo (Sh.fineTo z to)) ++ ([s1] : List Sample)).length) cp6) (sc rfl (sc rfl (sc rfl (sc rfl (sc rfl (sc rfl (sc rfl (sc rfl (sc (ji (by omega)) sn))))))))) (fun _ h => by rw [(Roll.inT_succ (a := z.fineTo) (b := Sh.fineTo z to) hs1).trans (if_pos (by omega))]; exact (h.sel [2, 3, 4, 5, 6, 7, 8, 9, 10, 11, 12, 13] (by decide) rfl)) ?_ ?_)
       · omega
       omega
     refine c_skip (e_in_n (e_go hK18 ?_))
     refine c_region ?_
     refine l_val wn (r_addn rfl rfl (by omega)) rfl ?_
     refine l_val wn (r_move rfl) rfl ?_
     refine l_nil (e_round2 (k + 1) (.slice A5 ((Roll.inT (z.raw.take k) z.fineTo (Sh.fineTo z to)).length) cp5) (sc rfl (sc rfl (sc rfl (sc rfl (sc rfl (sc rfl (sc rfl (sc rfl (sc (ji (by omega)) sn))))))))) (fun _ h => by rw [(Roll.inT_succ (a := z.fineTo) (b := Sh.fineTo z to) hs1).trans (if_neg (by omega))]; exact (h.sel [1, 2, 3, 4, 5, 6, 7, 8, 9, 10, 11, 12] (by decide) rfl)) ?_ ?_)
     · omega
     omega
   refine l_skip (wg rfl rfl rfl) rfl ?_
   refine l_skip (wg rfl rfl rfl) rfl ?_
   refine l_skip (wg rfl rfl rfl) rfl ?_
   refine l_skip (wg rfl rfl rfl) rfl ?_
   refine l_val wn (r_pick rfl rfl) rfl ?_
   refine l_nil (e_go hK20 ?_)
   refine c_false rfl rfl ?_
   refine c_skip (e_in_n (e_go hK18 ?_))
   refine c_region ?_
   refine l_val wn (r_addn rfl rfl (by omega)) rfl ?_
   refine l_val wn (r_move rfl) rfl ?_
   refine l_nil (e_round2 (k + 1) (.slice A5 ((Roll.inT (z.raw.take k) z.fineTo (Sh.fineTo z to)).length) cp5) (sc rfl (sc rfl (sc rfl (sc rfl (sc rfl (sc rfl (sc rfl (sc rfl (sc (ji (by omega)) sn))))))))) (fun _ h => by rw [(Roll.inT_succ (a := z.fineTo) (b := Sh.fineTo z to) hs1).trans (if_neg (by omega))]; exact (h.sel [1, 2, 3, 4, 5, 6, 7, 8, 9, 10, 11, 12] (by decide) rfl)) ?_ ?_)
   · omega
   omega
 have hk1 : z.raw.take k = z.raw := List.take_of_length_le (by omega)
 rw [hk1]
 rw [hk1] at hA5
 refine c_exit (e_then_x (e_loop2_x (e_in_hit (e_go hK14 ?_))))
 refine c_seq fun _ hK21 => ?_
 refine c_nodes (Mem w ⟨no, P0⟩ [Row (.slice A5 ((Roll.inT z.raw z.fineTo (Sh.fineTo z to)).length) cp5) 39 2 sampleE (Roll.inT z.raw z.fineTo (Sh.fineTo z to)), Row (.slice A1 z.series.length cp1) 89 2 labelE z.series, Row (.slice A2 z.raw.length cp2) 39 2 sampleE z.raw, Row (.slice A4 z.coarse.length cp4) 78 8 bucketE z.coarse, .blk b4 [.slice none 0 0, .slice none 0 0, .slice none 0 0, .slice none 0 0, .int .i64 0, .int .i64 0, .int .i64 0, .int .i64 0, .int .i64 0] 27, .blk b2 [.slice z0A z.series.length z0c, .slice z1A z.raw.length z1c, .slice z2A z.fine.length z2c, .slice z3A z.coarse.length z3c, .int .i64 z.rawFrom, .int .i64 z.fineFrom, .int .i64 z.fineTo, .int .i64 z.coarseFrom, .int .i64 z.coarseTo] 27, slP 2 labelE (.slice z0A z.series.length z0c) z.series, slP 2 sampleE (.slice z1A z.raw.length z1c) z.raw, slP 8 bucketE (.slice z2A z.fine.length z2c) z.fine, slP 8 bucketE (.slice z3A z.coarse.length z3c) z.coarse]) mix (fun _ h => h.drew) rfl ?_
 refine n_run (f := 5) [0, 2] rfl rfl (by kernel_rfl) (by kernel_rfl) (fun _ h => (h.sel [0, 2, 3, 5, 6, 7, 8, 9, 10, 11] (by decide) rfl)) fun KS hKS => ?_
 refine s_val wn (r_fa rfl fld27_2) rfl ?_
 refine s_val wn (r_move rfl) rfl ?_
 refine s_end hKS ?_
 refine n_mix (f := 3) [(1, .val 65 (.slice A3 z.fine.length cp3)), (3, .row 67 78 8 (Roll.up (Roll.inT z.raw z.fineTo (Sh.fineTo z to)) 1).length ((Roll.up (Roll.inT z.raw z.fineTo (Sh.fineTo z to)) 1).flatMap bucketE))] rfl (by kernel_rfl) (nd [1, 3] rfl (by decide)) (nd [65, 67] rfl (by decide)) rfl ⟨jv_ [] trivial rfl rfl rfl (r_lb 1 rfl rfl rfl flat25), jr_ [] trivial rfl rfl rfl rfl Try.call33 (fun w1 hM => c_Up _ (Roll.inT z.raw z.fineTo (Sh.fineTo z to)) 1 w1 (RowSl encSample hM 0 rfl) (by first | assumption | omega | (simp only [List.length_cons, List.length_nil]; omega) | exact Nat.le_trans (Roll.up_len _ _) (by first | omega | simp))), trivial⟩ (fun _ h => (h.sel [0, 2, 3, 5, 6, 7, 8, 9, 10, 11] (by decide) rfl)) fun val1 => ?_
 refine n_weak (E' := [(2, .pointer (some ⟨b2, 0, none⟩)), (4, .pointer (some ⟨b4, 0, none⟩)), (7, .pointer (some ⟨b7, 0, none⟩)), (8, .int .i64 (Sh.fineTo z to)), (9, .int .i64 (Sh.coarseTo z to)), (10, .slice A5 ((Roll.inT z.raw z.fineTo (Sh.fineTo z to)).length) cp5), (42, .slice z1A z.raw.length z1c), (43, .int .i64 (z.raw.length : Int)), (44, .int .i64 (k : Int)), (45, .bool (decide ((k : Int) < (z.raw.length : Int)))), (64, .pointer (some ⟨b7, 2, none⟩)), (65, .slice A3 z.fine.length cp3), (66, .slice A5 ((Roll.inT z.raw z.fineTo (Sh.fineTo z to)).length) cp5), (67, (val1 3))]) (S' := Mem w ⟨no, P0⟩ [Row (val1 3) 78 8 bucketE (Roll.up (Roll.inT z.raw z.fineTo (Sh.fineTo z to)) 1), Row (.slice A5 ((Roll.inT z.raw z.fineTo (Sh.fineTo z to)).length) cp5) 39 2 sampleE (Roll.inT z.raw z.fineTo (Sh.fineTo z to)), .blk b7 [.slice A1 z.series.length cp1, .slice A2 z.raw.length cp2, .slice A3 z.fine.length cp3, .slice A4 z.coarse.length cp4, .int .i64 z.rawFrom, .int .i64 z.fineFrom, .int .i64 z.fineTo, .int .i64 z.coarseFrom, .int .i64 z.coarseTo] 27, Row (.slice A1 z.series.length cp1) 89 2 labelE z.series, Row (.slice A2 z.raw.length cp2) 39 2 sampleE z.raw, Row (.slice A3 z.fine.length cp3) 78 8 bucketE z.fine, Row (.slice A4 z.coarse.length cp4) 78 8 bucketE z.coarse, .blk b4 [.slice none 0 0, .slice none 0 0, .slice none 0 0, .slice none 0 0, .int .i64 0, .int .i64 0, .int .i64 0, .int .i64 0, .int .i64 0] 27, .blk b2 [.slice z0A z.series.length z0c, .slice z1A z.raw.length z1c, .slice z2A z.fine.length z2c, .slice z3A z.coarse.length z3c, .int .i64 z.rawFrom, .int .i64 z.fineFrom, .int .i64 z.fineTo, .int .i64 z.coarseFrom, .int .i64 z.coarseTo] 27, slP 2 labelE (.slice z0A z.series.length z0c) z.series, slP 2 sampleE (.slice z1A z.raw.length z1c) z.raw, slP 8 bucketE (.slice z2A z.fine.length z2c) z.fine, slP 8 bucketE (.slice z3A z.coarse.length z3c) z.coarse]) (sc rfl (sc rfl (sc rfl (sc rfl (sc rfl (sc rfl (sc rfl (sc rfl (sc rfl (sc rfl (sc rfl (sc rfl (sc rfl (sc rfl sn)))))))))))))) (fun _ h => h) ?_
 refine n_open 0 (l := (Roll.up (Roll.inT z.raw z.fineTo (Sh.fineTo z to)) 1)) (enc := bucketE) rfl fun A7 cp7 hv2 hc3 hm3 hA7 => ?_
 rw [hv2]
 refine n_step1 (f := 2) (i := 4) rfl (by kernel_rfl) ?_
 refine n_one (i := 4) rfl fun KN hKN => ?_
 refine l_app 5 z.fine (Roll.up (Roll.inT z.raw z.fineTo (Sh.fineTo z to)) 1) encBucket wn rfl rfl rfl (fun _ hM => (RowSl encBucket hM 0 rfl)) Try.underlying25 inf78 rfl rfl (by first | omega | (simp only [List.length_append, List.length_cons, List.length_nil]; omega)) rfl fun A8 cp8 hc4 hm4 hA8 => ?_
 refine l_nil (hKN _ _ (fun _ h => (h.sel [1, 3, 4, 6, 7, 8, 9, 10, 11, 12] (by decide) rfl)) ?_)
 refine n_run (f := 1) [5] rfl rfl (by kernel_rfl) (by kernel_rfl) (fun _ h => (h.sel [1, 3, 4, 6, 7, 8, 9, 10, 11, 12] (by decide) rfl)) fun KS hKS => ?_
 refine s_val wn (r_fa rfl fld27_2) rfl ?_
 refine s_end hKS ?_
 refine n_step1 (f := 0) (i := 6) rfl (by kernel_rfl) ?_
 refine n_one (i := 6) rfl fun KN hKN => ?_
 refine l_st1 2 wn rfl rfl rfl rfl inf25 rfl rfl ?_
 refine l_nil (hKN _ _ (fun _ h => (h.sel [1, 3, 4, 6, 7, 8, 9, 10, 11, 12] (by decide) rfl)) ?_)
 refine n_done (by kernel_rfl) (e_go hK21 ?_)
 refine c_seq fun _ hK22 => ?_
 refine c_region ?_
 refine l_nilRow (bucketE : Bucket → List Value) 78 8 ?_
 refine l_val wn (r_assign rfl) rfl ?_
 refine l_nil (e_go hK22 ?_)
 refine c_seq fun _ hK23 => ?_
 refine c_seq fun _ hK24 => ?_
 refine c_region ?_
 refine l_val wn (r_fa rfl fld27_2) rfl ?_
 refine l_val wn (r_lb 3 rfl rfl rfl flat25) rfl ?_
 refine l_val wn (r_len rfl Try.underlying25) rfl ?_
 refine l_val wn (r_move rfl) rfl ?_
 refine l_nil (e_go hK24 ?_)
 refine c_block ?_
 refine c_loop2 (fun (k : Nat) (vr2 : Value) => [(2, .pointer (some ⟨b2, 0, none⟩)), (4, .pointer (some ⟨b4, 0, none⟩)), (7, .pointer (some ⟨b7, 0, none⟩)), (8, .int .i64 (Sh.fineTo z to)), (9, .int .i64 (Sh.coarseTo z to)), (13, vr2), (71, .slice A8 ((z.fine ++ (Roll.up (Roll.inT z.raw z.fineTo (Sh.fineTo z to)) 1)).length) cp8), (72, .int .i64 ((z.fine ++ (Roll.up (Roll.inT z.raw z.fineTo (Sh.fineTo z to)) 1)).length : Int)), (73, .int .i64 (k : Int))]) (fun (k : Nat) (vr2 : Value) => [Row vr2 78 8 bucketE (Sh.bIn ((z.fine ++ (Roll.up (Roll.inT z.raw z.fineTo (Sh.fineTo z to)) 1)).take k) z.coarseTo (Sh.coarseTo z to)), Row (.slice A7 ((Roll.up (Roll.inT z.raw z.fineTo (Sh.fineTo z to)) 1).length) cp7) 78 8 bucketE (Roll.up (Roll.inT z.raw z.fineTo (Sh.fineTo z to)) 1), Row (.slice A5 ((Roll.inT z.raw z.fineTo (Sh.fineTo z to)).length) cp5) 39 2 sampleE (Roll.inT z.raw z.fineTo (Sh.fineTo z to)), .blk b7 [.slice A1 z.series.length cp1, .slice A2 z.raw.length cp2, .slice A8 ((z.fine ++ (Roll.up (Roll.inT z.raw z.fineTo (Sh.fineTo z to)) 1)).length) cp8, .slice A4 z.coarse.length cp4, .int .i64 z.rawFrom, .int .i64 z.fineFrom, .int .i64 z.fineTo, .int .i64 z.coarseFrom, .int .i64 z.coarseTo] 27, Row (.slice A1 z.series.length cp1) 89 2 labelE z.series, Row (.slice A2 z.raw.length cp2) 39 2 sampleE z.raw, Row (.slice A8 ((z.fine ++ (Roll.up (Roll.inT z.raw z.fineTo (Sh.fineTo z to)) 1)).length) cp8) 78 8 bucketE (z.fine ++ (Roll.up (Roll.inT z.raw z.fineTo (Sh.fineTo z to)) 1)), Row (.slice A4 z.coarse.length cp4) 78 8 bucketE z.coarse, .blk b4 [.slice none 0 0, .slice none 0 0, .slice none 0 0, .slice none 0 0, .int .i64 0, .int .i64 0, .int .i64 0, .int .i64 0, .int .i64 0] 27, .blk b2 [.slice z0A z.series.length z0c, .slice z1A z.raw.length z1c, .slice z2A z.fine.length z2c, .slice z3A z.coarse.length z3c, .int .i64 z.rawFrom, .int .i64 z.fineFrom, .int .i64 z.fineTo, .int .i64 z.coarseFrom, .int .i64 z.coarseTo] 27, slP 2 labelE (.slice z0A z.series.length z0c) z.series, slP 2 sampleE (.slice z1A z.raw.length z1c) z.raw, slP 8 bucketE (.slice z2A z.fine.length z2c) z.fine, slP 8 bucketE (.slice z3A z.coarse.length z3c) z.coarse]) (fun (k : Nat) (vr2 : Value) => k ≤ (z.fine ++ (Roll.up (Roll.inT z.raw z.fineTo (Sh.fineTo z to)) 1)).length) (fun (k : Nat) (vr2 : Value) => (z.fine ++ (Roll.up (Roll.inT z.raw z.fineTo (Sh.fineTo z to)) 1)).length - k) 0 (.slice none 0 0) (sc rfl (sc rfl (sc rfl (sc rfl (sc rfl (sc rfl (sc rfl (sc rfl (sc (ji (by omega)) sn))))))))) (fun _ h => h) ?_ (fun k vr2 hI2 => ?_)
 · omega
 have hlen := Nat.le_trans (Sh.bIn_len ((z.fine ++ (Roll.up (Roll.inT z.raw z.fineTo (Sh.fineTo z to)) 1)).take k) z.coarseTo (Sh.coarseTo z to)) (List.length_take_le k (z.fine ++ (Roll.up (Roll.inT z.raw z.fineTo (Sh.fineTo z to)) 1)))
 refine c_open 0 (l := (Sh.bIn ((z.fine ++ (Roll.up (Roll.inT z.raw z.fineTo (Sh.fineTo z to)) 1)).take k) z.coarseTo (Sh.coarseTo z to))) rfl fun A9 cp9 hv3 hc5 hm5 hA9 => ?_
 subst hv3
 refine c_seq fun _ hK25 => ?_
 refine c_region ?_
 refine l_val wn (r_lss rfl rfl) rfl ?_
 refine l_nil (e_go hK25 ?_)
 refine c_seq fun _ hK26 => ?_
 refine c_cond rfl (fun h7 => ?_) (fun h7 => ?_)
 · refine c_skip (e_go hK26 ?_)
   refine c_seq fun _ hK27 => ?_
   refine c_block ?_
   refine c_seq fun _ hK28 => ?_
   refine c_region ?_
   obtain ⟨ad2, hd2⟩ := hA8 (ne_nil (i := k) (by first | omega | decide | (simp only [List.length_cons, List.length_nil, List.length_append, List.length_take, List.length_set]; omega)))
   refine l_val wn (r_ia (i := k) rfl hd2 rfl (by omega) (by first | omega | decide | (simp only [List.length_cons, List.length_nil, List.length_append, List.length_take, List.length_set]; omega)) Try.underlying25 inf78) rfl ?_
   obtain ⟨s2, hs2⟩ : ∃ x, (z.fine ++ (Roll.up (Roll.inT z.raw z.fineTo (Sh.fineTo z to)) 1))[k]? = some x := ⟨_, List.getElem?_eq_getElem (by first | omega | decide | (simp only [List.length_cons, List.length_nil, List.length_append, List.length_take, List.length_set]; omega))⟩
   refine l_val wn (r_rln 6 [.int .i64 s2.at_, .int .i64 s2.sum.count, .int .i64 s2.sum.total, .int .i64 s2.sum.min, .int .i64 s2.sum.max, .int .i64 s2.sum.first, .int .i64 s2.sum.last, .int .i64 s2.sum.rise] encBucket rfl rfl hd2 hs2 rfl rfl agg78 inf78) rfl ?_
   refine l_alloc wn inf78 rfl fun b15 => ?_
   refine l_stn 0 wn rfl rfl rfl inf78 rfl rfl rfl ?_
   refine l_nil (e_go hK28 ?_)
   refine c_seq fun _ hK29 => ?_
   refine c_region ?_
   refine l_val wn (r_fa rfl fld78_0) rfl ?_
   refine l_val wn (r_lb 0 rfl rfl rfl flat3) rfl ?_
   refine l_val wn (r_fa rfl fld27_8) rfl ?_
   refine l_val wn (r_lb 10 rfl rfl rfl flat3) rfl ?_
   refine l_val wn (r_geq rfl rfl) rfl ?_
   refine l_val wn (r_move rfl) rfl ?_
   refine l_case (t := 82) rfl (fun h8 => ?_) (fun h8 => ?_)
   · refine l_val (wg rfl rfl rfl) (r_fa rfl fld78_0) rfl ?_
     refine l_val (wg rfl rfl rfl) (r_lb 0 rfl rfl rfl flat3) rfl ?_
     refine l_val (wg rfl rfl rfl) (r_move rfl) rfl ?_
     refine l_val (wg rfl rfl rfl) (r_lss rfl rfl) rfl ?_
     refine l_val wn (r_pick rfl rfl) rfl ?_
     refine l_nil (e_go hK29 ?_)
     refine c_cond rfl (fun h9 => ?_) (fun h9 => ?_)
     · refine c_region ?_
       refine l_val wn (r_move rfl) rfl ?_
       refine l_val wn (r_lbn 0 [.int .i64 s2.at_, .int .i64 s2.sum.count, .int .i64 s2.sum.total, .int .i64 s2.sum.min, .int .i64 s2.sum.max, .int .i64 s2.sum.first, .int .i64 s2.sum.last, .int .i64 s2.sum.rise] rfl rfl rfl rfl agg78 inf78) rfl ?_
       refine l_bsL bucketE ([s2] : List Bucket) wn Try.underlying25 inf78 rfl rfl rfl rfl (by decide) (by decide) rfl fun b90 => ?_
       refine l_app 2 (Sh.bIn ((z.fine ++ (Roll.up (Roll.inT z.raw z.fineTo (Sh.fineTo z to)) 1)).take k) z.coarseTo (Sh.coarseTo z to)) ([s2] : List Bucket) encBucket wn rfl rfl rfl (fun _ hM => (RowSl encBucket hM 0 rfl)) Try.underlying25 inf78 rfl rfl (by first | omega | (simp only [List.length_append, List.length_cons, List.length_nil]; omega)) rfl fun A10 cp10 hc6 hm6 hA10 => ?_
       refine l_val wn (r_assign rfl) rfl ?_
       refine l_nil (e_in_n (e_go hK27 ?_))
       refine c_region ?_
       refine l_val wn (r_addn rfl rfl (by omega)) rfl ?_
       refine l_val wn (r_move rfl) rfl ?_
       refine l_nil (e_round2 (k + 1) (.slice A10 (((Sh.bIn ((z.fine ++ (Roll.up (Roll.inT z.raw z.fineTo (Sh.fineTo z to)) 1)).take k) z.coarseTo (Sh.coarseTo z to)) ++ ([s2] : List Bucket)).length) cp10) (sc rfl (sc rfl (sc rfl (sc rfl (sc rfl (sc rfl (sc rfl (sc rfl (sc (ji (by omega)) sn))))))))) (fun _ h => by rw [(Sh.bIn_succ (a := z.coarseTo) (b := Sh.coarseTo z to) hs2).trans (if_pos (by omega))]; exact (h.sel [2, 3, 4, 5, 6, 7, 8, 9, 10, 11, 12, 13, 14, 15] (by decide) rfl)) ?_ ?_)
       · omega
       omega
     refine c_skip (e_in_n (e_go hK27 ?_))
     refine c_region ?_
     refine l_val wn (r_addn rfl rfl (by omega)) rfl ?_
     refine l_val wn (r_move rfl) rfl ?_
     refine l_nil (e_round2 (k + 1) (.slice A9 ((Sh.bIn ((z.fine ++ (Roll.up (Roll.inT z.raw z.fineTo (Sh.fineTo z to)) 1)).take k) z.coarseTo (Sh.coarseTo z to)).length) cp9) (sc rfl (sc rfl (sc rfl (sc rfl (sc rfl (sc rfl (sc rfl (sc rfl (sc (ji (by omega)) sn))))))))) (fun _ h => by rw [(Sh.bIn_succ (a := z.coarseTo) (b := Sh.coarseTo z to) hs2).trans (if_neg (by omega))]; exact (h.sel [1, 2, 3, 4, 5, 6, 7, 8, 9, 10, 11, 12, 13, 14] (by decide) rfl)) ?_ ?_)
     · omega
     omega
   refine l_skip (wg rfl rfl rfl) rfl ?_
   refine l_skip (wg rfl rfl rfl) rfl ?_
   refine l_skip (wg rfl rfl rfl) rfl ?_
   refine l_skip (wg rfl rfl rfl) rfl ?_
   refine l_val wn (r_pick rfl rfl) rfl ?_
   refine l_nil (e_go hK29 ?_)
   refine c_false rfl rfl ?_
   refine c_skip (e_in_n (e_go hK27 ?_))
   refine c_region ?_
   refine l_val wn (r_addn rfl rfl (by omega)) rfl ?_
   refine l_val wn (r_move rfl) rfl ?_
   refine l_nil (e_round2 (k + 1) (.slice A9 ((Sh.bIn ((z.fine ++ (Roll.up (Roll.inT z.raw z.fineTo (Sh.fineTo z to)) 1)).take k) z.coarseTo (Sh.coarseTo z to)).length) cp9) (sc rfl (sc rfl (sc rfl (sc rfl (sc rfl (sc rfl (sc rfl (sc rfl (sc (ji (by omega)) sn))))))))) (fun _ h => by rw [(Sh.bIn_succ (a := z.coarseTo) (b := Sh.coarseTo z to) hs2).trans (if_neg (by omega))]; exact (h.sel [1, 2, 3, 4, 5, 6, 7, 8, 9, 10, 11, 12, 13, 14] (by decide) rfl)) ?_ ?_)
   · omega
   omega
 have hk2 : (z.fine ++ (Roll.up (Roll.inT z.raw z.fineTo (Sh.fineTo z to)) 1)).take k = (z.fine ++ (Roll.up (Roll.inT z.raw z.fineTo (Sh.fineTo z to)) 1)) := List.take_of_length_le (by omega)
 rw [hk2]
 rw [hk2] at hA9
 refine c_exit (e_then_x (e_loop2_x (e_in_hit (e_go hK23 ?_))))
 refine c_seq fun _ hK30 => ?_
 refine c_nodes (Mem w ⟨no, P0⟩ [Row (.slice A9 ((Sh.bIn (z.fine ++ (Roll.up (Roll.inT z.raw z.fineTo (Sh.fineTo z to)) 1)) z.coarseTo (Sh.coarseTo z to)).length) cp9) 78 8 bucketE (Sh.bIn (z.fine ++ (Roll.up (Roll.inT z.raw z.fineTo (Sh.fineTo z to)) 1)) z.coarseTo (Sh.coarseTo z to)), Row (.slice A7 ((Roll.up (Roll.inT z.raw z.fineTo (Sh.fineTo z to)) 1).length) cp7) 78 8 bucketE (Roll.up (Roll.inT z.raw z.fineTo (Sh.fineTo z to)) 1), Row (.slice A5 ((Roll.inT z.raw z.fineTo (Sh.fineTo z to)).length) cp5) 39 2 sampleE (Roll.inT z.raw z.fineTo (Sh.fineTo z to)), Row (.slice A1 z.series.length cp1) 89 2 labelE z.series, Row (.slice A2 z.raw.length cp2) 39 2 sampleE z.raw, Row (.slice A8 ((z.fine ++ (Roll.up (Roll.inT z.raw z.fineTo (Sh.fineTo z to)) 1)).length) cp8) 78 8 bucketE (z.fine ++ (Roll.up (Roll.inT z.raw z.fineTo (Sh.fineTo z to)) 1)), .blk b4 [.slice none 0 0, .slice none 0 0, .slice none 0 0, .slice none 0 0, .int .i64 0, .int .i64 0, .int .i64 0, .int .i64 0, .int .i64 0] 27, .blk b2 [.slice z0A z.series.length z0c, .slice z1A z.raw.length z1c, .slice z2A z.fine.length z2c, .slice z3A z.coarse.length z3c, .int .i64 z.rawFrom, .int .i64 z.fineFrom, .int .i64 z.fineTo, .int .i64 z.coarseFrom, .int .i64 z.coarseTo] 27, slP 2 labelE (.slice z0A z.series.length z0c) z.series, slP 2 sampleE (.slice z1A z.raw.length z1c) z.raw, slP 8 bucketE (.slice z2A z.fine.length z2c) z.fine, slP 8 bucketE (.slice z3A z.coarse.length z3c) z.coarse]) mix (fun _ h => h.drew) rfl ?_
 refine n_run (f := 5) [0, 2] rfl rfl (by kernel_rfl) (by kernel_rfl) (fun _ h => (h.sel [0, 1, 2, 4, 5, 6, 8, 9, 10, 11, 12, 13] (by decide) rfl)) fun KS hKS => ?_
 refine s_val wn (r_fa rfl fld27_3) rfl ?_
 refine s_val wn (r_move rfl) rfl ?_
 refine s_end hKS ?_
 refine n_mix (f := 3) [(1, .val 94 (.slice A4 z.coarse.length cp4)), (3, .row 96 78 8 (Roll.greater (Sh.bIn (z.fine ++ (Roll.up (Roll.inT z.raw z.fineTo (Sh.fineTo z to)) 1)) z.coarseTo (Sh.coarseTo z to))).length ((Roll.greater (Sh.bIn (z.fine ++ (Roll.up (Roll.inT z.raw z.fineTo (Sh.fineTo z to)) 1)) z.coarseTo (Sh.coarseTo z to))).flatMap bucketE))] rfl (by kernel_rfl) (nd [1, 3] rfl (by decide)) (nd [94, 96] rfl (by decide)) rfl ⟨jv_ [] trivial rfl rfl rfl (r_lb 3 rfl rfl rfl flat25), jr_ [] trivial rfl rfl rfl rfl Try.call59 (fun w1 hM => c_Greater _ (Sh.bIn (z.fine ++ (Roll.up (Roll.inT z.raw z.fineTo (Sh.fineTo z to)) 1)) z.coarseTo (Sh.coarseTo z to)) w1 (RowSl encBucket hM 0 rfl) (by first | assumption | omega | (simp only [List.length_cons, List.length_nil]; omega) | exact Nat.le_trans (Roll.up_len _ _) (by first | omega | simp))), trivial⟩ (fun _ h => (h.sel [0, 1, 2, 4, 5, 6, 8, 9, 10, 11, 12, 13] (by decide) rfl)) fun val2 => ?_
 refine n_weak (E' := [(2, .pointer (some ⟨b2, 0, none⟩)), (4, .pointer (some ⟨b4, 0, none⟩)), (7, .pointer (some ⟨b7, 0, none⟩)), (8, .int .i64 (Sh.fineTo z to)), (9, .int .i64 (Sh.coarseTo z to)), (13, .slice A9 ((Sh.bIn (z.fine ++ (Roll.up (Roll.inT z.raw z.fineTo (Sh.fineTo z to)) 1)) z.coarseTo (Sh.coarseTo z to)).length) cp9), (71, .slice A8 ((z.fine ++ (Roll.up (Roll.inT z.raw z.fineTo (Sh.fineTo z to)) 1)).length) cp8), (72, .int .i64 ((z.fine ++ (Roll.up (Roll.inT z.raw z.fineTo (Sh.fineTo z to)) 1)).length : Int)), (73, .int .i64 (k : Int)), (74, .bool (decide ((k : Int) < ((z.fine ++ (Roll.up (Roll.inT z.raw z.fineTo (Sh.fineTo z to)) 1)).length : Int)))), (93, .pointer (some ⟨b7, 3, none⟩)), (94, .slice A4 z.coarse.length cp4), (95, .slice A9 ((Sh.bIn (z.fine ++ (Roll.up (Roll.inT z.raw z.fineTo (Sh.fineTo z to)) 1)) z.coarseTo (Sh.coarseTo z to)).length) cp9), (96, (val2 3))]) (S' := Mem w ⟨no, P0⟩ [Row (val2 3) 78 8 bucketE (Roll.greater (Sh.bIn (z.fine ++ (Roll.up (Roll.inT z.raw z.fineTo (Sh.fineTo z to)) 1)) z.coarseTo (Sh.coarseTo z to))), Row (.slice A9 ((Sh.bIn (z.fine ++ (Roll.up (Roll.inT z.raw z.fineTo (Sh.fineTo z to)) 1)) z.coarseTo (Sh.coarseTo z to)).length) cp9) 78 8 bucketE (Sh.bIn (z.fine ++ (Roll.up (Roll.inT z.raw z.fineTo (Sh.fineTo z to)) 1)) z.coarseTo (Sh.coarseTo z to)), Row (.slice A7 ((Roll.up (Roll.inT z.raw z.fineTo (Sh.fineTo z to)) 1).length) cp7) 78 8 bucketE (Roll.up (Roll.inT z.raw z.fineTo (Sh.fineTo z to)) 1), Row (.slice A5 ((Roll.inT z.raw z.fineTo (Sh.fineTo z to)).length) cp5) 39 2 sampleE (Roll.inT z.raw z.fineTo (Sh.fineTo z to)), .blk b7 [.slice A1 z.series.length cp1, .slice A2 z.raw.length cp2, .slice A8 ((z.fine ++ (Roll.up (Roll.inT z.raw z.fineTo (Sh.fineTo z to)) 1)).length) cp8, .slice A4 z.coarse.length cp4, .int .i64 z.rawFrom, .int .i64 z.fineFrom, .int .i64 z.fineTo, .int .i64 z.coarseFrom, .int .i64 z.coarseTo] 27, Row (.slice A1 z.series.length cp1) 89 2 labelE z.series, Row (.slice A2 z.raw.length cp2) 39 2 sampleE z.raw, Row (.slice A8 ((z.fine ++ (Roll.up (Roll.inT z.raw z.fineTo (Sh.fineTo z to)) 1)).length) cp8) 78 8 bucketE (z.fine ++ (Roll.up (Roll.inT z.raw z.fineTo (Sh.fineTo z to)) 1)), Row (.slice A4 z.coarse.length cp4) 78 8 bucketE z.coarse, .blk b4 [.slice none 0 0, .slice none 0 0, .slice none 0 0, .slice none 0 0, .int .i64 0, .int .i64 0, .int .i64 0, .int .i64 0, .int .i64 0] 27, .blk b2 [.slice z0A z.series.length z0c, .slice z1A z.raw.length z1c, .slice z2A z.fine.length z2c, .slice z3A z.coarse.length z3c, .int .i64 z.rawFrom, .int .i64 z.fineFrom, .int .i64 z.fineTo, .int .i64 z.coarseFrom, .int .i64 z.coarseTo] 27, slP 2 labelE (.slice z0A z.series.length z0c) z.series, slP 2 sampleE (.slice z1A z.raw.length z1c) z.raw, slP 8 bucketE (.slice z2A z.fine.length z2c) z.fine, slP 8 bucketE (.slice z3A z.coarse.length z3c) z.coarse]) (sc rfl (sc rfl (sc rfl (sc rfl (sc rfl (sc rfl (sc rfl (sc rfl (sc rfl (sc rfl (sc rfl (sc rfl (sc rfl (sc rfl sn)))))))))))))) (fun _ h => h) ?_
 refine n_open 0 (l := (Roll.greater (Sh.bIn (z.fine ++ (Roll.up (Roll.inT z.raw z.fineTo (Sh.fineTo z to)) 1)) z.coarseTo (Sh.coarseTo z to)))) (enc := bucketE) rfl fun A11 cp11 hv4 hc7 hm7 hA11 => ?_
 rw [hv4]
 refine n_step1 (f := 2) (i := 4) rfl (by kernel_rfl) ?_
 refine n_one (i := 4) rfl fun KN hKN => ?_
 refine l_app 8 z.coarse (Roll.greater (Sh.bIn (z.fine ++ (Roll.up (Roll.inT z.raw z.fineTo (Sh.fineTo z to)) 1)) z.coarseTo (Sh.coarseTo z to))) encBucket wn rfl rfl rfl (fun _ hM => (RowSl encBucket hM 0 rfl)) Try.underlying25 inf78 rfl rfl (by first | omega | (simp only [List.length_append, List.length_cons, List.length_nil]; omega)) rfl fun A12 cp12 hc8 hm8 hA12 => ?_
 refine l_nil (hKN _ _ (fun _ h => (h.sel [1, 2, 3, 5, 6, 7, 9, 10, 11, 12, 13, 14] (by decide) rfl)) ?_)
 refine n_run (f := 1) [5] rfl rfl (by kernel_rfl) (by kernel_rfl) (fun _ h => (h.sel [1, 2, 3, 5, 6, 7, 9, 10, 11, 12, 13, 14] (by decide) rfl)) fun KS hKS => ?_
 refine s_val wn (r_fa rfl fld27_3) rfl ?_
 refine s_end hKS ?_
 refine n_step1 (f := 0) (i := 6) rfl (by kernel_rfl) ?_
 refine n_one (i := 6) rfl fun KN hKN => ?_
 refine l_st1 4 wn rfl rfl rfl rfl inf25 rfl rfl ?_
 refine l_nil (hKN _ _ (fun _ h => (h.sel [1, 2, 3, 5, 6, 7, 9, 10, 11, 12, 13, 14] (by decide) rfl)) ?_)
 refine n_done (by kernel_rfl) (e_go hK30 ?_)
 refine c_seq fun _ hK31 => ?_
 refine c_seq fun _ hK32 => ?_
 refine c_region ?_
 refine l_val wn (r_fa rfl fld27_2) rfl ?_
 refine l_val wn (r_lb 4 rfl rfl rfl flat25) rfl ?_
 refine l_val wn (r_len rfl Try.underlying25) rfl ?_
 refine l_val wn (r_gtr rfl rfl) rfl ?_
 refine l_val wn (r_move rfl) rfl ?_
 refine l_case (t := 103) rfl (fun h10 => ?_) (fun h10 => ?_)
 · refine l_skip (wg rfl rfl rfl) rfl ?_
   refine l_skip (wg rfl rfl rfl) rfl ?_
   refine l_skip (wg rfl rfl rfl) rfl ?_
   refine l_skip (wg rfl rfl rfl) rfl ?_
   refine l_val wn (r_pick rfl rfl) rfl ?_
   refine l_nil (e_go hK32 ?_)
   refine c_true rfl rfl ?_
   refine c_seq fun _ hK33 => ?_
   refine c_region ?_
   refine l_val wn (r_build [.slice none 0 0, .slice none 0 0, .slice none 0 0, .slice none 0 0, .int .i64 0, .int .i64 0, .int .i64 0, .int .i64 0, .int .i64 0] pl27 inf27 rfl rfl) rfl ?_
   refine l_stn 9 wn rfl rfl rfl inf27 rfl rfl rfl ?_
   refine l_val wn (r_assign rfl) rfl ?_
   refine l_nil (e_go hK33 ?_)
   refine c_ret (e_then_r (e_ret2 (.inl rfl) Try.results25 (rv_cell 9 rfl rfl agg27 inf27 rfl) (rv_tmp rfl) fun w1 hM => ?_))
   have he : Sh.roll z to = ((⟨([] : List Label), ([] : List Sample), ([] : List Bucket), ([] : List Bucket), 0, 0, 0, 0, 0⟩ : Shelf), 5) := Sh.roll_many h1 (fun g => by omega) (.inl h10)
   rw [he]
   exact hM.retSh (s' := (⟨([] : List Label), ([] : List Sample), ([] : List Bucket), ([] : List Bucket), 0, 0, 0, 0, 0⟩ : Shelf)) (fun u => .tuple (List.toArray [u, .int .i64 5])) rfl (rfl) (fun _ _ => FlatSl.nil_ _ _ _ _) (fun _ _ => FlatSl.nil_ _ _ _ _) (fun _ _ => FlatSl.nil_ _ _ _ _) (fun _ _ => FlatSl.nil_ _ _ _ _)
 refine l_val (wg rfl rfl rfl) (r_fa rfl fld27_3) rfl ?_
 refine l_val (wg rfl rfl rfl) (r_lb 4 rfl rfl rfl flat25) rfl ?_
 refine l_val (wg rfl rfl rfl) (r_len rfl Try.underlying25) rfl ?_
 refine l_val (wg rfl rfl rfl) (r_gtr rfl rfl) rfl ?_
 refine l_val wn (r_pick rfl rfl) rfl ?_
 refine l_nil (e_go hK32 ?_)
 refine c_cond rfl (fun h11 => ?_) (fun h11 => ?_)
 · refine c_seq fun _ hK34 => ?_
   refine c_region ?_
   refine l_val wn (r_build [.slice none 0 0, .slice none 0 0, .slice none 0 0, .slice none 0 0, .int .i64 0, .int .i64 0, .int .i64 0, .int .i64 0, .int .i64 0] pl27 inf27 rfl rfl) rfl ?_
   refine l_stn 9 wn rfl rfl rfl inf27 rfl rfl rfl ?_
   refine l_val wn (r_assign rfl) rfl ?_
   refine l_nil (e_go hK34 ?_)
   refine c_ret (e_then_r (e_ret2 (.inl rfl) Try.results25 (rv_cell 9 rfl rfl agg27 inf27 rfl) (rv_tmp rfl) fun w1 hM => ?_))
   have he : Sh.roll z to = ((⟨([] : List Label), ([] : List Sample), ([] : List Bucket), ([] : List Bucket), 0, 0, 0, 0, 0⟩ : Shelf), 5) := Sh.roll_many h1 (fun g => by omega) (.inr h11)
   rw [he]
   exact hM.retSh (s' := (⟨([] : List Label), ([] : List Sample), ([] : List Bucket), ([] : List Bucket), 0, 0, 0, 0, 0⟩ : Shelf)) (fun u => .tuple (List.toArray [u, .int .i64 5])) rfl (rfl) (fun _ _ => FlatSl.nil_ _ _ _ _) (fun _ _ => FlatSl.nil_ _ _ _ _) (fun _ _ => FlatSl.nil_ _ _ _ _) (fun _ _ => FlatSl.nil_ _ _ _ _)
 refine c_skip (e_go hK31 ?_)
 refine c_seq fun _ hK35 => ?_
 refine c_region ?_
 refine l_val wn (r_move rfl) rfl ?_
 refine l_val wn (r_move rfl) rfl ?_
 refine l_val wn (r_fa rfl fld27_6) rfl ?_
 refine l_st1 4 wn rfl rfl rfl rfl inf3 rfl rfl ?_
 refine l_val wn (r_fa rfl fld27_8) rfl ?_
 refine l_st1 4 wn rfl rfl rfl rfl inf3 rfl rfl ?_
 refine l_nil (e_go hK35 ?_)
 refine c_seq fun _ hK36 => ?_
 refine c_region ?_
 refine l_val wn (r_lbn 4 [.slice A1 z.series.length cp1, .slice A2 z.raw.length cp2, .slice A8 ((z.fine ++ (Roll.up (Roll.inT z.raw z.fineTo (Sh.fineTo z to)) 1)).length) cp8, .slice A12 ((z.coarse ++ (Roll.greater (Sh.bIn (z.fine ++ (Roll.up (Roll.inT z.raw z.fineTo (Sh.fineTo z to)) 1)) z.coarseTo (Sh.coarseTo z to)))).length) cp12, .int .i64 z.rawFrom, .int .i64 z.fineFrom, .int .i64 (Sh.fineTo z to), .int .i64 z.coarseFrom, .int .i64 (Sh.coarseTo z to)] rfl rfl rfl rfl agg27 inf27) rfl ?_
 refine l_stn 9 wn rfl rfl rfl inf27 rfl rfl rfl ?_
 refine l_val wn (r_assign rfl) rfl ?_
 refine l_nil (e_go hK36 ?_)
 refine c_ret (e_ret2 (.inl rfl) Try.results25 (rv_cell 9 rfl rfl agg27 inf27 rfl) (rv_tmp rfl) fun w1 hM => ?_)
 have he : Sh.roll z to = ((⟨z.series, z.raw, (z.fine ++ (Roll.up (Roll.inT z.raw z.fineTo (Sh.fineTo z to)) 1)), (z.coarse ++ (Roll.greater (Sh.bIn (z.fine ++ (Roll.up (Roll.inT z.raw z.fineTo (Sh.fineTo z to)) 1)) z.coarseTo (Sh.coarseTo z to)))), z.rawFrom, z.fineFrom, (Sh.fineTo z to), z.coarseFrom, (Sh.coarseTo z to)⟩ : Shelf), 0) := Sh.roll_ok h1 (fun g => by omega) h10 h11
 rw [he]
 have hM := hM.sealRow encLabel (i := 5) rfl rfl
 have hM := hM.sealRow encSample (i := 6) rfl rfl
 have hM := hM.sealRow encBucket (i := 7) rfl rfl
 have hM := hM.sealRow encBucket (i := 8) rfl rfl
 exact hM.retSh (s' := (⟨z.series, z.raw, (z.fine ++ (Roll.up (Roll.inT z.raw z.fineTo (Sh.fineTo z to)) 1)), (z.coarse ++ (Roll.greater (Sh.bIn (z.fine ++ (Roll.up (Roll.inT z.raw z.fineTo (Sh.fineTo z to)) 1)) z.coarseTo (Sh.coarseTo z to)))), z.rawFrom, z.fineFrom, (Sh.fineTo z to), z.coarseFrom, (Sh.coarseTo z to)⟩ : Shelf)) (fun u => .tuple (List.toArray [u, .int .i64 0])) rfl (rfl) (fun _ pp => pp.sl 5 rfl) (fun _ pp => pp.sl 6 rfl) (fun _ pp => pp.sl 7 rfl) (fun _ pp => pp.sl 8 rfl)

theorem c_early1 (x : Bucket) (fp : Nat) (f : Int) (w : World) (hfp : w.heap[fp]? = some (.cells [.int .i64 f].toArray 3 (0, 0)))  :
    Calls Try.prog 62 #[.agg (bucketE x).toArray, .pointer (some ⟨fp, 0, none⟩)] w (Ret w (.bool (decide (x.at_ < f)))) := by
 refine fstart (N := 8) (vals := [.agg (bucketE x).toArray, .pointer (some ⟨fp, 0, none⟩)]) (S := Mem w no [datB fp [.int .i64 f] 3]) Try.func62 rfl rfl rfl (Mem.ofDats (dc (ddb hfp) dn)) ?_
 refine c_seq fun _ hK1 => ?_
 refine c_region ?_
 refine l_box wn rfl rfl fun b2 => ?_
 refine l_val wn (r_assign rfl) rfl ?_
 refine l_nil (e_go hK1 ?_)
 refine c_seq fun _ hK2 => ?_
 refine c_region ?_
 refine l_val wn (r_fa rfl fld78_0) rfl ?_
 refine l_val wn (r_lb 0 rfl rfl rfl flat3) rfl ?_
 refine l_val wn (r_ldb 1 rfl rfl rfl flat3) rfl ?_
 refine l_val wn (r_lss rfl rfl) rfl ?_
 refine l_val wn (r_assign rfl) rfl ?_
 refine l_nil (e_go hK2 ?_)
 refine c_ret (e_ret1 (.inl rfl) Try.results62 (rv_tmp rfl) fun w1 hM => ?_)
 exact ret_ok rfl hM

theorem c_forget2 (x : Sample) (zp : Nat) (z0 : Value) (z1 : Value) (z2 : Value) (z3 : Value) (z : Shelf) (w : World) (hzp : w.heap[zp]? = some (.cells [z0, z1, z2, z3, .int .i64 z.rawFrom, .int .i64 z.fineFrom, .int .i64 z.fineTo, .int .i64 z.coarseFrom, .int .i64 z.coarseTo].toArray 27 (0, 0)))  :
    Calls Try.prog 64 #[.agg (sampleE x).toArray, .pointer (some ⟨zp, 0, none⟩)] w (Ret w (.bool (decide (x.time < z.rawFrom)))) := by
 refine fstart (N := 9) (vals := [.agg (sampleE x).toArray, .pointer (some ⟨zp, 0, none⟩)]) (S := Mem w no [datB zp [z0, z1, z2, z3, .int .i64 z.rawFrom, .int .i64 z.fineFrom, .int .i64 z.fineTo, .int .i64 z.coarseFrom, .int .i64 z.coarseTo] 27]) Try.func64 rfl rfl rfl (Mem.ofDats (dc (ddb hzp) dn)) ?_
 refine c_seq fun _ hK1 => ?_
 refine c_region ?_
 refine l_box wn rfl rfl fun b2 => ?_
 refine l_val wn (r_assign rfl) rfl ?_
 refine l_nil (e_go hK1 ?_)
 refine c_seq fun _ hK2 => ?_
 refine c_region ?_
 refine l_val wn (r_fa rfl fld39_0) rfl ?_
 refine l_val wn (r_lb 0 rfl rfl rfl flat3) rfl ?_
 refine l_val wn (r_fa rfl fld27_4) rfl ?_
 refine l_val wn (r_ldb 1 rfl rfl rfl flat3) rfl ?_
 refine l_val wn (r_lss rfl rfl) rfl ?_
 refine l_val wn (r_assign rfl) rfl ?_
 refine l_nil (e_go hK2 ?_)
 refine c_ret (e_ret1 (.inl rfl) Try.results64 (rv_tmp rfl) fun w1 hM => ?_)
 exact ret_ok rfl hM

theorem c_early (f : Int) (w : World)   :
    Calls Try.prog 61 #[.int .i64 f] w (RetMk w (fun b => .func (.func 62) #[] #[.pointer (some ⟨b, 0, none⟩)]) (fun b => .blk b [.int .i64 f] 3)) := by
 refine fstart (N := 4) (vals := [.int .i64 f]) (S := Mem w no []) Try.func61 rfl rfl rfl (Mem.ofDats dn) ?_
 refine c_seq fun _ hK1 => ?_
 refine c_region ?_
 refine l_box1 wn rfl rfl rfl fun b1 => ?_
 refine l_val wn (r_assign rfl) rfl ?_
 refine l_nil (e_go hK1 ?_)
 refine c_seq fun _ hK2 => ?_
 refine c_region ?_
 refine l_val wn (r_makeFunc rfl rfl) rfl ?_
 refine l_val wn (r_assign rfl) rfl ?_
 refine l_nil (e_go hK2 ?_)
 refine c_ret (e_ret1 (.inl rfl) Try.results61 (rv_tmp rfl) fun w1 hM => ?_)
 exact ⟨b1, rfl, hM⟩

set_option maxHeartbeats 1000000 in
theorem c_forget (z0 : Value) (z1 : Value) (z2 : Value) (z3 : Value) (z : Shelf) (tier : Int) (to : Int) (P0 : Nat → Prop) (w : World) (hP0 : ∀ b, P0 b → b < w.heap.size) (hz0 : FlatSl P0 2 labelE z0 z.series w) (hz1 : FlatSl P0 2 sampleE z1 z.raw w) (hz2 : FlatSl P0 8 bucketE z2 z.fine w) (hz3 : FlatSl P0 8 bucketE z3 z.coarse w)  :
    Calls Try.prog 27 #[.agg (List.toArray [z0, z1, z2, z3, .int .i64 z.rawFrom, .int .i64 z.fineFrom, .int .i64 z.fineTo, .int .i64 z.coarseFrom, .int .i64 z.coarseTo]), .int .i64 tier, .int .i64 to] w (RetSh w P0 (fun u => .tuple (List.toArray [u, .int .i64 (Sh.forget z tier to).2])) (Sh.forget z tier to).1) := by
 obtain ⟨z0A, z0c, rfl, hz0c, hz0m, hz0A⟩ := hz0.form
 obtain ⟨z1A, z1c, rfl, hz1c, hz1m, hz1A⟩ := hz1.form
 obtain ⟨z2A, z2c, rfl, hz2c, hz2m, hz2A⟩ := hz2.form
 obtain ⟨z3A, z3c, rfl, hz3c, hz3m, hz3A⟩ := hz3.form
 refine fstart (N := 82) (vals := [.agg (List.toArray [.slice z0A z.series.length z0c, .slice z1A z.raw.length z1c, .slice z2A z.fine.length z2c, .slice z3A z.coarse.length z3c, .int .i64 z.rawFrom, .int .i64 z.fineFrom, .int .i64 z.fineTo, .int .i64 z.coarseFrom, .int .i64 z.coarseTo]), .int .i64 tier, .int .i64 to]) (S := Mem w ⟨no, P0⟩ [slP 2 labelE (.slice z0A z.series.length z0c) z.series, slP 2 sampleE (.slice z1A z.raw.length z1c) z.raw, slP 8 bucketE (.slice z2A z.fine.length z2c) z.fine, slP 8 bucketE (.slice z3A z.coarse.length z3c) z.coarse]) Try.func27 rfl rfl rfl (Mem.ofDatsP hP0 (dc (dlp hz0) (dc (dlp hz1) (dc (dlp hz2) (dc (dlp hz3) dn))))) ?_
 refine c_seq fun _ hK1 => ?_
 refine c_region ?_
 refine l_box wn rfl rfl fun b3 => ?_
 refine l_alloc wn inf27 rfl fun b6 => ?_
 refine l_val wn (r_assign rfl) rfl ?_
 refine l_nil (e_go hK1 ?_)
 refine c_seq fun _ hK2 => ?_
 refine c_seq fun _ hK3 => ?_
 refine c_region ?_
 refine l_val wn (r_lbn 1 [.slice z0A z.series.length z0c, .slice z1A z.raw.length z1c, .slice z2A z.fine.length z2c, .slice z3A z.coarse.length z3c, .int .i64 z.rawFrom, .int .i64 z.fineFrom, .int .i64 z.fineTo, .int .i64 z.coarseFrom, .int .i64 z.coarseTo] rfl rfl rfl rfl agg27 inf27) rfl ?_
 refine l_callF wn rfl Try.call19 rfl (fun w1 hM => c_shWrong _ _ _ _ z (In w1) w1 (fun _ h => h) (hM.slp 2 rfl) (hM.slp 3 rfl) (hM.slp 4 rfl) (hM.slp 5 rfl)) ?_
 refine l_val wn (r_assign rfl) rfl ?_
 refine l_nil (e_go hK3 ?_)
 refine c_seq fun _ hK4 => ?_
 refine c_region ?_
 refine l_val wn (r_move rfl) rfl ?_
 refine l_val wn (r_neq rfl rfl) rfl ?_
 refine l_nil (e_go hK4 ?_)
 refine c_cond rfl (fun h1 => ?_) (fun h1 => ?_)
 · refine c_seq fun _ hK5 => ?_
   refine c_region ?_
   refine l_val wn (r_build [.slice none 0 0, .slice none 0 0, .slice none 0 0, .slice none 0 0, .int .i64 0, .int .i64 0, .int .i64 0, .int .i64 0, .int .i64 0] pl27 inf27 rfl rfl) rfl ?_
   refine l_val wn (r_move rfl) rfl ?_
   refine l_stn 0 wn rfl rfl rfl inf27 rfl rfl rfl ?_
   refine l_val wn (r_assign rfl) rfl ?_
   refine l_nil (e_go hK5 ?_)
   refine c_ret (e_then_r (e_ret2 (.inl rfl) Try.results27 (rv_cell 0 rfl rfl agg27 inf27 rfl) (rv_tmp rfl) fun w1 hM => ?_))
   have he : Sh.forget z tier to = ((⟨([] : List Label), ([] : List Sample), ([] : List Bucket), ([] : List Bucket), 0, 0, 0, 0, 0⟩ : Shelf), (Sh.wrong z)) := Sh.forget_wrong h1
   rw [he]
   exact hM.retSh (s' := (⟨([] : List Label), ([] : List Sample), ([] : List Bucket), ([] : List Bucket), 0, 0, 0, 0, 0⟩ : Shelf)) (fun u => .tuple (List.toArray [u, .int .i64 (Sh.wrong z)])) rfl (rfl) (fun _ _ => FlatSl.nil_ _ _ _ _) (fun _ _ => FlatSl.nil_ _ _ _ _) (fun _ _ => FlatSl.nil_ _ _ _ _) (fun _ _ => FlatSl.nil_ _ _ _ _)
 obtain ⟨l1, l2, l3, l4⟩ := (Sh.ok_of h1).lens
 obtain ⟨⟨g1, g2, g3, g4⟩, ⟨g5, g6, g7, g8, g9⟩, g10, g11, g12, g13, g14⟩ := (Sh.ok_of h1).rng
 refine c_skip (e_go hK2 ?_)
 refine c_seq fun _ hK6 => ?_
 refine c_seq fun _ hK7 => ?_
 refine c_region ?_
 refine l_val wn (r_move rfl) rfl ?_
 refine l_val wn (r_lss rfl rfl) rfl ?_
 refine l_val wn (r_move rfl) rfl ?_
 refine l_case (t := 19) rfl (fun h2 => ?_) (fun h2 => ?_)
 · refine l_skip (wg rfl rfl rfl) rfl ?_
   refine l_skip (wg rfl rfl rfl) rfl ?_
   refine l_val wn (r_pick rfl rfl) rfl ?_
   refine l_nil (e_go hK7 ?_)
   refine c_true rfl rfl ?_
   refine c_seq fun _ hK8 => ?_
   refine c_region ?_
   refine l_val wn (r_build [.slice none 0 0, .slice none 0 0, .slice none 0 0, .slice none 0 0, .int .i64 0, .int .i64 0, .int .i64 0, .int .i64 0, .int .i64 0] pl27 inf27 rfl rfl) rfl ?_
   refine l_stn 0 wn rfl rfl rfl inf27 rfl rfl rfl ?_
   refine l_val wn (r_assign rfl) rfl ?_
   refine l_nil (e_go hK8 ?_)
   refine c_ret (e_then_r (e_ret2 (.inl rfl) Try.results27 (rv_cell 0 rfl rfl agg27 inf27 rfl) (rv_tmp rfl) fun w1 hM => ?_))
   have he : Sh.forget z tier to = ((⟨([] : List Label), ([] : List Sample), ([] : List Bucket), ([] : List Bucket), 0, 0, 0, 0, 0⟩ : Shelf), 3) := Sh.forget_range h1 (by omega)
   rw [he]
   exact hM.retSh (s' := (⟨([] : List Label), ([] : List Sample), ([] : List Bucket), ([] : List Bucket), 0, 0, 0, 0, 0⟩ : Shelf)) (fun u => .tuple (List.toArray [u, .int .i64 3])) rfl (rfl) (fun _ _ => FlatSl.nil_ _ _ _ _) (fun _ _ => FlatSl.nil_ _ _ _ _) (fun _ _ => FlatSl.nil_ _ _ _ _) (fun _ _ => FlatSl.nil_ _ _ _ _)
 refine l_val (wg rfl rfl rfl) (r_move rfl) rfl ?_
 refine l_val (wg rfl rfl rfl) (r_gtr rfl rfl) rfl ?_
 refine l_val wn (r_pick rfl rfl) rfl ?_
 refine l_nil (e_go hK7 ?_)
 refine c_cond rfl (fun h3 => ?_) (fun h3 => ?_)
 · refine c_seq fun _ hK9 => ?_
   refine c_region ?_
   refine l_val wn (r_build [.slice none 0 0, .slice none 0 0, .slice none 0 0, .slice none 0 0, .int .i64 0, .int .i64 0, .int .i64 0, .int .i64 0, .int .i64 0] pl27 inf27 rfl rfl) rfl ?_
   refine l_stn 0 wn rfl rfl rfl inf27 rfl rfl rfl ?_
   refine l_val wn (r_assign rfl) rfl ?_
   refine l_nil (e_go hK9 ?_)
   refine c_ret (e_then_r (e_ret2 (.inl rfl) Try.results27 (rv_cell 0 rfl rfl agg27 inf27 rfl) (rv_tmp rfl) fun w1 hM => ?_))
   have he : Sh.forget z tier to = ((⟨([] : List Label), ([] : List Sample), ([] : List Bucket), ([] : List Bucket), 0, 0, 0, 0, 0⟩ : Shelf), 3) := Sh.forget_range h1 (by omega)
   rw [he]
   exact hM.retSh (s' := (⟨([] : List Label), ([] : List Sample), ([] : List Bucket), ([] : List Bucket), 0, 0, 0, 0, 0⟩ : Shelf)) (fun u => .tuple (List.toArray [u, .int .i64 3])) rfl (rfl) (fun _ _ => FlatSl.nil_ _ _ _ _) (fun _ _ => FlatSl.nil_ _ _ _ _) (fun _ _ => FlatSl.nil_ _ _ _ _) (fun _ _ => FlatSl.nil_ _ _ _ _)
 refine c_skip (e_go hK6 ?_)
 refine c_seq fun _ hK10 => ?_
 refine c_region ?_
 refine l_val wn (r_lbn 1 [.slice z0A z.series.length z0c, .slice z1A z.raw.length z1c, .slice z2A z.fine.length z2c, .slice z3A z.coarse.length z3c, .int .i64 z.rawFrom, .int .i64 z.fineFrom, .int .i64 z.fineTo, .int .i64 z.coarseFrom, .int .i64 z.coarseTo] rfl rfl rfl rfl agg27 inf27) rfl ?_
 refine l_callOwn z wn rfl Try.call57 rfl (fun w1 hM => c_own _ _ _ _ z (In w1) w1 (fun _ h => h) (hM.slp 2 rfl) (hM.slp 3 rfl) (hM.slp 4 rfl) (hM.slp 5 rfl) (Sh.wrong_lens (by assumption))) fun A1 cp1 A2 cp2 A3 cp3 A4 cp4 hb1 hA1 hA2 hA3 hA4 => ?_
 refine l_alloc wn inf27 rfl fun b9 => ?_
 refine l_stn 0 wn rfl rfl rfl inf27 rfl rfl rfl ?_
 refine l_nil (e_go hK10 ?_)
 refine c_seq fun _ hK11 => ?_
 refine c_region ?_
 refine l_val wn (r_assign rfl) rfl ?_
 refine l_nil (e_go hK11 ?_)
 refine c_seq fun _ hK12 => ?_
 refine c_seq fun _ hK13 => ?_
 refine c_region ?_
 refine l_val wn (r_move rfl) rfl ?_
 refine l_nil (e_go hK13 ?_)
 refine c_block ?_
 refine c_seq fun _ hK14 => ?_
 refine c_region ?_
 refine l_val wn (r_eql rfl rfl) rfl ?_
 refine l_val wn (r_assign rfl) rfl ?_
 refine l_nil (e_go hK14 ?_)
 refine c_cond rfl (fun h4 => ?_) (fun h4 => ?_)
 · refine c_seq fun _ hK15 => ?_
   refine c_region ?_
   refine l_val wn (r_fa rfl fld27_4) rfl ?_
   refine l_val wn (r_lb 6 rfl rfl rfl flat3) rfl ?_
   refine l_val wn (r_move rfl) rfl ?_
   refine l_val wn (r_fa rfl fld27_6) rfl ?_
   refine l_val wn (r_lb 6 rfl rfl rfl flat3) rfl ?_
   refine l_val wn (r_min rfl rfl) rfl ?_
   refine l_val wn (rv_i (show _ = (Sh.rawF z to) from rfl) (r_max rfl rfl)) rfl ?_
   refine l_val wn (r_fa rfl fld27_4) rfl ?_
   refine l_st1 0 wn rfl rfl rfl rfl inf3 rfl rfl ?_
   refine l_nil (e_go hK15 ?_)
   refine c_region ?_
   refine l_val wn (r_fa rfl fld27_1) rfl ?_
   refine l_val wn (r_lb 0 rfl rfl rfl flat24) rfl ?_
   refine l_val wn (r_makeFunc rfl rfl) rfl ?_
   refine l_callU 2 (Sh.fromS z.raw (Sh.rawF z to)) rfl wn rfl Try.call63 rfl (fun w1 hM => c_delS _ z.raw 64 #[.pointer (some ⟨b9, 0, none⟩)] (fun x => decide (x.time < (Sh.rawF z to))) w1 (hM.row (i := 2) rfl) Try.call64 (fun x w2 h2 => c_forget2 x b9 _ _ _ _ (⟨z.series, z.raw, z.fine, z.coarse, (Sh.rawF z to), z.fineFrom, z.fineTo, z.coarseFrom, z.coarseTo⟩ : Shelf) w2 (hM.blkStay (i := 0) (j := 2) rfl rfl h2))) fun A5 cp5 hc1 hm1 hA5 => ?_
   refine l_val wn (r_fa rfl fld27_1) rfl ?_
   refine l_st1 0 wn rfl rfl rfl rfl inf24 rfl rfl ?_
   refine l_nil (e_in_n (e_go hK12 ?_))
   refine c_seq fun _ hK16 => ?_
   refine c_region ?_
   refine l_val wn (r_lbn 0 [.slice A1 z.series.length cp1, .slice A5 ((Sh.fromS z.raw (Sh.rawF z to)).length) cp5, .slice A3 z.fine.length cp3, .slice A4 z.coarse.length cp4, .int .i64 (Sh.rawF z to), .int .i64 z.fineFrom, .int .i64 z.fineTo, .int .i64 z.coarseFrom, .int .i64 z.coarseTo] rfl rfl rfl rfl agg27 inf27) rfl ?_
   refine l_stn 5 wn rfl rfl rfl inf27 rfl rfl rfl ?_
   refine l_val wn (r_assign rfl) rfl ?_
   refine l_nil (e_go hK16 ?_)
   refine c_ret (e_ret2 (.inl rfl) Try.results27 (rv_cell 5 rfl rfl agg27 inf27 rfl) (rv_tmp rfl) fun w1 hM => ?_)
   have he : Sh.forget z tier to = ((⟨z.series, (Sh.fromS z.raw (Sh.rawF z to)), z.fine, z.coarse, (Sh.rawF z to), z.fineFrom, z.fineTo, z.coarseFrom, z.coarseTo⟩ : Shelf), 0) := Sh.forget_raw h1 (fun g => by omega) h4
   rw [he]
   have hM := hM.sealRow encLabel (i := 1) rfl rfl
   have hM := hM.sealRow encSample (i := 2) rfl rfl
   have hM := hM.sealRow encBucket (i := 3) rfl rfl
   have hM := hM.sealRow encBucket (i := 4) rfl rfl
   exact hM.retSh (s' := (⟨z.series, (Sh.fromS z.raw (Sh.rawF z to)), z.fine, z.coarse, (Sh.rawF z to), z.fineFrom, z.fineTo, z.coarseFrom, z.coarseTo⟩ : Shelf)) (fun u => .tuple (List.toArray [u, .int .i64 0])) rfl (rfl) (fun _ pp => pp.sl 1 rfl) (fun _ pp => pp.sl 2 rfl) (fun _ pp => pp.sl 3 rfl) (fun _ pp => pp.sl 4 rfl)
 refine c_seq fun _ hK17 => ?_
 refine c_region ?_
 refine l_val wn (r_eql rfl rfl) rfl ?_
 refine l_val wn (r_assign rfl) rfl ?_
 refine l_nil (e_go hK17 ?_)
 refine c_cond rfl (fun h5 => ?_) (fun h5 => ?_)
 · refine c_seq fun _ hK18 => ?_
   refine c_quietT 9 mix (by kernel_rfl) (fun _ h => h.drew) fun _ hT1 => ?_
   refine q_val wn (r_fa rfl fld27_5) rfl ?_
   refine q_val wn (r_lb 6 rfl rfl rfl flat3) rfl ?_
   refine q_val wn (r_move rfl) rfl ?_
   refine q_val wn (r_fa rfl fld27_8) rfl ?_
   refine q_val wn (r_lb 6 rfl rfl rfl flat3) rfl ?_
   refine q_val wn (r_min rfl rfl) rfl ?_
   refine q_callF wn rfl Try.call58 rfl (fun w1 hM => c_down (if z.coarseTo < to then z.coarseTo else to) 10 w1 (by omega) (by omega)) ?_
   refine q_val wn (rv_i (show _ = (Sh.fineF z to) from rfl) (r_max rfl rfl)) rfl ?_
   refine q_val wn (r_fa rfl fld27_5) rfl ?_
   refine q_tail hT1 ?_
   refine l_st1 0 wn rfl rfl rfl rfl inf3 rfl rfl ?_
   refine l_nil (e_go hK18 ?_)
   refine c_nodes (Mem w ⟨no, P0⟩ [Row (.slice A1 z.series.length cp1) 89 2 labelE z.series, Row (.slice A2 z.raw.length cp2) 39 2 sampleE z.raw, Row (.slice A4 z.coarse.length cp4) 78 8 bucketE z.coarse, .blk b6 [.slice none 0 0, .slice none 0 0, .slice none 0 0, .slice none 0 0, .int .i64 0, .int .i64 0, .int .i64 0, .int .i64 0, .int .i64 0] 27, .blk b3 [.slice z0A z.series.length z0c, .slice z1A z.raw.length z1c, .slice z2A z.fine.length z2c, .slice z3A z.coarse.length z3c, .int .i64 z.rawFrom, .int .i64 z.fineFrom, .int .i64 z.fineTo, .int .i64 z.coarseFrom, .int .i64 z.coarseTo] 27, slP 2 labelE (.slice z0A z.series.length z0c) z.series, slP 2 sampleE (.slice z1A z.raw.length z1c) z.raw, slP 8 bucketE (.slice z2A z.fine.length z2c) z.fine, slP 8 bucketE (.slice z3A z.coarse.length z3c) z.coarse]) mix (fun _ h => h.drew) rfl ?_
   refine n_run (f := 6) [0, 2, 3] rfl rfl (by kernel_rfl) (by kernel_rfl) (fun _ h => (h.sel [1, 2, 4, 5, 6, 7, 8, 9, 10] (by decide) rfl)) fun KS hKS => ?_
   refine s_val wn (r_fa rfl fld27_2) rfl ?_
   refine s_val wn (r_move rfl) rfl ?_
   refine s_val wn (r_fa rfl fld27_5) rfl ?_
   refine s_end hKS ?_
   refine n_step2 (f := 5) (i := 1) (j := 4) rfl (by kernel_rfl) ?_ ?_
   · refine n_one (i := 1) rfl fun KN hKN => ?_
     refine l_val wn (r_lb 0 rfl rfl rfl flat25) rfl ?_
     refine l_nil (hKN _ _ (fun _ h => (h.sel [1, 2, 4, 5, 6, 7, 8, 9, 10] (by decide) rfl)) ?_)
     refine n_step1 (f := 4) (i := 4) rfl (by kernel_rfl) ?_
     refine n_one (i := 4) rfl fun KN hKN => ?_
     refine l_val wn (r_lb 0 rfl rfl rfl flat3) rfl ?_
     refine l_nil (hKN _ _ (fun _ h => (h.sel [1, 2, 4, 5, 6, 7, 8, 9, 10] (by decide) rfl)) ?_)
     refine n_step1 (f := 3) (i := 5) rfl (by kernel_rfl) ?_
     refine n_one (i := 5) rfl fun KN hKN => ?_
     refine l_callMk (fun b => .func (.func 62) #[] #[.pointer (some ⟨b, 0, none⟩)]) (fun b => .blk b [.int .i64 (Sh.fineF z to)] 3) (fun _ => rfl) wn rfl rfl Try.call61 rfl (fun w1 hM => c_early (Sh.fineF z to) w1) fun be1 => ?_
     refine l_nil (hKN _ _ (fun _ h => (h.sel [2, 3, 5, 6, 7, 8, 9, 10, 11] (by decide) rfl)) ?_)
     refine n_step1 (f := 2) (i := 6) rfl (by kernel_rfl) ?_
     refine n_one (i := 6) rfl fun KN hKN => ?_
     refine l_callU 4 (Sh.fromB z.fine (Sh.fineF z to)) rfl wn rfl Try.call65 rfl (fun w1 hM => c_delB _ z.fine 62 #[.pointer (some ⟨be1, 0, none⟩)] (fun x => decide (x.at_ < (Sh.fineF z to))) w1 (hM.row (i := 4) rfl) Try.call62 (fun x w2 h2 => c_early1 x be1 (Sh.fineF z to) w2 (hM.blkStay (i := 0) (j := 4) rfl rfl h2))) fun A6 cp6 hc2 hm2 hA6 => ?_
     refine l_nil (hKN _ _ (fun _ h => (h.sel [2, 3, 5, 6, 7, 8, 9, 10, 11] (by decide) rfl)) ?_)
     refine n_run (f := 1) [7] rfl rfl (by kernel_rfl) (by kernel_rfl) (fun _ h => (h.sel [2, 3, 5, 6, 7, 8, 9, 10, 11] (by decide) rfl)) fun KS hKS => ?_
     refine s_val wn (r_fa rfl fld27_2) rfl ?_
     refine s_end hKS ?_
     refine n_step1 (f := 0) (i := 8) rfl (by kernel_rfl) ?_
     refine n_one (i := 8) rfl fun KN hKN => ?_
     refine l_st1 1 wn rfl rfl rfl rfl inf25 rfl rfl ?_
     refine l_nil (hKN _ _ (fun _ h => (h.sel [2, 3, 5, 6, 7, 8, 9, 10, 11] (by decide) rfl)) ?_)
     refine n_done (by kernel_rfl) (e_in_n (e_go hK12 ?_))
     refine c_seq fun _ hK19 => ?_
     refine c_region ?_
     refine l_val wn (r_lbn 1 [.slice A1 z.series.length cp1, .slice A2 z.raw.length cp2, .slice A6 ((Sh.fromB z.fine (Sh.fineF z to)).length) cp6, .slice A4 z.coarse.length cp4, .int .i64 z.rawFrom, .int .i64 (Sh.fineF z to), .int .i64 z.fineTo, .int .i64 z.coarseFrom, .int .i64 z.coarseTo] rfl rfl rfl rfl agg27 inf27) rfl ?_
     refine l_stn 6 wn rfl rfl rfl inf27 rfl rfl rfl ?_
     refine l_val wn (r_assign rfl) rfl ?_
     refine l_nil (e_go hK19 ?_)
     refine c_ret (e_ret2 (.inl rfl) Try.results27 (rv_cell 6 rfl rfl agg27 inf27 rfl) (rv_tmp rfl) fun w1 hM => ?_)
     have he : Sh.forget z tier to = ((⟨z.series, z.raw, (Sh.fromB z.fine (Sh.fineF z to)), z.coarse, z.rawFrom, (Sh.fineF z to), z.fineTo, z.coarseFrom, z.coarseTo⟩ : Shelf), 0) := Sh.forget_fine h1 (fun g => by omega) h4 h5
     rw [he]
     have hM := hM.sealRow encLabel (i := 2) rfl rfl
     have hM := hM.sealRow encSample (i := 3) rfl rfl
     have hM := hM.sealRow encBucket (i := 4) rfl rfl
     have hM := hM.sealRow encBucket (i := 5) rfl rfl
     exact hM.retSh (s' := (⟨z.series, z.raw, (Sh.fromB z.fine (Sh.fineF z to)), z.coarse, z.rawFrom, (Sh.fineF z to), z.fineTo, z.coarseFrom, z.coarseTo⟩ : Shelf)) (fun u => .tuple (List.toArray [u, .int .i64 0])) rfl (rfl) (fun _ pp => pp.sl 2 rfl) (fun _ pp => pp.sl 3 rfl) (fun _ pp => pp.sl 4 rfl) (fun _ pp => pp.sl 5 rfl)
   refine n_one (i := 4) rfl fun KN hKN => ?_
   refine l_val wn (r_lb 0 rfl rfl rfl flat3) rfl ?_
   refine l_nil (hKN _ _ (fun _ h => (h.sel [1, 2, 4, 5, 6, 7, 8, 9, 10] (by decide) rfl)) ?_)
   refine n_step2 (f := 4) (i := 1) (j := 5) rfl (by kernel_rfl) ?_ ?_
   · refine n_one (i := 1) rfl fun KN hKN => ?_
     refine l_val wn (r_lb 0 rfl rfl rfl flat25) rfl ?_
     refine l_nil (hKN _ _ (fun _ h => (h.sel [1, 2, 4, 5, 6, 7, 8, 9, 10] (by decide) rfl)) ?_)
     refine n_step1 (f := 3) (i := 5) rfl (by kernel_rfl) ?_
     refine n_one (i := 5) rfl fun KN hKN => ?_
     refine l_callMk (fun b => .func (.func 62) #[] #[.pointer (some ⟨b, 0, none⟩)]) (fun b => .blk b [.int .i64 (Sh.fineF z to)] 3) (fun _ => rfl) wn rfl rfl Try.call61 rfl (fun w1 hM => c_early (Sh.fineF z to) w1) fun be2 => ?_
     refine l_nil (hKN _ _ (fun _ h => (h.sel [2, 3, 5, 6, 7, 8, 9, 10, 11] (by decide) rfl)) ?_)
     refine n_step1 (f := 2) (i := 6) rfl (by kernel_rfl) ?_
     refine n_one (i := 6) rfl fun KN hKN => ?_
     refine l_callU 4 (Sh.fromB z.fine (Sh.fineF z to)) rfl wn rfl Try.call65 rfl (fun w1 hM => c_delB _ z.fine 62 #[.pointer (some ⟨be2, 0, none⟩)] (fun x => decide (x.at_ < (Sh.fineF z to))) w1 (hM.row (i := 4) rfl) Try.call62 (fun x w2 h2 => c_early1 x be2 (Sh.fineF z to) w2 (hM.blkStay (i := 0) (j := 4) rfl rfl h2))) fun A7 cp7 hc3 hm3 hA7 => ?_
     refine l_nil (hKN _ _ (fun _ h => (h.sel [2, 3, 5, 6, 7, 8, 9, 10, 11] (by decide) rfl)) ?_)
     refine n_run (f := 1) [7] rfl rfl (by kernel_rfl) (by kernel_rfl) (fun _ h => (h.sel [2, 3, 5, 6, 7, 8, 9, 10, 11] (by decide) rfl)) fun KS hKS => ?_
     refine s_val wn (r_fa rfl fld27_2) rfl ?_
     refine s_end hKS ?_
     refine n_step1 (f := 0) (i := 8) rfl (by kernel_rfl) ?_
     refine n_one (i := 8) rfl fun KN hKN => ?_
     refine l_st1 1 wn rfl rfl rfl rfl inf25 rfl rfl ?_
     refine l_nil (hKN _ _ (fun _ h => (h.sel [2, 3, 5, 6, 7, 8, 9, 10, 11] (by decide) rfl)) ?_)
     refine n_done (by kernel_rfl) (e_in_n (e_go hK12 ?_))
     refine c_seq fun _ hK20 => ?_
     refine c_region ?_
     refine l_val wn (r_lbn 1 [.slice A1 z.series.length cp1, .slice A2 z.raw.length cp2, .slice A7 ((Sh.fromB z.fine (Sh.fineF z to)).length) cp7, .slice A4 z.coarse.length cp4, .int .i64 z.rawFrom, .int .i64 (Sh.fineF z to), .int .i64 z.fineTo, .int .i64 z.coarseFrom, .int .i64 z.coarseTo] rfl rfl rfl rfl agg27 inf27) rfl ?_
     refine l_stn 6 wn rfl rfl rfl inf27 rfl rfl rfl ?_
     refine l_val wn (r_assign rfl) rfl ?_
     refine l_nil (e_go hK20 ?_)
     refine c_ret (e_ret2 (.inl rfl) Try.results27 (rv_cell 6 rfl rfl agg27 inf27 rfl) (rv_tmp rfl) fun w1 hM => ?_)
     have he : Sh.forget z tier to = ((⟨z.series, z.raw, (Sh.fromB z.fine (Sh.fineF z to)), z.coarse, z.rawFrom, (Sh.fineF z to), z.fineTo, z.coarseFrom, z.coarseTo⟩ : Shelf), 0) := Sh.forget_fine h1 (fun g => by omega) h4 h5
     rw [he]
     have hM := hM.sealRow encLabel (i := 2) rfl rfl
     have hM := hM.sealRow encSample (i := 3) rfl rfl
     have hM := hM.sealRow encBucket (i := 4) rfl rfl
     have hM := hM.sealRow encBucket (i := 5) rfl rfl
     exact hM.retSh (s' := (⟨z.series, z.raw, (Sh.fromB z.fine (Sh.fineF z to)), z.coarse, z.rawFrom, (Sh.fineF z to), z.fineTo, z.coarseFrom, z.coarseTo⟩ : Shelf)) (fun u => .tuple (List.toArray [u, .int .i64 0])) rfl (rfl) (fun _ pp => pp.sl 2 rfl) (fun _ pp => pp.sl 3 rfl) (fun _ pp => pp.sl 4 rfl) (fun _ pp => pp.sl 5 rfl)
   refine n_one (i := 5) rfl fun KN hKN => ?_
   refine l_callMk (fun b => .func (.func 62) #[] #[.pointer (some ⟨b, 0, none⟩)]) (fun b => .blk b [.int .i64 (Sh.fineF z to)] 3) (fun _ => rfl) wn rfl rfl Try.call61 rfl (fun w1 hM => c_early (Sh.fineF z to) w1) fun be3 => ?_
   refine l_nil (hKN _ _ (fun _ h => (h.sel [2, 3, 5, 6, 7, 8, 9, 10, 11] (by decide) rfl)) ?_)
   refine n_step1 (f := 3) (i := 1) rfl (by kernel_rfl) ?_
   refine n_one (i := 1) rfl fun KN hKN => ?_
   refine l_val wn (r_lb 1 rfl rfl rfl flat25) rfl ?_
   refine l_nil (hKN _ _ (fun _ h => (h.sel [2, 3, 5, 6, 7, 8, 9, 10, 11] (by decide) rfl)) ?_)
   refine n_step1 (f := 2) (i := 6) rfl (by kernel_rfl) ?_
   refine n_one (i := 6) rfl fun KN hKN => ?_
   refine l_callU 4 (Sh.fromB z.fine (Sh.fineF z to)) rfl wn rfl Try.call65 rfl (fun w1 hM => c_delB _ z.fine 62 #[.pointer (some ⟨be3, 0, none⟩)] (fun x => decide (x.at_ < (Sh.fineF z to))) w1 (hM.row (i := 4) rfl) Try.call62 (fun x w2 h2 => c_early1 x be3 (Sh.fineF z to) w2 (hM.blkStay (i := 0) (j := 4) rfl rfl h2))) fun A8 cp8 hc4 hm4 hA8 => ?_
   refine l_nil (hKN _ _ (fun _ h => (h.sel [2, 3, 5, 6, 7, 8, 9, 10, 11] (by decide) rfl)) ?_)
   refine n_run (f := 1) [7] rfl rfl (by kernel_rfl) (by kernel_rfl) (fun _ h => (h.sel [2, 3, 5, 6, 7, 8, 9, 10, 11] (by decide) rfl)) fun KS hKS => ?_
   refine s_val wn (r_fa rfl fld27_2) rfl ?_
   refine s_end hKS ?_
   refine n_step1 (f := 0) (i := 8) rfl (by kernel_rfl) ?_
   refine n_one (i := 8) rfl fun KN hKN => ?_
   refine l_st1 1 wn rfl rfl rfl rfl inf25 rfl rfl ?_
   refine l_nil (hKN _ _ (fun _ h => (h.sel [2, 3, 5, 6, 7, 8, 9, 10, 11] (by decide) rfl)) ?_)
   refine n_done (by kernel_rfl) (e_in_n (e_go hK12 ?_))
   refine c_seq fun _ hK21 => ?_
   refine c_region ?_
   refine l_val wn (r_lbn 1 [.slice A1 z.series.length cp1, .slice A2 z.raw.length cp2, .slice A8 ((Sh.fromB z.fine (Sh.fineF z to)).length) cp8, .slice A4 z.coarse.length cp4, .int .i64 z.rawFrom, .int .i64 (Sh.fineF z to), .int .i64 z.fineTo, .int .i64 z.coarseFrom, .int .i64 z.coarseTo] rfl rfl rfl rfl agg27 inf27) rfl ?_
   refine l_stn 6 wn rfl rfl rfl inf27 rfl rfl rfl ?_
   refine l_val wn (r_assign rfl) rfl ?_
   refine l_nil (e_go hK21 ?_)
   refine c_ret (e_ret2 (.inl rfl) Try.results27 (rv_cell 6 rfl rfl agg27 inf27 rfl) (rv_tmp rfl) fun w1 hM => ?_)
   have he : Sh.forget z tier to = ((⟨z.series, z.raw, (Sh.fromB z.fine (Sh.fineF z to)), z.coarse, z.rawFrom, (Sh.fineF z to), z.fineTo, z.coarseFrom, z.coarseTo⟩ : Shelf), 0) := Sh.forget_fine h1 (fun g => by omega) h4 h5
   rw [he]
   have hM := hM.sealRow encLabel (i := 2) rfl rfl
   have hM := hM.sealRow encSample (i := 3) rfl rfl
   have hM := hM.sealRow encBucket (i := 4) rfl rfl
   have hM := hM.sealRow encBucket (i := 5) rfl rfl
   exact hM.retSh (s' := (⟨z.series, z.raw, (Sh.fromB z.fine (Sh.fineF z to)), z.coarse, z.rawFrom, (Sh.fineF z to), z.fineTo, z.coarseFrom, z.coarseTo⟩ : Shelf)) (fun u => .tuple (List.toArray [u, .int .i64 0])) rfl (rfl) (fun _ pp => pp.sl 2 rfl) (fun _ pp => pp.sl 3 rfl) (fun _ pp => pp.sl 4 rfl) (fun _ pp => pp.sl 5 rfl)
 refine c_seq fun _ hK22 => ?_
 refine c_region ?_
 refine l_val wn (r_eql rfl rfl) rfl ?_
 refine l_val wn (r_assign rfl) rfl ?_
 refine l_nil (e_go hK22 ?_)
 refine c_cond rfl (fun h6 => ?_) (fun h6 => ?_)
 · refine c_seq fun _ hK23 => ?_
   refine c_quietT 9 mix (by kernel_rfl) (fun _ h => h.drew) fun _ hT2 => ?_
   refine q_val wn (r_fa rfl fld27_7) rfl ?_
   refine q_val wn (r_lb 6 rfl rfl rfl flat3) rfl ?_
   refine q_val wn (r_move rfl) rfl ?_
   refine q_val wn (r_fa rfl fld27_8) rfl ?_
   refine q_val wn (r_lb 6 rfl rfl rfl flat3) rfl ?_
   refine q_val wn (r_min rfl rfl) rfl ?_
   refine q_callF wn rfl Try.call58 rfl (fun w1 hM => c_down (if z.coarseTo < to then z.coarseTo else to) 60 w1 (by omega) (by omega)) ?_
   refine q_val wn (rv_i (show _ = (Sh.coarseF z to) from rfl) (r_max rfl rfl)) rfl ?_
   refine q_val wn (r_fa rfl fld27_7) rfl ?_
   refine q_tail hT2 ?_
   refine l_st1 0 wn rfl rfl rfl rfl inf3 rfl rfl ?_
   refine l_nil (e_go hK23 ?_)
   refine c_nodes (Mem w ⟨no, P0⟩ [Row (.slice A1 z.series.length cp1) 89 2 labelE z.series, Row (.slice A2 z.raw.length cp2) 39 2 sampleE z.raw, Row (.slice A3 z.fine.length cp3) 78 8 bucketE z.fine, .blk b6 [.slice none 0 0, .slice none 0 0, .slice none 0 0, .slice none 0 0, .int .i64 0, .int .i64 0, .int .i64 0, .int .i64 0, .int .i64 0] 27, .blk b3 [.slice z0A z.series.length z0c, .slice z1A z.raw.length z1c, .slice z2A z.fine.length z2c, .slice z3A z.coarse.length z3c, .int .i64 z.rawFrom, .int .i64 z.fineFrom, .int .i64 z.fineTo, .int .i64 z.coarseFrom, .int .i64 z.coarseTo] 27, slP 2 labelE (.slice z0A z.series.length z0c) z.series, slP 2 sampleE (.slice z1A z.raw.length z1c) z.raw, slP 8 bucketE (.slice z2A z.fine.length z2c) z.fine, slP 8 bucketE (.slice z3A z.coarse.length z3c) z.coarse]) mix (fun _ h => h.drew) rfl ?_
   refine n_run (f := 6) [0, 2, 3] rfl rfl (by kernel_rfl) (by kernel_rfl) (fun _ h => (h.sel [1, 2, 3, 5, 6, 7, 8, 9, 10] (by decide) rfl)) fun KS hKS => ?_
   refine s_val wn (r_fa rfl fld27_3) rfl ?_
   refine s_val wn (r_move rfl) rfl ?_
   refine s_val wn (r_fa rfl fld27_7) rfl ?_
   refine s_end hKS ?_
   refine n_step2 (f := 5) (i := 1) (j := 4) rfl (by kernel_rfl) ?_ ?_
   · refine n_one (i := 1) rfl fun KN hKN => ?_
     refine l_val wn (r_lb 0 rfl rfl rfl flat25) rfl ?_
     refine l_nil (hKN _ _ (fun _ h => (h.sel [1, 2, 3, 5, 6, 7, 8, 9, 10] (by decide) rfl)) ?_)
     refine n_step1 (f := 4) (i := 4) rfl (by kernel_rfl) ?_
     refine n_one (i := 4) rfl fun KN hKN => ?_
     refine l_val wn (r_lb 0 rfl rfl rfl flat3) rfl ?_
     refine l_nil (hKN _ _ (fun _ h => (h.sel [1, 2, 3, 5, 6, 7, 8, 9, 10] (by decide) rfl)) ?_)
     refine n_step1 (f := 3) (i := 5) rfl (by kernel_rfl) ?_
     refine n_one (i := 5) rfl fun KN hKN => ?_
     refine l_callMk (fun b => .func (.func 62) #[] #[.pointer (some ⟨b, 0, none⟩)]) (fun b => .blk b [.int .i64 (Sh.coarseF z to)] 3) (fun _ => rfl) wn rfl rfl Try.call61 rfl (fun w1 hM => c_early (Sh.coarseF z to) w1) fun be4 => ?_
     refine l_nil (hKN _ _ (fun _ h => (h.sel [2, 3, 4, 6, 7, 8, 9, 10, 11] (by decide) rfl)) ?_)
     refine n_step1 (f := 2) (i := 6) rfl (by kernel_rfl) ?_
     refine n_one (i := 6) rfl fun KN hKN => ?_
     refine l_callU 5 (Sh.fromB z.coarse (Sh.coarseF z to)) rfl wn rfl Try.call65 rfl (fun w1 hM => c_delB _ z.coarse 62 #[.pointer (some ⟨be4, 0, none⟩)] (fun x => decide (x.at_ < (Sh.coarseF z to))) w1 (hM.row (i := 5) rfl) Try.call62 (fun x w2 h2 => c_early1 x be4 (Sh.coarseF z to) w2 (hM.blkStay (i := 0) (j := 5) rfl rfl h2))) fun A9 cp9 hc5 hm5 hA9 => ?_
     refine l_nil (hKN _ _ (fun _ h => (h.sel [2, 3, 4, 6, 7, 8, 9, 10, 11] (by decide) rfl)) ?_)
     refine n_run (f := 1) [7] rfl rfl (by kernel_rfl) (by kernel_rfl) (fun _ h => (h.sel [2, 3, 4, 6, 7, 8, 9, 10, 11] (by decide) rfl)) fun KS hKS => ?_
     refine s_val wn (r_fa rfl fld27_3) rfl ?_
     refine s_end hKS ?_
     refine n_step1 (f := 0) (i := 8) rfl (by kernel_rfl) ?_
     refine n_one (i := 8) rfl fun KN hKN => ?_
     refine l_st1 1 wn rfl rfl rfl rfl inf25 rfl rfl ?_
     refine l_nil (hKN _ _ (fun _ h => (h.sel [2, 3, 4, 6, 7, 8, 9, 10, 11] (by decide) rfl)) ?_)
     refine n_done (by kernel_rfl) (e_in_n (e_go hK12 ?_))
     refine c_seq fun _ hK24 => ?_
     refine c_region ?_
     refine l_val wn (r_lbn 1 [.slice A1 z.series.length cp1, .slice A2 z.raw.length cp2, .slice A3 z.fine.length cp3, .slice A9 ((Sh.fromB z.coarse (Sh.coarseF z to)).length) cp9, .int .i64 z.rawFrom, .int .i64 z.fineFrom, .int .i64 z.fineTo, .int .i64 (Sh.coarseF z to), .int .i64 z.coarseTo] rfl rfl rfl rfl agg27 inf27) rfl ?_
     refine l_stn 6 wn rfl rfl rfl inf27 rfl rfl rfl ?_
     refine l_val wn (r_assign rfl) rfl ?_
     refine l_nil (e_go hK24 ?_)
     refine c_ret (e_ret2 (.inl rfl) Try.results27 (rv_cell 6 rfl rfl agg27 inf27 rfl) (rv_tmp rfl) fun w1 hM => ?_)
     have he : Sh.forget z tier to = ((⟨z.series, z.raw, z.fine, (Sh.fromB z.coarse (Sh.coarseF z to)), z.rawFrom, z.fineFrom, z.fineTo, (Sh.coarseF z to), z.coarseTo⟩ : Shelf), 0) := Sh.forget_coarse h1 (fun g => by omega) h4 h5 h6
     rw [he]
     have hM := hM.sealRow encLabel (i := 2) rfl rfl
     have hM := hM.sealRow encSample (i := 3) rfl rfl
     have hM := hM.sealRow encBucket (i := 4) rfl rfl
     have hM := hM.sealRow encBucket (i := 5) rfl rfl
     exact hM.retSh (s' := (⟨z.series, z.raw, z.fine, (Sh.fromB z.coarse (Sh.coarseF z to)), z.rawFrom, z.fineFrom, z.fineTo, (Sh.coarseF z to), z.coarseTo⟩ : Shelf)) (fun u => .tuple (List.toArray [u, .int .i64 0])) rfl (rfl) (fun _ pp => pp.sl 2 rfl) (fun _ pp => pp.sl 3 rfl) (fun _ pp => pp.sl 4 rfl) (fun _ pp => pp.sl 5 rfl)
   refine n_one (i := 4) rfl fun KN hKN => ?_
   refine l_val wn (r_lb 0 rfl rfl rfl flat3) rfl ?_
   refine l_nil (hKN _ _ (fun _ h => (h.sel [1, 2, 3, 5, 6, 7, 8, 9, 10] (by decide) rfl)) ?_)
   refine n_step2 (f := 4) (i := 1) (j := 5) rfl (by kernel_rfl) ?_ ?_
   · refine n_one (i := 1) rfl fun KN hKN => ?_
     refine l_val wn (r_lb 0 rfl rfl rfl flat25) rfl ?_
     refine l_nil (hKN _ _ (fun _ h => (h.sel [1, 2, 3, 5, 6, 7, 8, 9, 10] (by decide) rfl)) ?_)
     refine n_step1 (f := 3) (i := 5) rfl (by kernel_rfl) ?_
     refine n_one (i := 5) rfl fun KN hKN => ?_
     refine l_callMk (fun b => .func (.func 62) #[] #[.pointer (some ⟨b, 0, none⟩)]) (fun b => .blk b [.int .i64 (Sh.coarseF z to)] 3) (fun _ => rfl) wn rfl rfl Try.call61 rfl (fun w1 hM => c_early (Sh.coarseF z to) w1) fun be5 => ?_
     refine l_nil (hKN _ _ (fun _ h => (h.sel [2, 3, 4, 6, 7, 8, 9, 10, 11] (by decide) rfl)) ?_)
     refine n_step1 (f := 2) (i := 6) rfl (by kernel_rfl) ?_
     refine n_one (i := 6) rfl fun KN hKN => ?_
     refine l_callU 5 (Sh.fromB z.coarse (Sh.coarseF z to)) rfl wn rfl Try.call65 rfl (fun w1 hM => c_delB _ z.coarse 62 #[.pointer (some ⟨be5, 0, none⟩)] (fun x => decide (x.at_ < (Sh.coarseF z to))) w1 (hM.row (i := 5) rfl) Try.call62 (fun x w2 h2 => c_early1 x be5 (Sh.coarseF z to) w2 (hM.blkStay (i := 0) (j := 5) rfl rfl h2))) fun A10 cp10 hc6 hm6 hA10 => ?_
     refine l_nil (hKN _ _ (fun _ h => (h.sel [2, 3, 4, 6, 7, 8, 9, 10, 11] (by decide) rfl)) ?_)
     refine n_run (f := 1) [7] rfl rfl (by kernel_rfl) (by kernel_rfl) (fun _ h => (h.sel [2, 3, 4, 6, 7, 8, 9, 10, 11] (by decide) rfl)) fun KS hKS => ?_
     refine s_val wn (r_fa rfl fld27_3) rfl ?_
     refine s_end hKS ?_
     refine n_step1 (f := 0) (i := 8) rfl (by kernel_rfl) ?_
     refine n_one (i := 8) rfl fun KN hKN => ?_
     refine l_st1 1 wn rfl rfl rfl rfl inf25 rfl rfl ?_
     refine l_nil (hKN _ _ (fun _ h => (h.sel [2, 3, 4, 6, 7, 8, 9, 10, 11] (by decide) rfl)) ?_)
     refine n_done (by kernel_rfl) (e_in_n (e_go hK12 ?_))
     refine c_seq fun _ hK25 => ?_
     refine c_region ?_
     refine l_val wn (r_lbn 1 [.slice A1 z.series.length cp1, .slice A2 z.raw.length cp2, .slice A3 z.fine.length cp3, .slice A10 ((Sh.fromB z.coarse (Sh.coarseF z to)).length) cp10, .int .i64 z.rawFrom, .int .i64 z.fineFrom, .int .i64 z.fineTo, .int .i64 (Sh.coarseF z to), .int .i64 z.coarseTo] rfl rfl rfl rfl agg27 inf27) rfl ?_
     refine l_stn 6 wn rfl rfl rfl inf27 rfl rfl rfl ?_
     refine l_val wn (r_assign rfl) rfl ?_
     refine l_nil (e_go hK25 ?_)
     refine c_ret (e_ret2 (.inl rfl) Try.results27 (rv_cell 6 rfl rfl agg27 inf27 rfl) (rv_tmp rfl) fun w1 hM => ?_)
     have he : Sh.forget z tier to = ((⟨z.series, z.raw, z.fine, (Sh.fromB z.coarse (Sh.coarseF z to)), z.rawFrom, z.fineFrom, z.fineTo, (Sh.coarseF z to), z.coarseTo⟩ : Shelf), 0) := Sh.forget_coarse h1 (fun g => by omega) h4 h5 h6
     rw [he]
     have hM := hM.sealRow encLabel (i := 2) rfl rfl
     have hM := hM.sealRow encSample (i := 3) rfl rfl
     have hM := hM.sealRow encBucket (i := 4) rfl rfl
     have hM := hM.sealRow encBucket (i := 5) rfl rfl
     exact hM.retSh (s' := (⟨z.series, z.raw, z.fine, (Sh.fromB z.coarse (Sh.coarseF z to)), z.rawFrom, z.fineFrom, z.fineTo, (Sh.coarseF z to), z.coarseTo⟩ : Shelf)) (fun u => .tuple (List.toArray [u, .int .i64 0])) rfl (rfl) (fun _ pp => pp.sl 2 rfl) (fun _ pp => pp.sl 3 rfl) (fun _ pp => pp.sl 4 rfl) (fun _ pp => pp.sl 5 rfl)
   refine n_one (i := 5) rfl fun KN hKN => ?_
   refine l_callMk (fun b => .func (.func 62) #[] #[.pointer (some ⟨b, 0, none⟩)]) (fun b => .blk b [.int .i64 (Sh.coarseF z to)] 3) (fun _ => rfl) wn rfl rfl Try.call61 rfl (fun w1 hM => c_early (Sh.coarseF z to) w1) fun be6 => ?_
   refine l_nil (hKN _ _ (fun _ h => (h.sel [2, 3, 4, 6, 7, 8, 9, 10, 11] (by decide) rfl)) ?_)
   refine n_step1 (f := 3) (i := 1) rfl (by kernel_rfl) ?_
   refine n_one (i := 1) rfl fun KN hKN => ?_
   refine l_val wn (r_lb 1 rfl rfl rfl flat25) rfl ?_
   refine l_nil (hKN _ _ (fun _ h => (h.sel [2, 3, 4, 6, 7, 8, 9, 10, 11] (by decide) rfl)) ?_)
   refine n_step1 (f := 2) (i := 6) rfl (by kernel_rfl) ?_
   refine n_one (i := 6) rfl fun KN hKN => ?_
   refine l_callU 5 (Sh.fromB z.coarse (Sh.coarseF z to)) rfl wn rfl Try.call65 rfl (fun w1 hM => c_delB _ z.coarse 62 #[.pointer (some ⟨be6, 0, none⟩)] (fun x => decide (x.at_ < (Sh.coarseF z to))) w1 (hM.row (i := 5) rfl) Try.call62 (fun x w2 h2 => c_early1 x be6 (Sh.coarseF z to) w2 (hM.blkStay (i := 0) (j := 5) rfl rfl h2))) fun A11 cp11 hc7 hm7 hA11 => ?_
   refine l_nil (hKN _ _ (fun _ h => (h.sel [2, 3, 4, 6, 7, 8, 9, 10, 11] (by decide) rfl)) ?_)
   refine n_run (f := 1) [7] rfl rfl (by kernel_rfl) (by kernel_rfl) (fun _ h => (h.sel [2, 3, 4, 6, 7, 8, 9, 10, 11] (by decide) rfl)) fun KS hKS => ?_
   refine s_val wn (r_fa rfl fld27_3) rfl ?_
   refine s_end hKS ?_
   refine n_step1 (f := 0) (i := 8) rfl (by kernel_rfl) ?_
   refine n_one (i := 8) rfl fun KN hKN => ?_
   refine l_st1 1 wn rfl rfl rfl rfl inf25 rfl rfl ?_
   refine l_nil (hKN _ _ (fun _ h => (h.sel [2, 3, 4, 6, 7, 8, 9, 10, 11] (by decide) rfl)) ?_)
   refine n_done (by kernel_rfl) (e_in_n (e_go hK12 ?_))
   refine c_seq fun _ hK26 => ?_
   refine c_region ?_
   refine l_val wn (r_lbn 1 [.slice A1 z.series.length cp1, .slice A2 z.raw.length cp2, .slice A3 z.fine.length cp3, .slice A11 ((Sh.fromB z.coarse (Sh.coarseF z to)).length) cp11, .int .i64 z.rawFrom, .int .i64 z.fineFrom, .int .i64 z.fineTo, .int .i64 (Sh.coarseF z to), .int .i64 z.coarseTo] rfl rfl rfl rfl agg27 inf27) rfl ?_
   refine l_stn 6 wn rfl rfl rfl inf27 rfl rfl rfl ?_
   refine l_val wn (r_assign rfl) rfl ?_
   refine l_nil (e_go hK26 ?_)
   refine c_ret (e_ret2 (.inl rfl) Try.results27 (rv_cell 6 rfl rfl agg27 inf27 rfl) (rv_tmp rfl) fun w1 hM => ?_)
   have he : Sh.forget z tier to = ((⟨z.series, z.raw, z.fine, (Sh.fromB z.coarse (Sh.coarseF z to)), z.rawFrom, z.fineFrom, z.fineTo, (Sh.coarseF z to), z.coarseTo⟩ : Shelf), 0) := Sh.forget_coarse h1 (fun g => by omega) h4 h5 h6
   rw [he]
   have hM := hM.sealRow encLabel (i := 2) rfl rfl
   have hM := hM.sealRow encSample (i := 3) rfl rfl
   have hM := hM.sealRow encBucket (i := 4) rfl rfl
   have hM := hM.sealRow encBucket (i := 5) rfl rfl
   exact hM.retSh (s' := (⟨z.series, z.raw, z.fine, (Sh.fromB z.coarse (Sh.coarseF z to)), z.rawFrom, z.fineFrom, z.fineTo, (Sh.coarseF z to), z.coarseTo⟩ : Shelf)) (fun u => .tuple (List.toArray [u, .int .i64 0])) rfl (rfl) (fun _ pp => pp.sl 2 rfl) (fun _ pp => pp.sl 3 rfl) (fun _ pp => pp.sl 4 rfl) (fun _ pp => pp.sl 5 rfl)
 refine c_seq fun _ hK27 => ?_
 refine c_region ?_
 refine l_val wn (r_build [.slice none 0 0, .slice none 0 0, .slice none 0 0, .slice none 0 0, .int .i64 0, .int .i64 0, .int .i64 0, .int .i64 0, .int .i64 0] pl27 inf27 rfl rfl) rfl ?_
 refine l_stn 5 wn rfl rfl rfl inf27 rfl rfl rfl ?_
 refine l_val wn (r_assign rfl) rfl ?_
 refine l_nil (e_go hK27 ?_)
 refine c_ret (e_in_r (e_then_r (e_ret2 (.inl rfl) Try.results27 (rv_cell 5 rfl rfl agg27 inf27 rfl) (rv_tmp rfl) fun w1 hM => ?_)))
 have he : Sh.forget z tier to = ((⟨([] : List Label), ([] : List Sample), ([] : List Bucket), ([] : List Bucket), 0, 0, 0, 0, 0⟩ : Shelf), 1) := Sh.forget_kind h1 (fun g => by omega) h4 h5 h6
 rw [he]
 exact hM.retSh (s' := (⟨([] : List Label), ([] : List Sample), ([] : List Bucket), ([] : List Bucket), 0, 0, 0, 0, 0⟩ : Shelf)) (fun u => .tuple (List.toArray [u, .int .i64 1])) rfl (rfl) (fun _ _ => FlatSl.nil_ _ _ _ _) (fun _ _ => FlatSl.nil_ _ _ _ _) (fun _ _ => FlatSl.nil_ _ _ _ _) (fun _ _ => FlatSl.nil_ _ _ _ _)

end Go.Proofs.Ytnbkennlmnnbeaa
