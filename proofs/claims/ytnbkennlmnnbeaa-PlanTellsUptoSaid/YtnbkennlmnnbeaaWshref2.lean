/-
  Walks: what each function hands back.
-/
import Derived.Test.YtnbkennlmnnbeaaWshref
namespace Go.Proofs.Ytnbkennlmnnbeaa
open Ex
set_option linter.unusedVariables false
set_option linter.unusedSimpArgs false
set_option maxHeartbeats 2000000 in
theorem c_refRoll (z0 : Value) (z1 : Value) (z2 : Value) (z3 : Value) (z : Shelf) (to : Int) (P0 : Nat → Prop) (w : World) (hP0 : ∀ b, P0 b → b < w.heap.size) (hz0 : FlatSl P0 2 labelE z0 z.series w) (hz1 : FlatSl P0 2 sampleE z1 z.raw w) (hz2 : FlatSl P0 8 bucketE z2 z.fine w) (hz3 : FlatSl P0 8 bucketE z3 z.coarse w) (hok : ∀ x ∈ z.series, x.key.size ≤ 9223372036854775807 ∧ x.val.size ≤ 9223372036854775807) :
    Calls Try.prog 26 #[.agg (List.toArray [z0, z1, z2, z3, .int .i64 z.rawFrom, .int .i64 z.fineFrom, .int .i64 z.fineTo, .int .i64 z.coarseFrom, .int .i64 z.coarseTo]), .int .i64 to] w (RetSh w P0 (fun u => .tuple (List.toArray [u, .int .i64 (Sh.roll z to).2])) (Sh.roll z to).1) := by
 obtain ⟨z0A, z0c, rfl, hz0c, hz0m, hz0A⟩ := hz0.form
 obtain ⟨z1A, z1c, rfl, hz1c, hz1m, hz1A⟩ := hz1.form
 obtain ⟨z2A, z2c, rfl, hz2c, hz2m, hz2A⟩ := hz2.form
 obtain ⟨z3A, z3c, rfl, hz3c, hz3m, hz3A⟩ := hz3.form
 refine fstart (N := 135) (vals := [.agg (List.toArray [.slice z0A z.series.length z0c, .slice z1A z.raw.length z1c, .slice z2A z.fine.length z2c, .slice z3A z.coarse.length z3c, .int .i64 z.rawFrom, .int .i64 z.fineFrom, .int .i64 z.fineTo, .int .i64 z.coarseFrom, .int .i64 z.coarseTo]), .int .i64 to]) (S := Mem w ⟨no, P0⟩ [slP 2 labelE (.slice z0A z.series.length z0c) z.series, slP 2 sampleE (.slice z1A z.raw.length z1c) z.raw, slP 8 bucketE (.slice z2A z.fine.length z2c) z.fine, slP 8 bucketE (.slice z3A z.coarse.length z3c) z.coarse]) Try.func26 rfl rfl rfl (Mem.ofDatsP hP0 (dc (dlp hz0) (dc (dlp hz1) (dc (dlp hz2) (dc (dlp hz3) dn))))) ?_
 refine c_seq fun _ hK1 => ?_
 refine c_region ?_
 refine l_box wn rfl rfl fun b2 => ?_
 refine l_alloc wn inf27 rfl fun b4 => ?_
 refine l_val wn (r_assign rfl) rfl ?_
 refine l_nil (e_go hK1 ?_)
 refine c_seq fun _ hK2 => ?_
 refine c_seq fun _ hK3 => ?_
 refine c_region ?_
 refine l_val wn (r_lbn 1 [.slice z0A z.series.length z0c, .slice z1A z.raw.length z1c, .slice z2A z.fine.length z2c, .slice z3A z.coarse.length z3c, .int .i64 z.rawFrom, .int .i64 z.fineFrom, .int .i64 z.fineTo, .int .i64 z.coarseFrom, .int .i64 z.coarseTo] rfl rfl rfl rfl agg27 inf27) rfl ?_
 refine l_callF wn rfl Try.call20 rfl (fun w1 hM => c_refShWrong _ _ _ _ z (In w1) w1 (fun _ h => h) (hM.slp 2 rfl) (hM.slp 3 rfl) (hM.slp 4 rfl) (hM.slp 5 rfl) (by exact hok)) ?_
 refine l_val wn (r_assign rfl) rfl ?_
 refine l_nil (e_go hK3 ?_)
 refine c_seq fun _ hK4 => ?_
 refine c_region ?_
 refine l_val wn (r_move rfl) rfl ?_
 refine l_val wn (r_neq rfl rfl) rfl ?_
 refine l_nil (e_go hK4 ?_)
 refine c_cond rfl (fun h1 => ?_) (fun h1 => ?_)
 · refine c_seq fun _ hK5 => ?_
   refine c_region ?_
   refine l_val wn (r_build [.slice none 0 0, .slice none 0 0, .slice none 0 0, .slice none 0 0, .int .i64 0, .int .i64 0, .int .i64 0, .int .i64 0, .int .i64 0] pl27 inf27 rfl rfl) rfl ?_
   refine l_val wn (r_move rfl) rfl ?_
   refine l_stn 0 wn rfl rfl rfl inf27 rfl rfl rfl ?_
   refine l_val wn (r_assign rfl) rfl ?_
   refine l_nil (e_go hK5 ?_)
   refine c_ret (e_then_r (e_ret2 (.inl rfl) Try.results26 (rv_cell 0 rfl rfl agg27 inf27 rfl) (rv_tmp rfl) fun w1 hM => ?_))
   have he : Sh.roll z to = ((⟨([] : List Label), ([] : List Sample), ([] : List Bucket), ([] : List Bucket), 0, 0, 0, 0, 0⟩ : Shelf), (Sh.wrong z)) := Sh.roll_wrong h1
   rw [he]
   exact hM.retSh (s' := (⟨([] : List Label), ([] : List Sample), ([] : List Bucket), ([] : List Bucket), 0, 0, 0, 0, 0⟩ : Shelf)) (fun u => .tuple (List.toArray [u, .int .i64 (Sh.wrong z)])) rfl (rfl) (fun _ _ => FlatSl.nil_ _ _ _ _) (fun _ _ => FlatSl.nil_ _ _ _ _) (fun _ _ => FlatSl.nil_ _ _ _ _) (fun _ _ => FlatSl.nil_ _ _ _ _)
 obtain ⟨l1, l2, l3, l4⟩ := (Sh.ok_of h1).lens
 obtain ⟨⟨g1, g2, g3, g4⟩, ⟨g5, g6, g7, g8, g9⟩, g10, g11, g12, g13, g14⟩ := (Sh.ok_of h1).rng
 have hor : ∀ x ∈ z.raw, -9223372036854775808 ≤ x.value ∧ x.value ≤ 9223372036854775807 := fun x hx => by have := (Sh.ok_of h1).rawR.rng x hx; omega
 refine c_skip (e_go hK2 ?_)
 refine c_seq fun _ hK6 => ?_
 refine c_cut [(1, .int .i64 to), (2, .pointer (some ⟨b2, 0, none⟩)), (4, .pointer (some ⟨b4, 0, none⟩)), (28, .bool (decide ((to < 0) ∨ (1000000 < to))))] (Mem w ⟨no, P0⟩ [.blk b4 [.slice none 0 0, .slice none 0 0, .slice none 0 0, .slice none 0 0, .int .i64 0, .int .i64 0, .int .i64 0, .int .i64 0, .int .i64 0] 27, .blk b2 [.slice z0A z.series.length z0c, .slice z1A z.raw.length z1c, .slice z2A z.fine.length z2c, .slice z3A z.coarse.length z3c, .int .i64 z.rawFrom, .int .i64 z.fineFrom, .int .i64 z.fineTo, .int .i64 z.coarseFrom, .int .i64 z.coarseTo] 27, slP 2 labelE (.slice z0A z.series.length z0c) z.series, slP 2 sampleE (.slice z1A z.raw.length z1c) z.raw, slP 8 bucketE (.slice z2A z.fine.length z2c) z.fine, slP 8 bucketE (.slice z3A z.coarse.length z3c) z.coarse]) (fun _ hK7 => ?_) ?_
 · refine c_region ?_
   refine l_val wn (r_move rfl) rfl ?_
   refine l_val wn (r_lss rfl rfl) rfl ?_
   refine l_val wn (r_move rfl) rfl ?_
   refine l_case (t := 25) rfl (fun h2 => ?_) (fun h2 => ?_)
   · refine l_skip (wg rfl rfl rfl) rfl ?_
     refine l_skip (wg rfl rfl rfl) rfl ?_
     refine l_val wn (r_pick rfl rfl) rfl ?_
     refine l_nil (e_cut hK7 (sc rfl (sc rfl (sc rfl (sc (jt (Or.inl h2)) sn)))) (fun _ h => h))
   refine l_val (wg rfl rfl rfl) (r_move rfl) rfl ?_
   refine l_val (wg rfl rfl rfl) (r_gtr rfl rfl) rfl ?_
   refine l_val wn (r_pick rfl rfl) rfl ?_
   refine l_nil (e_cut hK7 (sc rfl (sc rfl (sc rfl (sc (jp (iff_or_right h2 Iff.rfl)) sn)))) (fun _ h => h))
 refine c_cond rfl (fun h3 => ?_) (fun h3 => ?_)
 · refine c_seq fun _ hK8 => ?_
   refine c_region ?_
   refine l_val wn (r_build [.slice none 0 0, .slice none 0 0, .slice none 0 0, .slice none 0 0, .int .i64 0, .int .i64 0, .int .i64 0, .int .i64 0, .int .i64 0] pl27 inf27 rfl rfl) rfl ?_
   refine l_stn 0 wn rfl rfl rfl inf27 rfl rfl rfl ?_
   refine l_val wn (r_assign rfl) rfl ?_
   refine l_nil (e_go hK8 ?_)
   refine c_ret (e_then_r (e_ret2 (.inl rfl) Try.results26 (rv_cell 0 rfl rfl agg27 inf27 rfl) (rv_tmp rfl) fun w1 hM => ?_))
   have he : Sh.roll z to = ((⟨([] : List Label), ([] : List Sample), ([] : List Bucket), ([] : List Bucket), 0, 0, 0, 0, 0⟩ : Shelf), 3) := Sh.roll_range h1 (by omega)
   rw [he]
   exact hM.retSh (s' := (⟨([] : List Label), ([] : List Sample), ([] : List Bucket), ([] : List Bucket), 0, 0, 0, 0, 0⟩ : Shelf)) (fun u => .tuple (List.toArray [u, .int .i64 3])) rfl (rfl) (fun _ _ => FlatSl.nil_ _ _ _ _) (fun _ _ => FlatSl.nil_ _ _ _ _) (fun _ _ => FlatSl.nil_ _ _ _ _) (fun _ _ => FlatSl.nil_ _ _ _ _)
 obtain ⟨ft1, ft2, ft3, ft4⟩ := Sh.fineTo_rng (Sh.ok_of h1) (to := to) (by omega) (by omega)
 obtain ⟨ct1, ct2, ct3⟩ := Sh.coarseTo_rng (Sh.ok_of h1) (to := to) (by omega) (by omega)
 refine c_skip (e_go hK6 ?_)
 refine c_seq fun _ hK9 => ?_
 refine c_region ?_
 refine l_val wn (r_move rfl) rfl ?_
 refine l_val wn (r_quon rfl rfl (by omega) (by omega)) rfl ?_
 refine l_val wn (r_muln rfl rfl (by omega)) rfl ?_
 refine l_val wn (r_assign rfl) rfl ?_
 refine l_val wn (r_assign rfl) rfl ?_
 refine l_nil (e_go hK9 ?_)
 refine c_cut [(2, .pointer (some ⟨b2, 0, none⟩)), (4, .pointer (some ⟨b4, 0, none⟩)), (7, .int .i64 (if ((to / 10) * 10) < z.fineTo then z.fineTo else ((to / 10) * 10)))] (Mem w ⟨no, P0⟩ [.blk b4 [.slice none 0 0, .slice none 0 0, .slice none 0 0, .slice none 0 0, .int .i64 0, .int .i64 0, .int .i64 0, .int .i64 0, .int .i64 0] 27, .blk b2 [.slice z0A z.series.length z0c, .slice z1A z.raw.length z1c, .slice z2A z.fine.length z2c, .slice z3A z.coarse.length z3c, .int .i64 z.rawFrom, .int .i64 z.fineFrom, .int .i64 z.fineTo, .int .i64 z.coarseFrom, .int .i64 z.coarseTo] 27, slP 2 labelE (.slice z0A z.series.length z0c) z.series, slP 2 sampleE (.slice z1A z.raw.length z1c) z.raw, slP 8 bucketE (.slice z2A z.fine.length z2c) z.fine, slP 8 bucketE (.slice z3A z.coarse.length z3c) z.coarse]) (fun _ hK10 => ?_) ?_
 · refine c_seq fun _ hK11 => ?_
   refine c_region ?_
   refine l_val wn (r_move rfl) rfl ?_
   refine l_val wn (r_fa rfl fld27_6) rfl ?_
   refine l_val wn (r_lb 1 rfl rfl rfl flat3) rfl ?_
   refine l_val wn (r_lss rfl rfl) rfl ?_
   refine l_nil (e_go hK11 ?_)
   refine c_cond rfl (fun h4 => ?_) (fun h4 => ?_)
   · refine c_region ?_
     refine l_val wn (r_fa rfl fld27_6) rfl ?_
     refine l_val wn (r_lb 1 rfl rfl rfl flat3) rfl ?_
     refine l_val wn (r_assign rfl) rfl ?_
     refine l_nil (e_cut hK10 (sc rfl (sc rfl (sc (by first | (simp only [if_pos h4]; done) | (simp only [if_pos h4]; rfl)) sn))) (fun _ h => h))
   refine c_skip (e_cut hK10 (sc rfl (sc rfl (sc (by first | (simp only [if_neg h4]; done) | (simp only [if_neg h4]; rfl)) sn))) (fun _ h => h))
 refine c_seq fun _ hK12 => ?_
 refine c_region ?_
 refine l_val wn (r_move rfl) rfl ?_
 refine l_val wn (r_quon rfl rfl (by omega) (by omega)) rfl ?_
 refine l_val wn (r_muln rfl rfl (by omega)) rfl ?_
 refine l_val wn (r_assign rfl) rfl ?_
 refine l_nil (e_go hK12 ?_)
 refine c_cut [(2, .pointer (some ⟨b2, 0, none⟩)), (4, .pointer (some ⟨b4, 0, none⟩)), (7, .int .i64 (if ((to / 10) * 10) < z.fineTo then z.fineTo else ((to / 10) * 10))), (8, .int .i64 (if (((if ((to / 10) * 10) < z.fineTo then z.fineTo else ((to / 10) * 10)) / 60) * 60) < z.coarseTo then z.coarseTo else (((if ((to / 10) * 10) < z.fineTo then z.fineTo else ((to / 10) * 10)) / 60) * 60)))] (Mem w ⟨no, P0⟩ [.blk b4 [.slice none 0 0, .slice none 0 0, .slice none 0 0, .slice none 0 0, .int .i64 0, .int .i64 0, .int .i64 0, .int .i64 0, .int .i64 0] 27, .blk b2 [.slice z0A z.series.length z0c, .slice z1A z.raw.length z1c, .slice z2A z.fine.length z2c, .slice z3A z.coarse.length z3c, .int .i64 z.rawFrom, .int .i64 z.fineFrom, .int .i64 z.fineTo, .int .i64 z.coarseFrom, .int .i64 z.coarseTo] 27, slP 2 labelE (.slice z0A z.series.length z0c) z.series, slP 2 sampleE (.slice z1A z.raw.length z1c) z.raw, slP 8 bucketE (.slice z2A z.fine.length z2c) z.fine, slP 8 bucketE (.slice z3A z.coarse.length z3c) z.coarse]) (fun _ hK13 => ?_) ?_
 · refine c_seq fun _ hK14 => ?_
   refine c_region ?_
   refine l_val wn (r_move rfl) rfl ?_
   refine l_val wn (r_fa rfl fld27_8) rfl ?_
   refine l_val wn (r_lb 1 rfl rfl rfl flat3) rfl ?_
   refine l_val wn (r_lss rfl rfl) rfl ?_
   refine l_nil (e_go hK14 ?_)
   refine c_cond rfl (fun h5 => ?_) (fun h5 => ?_)
   · refine c_region ?_
     refine l_val wn (r_fa rfl fld27_8) rfl ?_
     refine l_val wn (r_lb 1 rfl rfl rfl flat3) rfl ?_
     refine l_val wn (r_assign rfl) rfl ?_
     refine l_nil (e_cut hK13 (sc rfl (sc rfl (sc rfl (sc (by first | (simp only [if_pos h5]; done) | (simp only [if_pos h5]; rfl)) sn)))) (fun _ h => h))
   refine c_skip (e_cut hK13 (sc rfl (sc rfl (sc rfl (sc (by first | (simp only [if_neg h5]; done) | (simp only [if_neg h5]; rfl)) sn)))) (fun _ h => h))
 refine c_seq fun _ hK15 => ?_
 refine c_region ?_
 refine l_bsL0 bucketE wn Try.underlying25 inf78 rfl fun b48 => ?_
 refine l_val wn (r_fa rfl fld27_2) rfl ?_
 refine l_val wn (r_lb 2 rfl rfl rfl flat25) rfl ?_
 refine l_app 0 ([] : List Bucket) z.fine encBucket wn rfl rfl rfl (fun _ hM => (hM.slp 5 rfl)) Try.underlying25 inf78 rfl rfl (by first | omega | (simp only [List.length_append, List.length_cons, List.length_nil]; omega)) rfl fun A1 cp1 hc1 hm1 hA1 => ?_
 refine l_val wn (r_assign rfl) rfl ?_
 refine l_nil (e_go hK15 ?_)
 refine c_seq fun _ hK16 => ?_
 refine c_seq fun _ hK17 => ?_
 refine c_region ?_
 refine l_val wn (r_fa rfl fld27_6) rfl ?_
 refine l_val wn (r_lb 2 rfl rfl rfl flat3) rfl ?_
 refine l_val wn (r_assign rfl) rfl ?_
 refine l_nil (e_go hK17 ?_)
 refine c_block ?_
 refine c_loop2 (fun (k : Nat) (vr : Value) => [(2, .pointer (some ⟨b2, 0, none⟩)), (4, .pointer (some ⟨b4, 0, none⟩)), (7, .int .i64 (Sh.fineTo z to)), (8, .int .i64 (Sh.coarseTo z to)), (9, vr), (10, .int .i64 (z.fineTo + 10 * (k : Int)))]) (fun (k : Nat) (vr : Value) => [Row vr 78 8 bucketE (z.fine ++ Roll.up (Roll.inT z.raw z.fineTo (z.fineTo + 10 * (k : Int))) 1), .blk b4 [.slice none 0 0, .slice none 0 0, .slice none 0 0, .slice none 0 0, .int .i64 0, .int .i64 0, .int .i64 0, .int .i64 0, .int .i64 0] 27, .blk b2 [.slice z0A z.series.length z0c, .slice z1A z.raw.length z1c, .slice z2A z.fine.length z2c, .slice z3A z.coarse.length z3c, .int .i64 z.rawFrom, .int .i64 z.fineFrom, .int .i64 z.fineTo, .int .i64 z.coarseFrom, .int .i64 z.coarseTo] 27, slP 2 labelE (.slice z0A z.series.length z0c) z.series, slP 2 sampleE (.slice z1A z.raw.length z1c) z.raw, slP 8 bucketE (.slice z2A z.fine.length z2c) z.fine, slP 8 bucketE (.slice z3A z.coarse.length z3c) z.coarse]) (fun (k : Nat) (vr : Value) => z.fineTo + 10 * (k : Int) ≤ Sh.fineTo z to) (fun (k : Nat) (vr : Value) => (Sh.fineTo z to - (z.fineTo + 10 * (k : Int))).toNat) 0 (.slice A1 ((([] : List Bucket) ++ z.fine).length) cp1) (sc rfl (sc rfl (sc (ji (by first | omega | (simp only [Sh.coarseTo, Sh.fineTo, Sh.mx]; (repeat' split) <;> omega))) (sc (ji (by first | omega | (simp only [Sh.coarseTo, Sh.fineTo, Sh.mx]; (repeat' split) <;> omega))) (sc rfl (sc (ji (by first | omega | (simp only [Sh.coarseTo, Sh.fineTo, Sh.mx]; (repeat' split) <;> omega))) sn)))))) (fun _ h => by rw [Sh.fine_start]; exact h) ?_ (fun k vr hI1 => ?_)
 · omega
 have hfk := Sh.fine_len (Sh.ok_of h1) k
 rw [List.length_append] at hfk
 refine c_open 0 (l := (z.fine ++ Roll.up (Roll.inT z.raw z.fineTo (z.fineTo + 10 * (k : Int))) 1)) rfl fun A2 cp2 hv1 hc2 hm2 hA2 => ?_
 subst hv1
 refine c_seq fun _ hK18 => ?_
 refine c_seq fun _ hK19 => ?_
 refine c_region ?_
 refine l_val wn (r_move rfl) rfl ?_
 refine l_val wn (r_move rfl) rfl ?_
 refine l_val wn (r_lss rfl rfl) rfl ?_
 refine l_nil (e_go hK19 ?_)
 refine c_cond rfl (fun h6 => ?_) (fun h6 => ?_)
 · refine c_skip (e_go hK18 ?_)
   refine c_seq fun _ hK20 => ?_
   refine c_block ?_
   refine c_seq fun _ hK21 => ?_
   refine c_region ?_
   refine l_nilRow (sampleE : Sample → List Value) 39 2 ?_
   refine l_val wn (r_assign rfl) rfl ?_
   refine l_nil (e_go hK21 ?_)
   refine c_seq fun _ hK22 => ?_
   refine c_seq fun _ hK23 => ?_
   refine c_region ?_
   refine l_val wn (r_fa rfl fld27_1) rfl ?_
   refine l_val wn (r_lb 3 rfl rfl rfl flat24) rfl ?_
   refine l_val wn (r_len rfl Try.underlying24) rfl ?_
   refine l_val wn (r_move rfl) rfl ?_
   refine l_nil (e_go hK23 ?_)
   refine c_block ?_
   refine c_loop2 (fun (j : Nat) (vr1 : Value) => [(2, .pointer (some ⟨b2, 0, none⟩)), (4, .pointer (some ⟨b4, 0, none⟩)), (7, .int .i64 (Sh.fineTo z to)), (8, .int .i64 (Sh.coarseTo z to)), (9, .slice A2 ((z.fine ++ Roll.up (Roll.inT z.raw z.fineTo (z.fineTo + 10 * (k : Int))) 1).length) cp2), (10, .int .i64 (z.fineTo + 10 * (k : Int))), (11, vr1), (60, .slice z1A z.raw.length z1c), (61, .int .i64 (z.raw.length : Int)), (62, .int .i64 (j : Int))]) (fun (j : Nat) (vr1 : Value) => [Row vr1 39 2 sampleE (Roll.inT (z.raw.take j) (z.fineTo + 10 * (k : Int)) ((z.fineTo + 10 * (k : Int)) + 10)), Row (.slice A2 ((z.fine ++ Roll.up (Roll.inT z.raw z.fineTo (z.fineTo + 10 * (k : Int))) 1).length) cp2) 78 8 bucketE (z.fine ++ Roll.up (Roll.inT z.raw z.fineTo (z.fineTo + 10 * (k : Int))) 1), .blk b4 [.slice none 0 0, .slice none 0 0, .slice none 0 0, .slice none 0 0, .int .i64 0, .int .i64 0, .int .i64 0, .int .i64 0, .int .i64 0] 27, .blk b2 [.slice z0A z.series.length z0c, .slice z1A z.raw.length z1c, .slice z2A z.fine.length z2c, .slice z3A z.coarse.length z3c, .int .i64 z.rawFrom, .int .i64 z.fineFrom, .int .i64 z.fineTo, .int .i64 z.coarseFrom, .int .i64 z.coarseTo] 27, slP 2 labelE (.slice z0A z.series.length z0c) z.series, slP 2 sampleE (.slice z1A z.raw.length z1c) z.raw, slP 8 bucketE (.slice z2A z.fine.length z2c) z.fine, slP 8 bucketE (.slice z3A z.coarse.length z3c) z.coarse]) (fun (j : Nat) (vr1 : Value) => j ≤ z.raw.length) (fun (j : Nat) (vr1 : Value) => z.raw.length - j) 0 (.slice none 0 0) (sc rfl (sc rfl (sc rfl (sc rfl (sc rfl (sc rfl (sc rfl (sc rfl (sc rfl (sc (ji (by first | omega | (simp only [Sh.coarseTo, Sh.fineTo, Sh.mx]; (repeat' split) <;> omega))) sn)))))))))) (fun _ h => h) ?_ (fun j vr1 hI2 => ?_)
   · omega
   have hlen := Nat.le_trans (Roll.inT_len (z.raw.take j) (z.fineTo + 10 * (k : Int)) ((z.fineTo + 10 * (k : Int)) + 10)) (List.length_take_le j z.raw)
   refine c_open 0 (l := (Roll.inT (z.raw.take j) (z.fineTo + 10 * (k : Int)) ((z.fineTo + 10 * (k : Int)) + 10))) rfl fun A3 cp3 hv2 hc3 hm3 hA3 => ?_
   subst hv2
   refine c_seq fun _ hK24 => ?_
   refine c_region ?_
   refine l_val wn (r_lss rfl rfl) rfl ?_
   refine l_nil (e_go hK24 ?_)
   refine c_seq fun _ hK25 => ?_
   refine c_cond rfl (fun h7 => ?_) (fun h7 => ?_)
   · refine c_skip (e_go hK25 ?_)
     refine c_seq fun _ hK26 => ?_
     refine c_block ?_
     refine c_seq fun _ hK27 => ?_
     refine c_region ?_
     obtain ⟨ad1, hd1⟩ := hz1A (ne_nil (i := j) (by first | omega | decide | (simp only [List.length_cons, List.length_nil, List.length_append, List.length_take, List.length_set]; omega)))
     refine l_val wn (r_ia (i := j) rfl hd1 rfl (by omega) (by first | omega | decide | (simp only [List.length_cons, List.length_nil, List.length_append, List.length_take, List.length_set]; omega)) Try.underlying24 inf39) rfl ?_
     obtain ⟨s1, hs1⟩ : ∃ x, z.raw[j]? = some x := ⟨_, List.getElem?_eq_getElem (by first | omega | decide | (simp only [List.length_cons, List.length_nil, List.length_append, List.length_take, List.length_set]; omega))⟩
     refine l_val wn (r_pln 5 [.int .i64 s1.time, .int .i64 s1.value] rfl rfl hd1 hs1 rfl rfl agg39 inf39) rfl ?_
     refine l_alloc wn inf39 rfl fun b13 => ?_
     refine l_stn 0 wn rfl rfl rfl inf39 rfl rfl rfl ?_
     refine l_nil (e_go hK27 ?_)
     refine c_seq fun _ hK28 => ?_
     refine c_region ?_
     refine l_val wn (r_fa rfl fld39_0) rfl ?_
     refine l_val wn (r_lb 0 rfl rfl rfl flat3) rfl ?_
     refine l_val wn (r_move rfl) rfl ?_
     refine l_val wn (r_geq rfl rfl) rfl ?_
     refine l_val wn (r_move rfl) rfl ?_
     refine l_case (t := 70) rfl (fun h8 => ?_) (fun h8 => ?_)
     · refine l_val (wg rfl rfl rfl) (r_fa rfl fld39_0) rfl ?_
       refine l_val (wg rfl rfl rfl) (r_lb 0 rfl rfl rfl flat3) rfl ?_
       refine l_val (wg rfl rfl rfl) (r_move rfl) rfl ?_
       refine l_val (wg rfl rfl rfl) (r_addn rfl rfl (by omega)) rfl ?_
       refine l_val (wg rfl rfl rfl) (r_lss rfl rfl) rfl ?_
       refine l_val wn (r_pick rfl rfl) rfl ?_
       refine l_nil (e_go hK28 ?_)
       refine c_cond rfl (fun h9 => ?_) (fun h9 => ?_)
       · refine c_region ?_
         refine l_val wn (r_move rfl) rfl ?_
         refine l_val wn (r_lbn 0 [.int .i64 s1.time, .int .i64 s1.value] rfl rfl rfl rfl agg39 inf39) rfl ?_
         refine l_bsL sampleE ([s1] : List Sample) wn Try.underlying24 inf39 rfl rfl rfl rfl (by decide) (by decide) rfl fun b79 => ?_
         refine l_app 2 (Roll.inT (z.raw.take j) (z.fineTo + 10 * (k : Int)) ((z.fineTo + 10 * (k : Int)) + 10)) ([s1] : List Sample) encSample wn rfl rfl rfl (fun _ hM => (RowSl encSample hM 0 rfl)) Try.underlying24 inf39 rfl rfl (by first | omega | (simp only [List.length_append, List.length_cons, List.length_nil]; omega)) rfl fun A4 cp4 hc4 hm4 hA4 => ?_
         refine l_val wn (r_assign rfl) rfl ?_
         refine l_nil (e_in_n (e_go hK26 ?_))
         refine c_region ?_
         refine l_val wn (r_addn rfl rfl (by omega)) rfl ?_
         refine l_val wn (r_move rfl) rfl ?_
         refine l_nil (e_round2 (j + 1) (.slice A4 (((Roll.inT (z.raw.take j) (z.fineTo + 10 * (k : Int)) ((z.fineTo + 10 * (k : Int)) + 10)) ++ ([s1] : List Sample)).length) cp4) (sc rfl (sc rfl (sc rfl (sc rfl (sc rfl (sc rfl (sc rfl (sc rfl (sc rfl (sc (ji (by first | omega | (simp only [Sh.coarseTo, Sh.fineTo, Sh.mx]; (repeat' split) <;> omega))) sn)))))))))) (fun _ h => by rw [(Roll.inT_succ (a := (z.fineTo + 10 * (k : Int))) (b := (z.fineTo + 10 * (k : Int)) + 10) hs1).trans (if_pos (by omega))]; exact (h.sel [2, 3, 4, 5, 6, 7, 8, 9] (by decide) rfl)) ?_ ?_)
         · omega
         omega
       refine c_skip (e_in_n (e_go hK26 ?_))
       refine c_region ?_
       refine l_val wn (r_addn rfl rfl (by omega)) rfl ?_
       refine l_val wn (r_move rfl) rfl ?_
       refine l_nil (e_round2 (j + 1) (.slice A3 ((Roll.inT (z.raw.take j) (z.fineTo + 10 * (k : Int)) ((z.fineTo + 10 * (k : Int)) + 10)).length) cp3) (sc rfl (sc rfl (sc rfl (sc rfl (sc rfl (sc rfl (sc rfl (sc rfl (sc rfl (sc (ji (by first | omega | (simp only [Sh.coarseTo, Sh.fineTo, Sh.mx]; (repeat' split) <;> omega))) sn)))))))))) (fun _ h => by rw [(Roll.inT_succ (a := (z.fineTo + 10 * (k : Int))) (b := (z.fineTo + 10 * (k : Int)) + 10) hs1).trans (if_neg (by omega))]; exact (h.sel [1, 2, 3, 4, 5, 6, 7, 8] (by decide) rfl)) ?_ ?_)
       · omega
       omega
     refine l_skip (wg rfl rfl rfl) rfl ?_
     refine l_skip (wg rfl rfl rfl) rfl ?_
     refine l_skip (wg rfl rfl rfl) rfl ?_
     refine l_skip (wg rfl rfl rfl) rfl ?_
     refine l_skip (wg rfl rfl rfl) rfl ?_
     refine l_val wn (r_pick rfl rfl) rfl ?_
     refine l_nil (e_go hK28 ?_)
     refine c_false rfl rfl ?_
     refine c_skip (e_in_n (e_go hK26 ?_))
     refine c_region ?_
     refine l_val wn (r_addn rfl rfl (by omega)) rfl ?_
     refine l_val wn (r_move rfl) rfl ?_
     refine l_nil (e_round2 (j + 1) (.slice A3 ((Roll.inT (z.raw.take j) (z.fineTo + 10 * (k : Int)) ((z.fineTo + 10 * (k : Int)) + 10)).length) cp3) (sc rfl (sc rfl (sc rfl (sc rfl (sc rfl (sc rfl (sc rfl (sc rfl (sc rfl (sc (ji (by first | omega | (simp only [Sh.coarseTo, Sh.fineTo, Sh.mx]; (repeat' split) <;> omega))) sn)))))))))) (fun _ h => by rw [(Roll.inT_succ (a := (z.fineTo + 10 * (k : Int))) (b := (z.fineTo + 10 * (k : Int)) + 10) hs1).trans (if_neg (by omega))]; exact (h.sel [1, 2, 3, 4, 5, 6, 7, 8] (by decide) rfl)) ?_ ?_)
     · omega
     omega
   have hk1 : z.raw.take j = z.raw := List.take_of_length_le (by omega)
   rw [hk1]
   rw [hk1] at hA3
   have hin := Roll.inT_len z.raw (z.fineTo + 10 * (k : Int)) ((z.fineTo + 10 * (k : Int)) + 10)
   refine c_exit (e_then_x (e_loop2_x (e_in_hit (e_go hK22 ?_))))
   refine c_seq fun _ hK29 => ?_
   refine c_region ?_
   refine l_val wn (r_move rfl) rfl ?_
   refine l_val wn (r_len rfl Try.underlying24) rfl ?_
   refine l_val wn (r_gtr rfl rfl) rfl ?_
   refine l_nil (e_go hK29 ?_)
   refine c_cond rfl (fun h10 => ?_) (fun h10 => ?_)
   · refine c_region ?_
     refine l_val wn (r_move rfl) rfl ?_
     refine l_val wn (r_move rfl) rfl ?_
     refine l_val wn (r_move rfl) rfl ?_
     refine l_callF wn rfl Try.call45 rfl (fun w1 hM => c_refOf _ (Roll.inT z.raw (z.fineTo + 10 * (k : Int)) ((z.fineTo + 10 * (k : Int)) + 10)) w1 (RowSl encSample hM 0 rfl) (by omega) (fun x hx => hor x (List.mem_filter.1 hx).1)) ?_
     refine l_val wn (r_build [.int .i64 (z.fineTo + 10 * (k : Int)), .int .i64 ((Agg.of (Roll.inT z.raw (z.fineTo + 10 * (k : Int)) ((z.fineTo + 10 * (k : Int)) + 10))).count), .int .i64 ((Agg.of (Roll.inT z.raw (z.fineTo + 10 * (k : Int)) ((z.fineTo + 10 * (k : Int)) + 10))).total), .int .i64 ((Agg.of (Roll.inT z.raw (z.fineTo + 10 * (k : Int)) ((z.fineTo + 10 * (k : Int)) + 10))).min), .int .i64 ((Agg.of (Roll.inT z.raw (z.fineTo + 10 * (k : Int)) ((z.fineTo + 10 * (k : Int)) + 10))).max), .int .i64 ((Agg.of (Roll.inT z.raw (z.fineTo + 10 * (k : Int)) ((z.fineTo + 10 * (k : Int)) + 10))).first), .int .i64 ((Agg.of (Roll.inT z.raw (z.fineTo + 10 * (k : Int)) ((z.fineTo + 10 * (k : Int)) + 10))).last), .int .i64 ((Agg.of (Roll.inT z.raw (z.fineTo + 10 * (k : Int)) ((z.fineTo + 10 * (k : Int)) + 10))).rise)] pl78 inf78 rfl rfl) rfl ?_
     refine l_bsL bucketE ([(⟨(z.fineTo + 10 * (k : Int)), (Agg.of (Roll.inT z.raw (z.fineTo + 10 * (k : Int)) ((z.fineTo + 10 * (k : Int)) + 10)))⟩ : Bucket)] : List Bucket) wn Try.underlying25 inf78 rfl rfl rfl rfl (by decide) (by decide) rfl fun b90 => ?_
     refine l_app 2 (z.fine ++ Roll.up (Roll.inT z.raw z.fineTo (z.fineTo + 10 * (k : Int))) 1) ([(⟨(z.fineTo + 10 * (k : Int)), (Agg.of (Roll.inT z.raw (z.fineTo + 10 * (k : Int)) ((z.fineTo + 10 * (k : Int)) + 10)))⟩ : Bucket)] : List Bucket) encBucket wn rfl rfl rfl (fun _ hM => (RowSl encBucket hM 0 rfl)) Try.underlying25 inf78 rfl rfl (by first | omega | (simp only [List.length_append, List.length_cons, List.length_nil]; omega)) rfl fun A5 cp5 hc5 hm5 hA5 => ?_
     refine l_val wn (r_assign rfl) rfl ?_
     refine l_nil (e_in_n (e_go hK20 ?_))
     refine c_region ?_
     refine l_val wn (r_move rfl) rfl ?_
     refine l_val wn (r_addn rfl rfl (by omega)) rfl ?_
     refine l_val wn (r_assign rfl) rfl ?_
     refine l_nil (e_round2 (k + 1) (.slice A5 (((z.fine ++ Roll.up (Roll.inT z.raw z.fineTo (z.fineTo + 10 * (k : Int))) 1) ++ ([(⟨(z.fineTo + 10 * (k : Int)), (Agg.of (Roll.inT z.raw (z.fineTo + 10 * (k : Int)) ((z.fineTo + 10 * (k : Int)) + 10)))⟩ : Bucket)] : List Bucket)).length) cp5) (sc rfl (sc rfl (sc rfl (sc rfl (sc rfl (sc (ji (by first | omega | (simp only [Sh.coarseTo, Sh.fineTo, Sh.mx]; (repeat' split) <;> omega))) sn)))))) (fun _ h => by rw [(Sh.fine_next (Sh.ok_of h1) k).trans (if_neg (fun g => by rw [g] at h10; simp at h10))]; exact (h.sel [2, 3, 4, 5, 6, 7, 8] (by decide) rfl)) ?_ ?_)
     · omega
     omega
   refine c_skip (e_in_n (e_go hK20 ?_))
   refine c_region ?_
   refine l_val wn (r_move rfl) rfl ?_
   refine l_val wn (r_addn rfl rfl (by omega)) rfl ?_
   refine l_val wn (r_assign rfl) rfl ?_
   refine l_nil (e_round2 (k + 1) (.slice A2 ((z.fine ++ Roll.up (Roll.inT z.raw z.fineTo (z.fineTo + 10 * (k : Int))) 1).length) cp2) (sc rfl (sc rfl (sc rfl (sc rfl (sc rfl (sc (ji (by first | omega | (simp only [Sh.coarseTo, Sh.fineTo, Sh.mx]; (repeat' split) <;> omega))) sn)))))) (fun _ h => by rw [(Sh.fine_next (Sh.ok_of h1) k).trans (if_pos (List.eq_nil_of_length_eq_zero (by omega)))]; exact (h.sel [1, 2, 3, 4, 5, 6, 7] (by decide) rfl)) ?_ ?_)
   · omega
   omega
 have he : z.fineTo + 10 * (k : Int) = Sh.fineTo z to := by omega
 rw [he]
 have hfl : z.fine ++ Roll.up (Roll.inT z.raw z.fineTo (Sh.fineTo z to)) 1 = Sh.fineL z to := rfl
 rw [hfl]
 have hfll := Sh.fineL_len (to := to) (Sh.ok_of h1)
 refine c_exit (e_then_x (e_loop2_x (e_in_hit (e_go hK16 ?_))))
 refine c_seq fun _ hK30 => ?_
 refine c_region ?_
 refine l_bsL0 bucketE wn Try.underlying25 inf78 rfl fun b92 => ?_
 refine l_val wn (r_fa rfl fld27_3) rfl ?_
 refine l_val wn (r_lb 3 rfl rfl rfl flat25) rfl ?_
 refine l_app 0 ([] : List Bucket) z.coarse encBucket wn rfl rfl rfl (fun _ hM => (hM.slp 7 rfl)) Try.underlying25 inf78 rfl rfl (by first | omega | (simp only [List.length_append, List.length_cons, List.length_nil]; omega)) rfl fun A6 cp6 hc6 hm6 hA6 => ?_
 refine l_val wn (r_assign rfl) rfl ?_
 refine l_nil (e_go hK30 ?_)
 refine c_seq fun _ hK31 => ?_
 refine c_seq fun _ hK32 => ?_
 refine c_region ?_
 refine l_val wn (r_fa rfl fld27_8) rfl ?_
 refine l_val wn (r_lb 3 rfl rfl rfl flat3) rfl ?_
 refine l_val wn (r_assign rfl) rfl ?_
 refine l_nil (e_go hK32 ?_)
 refine c_block ?_
 refine c_loop2 (fun (k : Nat) (vr2 : Value) => [(2, .pointer (some ⟨b2, 0, none⟩)), (4, .pointer (some ⟨b4, 0, none⟩)), (7, .int .i64 (Sh.fineTo z to)), (8, .int .i64 (Sh.coarseTo z to)), (9, .slice A2 ((Sh.fineL z to).length) cp2), (14, vr2), (15, .int .i64 (z.coarseTo + 60 * (k : Int)))]) (fun (k : Nat) (vr2 : Value) => [Row vr2 78 8 bucketE (z.coarse ++ Roll.greater (Sh.bIn (Sh.fineL z to) z.coarseTo (z.coarseTo + 60 * (k : Int)))), Row (.slice A2 ((Sh.fineL z to).length) cp2) 78 8 bucketE (Sh.fineL z to), .blk b4 [.slice none 0 0, .slice none 0 0, .slice none 0 0, .slice none 0 0, .int .i64 0, .int .i64 0, .int .i64 0, .int .i64 0, .int .i64 0] 27, .blk b2 [.slice z0A z.series.length z0c, .slice z1A z.raw.length z1c, .slice z2A z.fine.length z2c, .slice z3A z.coarse.length z3c, .int .i64 z.rawFrom, .int .i64 z.fineFrom, .int .i64 z.fineTo, .int .i64 z.coarseFrom, .int .i64 z.coarseTo] 27, slP 2 labelE (.slice z0A z.series.length z0c) z.series, slP 2 sampleE (.slice z1A z.raw.length z1c) z.raw, slP 8 bucketE (.slice z2A z.fine.length z2c) z.fine, slP 8 bucketE (.slice z3A z.coarse.length z3c) z.coarse]) (fun (k : Nat) (vr2 : Value) => z.coarseTo + 60 * (k : Int) ≤ Sh.coarseTo z to) (fun (k : Nat) (vr2 : Value) => (Sh.coarseTo z to - (z.coarseTo + 60 * (k : Int))).toNat) 0 (.slice A6 ((([] : List Bucket) ++ z.coarse).length) cp6) (sc rfl (sc rfl (sc rfl (sc rfl (sc rfl (sc rfl (sc (ji (by first | omega | (simp only [Sh.coarseTo, Sh.fineTo, Sh.mx]; (repeat' split) <;> omega))) sn))))))) (fun _ h => by rw [Sh.coarse_start]; exact h) ?_ (fun k vr2 hI3 => ?_)
 · omega
 have hck := Sh.coarse_len (to := to) (Sh.ok_of h1) z.coarseTo (z.coarseTo + 60 * (k : Int))
 rw [List.length_append] at hck
 refine c_open 0 (l := (z.coarse ++ Roll.greater (Sh.bIn (Sh.fineL z to) z.coarseTo (z.coarseTo + 60 * (k : Int))))) rfl fun A7 cp7 hv3 hc7 hm7 hA7 => ?_
 subst hv3
 refine c_seq fun _ hK33 => ?_
 refine c_seq fun _ hK34 => ?_
 refine c_region ?_
 refine l_val wn (r_move rfl) rfl ?_
 refine l_val wn (r_move rfl) rfl ?_
 refine l_val wn (r_lss rfl rfl) rfl ?_
 refine l_nil (e_go hK34 ?_)
 refine c_cond rfl (fun h11 => ?_) (fun h11 => ?_)
 · refine c_skip (e_go hK33 ?_)
   refine c_seq fun _ hK35 => ?_
   refine c_block ?_
   refine c_seq fun _ hK36 => ?_
   refine c_region ?_
   refine l_val wn (r_move rfl) rfl ?_
   refine l_val wn (r_move rfl) rfl ?_
   refine l_val wn (r_move rfl) rfl ?_
   refine l_val wn (r_addn rfl rfl (by omega)) rfl ?_
   refine l_callF wn rfl Try.call60 rfl (fun w1 hM => c_refIn _ (Sh.fineL z to) (z.coarseTo + 60 * (k : Int)) ((z.coarseTo + 60 * (k : Int)) + 60) w1 (RowSl encBucket hM 1 rfl)) ?_
   refine l_alloc wn inf35 rfl fun b16 => ?_
   refine l_stn 0 wn rfl rfl rfl inf35 rfl rfl rfl ?_
   refine l_nil (e_go hK36 ?_)
   refine c_seq fun _ hK37 => ?_
   refine c_region ?_
   refine l_val wn (r_fa rfl fld35_0) rfl ?_
   refine l_val wn (r_lb 0 rfl rfl rfl flat3) rfl ?_
   refine l_val wn (r_gtr rfl rfl) rfl ?_
   refine l_nil (e_go hK37 ?_)
   refine c_cond rfl (fun h12 => ?_) (fun h12 => ?_)
   · refine c_region ?_
     refine l_val wn (r_move rfl) rfl ?_
     refine l_val wn (r_move rfl) rfl ?_
     refine l_val wn (r_lbn 0 [.int .i64 ((Roll.of (Sh.fineL z to) (z.coarseTo + 60 * (k : Int)) ((z.coarseTo + 60 * (k : Int)) + 60)).count), .int .i64 ((Roll.of (Sh.fineL z to) (z.coarseTo + 60 * (k : Int)) ((z.coarseTo + 60 * (k : Int)) + 60)).total), .int .i64 ((Roll.of (Sh.fineL z to) (z.coarseTo + 60 * (k : Int)) ((z.coarseTo + 60 * (k : Int)) + 60)).min), .int .i64 ((Roll.of (Sh.fineL z to) (z.coarseTo + 60 * (k : Int)) ((z.coarseTo + 60 * (k : Int)) + 60)).max), .int .i64 ((Roll.of (Sh.fineL z to) (z.coarseTo + 60 * (k : Int)) ((z.coarseTo + 60 * (k : Int)) + 60)).first), .int .i64 ((Roll.of (Sh.fineL z to) (z.coarseTo + 60 * (k : Int)) ((z.coarseTo + 60 * (k : Int)) + 60)).last), .int .i64 ((Roll.of (Sh.fineL z to) (z.coarseTo + 60 * (k : Int)) ((z.coarseTo + 60 * (k : Int)) + 60)).rise)] rfl rfl rfl rfl agg35 inf35) rfl ?_
     refine l_val wn (r_build [.int .i64 (z.coarseTo + 60 * (k : Int)), .int .i64 ((Roll.of (Sh.fineL z to) (z.coarseTo + 60 * (k : Int)) ((z.coarseTo + 60 * (k : Int)) + 60)).count), .int .i64 ((Roll.of (Sh.fineL z to) (z.coarseTo + 60 * (k : Int)) ((z.coarseTo + 60 * (k : Int)) + 60)).total), .int .i64 ((Roll.of (Sh.fineL z to) (z.coarseTo + 60 * (k : Int)) ((z.coarseTo + 60 * (k : Int)) + 60)).min), .int .i64 ((Roll.of (Sh.fineL z to) (z.coarseTo + 60 * (k : Int)) ((z.coarseTo + 60 * (k : Int)) + 60)).max), .int .i64 ((Roll.of (Sh.fineL z to) (z.coarseTo + 60 * (k : Int)) ((z.coarseTo + 60 * (k : Int)) + 60)).first), .int .i64 ((Roll.of (Sh.fineL z to) (z.coarseTo + 60 * (k : Int)) ((z.coarseTo + 60 * (k : Int)) + 60)).last), .int .i64 ((Roll.of (Sh.fineL z to) (z.coarseTo + 60 * (k : Int)) ((z.coarseTo + 60 * (k : Int)) + 60)).rise)] pl78 inf78 rfl rfl) rfl ?_
     refine l_bsL bucketE ([(⟨(z.coarseTo + 60 * (k : Int)), (Roll.of (Sh.fineL z to) (z.coarseTo + 60 * (k : Int)) ((z.coarseTo + 60 * (k : Int)) + 60))⟩ : Bucket)] : List Bucket) wn Try.underlying25 inf78 rfl rfl rfl rfl (by decide) (by decide) rfl fun b115 => ?_
     refine l_app 2 (z.coarse ++ Roll.greater (Sh.bIn (Sh.fineL z to) z.coarseTo (z.coarseTo + 60 * (k : Int)))) ([(⟨(z.coarseTo + 60 * (k : Int)), (Roll.of (Sh.fineL z to) (z.coarseTo + 60 * (k : Int)) ((z.coarseTo + 60 * (k : Int)) + 60))⟩ : Bucket)] : List Bucket) encBucket wn rfl rfl rfl (fun _ hM => (RowSl encBucket hM 0 rfl)) Try.underlying25 inf78 rfl rfl (by first | omega | (simp only [List.length_append, List.length_cons, List.length_nil]; omega)) rfl fun A8 cp8 hc8 hm8 hA8 => ?_
     refine l_val wn (r_assign rfl) rfl ?_
     refine l_nil (e_in_n (e_go hK35 ?_))
     refine c_region ?_
     refine l_val wn (r_move rfl) rfl ?_
     refine l_val wn (r_addn rfl rfl (by omega)) rfl ?_
     refine l_val wn (r_assign rfl) rfl ?_
     refine l_nil (e_round2 (k + 1) (.slice A8 (((z.coarse ++ Roll.greater (Sh.bIn (Sh.fineL z to) z.coarseTo (z.coarseTo + 60 * (k : Int)))) ++ ([(⟨(z.coarseTo + 60 * (k : Int)), (Roll.of (Sh.fineL z to) (z.coarseTo + 60 * (k : Int)) ((z.coarseTo + 60 * (k : Int)) + 60))⟩ : Bucket)] : List Bucket)).length) cp8) (sc rfl (sc rfl (sc rfl (sc rfl (sc rfl (sc rfl (sc (ji (by first | omega | (simp only [Sh.coarseTo, Sh.fineTo, Sh.mx]; (repeat' split) <;> omega))) sn))))))) (fun _ h => by rw [(Sh.coarse_next (Sh.ok_of h1) (by omega) (by omega) k).trans (if_pos h12)]; exact (h.sel [2, 3, 4, 5, 6, 7, 8, 9] (by decide) rfl)) ?_ ?_)
     · omega
     omega
   refine c_skip (e_in_n (e_go hK35 ?_))
   refine c_region ?_
   refine l_val wn (r_move rfl) rfl ?_
   refine l_val wn (r_addn rfl rfl (by omega)) rfl ?_
   refine l_val wn (r_assign rfl) rfl ?_
   refine l_nil (e_round2 (k + 1) (.slice A7 ((z.coarse ++ Roll.greater (Sh.bIn (Sh.fineL z to) z.coarseTo (z.coarseTo + 60 * (k : Int)))).length) cp7) (sc rfl (sc rfl (sc rfl (sc rfl (sc rfl (sc rfl (sc (ji (by first | omega | (simp only [Sh.coarseTo, Sh.fineTo, Sh.mx]; (repeat' split) <;> omega))) sn))))))) (fun _ h => by rw [(Sh.coarse_next (Sh.ok_of h1) (by omega) (by omega) k).trans (if_neg h12)]; exact (h.sel [1, 2, 3, 4, 5, 6, 7, 8] (by decide) rfl)) ?_ ?_)
   · omega
   omega
 have he2 : z.coarseTo + 60 * (k : Int) = Sh.coarseTo z to := by omega
 rw [he2]
 have hcl : z.coarse ++ Roll.greater (Sh.bIn (Sh.fineL z to) z.coarseTo (Sh.coarseTo z to)) = Sh.coarseL z to := rfl
 rw [hcl]
 refine c_exit (e_then_x (e_loop2_x (e_in_hit (e_go hK31 ?_))))
 refine c_seq fun _ hK38 => ?_
 refine c_seq fun _ hK39 => ?_
 refine c_region ?_
 refine l_val wn (r_move rfl) rfl ?_
 refine l_val wn (r_len rfl Try.underlying25) rfl ?_
 refine l_val wn (r_gtr rfl rfl) rfl ?_
 refine l_val wn (r_move rfl) rfl ?_
 refine l_case (t := 120) rfl (fun h13 => ?_) (fun h13 => ?_)
 · refine l_skip (wg rfl rfl rfl) rfl ?_
   refine l_skip (wg rfl rfl rfl) rfl ?_
   refine l_skip (wg rfl rfl rfl) rfl ?_
   refine l_val wn (r_pick rfl rfl) rfl ?_
   refine l_nil (e_go hK39 ?_)
   refine c_true rfl rfl ?_
   refine c_seq fun _ hK40 => ?_
   refine c_region ?_
   refine l_val wn (r_build [.slice none 0 0, .slice none 0 0, .slice none 0 0, .slice none 0 0, .int .i64 0, .int .i64 0, .int .i64 0, .int .i64 0, .int .i64 0] pl27 inf27 rfl rfl) rfl ?_
   refine l_stn 2 wn rfl rfl rfl inf27 rfl rfl rfl ?_
   refine l_val wn (r_assign rfl) rfl ?_
   refine l_nil (e_go hK40 ?_)
   refine c_ret (e_then_r (e_ret2 (.inl rfl) Try.results26 (rv_cell 2 rfl rfl agg27 inf27 rfl) (rv_tmp rfl) fun w1 hM => ?_))
   have he : Sh.roll z to = ((⟨([] : List Label), ([] : List Sample), ([] : List Bucket), ([] : List Bucket), 0, 0, 0, 0, 0⟩ : Shelf), 5) := Sh.roll_many h1 (fun g => by omega) (.inl h13)
   rw [he]
   exact hM.retSh (s' := (⟨([] : List Label), ([] : List Sample), ([] : List Bucket), ([] : List Bucket), 0, 0, 0, 0, 0⟩ : Shelf)) (fun u => .tuple (List.toArray [u, .int .i64 5])) rfl (rfl) (fun _ _ => FlatSl.nil_ _ _ _ _) (fun _ _ => FlatSl.nil_ _ _ _ _) (fun _ _ => FlatSl.nil_ _ _ _ _) (fun _ _ => FlatSl.nil_ _ _ _ _)
 refine l_val (wg rfl rfl rfl) (r_move rfl) rfl ?_
 refine l_val (wg rfl rfl rfl) (r_len rfl Try.underlying25) rfl ?_
 refine l_val (wg rfl rfl rfl) (r_gtr rfl rfl) rfl ?_
 refine l_val wn (r_pick rfl rfl) rfl ?_
 refine l_nil (e_go hK39 ?_)
 refine c_cond rfl (fun h14 => ?_) (fun h14 => ?_)
 · refine c_seq fun _ hK41 => ?_
   refine c_region ?_
   refine l_val wn (r_build [.slice none 0 0, .slice none 0 0, .slice none 0 0, .slice none 0 0, .int .i64 0, .int .i64 0, .int .i64 0, .int .i64 0, .int .i64 0] pl27 inf27 rfl rfl) rfl ?_
   refine l_stn 2 wn rfl rfl rfl inf27 rfl rfl rfl ?_
   refine l_val wn (r_assign rfl) rfl ?_
   refine l_nil (e_go hK41 ?_)
   refine c_ret (e_then_r (e_ret2 (.inl rfl) Try.results26 (rv_cell 2 rfl rfl agg27 inf27 rfl) (rv_tmp rfl) fun w1 hM => ?_))
   have he : Sh.roll z to = ((⟨([] : List Label), ([] : List Sample), ([] : List Bucket), ([] : List Bucket), 0, 0, 0, 0, 0⟩ : Shelf), 5) := Sh.roll_many h1 (fun g => by omega) (.inr h14)
   rw [he]
   exact hM.retSh (s' := (⟨([] : List Label), ([] : List Sample), ([] : List Bucket), ([] : List Bucket), 0, 0, 0, 0, 0⟩ : Shelf)) (fun u => .tuple (List.toArray [u, .int .i64 5])) rfl (rfl) (fun _ _ => FlatSl.nil_ _ _ _ _) (fun _ _ => FlatSl.nil_ _ _ _ _) (fun _ _ => FlatSl.nil_ _ _ _ _) (fun _ _ => FlatSl.nil_ _ _ _ _)
 refine c_skip (e_go hK38 ?_)
 refine c_seq fun _ hK42 => ?_
 refine c_region ?_
 refine l_val wn (r_move rfl) rfl ?_
 refine l_val wn (r_move rfl) rfl ?_
 refine l_val wn (r_move rfl) rfl ?_
 refine l_val wn (r_move rfl) rfl ?_
 refine l_val wn (r_fa rfl fld27_2) rfl ?_
 refine l_st1 3 wn rfl rfl rfl rfl inf25 rfl rfl ?_
 refine l_val wn (r_fa rfl fld27_3) rfl ?_
 refine l_st1 3 wn rfl rfl rfl rfl inf25 rfl rfl ?_
 refine l_val wn (r_fa rfl fld27_6) rfl ?_
 refine l_st1 3 wn rfl rfl rfl rfl inf3 rfl rfl ?_
 refine l_val wn (r_fa rfl fld27_8) rfl ?_
 refine l_st1 3 wn rfl rfl rfl rfl inf3 rfl rfl ?_
 refine l_nil (e_go hK42 ?_)
 refine c_seq fun _ hK43 => ?_
 refine c_region ?_
 refine l_val wn (r_lbn 3 [.slice z0A z.series.length z0c, .slice z1A z.raw.length z1c, .slice A2 ((Sh.fineL z to).length) cp2, .slice A7 ((Sh.coarseL z to).length) cp7, .int .i64 z.rawFrom, .int .i64 z.fineFrom, .int .i64 (Sh.fineTo z to), .int .i64 z.coarseFrom, .int .i64 (Sh.coarseTo z to)] rfl rfl rfl rfl agg27 inf27) rfl ?_
 refine l_stn 2 wn rfl rfl rfl inf27 rfl rfl rfl ?_
 refine l_val wn (r_assign rfl) rfl ?_
 refine l_nil (e_go hK43 ?_)
 refine c_ret (e_ret2 (.inl rfl) Try.results26 (rv_cell 2 rfl rfl agg27 inf27 rfl) (rv_tmp rfl) fun w1 hM => ?_)
 have he : Sh.roll z to = ((⟨z.series, z.raw, (Sh.fineL z to), (Sh.coarseL z to), z.rawFrom, z.fineFrom, (Sh.fineTo z to), z.coarseFrom, (Sh.coarseTo z to)⟩ : Shelf), 0) := Sh.roll_ok h1 (fun g => by omega) h13 h14
 rw [he]
 have hM := hM.sealRow encBucket (i := 1) rfl rfl
 have hM := hM.sealRow encBucket (i := 0) rfl rfl
 exact hM.retSh (s' := (⟨z.series, z.raw, (Sh.fineL z to), (Sh.coarseL z to), z.rawFrom, z.fineFrom, (Sh.fineTo z to), z.coarseFrom, (Sh.coarseTo z to)⟩ : Shelf)) (fun u => .tuple (List.toArray [u, .int .i64 0])) rfl (rfl) (fun _ pp => pp.sl 4 rfl) (fun _ pp => pp.sl 5 rfl) (fun _ pp => pp.sl 1 rfl) (fun _ pp => pp.sl 0 rfl)

end Go.Proofs.Ytnbkennlmnnbeaa
