/-
  Walks: what each function hands back.
-/
import Derived.Test.YtldecdningjkoaaFacts
import Derived.Test.YtldecdningjkoaaPure
namespace Go.Proofs.Ytldecdningjkoaa
open Ex
set_option linter.unusedVariables false
set_option linter.unusedSimpArgs false
theorem c_rise (a : Int) (b : Int) (w : World)   :
    Calls Try.prog 63 #[.int .i64 a, .int .i64 b] w (Ret w (.int .i64 (Agg.rise a b))) := by
 refine fstart (N := 12) (vals := [.int .i64 a, .int .i64 b]) (S := Mem w no []) Try.func63 rfl rfl rfl (Mem.ofDats dn) ?_
 refine c_seq fun _ hK1 => ?_
 refine c_region ?_
 refine l_val wn (r_assign rfl) rfl ?_
 refine l_nil (e_go hK1 ?_)
 refine c_seq fun _ hK2 => ?_
 refine c_seq fun _ hK3 => ?_
 refine c_region ?_
 refine l_val wn (r_move rfl) rfl ?_
 refine l_val wn (r_move rfl) rfl ?_
 refine l_val wn (r_lss rfl rfl) rfl ?_
 refine l_nil (e_go hK3 ?_)
 refine c_cond rfl (fun h1 => ?_) (fun h1 => ?_)
 · refine c_seq fun _ hK4 => ?_
   refine c_region ?_
   refine l_val wn (r_move rfl) rfl ?_
   refine l_val wn (r_assign rfl) rfl ?_
   refine l_nil (e_go hK4 ?_)
   refine c_ret (e_then_r (e_ret1 (.inl rfl) Try.results63 (rv_tmp rfl) fun w1 hM => ?_))
   exact ret_ok (by simp [Agg.rise, h1]) hM
 refine c_skip (e_go hK2 ?_)
 refine c_seq fun _ hK5 => ?_
 refine c_region ?_
 refine l_val wn (r_move rfl) rfl ?_
 refine l_val wn (r_move rfl) rfl ?_
 refine l_val wn (r_sub rfl rfl) rfl ?_
 refine l_val wn (r_assign rfl) rfl ?_
 refine l_nil (e_go hK5 ?_)
 refine c_ret (e_ret1 (.inl rfl) Try.results63 (rv_tmp rfl) fun w1 hM => ?_)
 exact ret_ok (by simp [Agg.rise, h1]) hM

theorem c_One (v : Int) (w : World)   :
    Calls Try.prog 45 #[.int .i64 v] w (Ret w (.agg (sumE (Agg.one v)).toArray)) := by
 refine fstart (N := 9) (vals := [.int .i64 v]) (S := Mem w no []) Try.func45 rfl rfl rfl (Mem.ofDats dn) ?_
 refine c_seq fun _ hK1 => ?_
 refine c_region ?_
 refine l_alloc wn inf62 rfl fun b2 => ?_
 refine l_nil (e_go hK1 ?_)
 refine c_seq fun _ hK2 => ?_
 refine c_region ?_
 refine l_val wn (r_move rfl) rfl ?_
 refine l_val wn (r_move rfl) rfl ?_
 refine l_val wn (r_move rfl) rfl ?_
 refine l_val wn (r_move rfl) rfl ?_
 refine l_val wn (r_move rfl) rfl ?_
 refine l_val wn (r_build [.int .i64 1, .int .i64 v, .int .i64 v, .int .i64 v, .int .i64 v, .int .i64 v, .int .i64 0] pl62 inf62 rfl rfl) rfl ?_
 refine l_stn 0 wn rfl rfl rfl inf62 rfl rfl rfl ?_
 refine l_nil (e_go hK2 ?_)
 refine c_ret (e_ret1 (.inl rfl) Try.results45 (rv_cell 0 rfl rfl agg62 inf62 rfl) fun w1 hM => ?_)
 exact ret_agg rfl hM

theorem c_Join (a : Sum) (b : Sum) (w : World)   :
    Calls Try.prog 44 #[.agg (sumE a).toArray, .agg (sumE b).toArray] w (Ret w (.agg (sumE (Agg.join a b)).toArray)) := by
 refine fstart (N := 51) (vals := [.agg (sumE a).toArray, .agg (sumE b).toArray]) (S := Mem w no []) Try.func44 rfl rfl rfl (Mem.ofDats dn) ?_
 refine c_seq fun _ hK1 => ?_
 refine c_region ?_
 refine l_box wn rfl rfl fun b2 => ?_
 refine l_box wn rfl rfl fun b3 => ?_
 refine l_alloc wn inf62 rfl fun b4 => ?_
 refine l_nil (e_go hK1 ?_)
 refine c_seq fun _ hK2 => ?_
 refine c_block ?_
 refine c_seq fun _ hK3 => ?_
 refine c_region ?_
 refine l_val wn (r_fa rfl fld62_0) rfl ?_
 refine l_val wn (r_lb 2 rfl rfl rfl flat3) rfl ?_
 refine l_val wn (r_eql rfl rfl) rfl ?_
 refine l_val wn (r_assign rfl) rfl ?_
 refine l_nil (e_go hK3 ?_)
 refine c_cond rfl (fun h1 => ?_) (fun h1 => ?_)
 · refine c_seq fun _ hK4 => ?_
   refine c_region ?_
   refine l_val wn (r_lbn 1 [.int .i64 b.count, .int .i64 b.total, .int .i64 b.min, .int .i64 b.max, .int .i64 b.first, .int .i64 b.last, .int .i64 b.rise] rfl rfl rfl rfl agg62 inf62) rfl ?_
   refine l_stn 0 wn rfl rfl rfl inf62 rfl rfl rfl ?_
   refine l_nil (e_go hK4 ?_)
   refine c_ret (e_in_r (e_then_r (e_ret1 (.inl rfl) Try.results44 (rv_cell 0 rfl rfl agg62 inf62 rfl) fun w1 hM => ?_)))
   exact ret_agg (l1 := [.int .i64 b.count, .int .i64 b.total, .int .i64 b.min, .int .i64 b.max, .int .i64 b.first, .int .i64 b.last, .int .i64 b.rise]) (by simp [Agg.join, sumE, h1]) hM
 refine c_seq fun _ hK5 => ?_
 refine c_region ?_
 refine l_val wn (r_fa rfl fld62_0) rfl ?_
 refine l_val wn (r_lb 1 rfl rfl rfl flat3) rfl ?_
 refine l_val wn (r_eql rfl rfl) rfl ?_
 refine l_val wn (r_assign rfl) rfl ?_
 refine l_nil (e_go hK5 ?_)
 refine c_cond rfl (fun h2 => ?_) (fun h2 => ?_)
 · refine c_seq fun _ hK6 => ?_
   refine c_region ?_
   refine l_val wn (r_lbn 2 [.int .i64 a.count, .int .i64 a.total, .int .i64 a.min, .int .i64 a.max, .int .i64 a.first, .int .i64 a.last, .int .i64 a.rise] rfl rfl rfl rfl agg62 inf62) rfl ?_
   refine l_stn 0 wn rfl rfl rfl inf62 rfl rfl rfl ?_
   refine l_nil (e_go hK6 ?_)
   refine c_ret (e_in_r (e_then_r (e_ret1 (.inl rfl) Try.results44 (rv_cell 0 rfl rfl agg62 inf62 rfl) fun w1 hM => ?_)))
   exact ret_agg (l1 := [.int .i64 a.count, .int .i64 a.total, .int .i64 a.min, .int .i64 a.max, .int .i64 a.first, .int .i64 a.last, .int .i64 a.rise]) (by simp [Agg.join, sumE, h1, h2]) hM
 refine c_skip (e_in_n (e_go hK2 ?_))
 refine c_seq fun _ hK7 => ?_
 refine c_quietT 36 mix (by kernel_rfl) (fun _ h => h.drew) fun _ hT1 => ?_
 refine q_val wn (r_fa rfl fld62_0) rfl ?_
 refine q_val wn (r_lb 2 rfl rfl rfl flat3) rfl ?_
 refine q_val wn (r_fa rfl fld62_0) rfl ?_
 refine q_val wn (r_lb 1 rfl rfl rfl flat3) rfl ?_
 refine q_val wn (r_add rfl rfl) rfl ?_
 refine q_val wn (r_fa rfl fld62_1) rfl ?_
 refine q_val wn (r_lb 2 rfl rfl rfl flat3) rfl ?_
 refine q_val wn (r_fa rfl fld62_1) rfl ?_
 refine q_val wn (r_lb 1 rfl rfl rfl flat3) rfl ?_
 refine q_val wn (r_add rfl rfl) rfl ?_
 refine q_val wn (r_fa rfl fld62_2) rfl ?_
 refine q_val wn (r_lb 2 rfl rfl rfl flat3) rfl ?_
 refine q_val wn (r_fa rfl fld62_2) rfl ?_
 refine q_val wn (r_lb 1 rfl rfl rfl flat3) rfl ?_
 refine q_val wn (r_min rfl rfl) rfl ?_
 refine q_val wn (r_fa rfl fld62_3) rfl ?_
 refine q_val wn (r_lb 2 rfl rfl rfl flat3) rfl ?_
 refine q_val wn (r_fa rfl fld62_3) rfl ?_
 refine q_val wn (r_lb 1 rfl rfl rfl flat3) rfl ?_
 refine q_val wn (r_max rfl rfl) rfl ?_
 refine q_val wn (r_fa rfl fld62_4) rfl ?_
 refine q_val wn (r_lb 2 rfl rfl rfl flat3) rfl ?_
 refine q_val wn (r_fa rfl fld62_5) rfl ?_
 refine q_val wn (r_lb 1 rfl rfl rfl flat3) rfl ?_
 refine q_val wn (r_fa rfl fld62_6) rfl ?_
 refine q_val wn (r_lb 2 rfl rfl rfl flat3) rfl ?_
 refine q_val wn (r_fa rfl fld62_5) rfl ?_
 refine q_val wn (r_lb 2 rfl rfl rfl flat3) rfl ?_
 refine q_val wn (r_fa rfl fld62_4) rfl ?_
 refine q_val wn (r_lb 1 rfl rfl rfl flat3) rfl ?_
 refine q_callF wn rfl Try.call63 rfl (fun w1 hM => c_rise a.last b.first w1) ?_
 refine q_val wn (r_add rfl rfl) rfl ?_
 refine q_val wn (r_fa rfl fld62_6) rfl ?_
 refine q_val wn (r_lb 1 rfl rfl rfl flat3) rfl ?_
 refine q_val wn (r_add rfl rfl) rfl ?_
 refine q_val wn (r_build [.int .i64 (IntKind.wrap .i64 (a.count + b.count)), .int .i64 (IntKind.wrap .i64 (a.total + b.total)), .int .i64 (if b.min < a.min then b.min else a.min), .int .i64 (if a.max < b.max then b.max else a.max), .int .i64 a.first, .int .i64 b.last, .int .i64 (IntKind.wrap .i64 ((IntKind.wrap .i64 (a.rise + (Agg.rise a.last b.first))) + b.rise))] pl62 inf62 rfl rfl) rfl ?_
 refine q_tail hT1 ?_
 refine l_stn 0 wn rfl rfl rfl inf62 rfl rfl rfl ?_
 refine l_nil (e_go hK7 ?_)
 refine c_ret (e_ret1 (.inl rfl) Try.results44 (rv_cell 0 rfl rfl agg62 inf62 rfl) fun w1 hM => ?_)
 exact ret_agg (l1 := [.int .i64 (IntKind.wrap .i64 (a.count + b.count)), .int .i64 (IntKind.wrap .i64 (a.total + b.total)), .int .i64 (if b.min < a.min then b.min else a.min), .int .i64 (if a.max < b.max then b.max else a.max), .int .i64 a.first, .int .i64 b.last, .int .i64 (IntKind.wrap .i64 ((IntKind.wrap .i64 (a.rise + (Agg.rise a.last b.first))) + b.rise))]) (by simp [Agg.join, sumE, h1, h2]) hM

theorem c_Of (lv : Value) (l : List Sample) (w : World) (hl : FlatSl (In w) 2 sampleE lv l w)  :
    Calls Try.prog 24 #[lv] w (Ret w (.agg (sumE (Agg.of l)).toArray)) := by
 obtain ⟨lA, lc, rfl, hlc, hlm, hlA⟩ := hl.form
 refine fstart (N := 19) (vals := [.slice lA l.length lc]) (S := Mem w no [slO (In w) 2 sampleE (.slice lA l.length lc) l]) Try.func24 rfl rfl rfl (Mem.ofDats (dc (dl hl) dn)) ?_
 refine c_seq fun _ hK1 => ?_
 refine c_region ?_
 refine l_alloc wn inf62 rfl fun b2 => ?_
 refine l_nil (e_go hK1 ?_)
 refine c_seq fun _ hK2 => ?_
 refine c_region ?_
 refine l_alloc wn inf62 rfl fun b3 => ?_
 refine l_nil (e_go hK2 ?_)
 refine c_seq fun _ hK3 => ?_
 refine c_seq fun _ hK4 => ?_
 refine c_region ?_
 refine l_val wn (r_move rfl) rfl ?_
 refine l_val wn (r_len rfl Try.underlying47) rfl ?_
 refine l_val wn (r_move rfl) rfl ?_
 refine l_nil (e_go hK4 ?_)
 refine c_block ?_
 refine c_loop1 (fun (k : Nat) => [(2, .pointer (some ⟨b2, 0, none⟩)), (3, .pointer (some ⟨b3, 0, none⟩)), (6, .slice lA l.length lc), (7, .int .i64 (l.length : Int)), (8, .int .i64 (k : Int))]) (fun (k : Nat) => [.blk b3 [.int .i64 ((Agg.of (l.take k)).count), .int .i64 ((Agg.of (l.take k)).total), .int .i64 ((Agg.of (l.take k)).min), .int .i64 ((Agg.of (l.take k)).max), .int .i64 ((Agg.of (l.take k)).first), .int .i64 ((Agg.of (l.take k)).last), .int .i64 ((Agg.of (l.take k)).rise)] 62, .blk b2 [.int .i64 0, .int .i64 0, .int .i64 0, .int .i64 0, .int .i64 0, .int .i64 0, .int .i64 0] 62, slO (In w) 2 sampleE (.slice lA l.length lc) l]) (fun (k : Nat) => k ≤ l.length) (fun (k : Nat) => l.length - k) 0 (sc rfl (sc rfl (sc rfl (sc rfl (sc (ji (by omega)) sn))))) (fun _ h => h) ?_ (fun k hI1 => ?_)
 · omega
 refine c_seq fun _ hK5 => ?_
 refine c_region ?_
 refine l_val wn (r_lss rfl rfl) rfl ?_
 refine l_nil (e_go hK5 ?_)
 refine c_seq fun _ hK6 => ?_
 refine c_cond rfl (fun h1 => ?_) (fun h1 => ?_)
 · refine c_skip (e_go hK6 ?_)
   refine c_seq fun _ hK7 => ?_
   refine c_block ?_
   refine c_seq fun _ hK8 => ?_
   refine c_region ?_
   obtain ⟨ad1, hd1⟩ := hlA (ne_nil (i := k) (by first | omega | decide | (simp only [List.length_cons, List.length_nil, List.length_append, List.length_take, List.length_set]; omega)))
   refine l_val wn (r_ia (i := k) rfl hd1 rfl (by omega) (by first | omega | decide | (simp only [List.length_cons, List.length_nil, List.length_append, List.length_take, List.length_set]; omega)) Try.underlying47 inf54) rfl ?_
   obtain ⟨s1, hs1⟩ : ∃ x, l[k]? = some x := ⟨_, List.getElem?_eq_getElem (by first | omega | decide | (simp only [List.length_cons, List.length_nil, List.length_append, List.length_take, List.length_set]; omega))⟩
   refine l_val wn (r_eln 2 [.int .i64 s1.time, .int .i64 s1.value] rfl rfl hd1 hs1 rfl rfl agg54 inf54) rfl ?_
   refine l_alloc wn inf54 rfl fun b5 => ?_
   refine l_stn 0 wn rfl rfl rfl inf54 rfl rfl rfl ?_
   refine l_nil (e_go hK8 ?_)
   refine c_quietT 5 mix (by kernel_rfl) (fun _ h => h.drew) fun _ hT1 => ?_
   refine q_val wn (r_lbn 1 [.int .i64 ((Agg.of (l.take k)).count), .int .i64 ((Agg.of (l.take k)).total), .int .i64 ((Agg.of (l.take k)).min), .int .i64 ((Agg.of (l.take k)).max), .int .i64 ((Agg.of (l.take k)).first), .int .i64 ((Agg.of (l.take k)).last), .int .i64 ((Agg.of (l.take k)).rise)] rfl rfl rfl rfl agg62 inf62) rfl ?_
   refine q_val wn (r_fa rfl fld54_1) rfl ?_
   refine q_val wn (r_lb 0 rfl rfl rfl flat3) rfl ?_
   refine q_callF wn rfl Try.call45 rfl (fun w1 hM => c_One s1.value w1) ?_
   refine q_callF wn rfl Try.call44 rfl (fun w1 hM => c_Join (Agg.of (l.take k)) (Agg.one s1.value) w1) ?_
   refine q_tail hT1 ?_
   refine l_stn 1 wn rfl rfl rfl inf62 rfl rfl rfl ?_
   refine l_nil (e_in_n (e_go hK7 ?_))
   refine c_region ?_
   refine l_val wn (r_addn rfl rfl (by omega)) rfl ?_
   refine l_val wn (r_move rfl) rfl ?_
   have hst := Agg.of_take_succ l k s1 hs1
   refine l_nil (e_round1 (k + 1) (sc rfl (sc rfl (sc rfl (sc rfl (sc (ji (by omega)) sn))))) (fun _ h => by rw [hst]; exact (h.sel [1, 2, 3] (by decide) rfl)) ?_ ?_)
   · omega
   omega
 refine c_exit (e_then_x (e_loop1_x (e_in_hit (e_go hK3 ?_))))
 refine c_seq fun _ hK9 => ?_
 refine c_region ?_
 refine l_val wn (r_lbn 0 [.int .i64 ((Agg.of (l.take k)).count), .int .i64 ((Agg.of (l.take k)).total), .int .i64 ((Agg.of (l.take k)).min), .int .i64 ((Agg.of (l.take k)).max), .int .i64 ((Agg.of (l.take k)).first), .int .i64 ((Agg.of (l.take k)).last), .int .i64 ((Agg.of (l.take k)).rise)] rfl rfl rfl rfl agg62 inf62) rfl ?_
 refine l_stn 1 wn rfl rfl rfl inf62 rfl rfl rfl ?_
 refine l_nil (e_go hK9 ?_)
 refine c_ret (e_ret1 (.inl rfl) Try.results24 (rv_cell 1 rfl rfl agg62 inf62 rfl) fun w1 hM => ?_)
 exact ret_agg (l1 := [.int .i64 ((Agg.of (l.take k)).count), .int .i64 ((Agg.of (l.take k)).total), .int .i64 ((Agg.of (l.take k)).min), .int .i64 ((Agg.of (l.take k)).max), .int .i64 ((Agg.of (l.take k)).first), .int .i64 ((Agg.of (l.take k)).last), .int .i64 ((Agg.of (l.take k)).rise)]) (by rw [List.take_of_length_le (by omega)]) hM

theorem c_Words  (w : World)   :
    Calls Try.prog 93 #[] w (RetL w 9 1 strE Agg.words) := by
 refine fstart (N := 2) (vals := []) (S := Mem w no []) Try.func93 rfl rfl rfl (Mem.ofDats dn) ?_
 refine c_seq fun _ hK1 => ?_
 refine c_region ?_
 refine l_val wn (r_assign rfl) rfl ?_
 refine l_nil (e_go hK1 ?_)
 refine c_seq fun _ hK2 => ?_
 refine c_region ?_
 refine l_bsL strE ([⟨#[97, 118, 103]⟩, ⟨#[99, 111, 117, 110, 116]⟩, ⟨#[102, 105, 114, 115, 116]⟩, ⟨#[108, 97, 115, 116]⟩, ⟨#[109, 97, 120]⟩, ⟨#[109, 105, 110]⟩, ⟨#[114, 105, 115, 101]⟩, ⟨#[115, 117, 109]⟩] : List ByteArray) wn Try.underlying24 inf9 rfl rfl rfl rfl (by decide) (by decide) rfl fun b1 => ?_
 refine l_val wn (r_assign rfl) rfl ?_
 refine l_nil (e_go hK2 ?_)
 refine c_ret (e_ret1 (.inl rfl) Try.results93 (rv_tmp rfl) fun w1 hM => ?_)
 exact hM.retL' 0 rfl rfl

theorem c_Value (word : ByteArray) (s : Sum) (w : World)   :
    Calls Try.prog 73 #[.string word, .agg (sumE s).toArray] w (Ret w (.tuple #[.int .i64 (Agg.value word s).1, .bool (Agg.value word s).2])) := by
 refine fstart (N := 45) (vals := [.string word, .agg (sumE s).toArray]) (S := Mem w no []) Try.func73 rfl rfl rfl (Mem.ofDats dn) ?_
 refine c_seq fun _ hK1 => ?_
 refine c_region ?_
 refine l_box wn rfl rfl fun b3 => ?_
 refine l_val wn (r_assign rfl) rfl ?_
 refine l_val wn (r_assign rfl) rfl ?_
 refine l_nil (e_go hK1 ?_)
 refine c_seq fun _ hK2 => ?_
 refine c_seq fun _ hK3 => ?_
 refine c_region ?_
 refine l_val wn (r_fa rfl fld62_0) rfl ?_
 refine l_val wn (r_lb 0 rfl rfl rfl flat3) rfl ?_
 refine l_val wn (r_lss rfl rfl) rfl ?_
 refine l_nil (e_go hK3 ?_)
 refine c_cond rfl (fun h1 => ?_) (fun h1 => ?_)
 · refine c_seq fun _ hK4 => ?_
   refine c_region ?_
   refine l_val wn (r_assign rfl) rfl ?_
   refine l_val wn (r_assign rfl) rfl ?_
   refine l_nil (e_go hK4 ?_)
   refine c_ret (e_then_r (e_ret2 (.inl rfl) Try.results73 (rv_tmp rfl) (rv_tmp rfl) fun w1 hM => ?_))
   exact ret_ok (by simp [Agg.value, h1]) hM
 refine c_skip (e_go hK2 ?_)
 refine c_seq fun _ hK5 => ?_
 refine c_seq fun _ hK6 => ?_
 refine c_region ?_
 refine l_val wn (r_move rfl) rfl ?_
 refine l_nil (e_go hK6 ?_)
 refine c_block ?_
 refine c_seq fun _ hK7 => ?_
 refine c_region ?_
 refine l_val wn (r_seql rfl rfl) rfl ?_
 refine l_val wn (r_assign rfl) rfl ?_
 refine l_nil (e_go hK7 ?_)
 refine c_cond rfl (fun h2 => ?_) (fun h2 => ?_)
 · refine c_seq fun _ hK8 => ?_
   refine c_region ?_
   refine l_val wn (r_fa rfl fld62_1) rfl ?_
   refine l_val wn (r_lb 0 rfl rfl rfl flat3) rfl ?_
   refine l_val wn (r_fa rfl fld62_0) rfl ?_
   refine l_val wn (r_lb 0 rfl rfl rfl flat3) rfl ?_
   refine l_val wn (r_quo rfl rfl (by omega)) rfl ?_
   refine l_val wn (r_assign rfl) rfl ?_
   refine l_val wn (r_assign rfl) rfl ?_
   refine l_nil (e_go hK8 ?_)
   refine c_ret (e_in_r (e_then_r (e_ret2 (.inl rfl) Try.results73 (rv_tmp rfl) (rv_tmp rfl) fun w1 hM => ?_)))
   exact ret_ok (by simp [Agg.value, h1, h2]) hM
 refine c_seq fun _ hK9 => ?_
 refine c_region ?_
 refine l_val wn (r_seql rfl rfl) rfl ?_
 refine l_val wn (r_assign rfl) rfl ?_
 refine l_nil (e_go hK9 ?_)
 refine c_cond rfl (fun h3 => ?_) (fun h3 => ?_)
 · refine c_seq fun _ hK10 => ?_
   refine c_region ?_
   refine l_val wn (r_fa rfl fld62_0) rfl ?_
   refine l_val wn (r_lb 0 rfl rfl rfl flat3) rfl ?_
   refine l_val wn (r_assign rfl) rfl ?_
   refine l_val wn (r_assign rfl) rfl ?_
   refine l_nil (e_go hK10 ?_)
   refine c_ret (e_in_r (e_then_r (e_ret2 (.inl rfl) Try.results73 (rv_tmp rfl) (rv_tmp rfl) fun w1 hM => ?_)))
   exact ret_ok (by simp [Agg.value, h1, h2, h3]) hM
 refine c_seq fun _ hK11 => ?_
 refine c_region ?_
 refine l_val wn (r_seql rfl rfl) rfl ?_
 refine l_val wn (r_assign rfl) rfl ?_
 refine l_nil (e_go hK11 ?_)
 refine c_cond rfl (fun h4 => ?_) (fun h4 => ?_)
 · refine c_seq fun _ hK12 => ?_
   refine c_region ?_
   refine l_val wn (r_fa rfl fld62_4) rfl ?_
   refine l_val wn (r_lb 0 rfl rfl rfl flat3) rfl ?_
   refine l_val wn (r_assign rfl) rfl ?_
   refine l_val wn (r_assign rfl) rfl ?_
   refine l_nil (e_go hK12 ?_)
   refine c_ret (e_in_r (e_then_r (e_ret2 (.inl rfl) Try.results73 (rv_tmp rfl) (rv_tmp rfl) fun w1 hM => ?_)))
   exact ret_ok (by simp [Agg.value, h1, h2, h3, h4]) hM
 refine c_seq fun _ hK13 => ?_
 refine c_region ?_
 refine l_val wn (r_seql rfl rfl) rfl ?_
 refine l_val wn (r_assign rfl) rfl ?_
 refine l_nil (e_go hK13 ?_)
 refine c_cond rfl (fun h5 => ?_) (fun h5 => ?_)
 · refine c_seq fun _ hK14 => ?_
   refine c_region ?_
   refine l_val wn (r_fa rfl fld62_5) rfl ?_
   refine l_val wn (r_lb 0 rfl rfl rfl flat3) rfl ?_
   refine l_val wn (r_assign rfl) rfl ?_
   refine l_val wn (r_assign rfl) rfl ?_
   refine l_nil (e_go hK14 ?_)
   refine c_ret (e_in_r (e_then_r (e_ret2 (.inl rfl) Try.results73 (rv_tmp rfl) (rv_tmp rfl) fun w1 hM => ?_)))
   exact ret_ok (by simp [Agg.value, h1, h2, h3, h4, h5]) hM
 refine c_seq fun _ hK15 => ?_
 refine c_region ?_
 refine l_val wn (r_seql rfl rfl) rfl ?_
 refine l_val wn (r_assign rfl) rfl ?_
 refine l_nil (e_go hK15 ?_)
 refine c_cond rfl (fun h6 => ?_) (fun h6 => ?_)
 · refine c_seq fun _ hK16 => ?_
   refine c_region ?_
   refine l_val wn (r_fa rfl fld62_3) rfl ?_
   refine l_val wn (r_lb 0 rfl rfl rfl flat3) rfl ?_
   refine l_val wn (r_assign rfl) rfl ?_
   refine l_val wn (r_assign rfl) rfl ?_
   refine l_nil (e_go hK16 ?_)
   refine c_ret (e_in_r (e_then_r (e_ret2 (.inl rfl) Try.results73 (rv_tmp rfl) (rv_tmp rfl) fun w1 hM => ?_)))
   exact ret_ok (by simp [Agg.value, h1, h2, h3, h4, h5, h6]) hM
 refine c_seq fun _ hK17 => ?_
 refine c_region ?_
 refine l_val wn (r_seql rfl rfl) rfl ?_
 refine l_val wn (r_assign rfl) rfl ?_
 refine l_nil (e_go hK17 ?_)
 refine c_cond rfl (fun h7 => ?_) (fun h7 => ?_)
 · refine c_seq fun _ hK18 => ?_
   refine c_region ?_
   refine l_val wn (r_fa rfl fld62_2) rfl ?_
   refine l_val wn (r_lb 0 rfl rfl rfl flat3) rfl ?_
   refine l_val wn (r_assign rfl) rfl ?_
   refine l_val wn (r_assign rfl) rfl ?_
   refine l_nil (e_go hK18 ?_)
   refine c_ret (e_in_r (e_then_r (e_ret2 (.inl rfl) Try.results73 (rv_tmp rfl) (rv_tmp rfl) fun w1 hM => ?_)))
   exact ret_ok (by simp [Agg.value, h1, h2, h3, h4, h5, h6, h7]) hM
 refine c_seq fun _ hK19 => ?_
 refine c_region ?_
 refine l_val wn (r_seql rfl rfl) rfl ?_
 refine l_val wn (r_assign rfl) rfl ?_
 refine l_nil (e_go hK19 ?_)
 refine c_cond rfl (fun h8 => ?_) (fun h8 => ?_)
 · refine c_seq fun _ hK20 => ?_
   refine c_region ?_
   refine l_val wn (r_fa rfl fld62_6) rfl ?_
   refine l_val wn (r_lb 0 rfl rfl rfl flat3) rfl ?_
   refine l_val wn (r_assign rfl) rfl ?_
   refine l_val wn (r_assign rfl) rfl ?_
   refine l_nil (e_go hK20 ?_)
   refine c_ret (e_in_r (e_then_r (e_ret2 (.inl rfl) Try.results73 (rv_tmp rfl) (rv_tmp rfl) fun w1 hM => ?_)))
   exact ret_ok (by simp [Agg.value, h1, h2, h3, h4, h5, h6, h7, h8]) hM
 refine c_seq fun _ hK21 => ?_
 refine c_region ?_
 refine l_val wn (r_seql rfl rfl) rfl ?_
 refine l_val wn (r_assign rfl) rfl ?_
 refine l_nil (e_go hK21 ?_)
 refine c_cond rfl (fun h9 => ?_) (fun h9 => ?_)
 · refine c_seq fun _ hK22 => ?_
   refine c_region ?_
   refine l_val wn (r_fa rfl fld62_1) rfl ?_
   refine l_val wn (r_lb 0 rfl rfl rfl flat3) rfl ?_
   refine l_val wn (r_assign rfl) rfl ?_
   refine l_val wn (r_assign rfl) rfl ?_
   refine l_nil (e_go hK22 ?_)
   refine c_ret (e_in_r (e_then_r (e_ret2 (.inl rfl) Try.results73 (rv_tmp rfl) (rv_tmp rfl) fun w1 hM => ?_)))
   exact ret_ok (by simp [Agg.value, h1, h2, h3, h4, h5, h6, h7, h8, h9]) hM
 refine c_skip (e_in_n (e_go hK5 ?_))
 refine c_seq fun _ hK23 => ?_
 refine c_region ?_
 refine l_val wn (r_assign rfl) rfl ?_
 refine l_val wn (r_assign rfl) rfl ?_
 refine l_nil (e_go hK23 ?_)
 refine c_ret (e_ret2 (.inl rfl) Try.results73 (rv_tmp rfl) (rv_tmp rfl) fun w1 hM => ?_)
 exact ret_ok (by simp [Agg.value, h1, h2, h3, h4, h5, h6, h7, h8, h9]) hM

end Go.Proofs.Ytldecdningjkoaa
