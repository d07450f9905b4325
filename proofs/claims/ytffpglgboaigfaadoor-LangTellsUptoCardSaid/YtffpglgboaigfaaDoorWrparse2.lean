/-
  Walks: what each function hands back.
-/
import Derived.Test.YtffpglgboaigfaaDoorWrparse
namespace Go.Proofs.YtffpglgboaigfaaDoor
open Ex
set_option linter.unusedVariables false
set_option linter.unusedSimpArgs false
theorem w_made (p : Nat) (s : ByteArray) (i : Nat) (n be ba : Int) (k m r : Int) (wd : ByteArray) (A4 : Option Addr) (l4 c4 : Nat) (A5 : Option Addr) (l5 c5 : Nat) (A6 : Option Addr) (l6 c6 : Nat) (Pb : Nat → Prop) (w : World) (hG : Mem w ⟨fpOf [Wb 69 p s i n be ba], Pb⟩ [Wb 69 p s i n be ba] w) (hi : i ≤ s.size) (hs : s.size ≤ 2000) (hn : 0 ≤ n ∧ n ≤ 101) :
    Calls Tryd.prog 54 #[.pointer (some ⟨p, 0, none⟩), .agg (List.toArray [iV k, iV m, iV r, .string wd, .slice A4 l4 c4, .slice A5 l5 c5, .slice A6 l6 c6])] w (RetA w [Wb 69 p s i n be ba] Pb (fun _ : Int × Int => .agg (List.toArray [iV k, iV m, iV r, .string wd, .slice A4 l4 c4, .slice A5 l5 c5, .slice A6 l6 c6])) (fun z => Pz.SimU s be ba (Pz.node ⟨i, n⟩) ⟨i, n + 1, z.1, z.2⟩) (fun z => [Wb 69 p s i (n + 1) z.1 z.2])) := by
 refine fstart (N := 24) (vals := [.pointer (some ⟨p, 0, none⟩), .agg (List.toArray [iV k, iV m, iV r, .string wd, .slice A4 l4 c4, .slice A5 l5 c5, .slice A6 l6 c6])]) (S := Mem w ⟨fpOf [Wb 69 p s i n be ba], Pb⟩ [Wb 69 p s i n be ba]) Tryd.func54 rfl rfl rfl hG ?_
 refine c_seq fun _ hK1 => ?_
 refine c_region ?_
 refine l_box wn rfl rfl fun b3 => ?_
 refine l_alloc wn inf26 rfl fun b4 => ?_
 refine l_nil (e_go hK1 ?_)
 refine c_seq fun _ hK2 => ?_
 refine c_region ?_
 refine l_val wn (r_move rfl) rfl ?_
 refine l_val wn (r_nilCheck rfl) rfl ?_
 refine l_val wn (r_fa rfl fld69_2) rfl ?_
 refine l_val wn (r_lb 2 rfl rfl rfl flat3) rfl ?_
 refine l_val wn (r_addn rfl rfl (by omega)) rfl ?_
 refine l_val wn (r_nilCheck rfl) rfl ?_
 refine l_val wn (r_fa rfl fld69_2) rfl ?_
 refine l_st1 2 wn rfl rfl rfl rfl inf3 rfl rfl ?_
 refine l_nil (e_go hK2 ?_)
 refine c_seq fun _ hK3 => ?_
 refine c_seq fun _ hK4 => ?_
 refine c_region ?_
 refine l_val wn (r_move rfl) rfl ?_
 refine l_val wn (r_nilCheck rfl) rfl ?_
 refine l_val wn (r_fa rfl fld69_2) rfl ?_
 refine l_val wn (r_lb 2 rfl rfl rfl flat3) rfl ?_
 refine l_val wn (r_gtr rfl rfl) rfl ?_
 refine l_nil (e_go hK4 ?_)
 refine c_cond rfl (fun h1 => ?_) (fun h1 => ?_)
 · refine c_region ?_
   refine l_val wn (r_move rfl) rfl ?_
   refine l_val wn (r_move rfl) rfl ?_
   refine l_val wn (r_nilCheck rfl) rfl ?_
   refine l_val wn (r_fa rfl fld69_1) rfl ?_
   refine l_val wn (r_lb 2 rfl rfl rfl flat3) rfl ?_
   refine l_give (α := (Int × Int)) [Wb 69 p s i (n + 1) be ba] [.blk b4 Zx 26, .blk b3 [iV k, iV m, iV r, .string wd, .slice A4 l4 c4, .slice A5 l5 c5, .slice A6 l6 c6] 26] (fun z : Int × Int => .tuple #[]) (fun z1 => (Pz.StopR be ba 4 (i : Int) z1)) (fun z1 => [Wb 69 p s i (n + 1) z1.1 z1.2]) _ (fun _ => rfl) (fun _ h => h.sel [2, 0, 1] (by decide) rfl) (fun _ => rfl) wn rfl rfl Tryd.call36 rfl (fun w1 Pb hG => w_stop p s i (n + 1) be ba 4 (i : Int) Pb w1 hG ) fun z1 hz1 => ?_
   obtain ⟨be1, ba1⟩ := z1
   have hs1 : Pz.StopR be ba 4 (i : Int) (be1, ba1) := hz1
   try simp only at hs1
   refine l_as 22 (.tuple (List.toArray [])) [Wb 69 p s i (n + 1) be1 ba1, .blk b4 Zx 26, .blk b3 [iV k, iV m, iV r, .string wd, .slice A4 l4 c4, .slice A5 l5 c5, .slice A6 l6 c6] 26] ?_
   refine l_nil (e_go hK3 ?_)
   refine c_seq fun _ hK5 => ?_
   refine c_region ?_
   refine l_val wn (r_lbn 2 [iV k, iV m, iV r, .string wd, .slice A4 l4 c4, .slice A5 l5 c5, .slice A6 l6 c6] rfl rfl rfl rfl agg26 inf26) rfl ?_
   refine l_stn 1 wn rfl rfl rfl inf26 rfl rfl rfl ?_
   refine l_nil (e_go hK5 ?_)
   refine c_ret (e_ret1 (.inl rfl) Tryd.results54 (rv_cell 1 rfl rfl agg26 inf26 rfl) fun w1 hM => ?_)
   exact hM.retA (be1, ba1) rfl (Pz.node_simN hi h1 hs1) (fun h => h.sel [0] (by decide) rfl)
 refine c_skip (e_go hK3 ?_)
 refine c_seq fun _ hK6 => ?_
 refine c_region ?_
 refine l_val wn (r_lbn 1 [iV k, iV m, iV r, .string wd, .slice A4 l4 c4, .slice A5 l5 c5, .slice A6 l6 c6] rfl rfl rfl rfl agg26 inf26) rfl ?_
 refine l_stn 0 wn rfl rfl rfl inf26 rfl rfl rfl ?_
 refine l_nil (e_go hK6 ?_)
 refine c_ret (e_ret1 (.inl rfl) Tryd.results54 (rv_cell 0 rfl rfl agg26 inf26 rfl) fun w1 hM => ?_)
 exact hM.retA (be, ba) rfl (Pz.node_sim hi h1) (fun h => h.sel [2] (by decide) rfl)

set_option maxHeartbeats 2000000 in
theorem w_window (p : Nat) (s : ByteArray) (i : Nat) (n be ba : Int) (word : ByteArray) (Pb : Nat → Prop) (w : World) (hG : Mem w ⟨fpOf [Wb 69 p s i n be ba], Pb⟩ [Wb 69 p s i n be ba] w) (hi : i ≤ s.size) (hs : s.size ≤ 2000) (hn : 0 ≤ n ∧ n ≤ 101) (hwd : word.size ≤ 100) (hne : be = 0 → n ≤ 100) :
    Calls Tryd.prog 68 #[.pointer (some ⟨p, 0, none⟩), .string word] w (RetA w [Wb 69 p s i n be ba] Pb (fun z : ExprX × Nat × Int × Int × Int => .agg (exprE z.1).toArray) (fun z => Pz.Sim s be ba (Pz.window s word ⟨i, n⟩) z.1.e ⟨z.2.1, z.2.2.1, z.2.2.2.1, z.2.2.2.2⟩ ∧ (0 ≤ z.2.2.1 ∧ z.2.2.1 ≤ 101) ∧ (z.2.2.2.1 = 0 → z.2.2.1 ≤ 100)) (fun z => [Wb 69 p s z.2.1 z.2.2.1 z.2.2.2.1 z.2.2.2.2, okI (z.2.2.2.1 = 0) z.1])) := by
 refine fstart (N := 91) (vals := [.pointer (some ⟨p, 0, none⟩), .string word]) (S := Mem w ⟨fpOf [Wb 69 p s i n be ba], Pb⟩ [Wb 69 p s i n be ba]) Tryd.func68 rfl rfl rfl hG ?_
 refine c_seq fun _ hK1 => ?_
 refine c_region ?_
 refine l_alloc wn inf26 rfl fun b4 => ?_
 refine l_nil (e_go hK1 ?_)
 refine c_seq fun _ hK2 => ?_
 refine c_region ?_
 refine l_val wn (r_move rfl) rfl ?_
 refine l_val wn (r_build [iV 2, iV 0, iV 0, .string word, Zs, Zs, Zs] pl26 inf26 rfl rfl) rfl ?_
 refine l_alloc wn inf26 rfl fun b5 => ?_
 refine l_stn 0 wn rfl rfl rfl inf26 rfl rfl rfl ?_
 refine l_nil (e_go hK2 ?_)
 refine c_seq fun _ hK3 => ?_
 refine c_region ?_
 refine l_val wn (r_move rfl) rfl ?_
 refine l_give (α := (Nat × Int × Int)) [Wb 69 p s i n be ba] [.blk b5 [iV 2, iV 0, iV 0, .string word, Zs, Zs, Zs] 26, .blk b4 Zx 26] (fun z : Nat × Int × Int => .tuple #[]) (fun z1 => (Pz.SimU s be ba (Pz.must s ⟨#[40]⟩ ⟨i, n⟩) ⟨z1.1, n, z1.2.1, z1.2.2⟩)) (fun z1 => [Wb 69 p s z1.1 n z1.2.1 z1.2.2]) _ (fun _ => rfl) (fun _ h => h.sel [2, 0, 1] (by decide) rfl) (fun _ => rfl) wn rfl rfl Tryd.call65 rfl (fun w1 Pb hG => w_need p s i n be ba ⟨#[40]⟩ Pb w1 hG (by omega) (by omega) (by first | decide | omega)) fun z1 hz1 => ?_
 obtain ⟨j1, be1, ba1⟩ := z1
 have hs1 : Pz.SimU s be ba (Pz.must s ⟨#[40]⟩ ⟨i, n⟩) ⟨(j1, be1, ba1).1, n, (j1, be1, ba1).2.1, (j1, be1, ba1).2.2⟩ := hz1
 try simp only at hs1
 have hs1l : j1 ≤ s.size := hs1.1
 refine l_as 10 (.tuple (List.toArray [])) [Wb 69 p s j1 n be1 ba1, .blk b5 [iV 2, iV 0, iV 0, .string word, Zs, Zs, Zs] 26, .blk b4 Zx 26] ?_
 refine l_nil (e_go hK3 ?_)
 refine c_seq fun _ hK4 => ?_
 refine c_region ?_
 refine l_val wn (r_move rfl) rfl ?_
 refine l_give (α := (Nat × Int × Int)) [Wb 69 p s j1 n be1 ba1] [.blk b5 [iV 2, iV 0, iV 0, .string word, Zs, Zs, Zs] 26, .blk b4 Zx 26] (fun z : Nat × Int × Int => .tuple #[]) (fun z2 => (Pz.SimU s be1 ba1 (Pz.must s ⟨#[123]⟩ ⟨j1, n⟩) ⟨z2.1, n, z2.2.1, z2.2.2⟩)) (fun z2 => [Wb 69 p s z2.1 n z2.2.1 z2.2.2]) _ (fun _ => rfl) (fun _ h => h.sel [0, 1, 2] (by decide) rfl) (fun _ => rfl) wn rfl rfl Tryd.call65 rfl (fun w1 Pb hG => w_need p s j1 n be1 ba1 ⟨#[123]⟩ Pb w1 hG (by omega) (by omega) (by first | decide | omega)) fun z2 hz2 => ?_
 obtain ⟨j2, be2, ba2⟩ := z2
 have hs2 : Pz.SimU s be1 ba1 (Pz.must s ⟨#[123]⟩ ⟨j1, n⟩) ⟨(j2, be2, ba2).1, n, (j2, be2, ba2).2.1, (j2, be2, ba2).2.2⟩ := hz2
 try simp only at hs2
 have hs2l : j2 ≤ s.size := hs2.1
 refine l_as 12 (.tuple (List.toArray [])) [Wb 69 p s j2 n be2 ba2, .blk b5 [iV 2, iV 0, iV 0, .string word, Zs, Zs, Zs] 26, .blk b4 Zx 26] ?_
 refine l_nil (e_go hK4 ?_)
 refine c_seq fun PK1 hPK1 => ?_
 have hR1 : ∀ (msW : List Match) (jW : Nat) (beW : Int) (baW : Int) (rvW : Value) (hwW : Pz.Sim s be2 ba2 (Pz.winL s 6 [] ⟨j2, n⟩) msW ⟨jW, n, beW, baW⟩) (hlW : jW ≤ s.size), ∀ w9, Mem w ⟨fpOf [Wb 69 p s i n be ba], Pb⟩ [Row rvW 74 3 matchE msW, Wb 69 p s jW n beW baW, .blk b5 [iV 2, iV 0, iV 0, .string word, rvW, Zs, Zs] 26, .blk b4 Zx 26] w9 → ∀ a9, Has 91 [] a9 [(0, .pointer (some ⟨p, 0, none⟩)), (4, .pointer (some ⟨b4, 0, none⟩)), (5, .pointer (some ⟨b5, 0, none⟩))] → PK1 a9 w9 := by
   intro msW jW beW baW rvW hwW hlW
   refine hPK1 [(0, .pointer (some ⟨p, 0, none⟩)), (4, .pointer (some ⟨b4, 0, none⟩)), (5, .pointer (some ⟨b5, 0, none⟩))] (Mem w ⟨fpOf [Wb 69 p s i n be ba], Pb⟩ [Row rvW 74 3 matchE msW, Wb 69 p s jW n beW baW, .blk b5 [iV 2, iV 0, iV 0, .string word, rvW, Zs, Zs] 26, .blk b4 Zx 26]) ?_
   refine c_open 0 (l := msW) rfl fun A1 cp1 hv1 hc1 hm1 hA1 => ?_
   subst hv1
   refine c_seq fun _ hK5 => ?_
   refine c_region ?_
   refine l_val wn (r_move rfl) rfl ?_
   refine l_give (α := (Nat × Int × Int)) [Wb 69 p s jW n beW baW] [Row (.slice A1 msW.length cp1) 74 3 matchE msW, .blk b5 [iV 2, iV 0, iV 0, .string word, .slice A1 msW.length cp1, Zs, Zs] 26, .blk b4 Zx 26] (fun z : Nat × Int × Int => .tuple #[]) (fun z3 => (Pz.SimU s beW baW (Pz.must s ⟨#[91]⟩ ⟨jW, n⟩) ⟨z3.1, n, z3.2.1, z3.2.2⟩)) (fun z3 => [Wb 69 p s z3.1 n z3.2.1 z3.2.2]) _ (fun _ => rfl) (fun _ h => h.sel [1, 0, 2, 3] (by decide) rfl) (fun _ => rfl) wn rfl rfl Tryd.call65 rfl (fun w1 Pb hG => w_need p s jW n beW baW ⟨#[91]⟩ Pb w1 hG (by omega) (by omega) (by first | decide | omega)) fun z3 hz3 => ?_
   obtain ⟨j3, be3, ba3⟩ := z3
   have hs3 : Pz.SimU s beW baW (Pz.must s ⟨#[91]⟩ ⟨jW, n⟩) ⟨(j3, be3, ba3).1, n, (j3, be3, ba3).2.1, (j3, be3, ba3).2.2⟩ := hz3
   try simp only at hs3
   have hs3l : j3 ≤ s.size := hs3.1
   refine l_as 74 (.tuple (List.toArray [])) [Wb 69 p s j3 n be3 ba3, Row (.slice A1 msW.length cp1) 74 3 matchE msW, .blk b5 [iV 2, iV 0, iV 0, .string word, .slice A1 msW.length cp1, Zs, Zs] 26, .blk b4 Zx 26] ?_
   refine l_nil (e_go hK5 ?_)
   refine c_seq fun _ hK6 => ?_
   refine c_seq fun _ hK7 => ?_
   refine c_region ?_
   refine l_val wn (r_move rfl) rfl ?_
   refine l_give (α := Unit) [Wb 69 p s j3 n be3 ba3] [Row (.slice A1 msW.length cp1) 74 3 matchE msW, .blk b5 [iV 2, iV 0, iV 0, .string word, .slice A1 msW.length cp1, Zs, Zs] 26, .blk b4 Zx 26] (fun _ : Unit => .bool (decide (be3 = 0))) (fun z4 => True) (fun z4 => [Wb 69 p s j3 n be3 ba3]) (fun z4 => [Wb 69 p s j3 n be3 ba3, Row (.slice A1 msW.length cp1) 74 3 matchE msW, .blk b5 [iV 2, iV 0, iV 0, .string word, .slice A1 msW.length cp1, Zs, Zs] 26, .blk b4 Zx 26]) (fun _ => rfl) (fun _ h => h.sel [0, 1, 2, 3] (by decide) rfl) (fun _ => rfl) wn rfl rfl Tryd.call34 rfl (fun w1 Pb hG => w_ok p s j3 n be3 ba3 Pb w1 hG) fun z4 hz4 => ?_
   refine l_nil (e_go hK7 ?_)
   refine c_cond rfl (fun h1 => ?_) (fun h1 => ?_)
   ·
     refine c_region ?_
     refine l_val wn (r_move rfl) rfl ?_
     refine l_give (α := (Int × Nat × Int × Int)) [Wb 69 p s j3 n be3 ba3] [Row (.slice A1 msW.length cp1) 74 3 matchE msW, .blk b5 [iV 2, iV 0, iV 0, .string word, .slice A1 msW.length cp1, Zs, Zs] 26, .blk b4 Zx 26] (fun z : Int × Nat × Int × Int => iV z.1) (fun z5 => ((Pz.Sim s be3 ba3 (Pz.num s 1 100000 ⟨j3, n⟩) z5.1 ⟨z5.2.1, n, z5.2.2.1, z5.2.2.2⟩))) (fun z5 => [Wb 69 p s z5.2.1 n z5.2.2.1 z5.2.2.2]) _ (fun _ => rfl) (fun _ h => h.sel [0, 1, 2, 3] (by decide) rfl) (fun _ => rfl) wn rfl rfl Tryd.call67 rfl (fun w1 Pb hG => w_num p s j3 n be3 ba3 1 100000 Pb w1 hG (by omega) (by omega) (by omega) (by omega)) fun z5 hz5 => ?_
     obtain ⟨v1, j4, be4, ba4⟩ := z5
     have hs4 : (Pz.Sim s be3 ba3 (Pz.num s 1 100000 ⟨j3, n⟩) (v1, j4, be4, ba4).1 ⟨(v1, j4, be4, ba4).2.1, n, (v1, j4, be4, ba4).2.2.1, (v1, j4, be4, ba4).2.2.2⟩) := hz5
     try simp only at hs4
     have hs4l : j4 ≤ s.size := hs4.1
     refine l_as 78 (iV v1) [Wb 69 p s j4 n be4 ba4, Row (.slice A1 msW.length cp1) 74 3 matchE msW, .blk b5 [iV 2, iV 0, iV 0, .string word, .slice A1 msW.length cp1, Zs, Zs] 26, .blk b4 Zx 26] ?_
     refine l_val wn (r_fa rfl fld26_2) rfl ?_
     refine l_st1 2 wn rfl rfl rfl rfl inf3 rfl rfl ?_
     refine l_nil (e_go hK6 ?_)
     refine c_seq fun _ hK8 => ?_
     refine c_region ?_
     refine l_val wn (r_move rfl) rfl ?_
     refine l_give (α := (Nat × Int × Int)) [Wb 69 p s j4 n be4 ba4] [Row (.slice A1 msW.length cp1) 74 3 matchE msW, .blk b5 [iV 2, iV 0, iV v1, .string word, .slice A1 msW.length cp1, Zs, Zs] 26, .blk b4 Zx 26] (fun z : Nat × Int × Int => .tuple #[]) (fun z6 => (Pz.SimU s be4 ba4 (Pz.must s ⟨#[93]⟩ ⟨j4, n⟩) ⟨z6.1, n, z6.2.1, z6.2.2⟩)) (fun z6 => [Wb 69 p s z6.1 n z6.2.1 z6.2.2]) _ (fun _ => rfl) (fun _ h => h.sel [0, 1, 2, 3] (by decide) rfl) (fun _ => rfl) wn rfl rfl Tryd.call65 rfl (fun w1 Pb hG => w_need p s j4 n be4 ba4 ⟨#[93]⟩ Pb w1 hG (by omega) (by omega) (by first | decide | omega)) fun z6 hz6 => ?_
     obtain ⟨j5, be5, ba5⟩ := z6
     have hs5 : Pz.SimU s be4 ba4 (Pz.must s ⟨#[93]⟩ ⟨j4, n⟩) ⟨(j5, be5, ba5).1, n, (j5, be5, ba5).2.1, (j5, be5, ba5).2.2⟩ := hz6
     try simp only at hs5
     have hs5l : j5 ≤ s.size := hs5.1
     refine l_as 81 (.tuple (List.toArray [])) [Wb 69 p s j5 n be5 ba5, Row (.slice A1 msW.length cp1) 74 3 matchE msW, .blk b5 [iV 2, iV 0, iV v1, .string word, .slice A1 msW.length cp1, Zs, Zs] 26, .blk b4 Zx 26] ?_
     refine l_nil (e_go hK8 ?_)
     refine c_seq fun _ hK9 => ?_
     refine c_region ?_
     refine l_val wn (r_move rfl) rfl ?_
     refine l_give (α := (Nat × Int × Int)) [Wb 69 p s j5 n be5 ba5] [Row (.slice A1 msW.length cp1) 74 3 matchE msW, .blk b5 [iV 2, iV 0, iV v1, .string word, .slice A1 msW.length cp1, Zs, Zs] 26, .blk b4 Zx 26] (fun z : Nat × Int × Int => .tuple #[]) (fun z7 => (Pz.SimU s be5 ba5 (Pz.must s ⟨#[41]⟩ ⟨j5, n⟩) ⟨z7.1, n, z7.2.1, z7.2.2⟩)) (fun z7 => [Wb 69 p s z7.1 n z7.2.1 z7.2.2]) _ (fun _ => rfl) (fun _ h => h.sel [0, 1, 2, 3] (by decide) rfl) (fun _ => rfl) wn rfl rfl Tryd.call65 rfl (fun w1 Pb hG => w_need p s j5 n be5 ba5 ⟨#[41]⟩ Pb w1 hG (by omega) (by omega) (by first | decide | omega)) fun z7 hz7 => ?_
     obtain ⟨j6, be6, ba6⟩ := z7
     have hs6 : Pz.SimU s be5 ba5 (Pz.must s ⟨#[41]⟩ ⟨j5, n⟩) ⟨(j6, be6, ba6).1, n, (j6, be6, ba6).2.1, (j6, be6, ba6).2.2⟩ := hz7
     try simp only at hs6
     have hs6l : j6 ≤ s.size := hs6.1
     refine l_as 83 (.tuple (List.toArray [])) [Wb 69 p s j6 n be6 ba6, Row (.slice A1 msW.length cp1) 74 3 matchE msW, .blk b5 [iV 2, iV 0, iV v1, .string word, .slice A1 msW.length cp1, Zs, Zs] 26, .blk b4 Zx 26] ?_
     refine l_nil (e_go hK9 ?_)
     refine c_seq fun _ hK10 => ?_
     refine c_seq fun _ hK11 => ?_
     refine c_region ?_
     refine l_val wn (r_move rfl) rfl ?_
     refine l_give (α := Unit) [Wb 69 p s j6 n be6 ba6] [Row (.slice A1 msW.length cp1) 74 3 matchE msW, .blk b5 [iV 2, iV 0, iV v1, .string word, .slice A1 msW.length cp1, Zs, Zs] 26, .blk b4 Zx 26] (fun _ : Unit => .bool (decide (be6 = 0))) (fun z8 => True) (fun z8 => [Wb 69 p s j6 n be6 ba6]) (fun z8 => [Wb 69 p s j6 n be6 ba6, Row (.slice A1 msW.length cp1) 74 3 matchE msW, .blk b5 [iV 2, iV 0, iV v1, .string word, .slice A1 msW.length cp1, Zs, Zs] 26, .blk b4 Zx 26]) (fun _ => rfl) (fun _ h => h.sel [0, 1, 2, 3] (by decide) rfl) (fun _ => rfl) wn rfl rfl Tryd.call34 rfl (fun w1 Pb hG => w_ok p s j6 n be6 ba6 Pb w1 hG) fun z8 hz8 => ?_
     refine l_val wn (r_not rfl) rfl ?_
     refine l_nil (e_go hK11 ?_)
     refine c_cond rfl (fun h2 => ?_) (fun h2 => ?_)
     ·
       refine c_seq fun _ hK12 => ?_
       refine c_region ?_
       refine l_val wn (r_lbn 2 [iV 2, iV 0, iV v1, .string word, .slice A1 msW.length cp1, Zs, Zs] rfl rfl rfl rfl agg26 inf26) rfl ?_
       refine l_stn 3 wn rfl rfl rfl inf26 rfl rfl rfl ?_
       refine l_nil (e_go hK12 ?_)
       refine c_ret (e_then_r (e_ret1 (.inl rfl) Tryd.results68 (rv_cell 3 rfl rfl agg26 inf26 rfl) fun w1 hM => ?_))
       have hM := hM.okI0 (be6 = 0) (ExprX.mk 2 0 v1 word ⟨A1, cp1, msW⟩ ⟨none, 0, []⟩ ⟨none, 0, []⟩) h2
       exact hM.retA ((ExprX.mk 2 0 v1 word ⟨A1, cp1, msW⟩ ⟨none, 0, []⟩ ⟨none, 0, []⟩), j6, n, be6, ba6) rfl ⟨show Pz.Sim s be ba (Pz.window s word ⟨i, n⟩) ((ExprX.mk 2 0 v1 word ⟨A1, cp1, msW⟩ ⟨none, 0, []⟩ ⟨none, 0, []⟩)).e ⟨j6, n, be6, ba6⟩ from (by first | exact Pz.window_sim hs1 hs2 hwW hs3 hs4 hs5 hs6 (Pz.SimU.bad (r := ⟨j6, n, be6, ba6⟩) (by show _ ≤ _; omega) h2 rfl rfl) | (simp only [ExprX.e, ExprX.es]; exact Pz.window_sim hs1 hs2 hwW hs3 hs4 hs5 hs6 (Pz.SimU.bad (r := ⟨j6, n, be6, ba6⟩) (by show _ ≤ _; omega) h2 rfl rfl))), by show 0 ≤ n ∧ n ≤ 101; omega, by show be6 = 0 → n ≤ 100; first | (intro h9; omega) | (intro h9; exact absurd h9 h2) | omega⟩ (fun h => h.sel [1, 0] (by decide) rfl)
     ·
       refine c_skip (e_go hK10 ?_)
       refine c_seq fun _ hK13 => ?_
       refine c_region ?_
       refine l_val wn (r_move rfl) rfl ?_
       refine l_val wn (r_lbn 2 [iV 2, iV 0, iV v1, .string word, .slice A1 msW.length cp1, Zs, Zs] rfl rfl rfl rfl agg26 inf26) rfl ?_
       have hb0_1 : be6 = 0 := (Classical.not_not.1 h2)
       have hb0_2 : be5 = 0 := (hs6.first (Classical.not_not.1 h2))
       have hb0_3 : be4 = 0 := (hs5.first (hs6.first (Classical.not_not.1 h2)))
       have hb0_4 : be3 = 0 := h1
       have hb0_5 : beW = 0 := (hs3.first h1)
       have hb0_6 : be2 = 0 := (hwW.first (hs3.first h1))
       have hb0_7 : be1 = 0 := (hs2.first (hwW.first (hs3.first h1)))
       have hb0_8 : be = 0 := (hs1.first (hs2.first (hwW.first (hs3.first h1))))
       refine l_sealX 1 0 encMatch rfl rfl (fp1) ?_
       refine l_mem (fun _ h => h.exprG (k := 2) (n := 0) (r := v1) (wd := word) (ms := ⟨A1, cp1, msW⟩) (bs := ⟨none, 0, []⟩) (ks := ⟨none, 0, []⟩) (fun _ pp => pp.sl 1 rfl) (fun _ _ => FlatSl.nil_ _ _ _ _) (fun _ _ => FlatSl.nil_ _ _ _ _) (fun _ _ x hx => by cases hx) (by first | decide | omega) (fun x hx => by have := Pz.winL_size 6 (t := ⟨j2, n⟩) (by show _ ≤ s.size; omega) (hwW.ok_ (hwW.first (hs3.first h1)) (hs3.first h1)) (fun _ h => by cases h) x hx; omega) (fun x hx => by cases hx)) ?_
       refine l_give (α := (Int × Int)) [Wb 69 p s j6 n be6 ba6] [okP ExprX.Ok (ExprX.mk 2 0 v1 word ⟨A1, cp1, msW⟩ ⟨none, 0, []⟩ ⟨none, 0, []⟩), slP 3 matchE (.slice A1 msW.length cp1) msW, .blk b5 [iV 2, iV 0, iV v1, .string word, .slice A1 msW.length cp1, Zs, Zs] 26, .blk b4 Zx 26] (fun _ : Int × Int => .agg (List.toArray [iV 2, iV 0, iV v1, .string word, .slice A1 msW.length cp1, Zs, Zs])) (fun z9 => (Pz.SimU s be6 ba6 (Pz.node ⟨j6, n⟩) ⟨j6, n + 1, z9.1, z9.2⟩)) (fun z9 => [Wb 69 p s j6 (n + 1) z9.1 z9.2]) _ (fun _ => rfl) (fun _ h => h.sel [1, 0, 2, 3, 4] (by decide) rfl) (fun _ => rfl) wn rfl rfl Tryd.call54 rfl (fun w1 Pb hG => w_made p s j6 n be6 ba6 2 0 v1 word A1 msW.length cp1 none 0 0 none 0 0 Pb w1 hG (by omega) (by omega) (by omega)) fun z9 hz9 => ?_
       obtain ⟨be7, ba7⟩ := z9
       have hs7 : Pz.SimU s be6 ba6 (Pz.node ⟨j6, n⟩) ⟨j6, n + 1, be7, ba7⟩ := hz9
       have hs7n : be7 = 0 → n + 1 ≤ 100 := fun h9 => by have h8 := (Pz.Fine.ok_ (Pz.node_fine (s := s) (t := ⟨j6, n⟩) (by show _ ≤ _; omega)) (hs7.ok_ (hs7.first h9) h9)).most (show n ≤ 100 by omega); exact h8
       refine l_as 90 (.agg (List.toArray [iV 2, iV 0, iV v1, .string word, .slice A1 msW.length cp1, Zs, Zs])) [Wb 69 p s j6 (n + 1) be7 ba7, okP ExprX.Ok (ExprX.mk 2 0 v1 word ⟨A1, cp1, msW⟩ ⟨none, 0, []⟩ ⟨none, 0, []⟩), slP 3 matchE (.slice A1 msW.length cp1) msW, .blk b5 [iV 2, iV 0, iV v1, .string word, .slice A1 msW.length cp1, Zs, Zs] 26, .blk b4 Zx 26] ?_
       refine l_stn 4 wn rfl rfl rfl inf26 rfl rfl rfl ?_
       refine l_nil (e_go hK13 ?_)
       refine c_ret (e_ret1 (.inl rfl) Tryd.results68 (rv_cell 4 rfl rfl agg26 inf26 rfl) fun w1 hM => ?_)
       have hM := hM.okI1 (be7 = 0) 1 rfl
       exact hM.retA ((ExprX.mk 2 0 v1 word ⟨A1, cp1, msW⟩ ⟨none, 0, []⟩ ⟨none, 0, []⟩), j6, (n + 1), be7, ba7) rfl ⟨show Pz.Sim s be ba (Pz.window s word ⟨i, n⟩) ((ExprX.mk 2 0 v1 word ⟨A1, cp1, msW⟩ ⟨none, 0, []⟩ ⟨none, 0, []⟩)).e ⟨j6, (n + 1), be7, ba7⟩ from (by first | exact Pz.window_sim hs1 hs2 hwW hs3 hs4 hs5 hs6 hs7 | (simp only [ExprX.e, ExprX.es]; exact Pz.window_sim hs1 hs2 hwW hs3 hs4 hs5 hs6 hs7)), by show 0 ≤ (n + 1) ∧ (n + 1) ≤ 101; omega, by show be7 = 0 → (n + 1) ≤ 100; first | (intro h9; omega) | (intro h9; exact absurd h9 id) | exact hs7n⟩ (fun h => h.sel [1, 0] (by decide) rfl)
   ·
     refine c_skip (e_go hK6 ?_)
     refine c_seq fun _ hK14 => ?_
     refine c_region ?_
     refine l_val wn (r_move rfl) rfl ?_
     refine l_give (α := (Nat × Int × Int)) [Wb 69 p s j3 n be3 ba3] [Row (.slice A1 msW.length cp1) 74 3 matchE msW, .blk b5 [iV 2, iV 0, iV 0, .string word, .slice A1 msW.length cp1, Zs, Zs] 26, .blk b4 Zx 26] (fun z : Nat × Int × Int => .tuple #[]) (fun z10 => (Pz.SimU s be3 ba3 (Pz.must s ⟨#[93]⟩ ⟨j3, n⟩) ⟨z10.1, n, z10.2.1, z10.2.2⟩)) (fun z10 => [Wb 69 p s z10.1 n z10.2.1 z10.2.2]) _ (fun _ => rfl) (fun _ h => h.sel [0, 1, 2, 3] (by decide) rfl) (fun _ => rfl) wn rfl rfl Tryd.call65 rfl (fun w1 Pb hG => w_need p s j3 n be3 ba3 ⟨#[93]⟩ Pb w1 hG (by omega) (by omega) (by first | decide | omega)) fun z10 hz10 => ?_
     obtain ⟨j7, be8, ba8⟩ := z10
     have hs8 : Pz.SimU s be3 ba3 (Pz.must s ⟨#[93]⟩ ⟨j3, n⟩) ⟨(j7, be8, ba8).1, n, (j7, be8, ba8).2.1, (j7, be8, ba8).2.2⟩ := hz10
     try simp only at hs8
     have hs8l : j7 ≤ s.size := hs8.1
     refine l_as 81 (.tuple (List.toArray [])) [Wb 69 p s j7 n be8 ba8, Row (.slice A1 msW.length cp1) 74 3 matchE msW, .blk b5 [iV 2, iV 0, iV 0, .string word, .slice A1 msW.length cp1, Zs, Zs] 26, .blk b4 Zx 26] ?_
     refine l_nil (e_go hK14 ?_)
     refine c_seq fun _ hK15 => ?_
     refine c_region ?_
     refine l_val wn (r_move rfl) rfl ?_
     refine l_give (α := (Nat × Int × Int)) [Wb 69 p s j7 n be8 ba8] [Row (.slice A1 msW.length cp1) 74 3 matchE msW, .blk b5 [iV 2, iV 0, iV 0, .string word, .slice A1 msW.length cp1, Zs, Zs] 26, .blk b4 Zx 26] (fun z : Nat × Int × Int => .tuple #[]) (fun z11 => (Pz.SimU s be8 ba8 (Pz.must s ⟨#[41]⟩ ⟨j7, n⟩) ⟨z11.1, n, z11.2.1, z11.2.2⟩)) (fun z11 => [Wb 69 p s z11.1 n z11.2.1 z11.2.2]) _ (fun _ => rfl) (fun _ h => h.sel [0, 1, 2, 3] (by decide) rfl) (fun _ => rfl) wn rfl rfl Tryd.call65 rfl (fun w1 Pb hG => w_need p s j7 n be8 ba8 ⟨#[41]⟩ Pb w1 hG (by omega) (by omega) (by first | decide | omega)) fun z11 hz11 => ?_
     obtain ⟨j8, be9, ba9⟩ := z11
     have hs9 : Pz.SimU s be8 ba8 (Pz.must s ⟨#[41]⟩ ⟨j7, n⟩) ⟨(j8, be9, ba9).1, n, (j8, be9, ba9).2.1, (j8, be9, ba9).2.2⟩ := hz11
     try simp only at hs9
     have hs9l : j8 ≤ s.size := hs9.1
     refine l_as 83 (.tuple (List.toArray [])) [Wb 69 p s j8 n be9 ba9, Row (.slice A1 msW.length cp1) 74 3 matchE msW, .blk b5 [iV 2, iV 0, iV 0, .string word, .slice A1 msW.length cp1, Zs, Zs] 26, .blk b4 Zx 26] ?_
     refine l_nil (e_go hK15 ?_)
     refine c_seq fun _ hK16 => ?_
     refine c_seq fun _ hK17 => ?_
     refine c_region ?_
     refine l_val wn (r_move rfl) rfl ?_
     refine l_give (α := Unit) [Wb 69 p s j8 n be9 ba9] [Row (.slice A1 msW.length cp1) 74 3 matchE msW, .blk b5 [iV 2, iV 0, iV 0, .string word, .slice A1 msW.length cp1, Zs, Zs] 26, .blk b4 Zx 26] (fun _ : Unit => .bool (decide (be9 = 0))) (fun z12 => True) (fun z12 => [Wb 69 p s j8 n be9 ba9]) (fun z12 => [Wb 69 p s j8 n be9 ba9, Row (.slice A1 msW.length cp1) 74 3 matchE msW, .blk b5 [iV 2, iV 0, iV 0, .string word, .slice A1 msW.length cp1, Zs, Zs] 26, .blk b4 Zx 26]) (fun _ => rfl) (fun _ h => h.sel [0, 1, 2, 3] (by decide) rfl) (fun _ => rfl) wn rfl rfl Tryd.call34 rfl (fun w1 Pb hG => w_ok p s j8 n be9 ba9 Pb w1 hG) fun z12 hz12 => ?_
     refine l_val wn (r_not rfl) rfl ?_
     refine l_nil (e_go hK17 ?_)
     refine c_cond rfl (fun h3 => ?_) (fun h3 => ?_)
     ·
       refine c_seq fun _ hK18 => ?_
       refine c_region ?_
       refine l_val wn (r_lbn 2 [iV 2, iV 0, iV 0, .string word, .slice A1 msW.length cp1, Zs, Zs] rfl rfl rfl rfl agg26 inf26) rfl ?_
       refine l_stn 3 wn rfl rfl rfl inf26 rfl rfl rfl ?_
       refine l_nil (e_go hK18 ?_)
       refine c_ret (e_then_r (e_ret1 (.inl rfl) Tryd.results68 (rv_cell 3 rfl rfl agg26 inf26 rfl) fun w1 hM => ?_))
       have hM := hM.okI0 (be9 = 0) (ExprX.mk 2 0 0 word ⟨A1, cp1, msW⟩ ⟨none, 0, []⟩ ⟨none, 0, []⟩) h3
       exact hM.retA ((ExprX.mk 2 0 0 word ⟨A1, cp1, msW⟩ ⟨none, 0, []⟩ ⟨none, 0, []⟩), j8, n, be9, ba9) rfl ⟨show Pz.Sim s be ba (Pz.window s word ⟨i, n⟩) ((ExprX.mk 2 0 0 word ⟨A1, cp1, msW⟩ ⟨none, 0, []⟩ ⟨none, 0, []⟩)).e ⟨j8, n, be9, ba9⟩ from (by first | exact Pz.window_sim hs1 hs2 hwW hs3 (Pz.Sim.bad (r := ⟨j3, n, be3, ba3⟩) (by show _ ≤ _; omega) h1 rfl rfl) hs8 hs9 (Pz.SimU.bad (r := ⟨j8, n, be9, ba9⟩) (by show _ ≤ _; omega) h3 rfl rfl) | (simp only [ExprX.e, ExprX.es]; exact Pz.window_sim hs1 hs2 hwW hs3 (Pz.Sim.bad (r := ⟨j3, n, be3, ba3⟩) (by show _ ≤ _; omega) h1 rfl rfl) hs8 hs9 (Pz.SimU.bad (r := ⟨j8, n, be9, ba9⟩) (by show _ ≤ _; omega) h3 rfl rfl))), by show 0 ≤ n ∧ n ≤ 101; omega, by show be9 = 0 → n ≤ 100; first | (intro h9; omega) | (intro h9; exact absurd h9 h3) | omega⟩ (fun h => h.sel [1, 0] (by decide) rfl)
     ·
       refine c_skip (e_go hK16 ?_)
       refine c_seq fun _ hK19 => ?_
       refine c_region ?_
       refine l_val wn (r_move rfl) rfl ?_
       refine l_val wn (r_lbn 2 [iV 2, iV 0, iV 0, .string word, .slice A1 msW.length cp1, Zs, Zs] rfl rfl rfl rfl agg26 inf26) rfl ?_
       have hb0_9 : be9 = 0 := (Classical.not_not.1 h3)
       have hb0_10 : be8 = 0 := (hs9.first (Classical.not_not.1 h3))
       have hb0_11 : be3 = 0 := (hs8.first (hs9.first (Classical.not_not.1 h3)))
       have hb0_12 : beW = 0 := (hs3.first (hs8.first (hs9.first (Classical.not_not.1 h3))))
       have hb0_13 : be2 = 0 := (hwW.first (hs3.first (hs8.first (hs9.first (Classical.not_not.1 h3)))))
       have hb0_14 : be1 = 0 := (hs2.first (hwW.first (hs3.first (hs8.first (hs9.first (Classical.not_not.1 h3))))))
       have hb0_15 : be = 0 := (hs1.first (hs2.first (hwW.first (hs3.first (hs8.first (hs9.first (Classical.not_not.1 h3)))))))
       refine l_sealX 1 0 encMatch rfl rfl (fp1) ?_
       refine l_mem (fun _ h => h.exprG (k := 2) (n := 0) (r := 0) (wd := word) (ms := ⟨A1, cp1, msW⟩) (bs := ⟨none, 0, []⟩) (ks := ⟨none, 0, []⟩) (fun _ pp => pp.sl 1 rfl) (fun _ _ => FlatSl.nil_ _ _ _ _) (fun _ _ => FlatSl.nil_ _ _ _ _) (fun _ _ x hx => by cases hx) (by first | decide | omega) (fun x hx => by have := Pz.winL_size 6 (t := ⟨j2, n⟩) (by show _ ≤ s.size; omega) (hwW.ok_ (hwW.first (hs3.first (hs8.first (hs9.first (Classical.not_not.1 h3))))) (hs3.first (hs8.first (hs9.first (Classical.not_not.1 h3))))) (fun _ h => by cases h) x hx; omega) (fun x hx => by cases hx)) ?_
       refine l_give (α := (Int × Int)) [Wb 69 p s j8 n be9 ba9] [okP ExprX.Ok (ExprX.mk 2 0 0 word ⟨A1, cp1, msW⟩ ⟨none, 0, []⟩ ⟨none, 0, []⟩), slP 3 matchE (.slice A1 msW.length cp1) msW, .blk b5 [iV 2, iV 0, iV 0, .string word, .slice A1 msW.length cp1, Zs, Zs] 26, .blk b4 Zx 26] (fun _ : Int × Int => .agg (List.toArray [iV 2, iV 0, iV 0, .string word, .slice A1 msW.length cp1, Zs, Zs])) (fun z13 => (Pz.SimU s be9 ba9 (Pz.node ⟨j8, n⟩) ⟨j8, n + 1, z13.1, z13.2⟩)) (fun z13 => [Wb 69 p s j8 (n + 1) z13.1 z13.2]) _ (fun _ => rfl) (fun _ h => h.sel [1, 0, 2, 3, 4] (by decide) rfl) (fun _ => rfl) wn rfl rfl Tryd.call54 rfl (fun w1 Pb hG => w_made p s j8 n be9 ba9 2 0 0 word A1 msW.length cp1 none 0 0 none 0 0 Pb w1 hG (by omega) (by omega) (by omega)) fun z13 hz13 => ?_
       obtain ⟨be10, ba10⟩ := z13
       have hs10 : Pz.SimU s be9 ba9 (Pz.node ⟨j8, n⟩) ⟨j8, n + 1, be10, ba10⟩ := hz13
       have hs10n : be10 = 0 → n + 1 ≤ 100 := fun h9 => by have h8 := (Pz.Fine.ok_ (Pz.node_fine (s := s) (t := ⟨j8, n⟩) (by show _ ≤ _; omega)) (hs10.ok_ (hs10.first h9) h9)).most (show n ≤ 100 by omega); exact h8
       refine l_as 90 (.agg (List.toArray [iV 2, iV 0, iV 0, .string word, .slice A1 msW.length cp1, Zs, Zs])) [Wb 69 p s j8 (n + 1) be10 ba10, okP ExprX.Ok (ExprX.mk 2 0 0 word ⟨A1, cp1, msW⟩ ⟨none, 0, []⟩ ⟨none, 0, []⟩), slP 3 matchE (.slice A1 msW.length cp1) msW, .blk b5 [iV 2, iV 0, iV 0, .string word, .slice A1 msW.length cp1, Zs, Zs] 26, .blk b4 Zx 26] ?_
       refine l_stn 4 wn rfl rfl rfl inf26 rfl rfl rfl ?_
       refine l_nil (e_go hK19 ?_)
       refine c_ret (e_ret1 (.inl rfl) Tryd.results68 (rv_cell 4 rfl rfl agg26 inf26 rfl) fun w1 hM => ?_)
       have hM := hM.okI1 (be10 = 0) 1 rfl
       exact hM.retA ((ExprX.mk 2 0 0 word ⟨A1, cp1, msW⟩ ⟨none, 0, []⟩ ⟨none, 0, []⟩), j8, (n + 1), be10, ba10) rfl ⟨show Pz.Sim s be ba (Pz.window s word ⟨i, n⟩) ((ExprX.mk 2 0 0 word ⟨A1, cp1, msW⟩ ⟨none, 0, []⟩ ⟨none, 0, []⟩)).e ⟨j8, (n + 1), be10, ba10⟩ from (by first | exact Pz.window_sim hs1 hs2 hwW hs3 (Pz.Sim.bad (r := ⟨j3, n, be3, ba3⟩) (by show _ ≤ _; omega) h1 rfl rfl) hs8 hs9 hs10 | (simp only [ExprX.e, ExprX.es]; exact Pz.window_sim hs1 hs2 hwW hs3 (Pz.Sim.bad (r := ⟨j3, n, be3, ba3⟩) (by show _ ≤ _; omega) h1 rfl rfl) hs8 hs9 hs10)), by show 0 ≤ (n + 1) ∧ (n + 1) ≤ 101; omega, by show be10 = 0 → (n + 1) ≤ 100; first | (intro h9; omega) | (intro h9; exact absurd h9 id) | exact hs10n⟩ (fun h => h.sel [1, 0] (by decide) rfl)
 refine c_block ?_
 refine c_mem (fun _ h => h.nilRow Match 74 3 matchE) ?_
 refine c_loop6 (fun (ms : List Match) (k : Nat) (bl : Int) (al : Int) (q : Nat) (rv : Value) => [(0, .pointer (some ⟨p, 0, none⟩)), (4, .pointer (some ⟨b4, 0, none⟩)), (5, .pointer (some ⟨b5, 0, none⟩))]) (fun (ms : List Match) (k : Nat) (bl : Int) (al : Int) (q : Nat) (rv : Value) => [Row rv 74 3 matchE ms, Wb 69 p s k n bl al, .blk b5 [iV 2, iV 0, iV 0, .string word, rv, Zs, Zs] 26, .blk b4 Zx 26]) (fun (ms : List Match) (k : Nat) (bl : Int) (al : Int) (q : Nat) (rv : Value) => (∀ b r, Pz.Sim s bl al (Pz.winL s (q + 1) ms ⟨k, n⟩) b r → Pz.Sim s be2 ba2 (Pz.winL s 6 [] ⟨j2, n⟩) b r) ∧ ms.length + q = 5 ∧ k ≤ s.size) (fun (ms : List Match) (k : Nat) (bl : Int) (al : Int) (q : Nat) (rv : Value) => q) [] j2 be2 ba2 5 (Zs) (sc rfl (sc rfl (sc rfl sn))) (fun _ h => h) ?_ (fun ms k bl al q rv hI1 => ?_)
 · exact ⟨fun _ _ h => h, rfl, by omega⟩
 refine c_open 0 (l := ms) rfl fun A2 cp2 hv2 hc2 hm2 hA2 => ?_
 subst hv2
 refine c_seq fun _ hK20 => ?_
 refine c_seq fun _ hK21 => ?_
 refine c_region ?_
 refine l_val wn (r_move rfl) rfl ?_
 refine l_give (α := Unit) [Wb 69 p s k n bl al] [Row (.slice A2 ms.length cp2) 74 3 matchE ms, .blk b5 [iV 2, iV 0, iV 0, .string word, .slice A2 ms.length cp2, Zs, Zs] 26, .blk b4 Zx 26] (fun _ : Unit => .bool (decide (bl = 0))) (fun z14 => True) (fun z14 => [Wb 69 p s k n bl al]) (fun z14 => [Wb 69 p s k n bl al, Row (.slice A2 ms.length cp2) 74 3 matchE ms, .blk b5 [iV 2, iV 0, iV 0, .string word, .slice A2 ms.length cp2, Zs, Zs] 26, .blk b4 Zx 26]) (fun _ => rfl) (fun _ h => h.sel [1, 0, 2, 3] (by decide) rfl) (fun _ => rfl) wn rfl rfl Tryd.call34 rfl (fun w1 Pb hG => w_ok p s k n bl al Pb w1 hG) fun z14 hz14 => ?_
 refine l_val wn (r_move rfl) rfl ?_
 refine l_case (t := 15) rfl (fun h4 => ?_) (fun h4 => ?_)
 · refine l_val (wg rfl rfl rfl) (r_move rfl) rfl ?_
   refine l_give (α := (Bool × Nat)) [Wb 69 p s k n bl al] [Row (.slice A2 ms.length cp2) 74 3 matchE ms, .blk b5 [iV 2, iV 0, iV 0, .string word, .slice A2 ms.length cp2, Zs, Zs] 26, .blk b4 Zx 26] (fun z : Bool × Nat => .bool z.1) (fun z15 => (Pz.SignR s ⟨#[125]⟩ bl k z15)) (fun z15 => [Wb 69 p s z15.2 n bl al]) _ (fun _ => rfl) (fun _ h => h.sel [0, 1, 2, 3] (by decide) rfl) (fun _ => rfl) (wg rfl rfl rfl) rfl rfl Tryd.call53 rfl (fun w1 Pb hG => w_sign p s k n bl al ⟨#[125]⟩ Pb w1 hG (by omega) (by omega) (by first | decide | omega)) fun z15 hz15 => ?_
   obtain ⟨bo1, j9⟩ := z15
   have hs11 : Pz.SignR s ⟨#[125]⟩ bl k (bo1, j9) := hz15
   try simp only at hs11
   have hs11l : j9 ≤ s.size := hs11.1
   refine l_as 17 (.bool bo1) [Wb 69 p s j9 n bl al, Row (.slice A2 ms.length cp2) 74 3 matchE ms, .blk b5 [iV 2, iV 0, iV 0, .string word, .slice A2 ms.length cp2, Zs, Zs] 26, .blk b4 Zx 26] ?_
   refine l_val (wg rfl rfl rfl) (r_notb rfl) rfl ?_
   refine l_val wn (r_pick rfl rfl) rfl ?_
   refine l_nil (e_go hK21 ?_)
   refine c_condb rfl (fun h5 => ?_) (fun h5 => ?_)
   · refine c_skip (e_go hK20 ?_)
     refine c_block ?_
     refine c_seq fun _ hK22 => ?_
     refine c_seq fun _ hK23 => ?_
     refine c_region ?_
     refine l_val wn (r_fa rfl fld26_4) rfl ?_
     refine l_val wn (r_lb 2 rfl rfl rfl flat22) rfl ?_
     refine l_val wn (r_len rfl Tryd.underlying22) rfl ?_
     refine l_val wn (r_gtr rfl rfl) rfl ?_
     refine l_nil (e_go hK23 ?_)
     refine c_cond rfl (fun h6 => ?_) (fun h6 => ?_)
     · refine c_region ?_
       refine l_val wn (r_move rfl) rfl ?_
       refine l_give (α := (Nat × Int × Int)) [Wb 69 p s j9 n bl al] [Row (.slice A2 ms.length cp2) 74 3 matchE ms, .blk b5 [iV 2, iV 0, iV 0, .string word, .slice A2 ms.length cp2, Zs, Zs] 26, .blk b4 Zx 26] (fun z : Nat × Int × Int => .tuple #[]) (fun z16 => (Pz.SimU s bl al (Pz.must s ⟨#[44]⟩ ⟨j9, n⟩) ⟨z16.1, n, z16.2.1, z16.2.2⟩)) (fun z16 => [Wb 69 p s z16.1 n z16.2.1 z16.2.2]) _ (fun _ => rfl) (fun _ h => h.sel [0, 1, 2, 3] (by decide) rfl) (fun _ => rfl) wn rfl rfl Tryd.call65 rfl (fun w1 Pb hG => w_need p s j9 n bl al ⟨#[44]⟩ Pb w1 hG (by omega) (by omega) (by first | decide | omega)) fun z16 hz16 => ?_
       obtain ⟨j10, be11, ba11⟩ := z16
       have hs12 : Pz.SimU s bl al (Pz.must s ⟨#[44]⟩ ⟨j9, n⟩) ⟨(j10, be11, ba11).1, n, (j10, be11, ba11).2.1, (j10, be11, ba11).2.2⟩ := hz16
       try simp only at hs12
       have hs12l : j10 ≤ s.size := hs12.1
       refine l_as 25 (.tuple (List.toArray [])) [Wb 69 p s j10 n be11 ba11, Row (.slice A2 ms.length cp2) 74 3 matchE ms, .blk b5 [iV 2, iV 0, iV 0, .string word, .slice A2 ms.length cp2, Zs, Zs] 26, .blk b4 Zx 26] ?_
       refine l_nil (e_go hK22 ?_)
       refine c_seq fun _ hK24 => ?_
       refine c_seq fun _ hK25 => ?_
       refine c_region ?_
       refine l_val wn (r_fa rfl fld26_4) rfl ?_
       refine l_val wn (r_lb 2 rfl rfl rfl flat22) rfl ?_
       refine l_val wn (r_len rfl Tryd.underlying22) rfl ?_
       refine l_val wn (r_geq rfl rfl) rfl ?_
       refine l_nil (e_go hK25 ?_)
       refine c_cond rfl (fun h7 => ?_) (fun h7 => ?_)
       · refine c_region ?_
         refine l_val wn (r_move rfl) rfl ?_
         refine l_val wn (r_move rfl) rfl ?_
         refine l_val wn (r_nilCheck rfl) rfl ?_
         refine l_val wn (r_fa rfl fld69_1) rfl ?_
         refine l_val wn (r_lb 0 rfl rfl rfl flat3) rfl ?_
         refine l_give (α := (Int × Int)) [Wb 69 p s j10 n be11 ba11] [Row (.slice A2 ms.length cp2) 74 3 matchE ms, .blk b5 [iV 2, iV 0, iV 0, .string word, .slice A2 ms.length cp2, Zs, Zs] 26, .blk b4 Zx 26] (fun z : Int × Int => .tuple #[]) (fun z17 => (Pz.StopR be11 ba11 5 (j10 : Int) z17)) (fun z17 => [Wb 69 p s j10 n z17.1 z17.2]) _ (fun _ => rfl) (fun _ h => h.sel [0, 1, 2, 3] (by decide) rfl) (fun _ => rfl) wn rfl rfl Tryd.call36 rfl (fun w1 Pb hG => w_stop p s j10 n be11 ba11 5 (j10 : Int) Pb w1 hG ) fun z17 hz17 => ?_
         obtain ⟨be12, ba12⟩ := z17
         have hs13 : Pz.StopR be11 ba11 5 (j10 : Int) (be12, ba12) := hz17
         try simp only at hs13
         refine l_as 35 (.tuple (List.toArray [])) [Wb 69 p s j10 n be12 ba12, Row (.slice A2 ms.length cp2) 74 3 matchE ms, .blk b5 [iV 2, iV 0, iV 0, .string word, .slice A2 ms.length cp2, Zs, Zs] 26, .blk b4 Zx 26] ?_
         refine l_nil (e_go hK24 ?_)
         refine c_seq fun _ hK26 => ?_
         refine c_seq fun _ hK27 => ?_
         refine c_region ?_
         refine l_val wn (r_move rfl) rfl ?_
         refine l_give (α := Unit) [Wb 69 p s j10 n be12 ba12] [Row (.slice A2 ms.length cp2) 74 3 matchE ms, .blk b5 [iV 2, iV 0, iV 0, .string word, .slice A2 ms.length cp2, Zs, Zs] 26, .blk b4 Zx 26] (fun _ : Unit => .bool (decide (be12 = 0))) (fun z18 => True) (fun z18 => [Wb 69 p s j10 n be12 ba12]) (fun z18 => [Wb 69 p s j10 n be12 ba12, Row (.slice A2 ms.length cp2) 74 3 matchE ms, .blk b5 [iV 2, iV 0, iV 0, .string word, .slice A2 ms.length cp2, Zs, Zs] 26, .blk b4 Zx 26]) (fun _ => rfl) (fun _ h => h.sel [0, 1, 2, 3] (by decide) rfl) (fun _ => rfl) wn rfl rfl Tryd.call34 rfl (fun w1 Pb hG => w_ok p s j10 n be12 ba12 Pb w1 hG) fun z18 hz18 => ?_
         refine l_val wn (r_not rfl) rfl ?_
         refine l_nil (e_go hK27 ?_)
         refine c_true rfl (decide_eq_true (hs13.ne (by decide))) ?_
         refine c_exit (e_then_x (e_in_miss rfl (e_loop6_x (e_in_hit (e_cut (hR1 ms j10 be12 ba12 (.slice A2 ms.length cp2) (Pz.wl_many hI1.1 h4 hs11 (by simpa using h5) (Pz.sep_yes h6 hs12) h7 (by omega) hs13) (by omega)) (sc rfl (sc rfl (sc rfl sn))) (fun _ h => (h.sel [1, 0, 2, 3] (by decide) rfl)))))))
       refine c_skip (e_go hK24 ?_)
       refine c_seq fun _ hK28 => ?_
       refine c_seq fun _ hK29 => ?_
       refine c_region ?_
       refine l_val wn (r_move rfl) rfl ?_
       refine l_give (α := Unit) [Wb 69 p s j10 n be11 ba11] [Row (.slice A2 ms.length cp2) 74 3 matchE ms, .blk b5 [iV 2, iV 0, iV 0, .string word, .slice A2 ms.length cp2, Zs, Zs] 26, .blk b4 Zx 26] (fun _ : Unit => .bool (decide (be11 = 0))) (fun z19 => True) (fun z19 => [Wb 69 p s j10 n be11 ba11]) (fun z19 => [Wb 69 p s j10 n be11 ba11, Row (.slice A2 ms.length cp2) 74 3 matchE ms, .blk b5 [iV 2, iV 0, iV 0, .string word, .slice A2 ms.length cp2, Zs, Zs] 26, .blk b4 Zx 26]) (fun _ => rfl) (fun _ h => h.sel [0, 1, 2, 3] (by decide) rfl) (fun _ => rfl) wn rfl rfl Tryd.call34 rfl (fun w1 Pb hG => w_ok p s j10 n be11 ba11 Pb w1 hG) fun z19 hz19 => ?_
       refine l_val wn (r_not rfl) rfl ?_
       refine l_nil (e_go hK29 ?_)
       refine c_cond rfl (fun h8 => ?_) (fun h8 => ?_)
       · refine c_exit (e_then_x (e_in_miss rfl (e_loop6_x (e_in_hit (e_cut (hR1 ms j10 be11 ba11 (.slice A2 ms.length cp2) (Pz.wl_off hI1.1 h4 hs11 (by simpa using h5) (Pz.sep_yes h6 hs12) h8) (by omega)) (sc rfl (sc rfl (sc rfl sn))) (fun _ h => (h.sel [1, 0, 2, 3] (by decide) rfl)))))))
       refine c_skip (e_go hK28 ?_)
       refine c_seq fun _ hK30 => ?_
       refine c_region ?_
       refine l_val wn (r_build [iV 4, .string ⟨#[]⟩, .string ⟨#[]⟩] pl74 inf74 rfl rfl) rfl ?_
       refine l_alloc wn inf74 rfl fun b6 => ?_
       refine l_stn 0 wn rfl rfl rfl inf74 rfl rfl rfl ?_
       refine l_nil (e_go hK30 ?_)
       refine c_seq fun _ hK31 => ?_
       refine c_seq fun _ hK32 => ?_
       refine c_region ?_
       refine l_val wn (r_move rfl) rfl ?_
       refine l_give (α := (Bool × Nat)) [Wb 69 p s j10 n be11 ba11] [.blk b6 [iV 4, .string ⟨#[]⟩, .string ⟨#[]⟩] 74, Row (.slice A2 ms.length cp2) 74 3 matchE ms, .blk b5 [iV 2, iV 0, iV 0, .string word, .slice A2 ms.length cp2, Zs, Zs] 26, .blk b4 Zx 26] (fun z : Bool × Nat => .bool z.1) (fun z20 => (Pz.SignR s ⟨#[33]⟩ be11 j10 z20)) (fun z20 => [Wb 69 p s z20.2 n be11 ba11]) _ (fun _ => rfl) (fun _ h => h.sel [1, 0, 2, 3, 4] (by decide) rfl) (fun _ => rfl) wn rfl rfl Tryd.call53 rfl (fun w1 Pb hG => w_sign p s j10 n be11 ba11 ⟨#[33]⟩ Pb w1 hG (by omega) (by omega) (by first | decide | omega)) fun z20 hz20 => ?_
       obtain ⟨bo2, j11⟩ := z20
       have hs14 : Pz.SignR s ⟨#[33]⟩ be11 j10 (bo2, j11) := hz20
       try simp only at hs14
       have hs14l : j11 ≤ s.size := hs14.1
       refine l_as 41 (.bool bo2) [Wb 69 p s j11 n be11 ba11, .blk b6 [iV 4, .string ⟨#[]⟩, .string ⟨#[]⟩] 74, Row (.slice A2 ms.length cp2) 74 3 matchE ms, .blk b5 [iV 2, iV 0, iV 0, .string word, .slice A2 ms.length cp2, Zs, Zs] 26, .blk b4 Zx 26] ?_
       refine l_nil (e_go hK32 ?_)
       refine c_condb rfl (fun h9 => ?_) (fun h9 => ?_)
       · refine c_seq fun _ hK33 => ?_
         refine c_region ?_
         refine l_val wn (r_move rfl) rfl ?_
         refine l_give (α := (ByteArray × Nat × Int × Int)) [Wb 69 p s j11 n be11 ba11] [.blk b6 [iV 4, .string ⟨#[]⟩, .string ⟨#[]⟩] 74, Row (.slice A2 ms.length cp2) 74 3 matchE ms, .blk b5 [iV 2, iV 0, iV 0, .string word, .slice A2 ms.length cp2, Zs, Zs] 26, .blk b4 Zx 26] (fun z : ByteArray × Nat × Int × Int => .string z.1) (fun z21 => ((Pz.Sim s be11 ba11 (Pz.name s ⟨j11, n⟩) z21.1 ⟨z21.2.1, n, z21.2.2.1, z21.2.2.2⟩) ∧ z21.1.size ≤ 2000)) (fun z21 => [Wb 69 p s z21.2.1 n z21.2.2.1 z21.2.2.2]) _ (fun _ => rfl) (fun _ h => h.sel [0, 1, 2, 3, 4] (by decide) rfl) (fun _ => rfl) wn rfl rfl Tryd.call69 rfl (fun w1 Pb hG => w_name p s j11 n be11 ba11  Pb w1 hG (by omega) (by omega)) fun z21 hz21 => ?_
         obtain ⟨wd1, j12, be13, ba13⟩ := z21
         have hs15 : (Pz.Sim s be11 ba11 (Pz.name s ⟨j11, n⟩) (wd1, j12, be13, ba13).1 ⟨(wd1, j12, be13, ba13).2.1, n, (wd1, j12, be13, ba13).2.2.1, (wd1, j12, be13, ba13).2.2.2⟩) ∧ (wd1, j12, be13, ba13).1.size ≤ 2000 := hz21
         try simp only at hs15
         have hs15l : j12 ≤ s.size := hs15.1.1
         have hs15z : wd1.size ≤ 2000 := hs15.2
         refine l_as 43 (.string wd1) [Wb 69 p s j12 n be13 ba13, .blk b6 [iV 4, .string ⟨#[]⟩, .string ⟨#[]⟩] 74, Row (.slice A2 ms.length cp2) 74 3 matchE ms, .blk b5 [iV 2, iV 0, iV 0, .string word, .slice A2 ms.length cp2, Zs, Zs] 26, .blk b4 Zx 26] ?_
         refine l_val wn (r_fa rfl fld74_1) rfl ?_
         refine l_st1 1 wn rfl rfl rfl rfl inf9 rfl rfl ?_
         refine l_nil (e_go hK33 ?_)
         refine c_seq fun _ hK34 => ?_
         refine c_region ?_
         refine l_val wn (r_fa rfl fld26_4) rfl ?_
         refine l_val wn (r_lb 3 rfl rfl rfl flat22) rfl ?_
         refine l_val wn (r_lbn 1 [iV 4, .string wd1, .string ⟨#[]⟩] rfl rfl rfl rfl agg74 inf74) rfl ?_
         refine l_bsL matchE ([(⟨4, wd1, ⟨#[]⟩⟩ : Match)] : List Match) wn Tryd.underlying22 inf74 rfl rfl rfl rfl (by decide) (by decide) rfl fun b48 => ?_
         refine l_app 3 ms ([(⟨4, wd1, ⟨#[]⟩⟩ : Match)] : List Match) encMatch wn rfl rfl rfl (fun _ hM => (RowSl encMatch hM 0 rfl)) Tryd.underlying22 inf74 rfl rfl (by simp only [List.length_append, List.length_cons, List.length_nil]; omega) rfl fun A3 cp3 hc3 hm3 hA3 => ?_
         refine l_val wn (r_fa rfl fld26_4) rfl ?_
         refine l_st1 4 wn rfl rfl rfl rfl inf22 rfl rfl ?_
         refine l_nil (e_go hK34 ?_)
         refine c_exit (e_then_x (e_in_hit (e_round6 (ms ++ ([(⟨4, wd1, ⟨#[]⟩⟩ : Match)] : List Match)) j12 be13 ba13 (q - 1) (.slice A3 ((ms ++ ([(⟨4, wd1, ⟨#[]⟩⟩ : Match)] : List Match)).length) cp3) (sc rfl (sc rfl (sc rfl sn))) (fun _ h => (h.sel [3, 1, 4, 5] (by decide) rfl)) ?_ ?_)))
         · exact ⟨by rw [show q - 1 + 1 = q by omega]; exact Pz.wl_next hI1.1 h4 hs11 (by simpa using h5) (Pz.sep_yes h6 hs12) h7 (Pz.ms1 (Classical.not_not.1 h8) hs14 h9 hs15.1), by simp only [List.length_append, List.length_cons, List.length_nil]; omega, by omega⟩
         omega
       refine c_skip (e_go hK31 ?_)
       refine c_seq fun _ hK35 => ?_
       refine c_region ?_
       refine l_val wn (r_move rfl) rfl ?_
       refine l_give (α := (ByteArray × Nat × Int × Int)) [Wb 69 p s j11 n be11 ba11] [.blk b6 [iV 4, .string ⟨#[]⟩, .string ⟨#[]⟩] 74, Row (.slice A2 ms.length cp2) 74 3 matchE ms, .blk b5 [iV 2, iV 0, iV 0, .string word, .slice A2 ms.length cp2, Zs, Zs] 26, .blk b4 Zx 26] (fun z : ByteArray × Nat × Int × Int => .string z.1) (fun z22 => ((Pz.Sim s be11 ba11 (Pz.name s ⟨j11, n⟩) z22.1 ⟨z22.2.1, n, z22.2.2.1, z22.2.2.2⟩) ∧ z22.1.size ≤ 2000)) (fun z22 => [Wb 69 p s z22.2.1 n z22.2.2.1 z22.2.2.2]) _ (fun _ => rfl) (fun _ h => h.sel [0, 1, 2, 3, 4] (by decide) rfl) (fun _ => rfl) wn rfl rfl Tryd.call69 rfl (fun w1 Pb hG => w_name p s j11 n be11 ba11  Pb w1 hG (by omega) (by omega)) fun z22 hz22 => ?_
       obtain ⟨wd2, j13, be14, ba14⟩ := z22
       have hs16 : (Pz.Sim s be11 ba11 (Pz.name s ⟨j11, n⟩) (wd2, j13, be14, ba14).1 ⟨(wd2, j13, be14, ba14).2.1, n, (wd2, j13, be14, ba14).2.2.1, (wd2, j13, be14, ba14).2.2.2⟩) ∧ (wd2, j13, be14, ba14).1.size ≤ 2000 := hz22
       try simp only at hs16
       have hs16l : j13 ≤ s.size := hs16.1.1
       have hs16z : wd2.size ≤ 2000 := hs16.2
       refine l_as 52 (.string wd2) [Wb 69 p s j13 n be14 ba14, .blk b6 [iV 4, .string ⟨#[]⟩, .string ⟨#[]⟩] 74, Row (.slice A2 ms.length cp2) 74 3 matchE ms, .blk b5 [iV 2, iV 0, iV 0, .string word, .slice A2 ms.length cp2, Zs, Zs] 26, .blk b4 Zx 26] ?_
       refine l_val wn (r_fa rfl fld74_1) rfl ?_
       refine l_st1 1 wn rfl rfl rfl rfl inf9 rfl rfl ?_
       refine l_val wn (r_fa rfl fld74_0) rfl ?_
       refine l_st1 1 wn rfl rfl rfl rfl inf3 rfl rfl ?_
       refine l_nil (e_go hK35 ?_)
       refine c_seq fun _ hK36 => ?_
       refine c_seq fun _ hK37 => ?_
       refine c_region ?_
       refine l_val wn (r_move rfl) rfl ?_
       refine l_give (α := (Bool × Nat)) [Wb 69 p s j13 n be14 ba14] [.blk b6 [iV 3, .string wd2, .string ⟨#[]⟩] 74, Row (.slice A2 ms.length cp2) 74 3 matchE ms, .blk b5 [iV 2, iV 0, iV 0, .string word, .slice A2 ms.length cp2, Zs, Zs] 26, .blk b4 Zx 26] (fun z : Bool × Nat => .bool z.1) (fun z23 => (Pz.SignR s ⟨#[33, 61]⟩ be14 j13 z23)) (fun z23 => [Wb 69 p s z23.2 n be14 ba14]) _ (fun _ => rfl) (fun _ h => h.sel [0, 1, 2, 3, 4] (by decide) rfl) (fun _ => rfl) wn rfl rfl Tryd.call53 rfl (fun w1 Pb hG => w_sign p s j13 n be14 ba14 ⟨#[33, 61]⟩ Pb w1 hG (by omega) (by omega) (by first | decide | omega)) fun z23 hz23 => ?_
       obtain ⟨bo3, j14⟩ := z23
       have hs17 : Pz.SignR s ⟨#[33, 61]⟩ be14 j13 (bo3, j14) := hz23
       try simp only at hs17
       have hs17l : j14 ≤ s.size := hs17.1
       refine l_as 56 (.bool bo3) [Wb 69 p s j14 n be14 ba14, .blk b6 [iV 3, .string wd2, .string ⟨#[]⟩] 74, Row (.slice A2 ms.length cp2) 74 3 matchE ms, .blk b5 [iV 2, iV 0, iV 0, .string word, .slice A2 ms.length cp2, Zs, Zs] 26, .blk b4 Zx 26] ?_
       refine l_nil (e_go hK37 ?_)
       refine c_condb rfl (fun h10 => ?_) (fun h10 => ?_)
       · refine c_region ?_
         refine l_val wn (r_move rfl) rfl ?_
         refine l_give (α := (ByteArray × Nat × Int × Int)) [Wb 69 p s j14 n be14 ba14] [.blk b6 [iV 3, .string wd2, .string ⟨#[]⟩] 74, Row (.slice A2 ms.length cp2) 74 3 matchE ms, .blk b5 [iV 2, iV 0, iV 0, .string word, .slice A2 ms.length cp2, Zs, Zs] 26, .blk b4 Zx 26] (fun z : ByteArray × Nat × Int × Int => .string z.1) (fun z24 => ((Pz.Sim s be14 ba14 (Pz.name s ⟨j14, n⟩) z24.1 ⟨z24.2.1, n, z24.2.2.1, z24.2.2.2⟩) ∧ z24.1.size ≤ 2000)) (fun z24 => [Wb 69 p s z24.2.1 n z24.2.2.1 z24.2.2.2]) _ (fun _ => rfl) (fun _ h => h.sel [0, 1, 2, 3, 4] (by decide) rfl) (fun _ => rfl) wn rfl rfl Tryd.call69 rfl (fun w1 Pb hG => w_name p s j14 n be14 ba14  Pb w1 hG (by omega) (by omega)) fun z24 hz24 => ?_
         obtain ⟨wd3, j15, be15, ba15⟩ := z24
         have hs18 : (Pz.Sim s be14 ba14 (Pz.name s ⟨j14, n⟩) (wd3, j15, be15, ba15).1 ⟨(wd3, j15, be15, ba15).2.1, n, (wd3, j15, be15, ba15).2.2.1, (wd3, j15, be15, ba15).2.2.2⟩) ∧ (wd3, j15, be15, ba15).1.size ≤ 2000 := hz24
         try simp only at hs18
         have hs18l : j15 ≤ s.size := hs18.1.1
         have hs18z : wd3.size ≤ 2000 := hs18.2
         refine l_as 58 (.string wd3) [Wb 69 p s j15 n be15 ba15, .blk b6 [iV 3, .string wd2, .string ⟨#[]⟩] 74, Row (.slice A2 ms.length cp2) 74 3 matchE ms, .blk b5 [iV 2, iV 0, iV 0, .string word, .slice A2 ms.length cp2, Zs, Zs] 26, .blk b4 Zx 26] ?_
         refine l_val wn (r_fa rfl fld74_0) rfl ?_
         refine l_st1 1 wn rfl rfl rfl rfl inf3 rfl rfl ?_
         refine l_val wn (r_fa rfl fld74_2) rfl ?_
         refine l_st1 1 wn rfl rfl rfl rfl inf9 rfl rfl ?_
         refine l_nil (e_go hK36 ?_)
         refine c_region ?_
         refine l_val wn (r_fa rfl fld26_4) rfl ?_
         refine l_val wn (r_lb 3 rfl rfl rfl flat22) rfl ?_
         refine l_val wn (r_lbn 1 [iV 2, .string wd2, .string wd3] rfl rfl rfl rfl agg74 inf74) rfl ?_
         refine l_bsL matchE ([(⟨2, wd2, wd3⟩ : Match)] : List Match) wn Tryd.underlying22 inf74 rfl rfl rfl rfl (by decide) (by decide) rfl fun b70 => ?_
         refine l_app 3 ms ([(⟨2, wd2, wd3⟩ : Match)] : List Match) encMatch wn rfl rfl rfl (fun _ hM => (RowSl encMatch hM 0 rfl)) Tryd.underlying22 inf74 rfl rfl (by simp only [List.length_append, List.length_cons, List.length_nil]; omega) rfl fun A4 cp4 hc4 hm4 hA4 => ?_
         refine l_val wn (r_fa rfl fld26_4) rfl ?_
         refine l_st1 4 wn rfl rfl rfl rfl inf22 rfl rfl ?_
         refine l_nil (e_in_n (e_round6 (ms ++ ([(⟨2, wd2, wd3⟩ : Match)] : List Match)) j15 be15 ba15 (q - 1) (.slice A4 ((ms ++ ([(⟨2, wd2, wd3⟩ : Match)] : List Match)).length) cp4) (sc rfl (sc rfl (sc rfl sn))) (fun _ h => (h.sel [3, 1, 4, 5] (by decide) rfl)) ?_ ?_))
         · exact ⟨by rw [show q - 1 + 1 = q by omega]; exact Pz.wl_next hI1.1 h4 hs11 (by simpa using h5) (Pz.sep_yes h6 hs12) h7 (Pz.ms2 (Classical.not_not.1 h8) hs14 (by simpa using h9) hs16.1 hs17 h10 hs18.1), by simp only [List.length_append, List.length_cons, List.length_nil]; omega, by omega⟩
         omega
       refine c_seq fun _ hK38 => ?_
       refine c_region ?_
       refine l_val wn (r_move rfl) rfl ?_
       refine l_give (α := (Bool × Nat)) [Wb 69 p s j14 n be14 ba14] [.blk b6 [iV 3, .string wd2, .string ⟨#[]⟩] 74, Row (.slice A2 ms.length cp2) 74 3 matchE ms, .blk b5 [iV 2, iV 0, iV 0, .string word, .slice A2 ms.length cp2, Zs, Zs] 26, .blk b4 Zx 26] (fun z : Bool × Nat => .bool z.1) (fun z25 => (Pz.SignR s ⟨#[61]⟩ be14 j14 z25)) (fun z25 => [Wb 69 p s z25.2 n be14 ba14]) _ (fun _ => rfl) (fun _ h => h.sel [0, 1, 2, 3, 4] (by decide) rfl) (fun _ => rfl) wn rfl rfl Tryd.call53 rfl (fun w1 Pb hG => w_sign p s j14 n be14 ba14 ⟨#[61]⟩ Pb w1 hG (by omega) (by omega) (by first | decide | omega)) fun z25 hz25 => ?_
       obtain ⟨bo4, j16⟩ := z25
       have hs19 : Pz.SignR s ⟨#[61]⟩ be14 j14 (bo4, j16) := hz25
       try simp only at hs19
       have hs19l : j16 ≤ s.size := hs19.1
       refine l_as 62 (.bool bo4) [Wb 69 p s j16 n be14 ba14, .blk b6 [iV 3, .string wd2, .string ⟨#[]⟩] 74, Row (.slice A2 ms.length cp2) 74 3 matchE ms, .blk b5 [iV 2, iV 0, iV 0, .string word, .slice A2 ms.length cp2, Zs, Zs] 26, .blk b4 Zx 26] ?_
       refine l_nil (e_go hK38 ?_)
       refine c_condb rfl (fun h11 => ?_) (fun h11 => ?_)
       · refine c_region ?_
         refine l_val wn (r_move rfl) rfl ?_
         refine l_give (α := (ByteArray × Nat × Int × Int)) [Wb 69 p s j16 n be14 ba14] [.blk b6 [iV 3, .string wd2, .string ⟨#[]⟩] 74, Row (.slice A2 ms.length cp2) 74 3 matchE ms, .blk b5 [iV 2, iV 0, iV 0, .string word, .slice A2 ms.length cp2, Zs, Zs] 26, .blk b4 Zx 26] (fun z : ByteArray × Nat × Int × Int => .string z.1) (fun z26 => ((Pz.Sim s be14 ba14 (Pz.name s ⟨j16, n⟩) z26.1 ⟨z26.2.1, n, z26.2.2.1, z26.2.2.2⟩) ∧ z26.1.size ≤ 2000)) (fun z26 => [Wb 69 p s z26.2.1 n z26.2.2.1 z26.2.2.2]) _ (fun _ => rfl) (fun _ h => h.sel [0, 1, 2, 3, 4] (by decide) rfl) (fun _ => rfl) wn rfl rfl Tryd.call69 rfl (fun w1 Pb hG => w_name p s j16 n be14 ba14  Pb w1 hG (by omega) (by omega)) fun z26 hz26 => ?_
         obtain ⟨wd4, j17, be16, ba16⟩ := z26
         have hs20 : (Pz.Sim s be14 ba14 (Pz.name s ⟨j16, n⟩) (wd4, j17, be16, ba16).1 ⟨(wd4, j17, be16, ba16).2.1, n, (wd4, j17, be16, ba16).2.2.1, (wd4, j17, be16, ba16).2.2.2⟩) ∧ (wd4, j17, be16, ba16).1.size ≤ 2000 := hz26
         try simp only at hs20
         have hs20l : j17 ≤ s.size := hs20.1.1
         have hs20z : wd4.size ≤ 2000 := hs20.2
         refine l_as 64 (.string wd4) [Wb 69 p s j17 n be16 ba16, .blk b6 [iV 3, .string wd2, .string ⟨#[]⟩] 74, Row (.slice A2 ms.length cp2) 74 3 matchE ms, .blk b5 [iV 2, iV 0, iV 0, .string word, .slice A2 ms.length cp2, Zs, Zs] 26, .blk b4 Zx 26] ?_
         refine l_val wn (r_fa rfl fld74_0) rfl ?_
         refine l_st1 1 wn rfl rfl rfl rfl inf3 rfl rfl ?_
         refine l_val wn (r_fa rfl fld74_2) rfl ?_
         refine l_st1 1 wn rfl rfl rfl rfl inf9 rfl rfl ?_
         refine l_nil (e_go hK36 ?_)
         refine c_region ?_
         refine l_val wn (r_fa rfl fld26_4) rfl ?_
         refine l_val wn (r_lb 3 rfl rfl rfl flat22) rfl ?_
         refine l_val wn (r_lbn 1 [iV 1, .string wd2, .string wd4] rfl rfl rfl rfl agg74 inf74) rfl ?_
         refine l_bsL matchE ([(⟨1, wd2, wd4⟩ : Match)] : List Match) wn Tryd.underlying22 inf74 rfl rfl rfl rfl (by decide) (by decide) rfl fun b70 => ?_
         refine l_app 3 ms ([(⟨1, wd2, wd4⟩ : Match)] : List Match) encMatch wn rfl rfl rfl (fun _ hM => (RowSl encMatch hM 0 rfl)) Tryd.underlying22 inf74 rfl rfl (by simp only [List.length_append, List.length_cons, List.length_nil]; omega) rfl fun A5 cp5 hc5 hm5 hA5 => ?_
         refine l_val wn (r_fa rfl fld26_4) rfl ?_
         refine l_st1 4 wn rfl rfl rfl rfl inf22 rfl rfl ?_
         refine l_nil (e_in_n (e_round6 (ms ++ ([(⟨1, wd2, wd4⟩ : Match)] : List Match)) j17 be16 ba16 (q - 1) (.slice A5 ((ms ++ ([(⟨1, wd2, wd4⟩ : Match)] : List Match)).length) cp5) (sc rfl (sc rfl (sc rfl sn))) (fun _ h => (h.sel [3, 1, 4, 5] (by decide) rfl)) ?_ ?_))
         · exact ⟨by rw [show q - 1 + 1 = q by omega]; exact Pz.wl_next hI1.1 h4 hs11 (by simpa using h5) (Pz.sep_yes h6 hs12) h7 (Pz.ms3 (Classical.not_not.1 h8) hs14 (by simpa using h9) hs16.1 hs17 (by simpa using h10) hs19 h11 hs20.1), by simp only [List.length_append, List.length_cons, List.length_nil]; omega, by omega⟩
         omega
       refine c_skip (e_go hK36 ?_)
       refine c_region ?_
       refine l_val wn (r_fa rfl fld26_4) rfl ?_
       refine l_val wn (r_lb 3 rfl rfl rfl flat22) rfl ?_
       refine l_val wn (r_lbn 1 [iV 3, .string wd2, .string ⟨#[]⟩] rfl rfl rfl rfl agg74 inf74) rfl ?_
       refine l_bsL matchE ([(⟨3, wd2, ⟨#[]⟩⟩ : Match)] : List Match) wn Tryd.underlying22 inf74 rfl rfl rfl rfl (by decide) (by decide) rfl fun b70 => ?_
       refine l_app 3 ms ([(⟨3, wd2, ⟨#[]⟩⟩ : Match)] : List Match) encMatch wn rfl rfl rfl (fun _ hM => (RowSl encMatch hM 0 rfl)) Tryd.underlying22 inf74 rfl rfl (by simp only [List.length_append, List.length_cons, List.length_nil]; omega) rfl fun A6 cp6 hc6 hm6 hA6 => ?_
       refine l_val wn (r_fa rfl fld26_4) rfl ?_
       refine l_st1 4 wn rfl rfl rfl rfl inf22 rfl rfl ?_
       refine l_nil (e_in_n (e_round6 (ms ++ ([(⟨3, wd2, ⟨#[]⟩⟩ : Match)] : List Match)) j16 be14 ba14 (q - 1) (.slice A6 ((ms ++ ([(⟨3, wd2, ⟨#[]⟩⟩ : Match)] : List Match)).length) cp6) (sc rfl (sc rfl (sc rfl sn))) (fun _ h => (h.sel [3, 1, 4, 5] (by decide) rfl)) ?_ ?_))
       · exact ⟨by rw [show q - 1 + 1 = q by omega]; exact Pz.wl_next hI1.1 h4 hs11 (by simpa using h5) (Pz.sep_yes h6 hs12) h7 (Pz.ms4 (Classical.not_not.1 h8) hs14 (by simpa using h9) hs16.1 hs17 (by simpa using h10) hs19 (by simpa using h11)), by simp only [List.length_append, List.length_cons, List.length_nil]; omega, by omega⟩
       omega
     refine c_skip (e_go hK22 ?_)
     refine c_seq fun _ hK39 => ?_
     refine c_seq fun _ hK40 => ?_
     refine c_region ?_
     refine l_val wn (r_fa rfl fld26_4) rfl ?_
     refine l_val wn (r_lb 2 rfl rfl rfl flat22) rfl ?_
     refine l_val wn (r_len rfl Tryd.underlying22) rfl ?_
     refine l_val wn (r_geq rfl rfl) rfl ?_
     refine l_nil (e_go hK40 ?_)
     refine c_cond rfl (fun h12 => ?_) (fun h12 => ?_)
     · refine c_region ?_
       refine l_val wn (r_move rfl) rfl ?_
       refine l_val wn (r_move rfl) rfl ?_
       refine l_val wn (r_nilCheck rfl) rfl ?_
       refine l_val wn (r_fa rfl fld69_1) rfl ?_
       refine l_val wn (r_lb 0 rfl rfl rfl flat3) rfl ?_
       refine l_give (α := (Int × Int)) [Wb 69 p s j9 n bl al] [Row (.slice A2 ms.length cp2) 74 3 matchE ms, .blk b5 [iV 2, iV 0, iV 0, .string word, .slice A2 ms.length cp2, Zs, Zs] 26, .blk b4 Zx 26] (fun z : Int × Int => .tuple #[]) (fun z27 => (Pz.StopR bl al 5 (j9 : Int) z27)) (fun z27 => [Wb 69 p s j9 n z27.1 z27.2]) _ (fun _ => rfl) (fun _ h => h.sel [0, 1, 2, 3] (by decide) rfl) (fun _ => rfl) wn rfl rfl Tryd.call36 rfl (fun w1 Pb hG => w_stop p s j9 n bl al 5 (j9 : Int) Pb w1 hG ) fun z27 hz27 => ?_
       obtain ⟨be17, ba17⟩ := z27
       have hs21 : Pz.StopR bl al 5 (j9 : Int) (be17, ba17) := hz27
       try simp only at hs21
       refine l_as 35 (.tuple (List.toArray [])) [Wb 69 p s j9 n be17 ba17, Row (.slice A2 ms.length cp2) 74 3 matchE ms, .blk b5 [iV 2, iV 0, iV 0, .string word, .slice A2 ms.length cp2, Zs, Zs] 26, .blk b4 Zx 26] ?_
       refine l_nil (e_go hK39 ?_)
       refine c_seq fun _ hK41 => ?_
       refine c_seq fun _ hK42 => ?_
       refine c_region ?_
       refine l_val wn (r_move rfl) rfl ?_
       refine l_give (α := Unit) [Wb 69 p s j9 n be17 ba17] [Row (.slice A2 ms.length cp2) 74 3 matchE ms, .blk b5 [iV 2, iV 0, iV 0, .string word, .slice A2 ms.length cp2, Zs, Zs] 26, .blk b4 Zx 26] (fun _ : Unit => .bool (decide (be17 = 0))) (fun z28 => True) (fun z28 => [Wb 69 p s j9 n be17 ba17]) (fun z28 => [Wb 69 p s j9 n be17 ba17, Row (.slice A2 ms.length cp2) 74 3 matchE ms, .blk b5 [iV 2, iV 0, iV 0, .string word, .slice A2 ms.length cp2, Zs, Zs] 26, .blk b4 Zx 26]) (fun _ => rfl) (fun _ h => h.sel [0, 1, 2, 3] (by decide) rfl) (fun _ => rfl) wn rfl rfl Tryd.call34 rfl (fun w1 Pb hG => w_ok p s j9 n be17 ba17 Pb w1 hG) fun z28 hz28 => ?_
       refine l_val wn (r_not rfl) rfl ?_
       refine l_nil (e_go hK42 ?_)
       refine c_true rfl (decide_eq_true (hs21.ne (by decide))) ?_
       refine c_exit (e_then_x (e_in_miss rfl (e_loop6_x (e_in_hit (e_cut (hR1 ms j9 be17 ba17 (.slice A2 ms.length cp2) (Pz.wl_many hI1.1 h4 hs11 (by simpa using h5) (Pz.sep_no h6 (by omega)) h12 (by omega) hs21) (by omega)) (sc rfl (sc rfl (sc rfl sn))) (fun _ h => (h.sel [1, 0, 2, 3] (by decide) rfl)))))))
     refine c_skip (e_go hK39 ?_)
     refine c_seq fun _ hK43 => ?_
     refine c_seq fun _ hK44 => ?_
     refine c_region ?_
     refine l_val wn (r_move rfl) rfl ?_
     refine l_give (α := Unit) [Wb 69 p s j9 n bl al] [Row (.slice A2 ms.length cp2) 74 3 matchE ms, .blk b5 [iV 2, iV 0, iV 0, .string word, .slice A2 ms.length cp2, Zs, Zs] 26, .blk b4 Zx 26] (fun _ : Unit => .bool (decide (bl = 0))) (fun z29 => True) (fun z29 => [Wb 69 p s j9 n bl al]) (fun z29 => [Wb 69 p s j9 n bl al, Row (.slice A2 ms.length cp2) 74 3 matchE ms, .blk b5 [iV 2, iV 0, iV 0, .string word, .slice A2 ms.length cp2, Zs, Zs] 26, .blk b4 Zx 26]) (fun _ => rfl) (fun _ h => h.sel [0, 1, 2, 3] (by decide) rfl) (fun _ => rfl) wn rfl rfl Tryd.call34 rfl (fun w1 Pb hG => w_ok p s j9 n bl al Pb w1 hG) fun z29 hz29 => ?_
     refine l_val wn (r_not rfl) rfl ?_
     refine l_nil (e_go hK44 ?_)
     refine c_cond rfl (fun h13 => ?_) (fun h13 => ?_)
     · refine c_exit (e_then_x (e_in_miss rfl (e_loop6_x (e_in_hit (e_cut (hR1 ms j9 bl al (.slice A2 ms.length cp2) (Pz.wl_off hI1.1 h4 hs11 (by simpa using h5) (Pz.sep_no h6 (by omega)) h13) (by omega)) (sc rfl (sc rfl (sc rfl sn))) (fun _ h => (h.sel [1, 0, 2, 3] (by decide) rfl)))))))
     refine c_skip (e_go hK43 ?_)
     refine c_seq fun _ hK45 => ?_
     refine c_region ?_
     refine l_val wn (r_build [iV 4, .string ⟨#[]⟩, .string ⟨#[]⟩] pl74 inf74 rfl rfl) rfl ?_
     refine l_alloc wn inf74 rfl fun b6 => ?_
     refine l_stn 0 wn rfl rfl rfl inf74 rfl rfl rfl ?_
     refine l_nil (e_go hK45 ?_)
     refine c_seq fun _ hK46 => ?_
     refine c_seq fun _ hK47 => ?_
     refine c_region ?_
     refine l_val wn (r_move rfl) rfl ?_
     refine l_give (α := (Bool × Nat)) [Wb 69 p s j9 n bl al] [.blk b6 [iV 4, .string ⟨#[]⟩, .string ⟨#[]⟩] 74, Row (.slice A2 ms.length cp2) 74 3 matchE ms, .blk b5 [iV 2, iV 0, iV 0, .string word, .slice A2 ms.length cp2, Zs, Zs] 26, .blk b4 Zx 26] (fun z : Bool × Nat => .bool z.1) (fun z30 => (Pz.SignR s ⟨#[33]⟩ bl j9 z30)) (fun z30 => [Wb 69 p s z30.2 n bl al]) _ (fun _ => rfl) (fun _ h => h.sel [1, 0, 2, 3, 4] (by decide) rfl) (fun _ => rfl) wn rfl rfl Tryd.call53 rfl (fun w1 Pb hG => w_sign p s j9 n bl al ⟨#[33]⟩ Pb w1 hG (by omega) (by omega) (by first | decide | omega)) fun z30 hz30 => ?_
     obtain ⟨bo5, j18⟩ := z30
     have hs22 : Pz.SignR s ⟨#[33]⟩ bl j9 (bo5, j18) := hz30
     try simp only at hs22
     have hs22l : j18 ≤ s.size := hs22.1
     refine l_as 41 (.bool bo5) [Wb 69 p s j18 n bl al, .blk b6 [iV 4, .string ⟨#[]⟩, .string ⟨#[]⟩] 74, Row (.slice A2 ms.length cp2) 74 3 matchE ms, .blk b5 [iV 2, iV 0, iV 0, .string word, .slice A2 ms.length cp2, Zs, Zs] 26, .blk b4 Zx 26] ?_
     refine l_nil (e_go hK47 ?_)
     refine c_condb rfl (fun h14 => ?_) (fun h14 => ?_)
     · refine c_seq fun _ hK48 => ?_
       refine c_region ?_
       refine l_val wn (r_move rfl) rfl ?_
       refine l_give (α := (ByteArray × Nat × Int × Int)) [Wb 69 p s j18 n bl al] [.blk b6 [iV 4, .string ⟨#[]⟩, .string ⟨#[]⟩] 74, Row (.slice A2 ms.length cp2) 74 3 matchE ms, .blk b5 [iV 2, iV 0, iV 0, .string word, .slice A2 ms.length cp2, Zs, Zs] 26, .blk b4 Zx 26] (fun z : ByteArray × Nat × Int × Int => .string z.1) (fun z31 => ((Pz.Sim s bl al (Pz.name s ⟨j18, n⟩) z31.1 ⟨z31.2.1, n, z31.2.2.1, z31.2.2.2⟩) ∧ z31.1.size ≤ 2000)) (fun z31 => [Wb 69 p s z31.2.1 n z31.2.2.1 z31.2.2.2]) _ (fun _ => rfl) (fun _ h => h.sel [0, 1, 2, 3, 4] (by decide) rfl) (fun _ => rfl) wn rfl rfl Tryd.call69 rfl (fun w1 Pb hG => w_name p s j18 n bl al  Pb w1 hG (by omega) (by omega)) fun z31 hz31 => ?_
       obtain ⟨wd5, j19, be18, ba18⟩ := z31
       have hs23 : (Pz.Sim s bl al (Pz.name s ⟨j18, n⟩) (wd5, j19, be18, ba18).1 ⟨(wd5, j19, be18, ba18).2.1, n, (wd5, j19, be18, ba18).2.2.1, (wd5, j19, be18, ba18).2.2.2⟩) ∧ (wd5, j19, be18, ba18).1.size ≤ 2000 := hz31
       try simp only at hs23
       have hs23l : j19 ≤ s.size := hs23.1.1
       have hs23z : wd5.size ≤ 2000 := hs23.2
       refine l_as 43 (.string wd5) [Wb 69 p s j19 n be18 ba18, .blk b6 [iV 4, .string ⟨#[]⟩, .string ⟨#[]⟩] 74, Row (.slice A2 ms.length cp2) 74 3 matchE ms, .blk b5 [iV 2, iV 0, iV 0, .string word, .slice A2 ms.length cp2, Zs, Zs] 26, .blk b4 Zx 26] ?_
       refine l_val wn (r_fa rfl fld74_1) rfl ?_
       refine l_st1 1 wn rfl rfl rfl rfl inf9 rfl rfl ?_
       refine l_nil (e_go hK48 ?_)
       refine c_seq fun _ hK49 => ?_
       refine c_region ?_
       refine l_val wn (r_fa rfl fld26_4) rfl ?_
       refine l_val wn (r_lb 3 rfl rfl rfl flat22) rfl ?_
       refine l_val wn (r_lbn 1 [iV 4, .string wd5, .string ⟨#[]⟩] rfl rfl rfl rfl agg74 inf74) rfl ?_
       refine l_bsL matchE ([(⟨4, wd5, ⟨#[]⟩⟩ : Match)] : List Match) wn Tryd.underlying22 inf74 rfl rfl rfl rfl (by decide) (by decide) rfl fun b48 => ?_
       refine l_app 3 ms ([(⟨4, wd5, ⟨#[]⟩⟩ : Match)] : List Match) encMatch wn rfl rfl rfl (fun _ hM => (RowSl encMatch hM 0 rfl)) Tryd.underlying22 inf74 rfl rfl (by simp only [List.length_append, List.length_cons, List.length_nil]; omega) rfl fun A7 cp7 hc7 hm7 hA7 => ?_
       refine l_val wn (r_fa rfl fld26_4) rfl ?_
       refine l_st1 4 wn rfl rfl rfl rfl inf22 rfl rfl ?_
       refine l_nil (e_go hK49 ?_)
       refine c_exit (e_then_x (e_in_hit (e_round6 (ms ++ ([(⟨4, wd5, ⟨#[]⟩⟩ : Match)] : List Match)) j19 be18 ba18 (q - 1) (.slice A7 ((ms ++ ([(⟨4, wd5, ⟨#[]⟩⟩ : Match)] : List Match)).length) cp7) (sc rfl (sc rfl (sc rfl sn))) (fun _ h => (h.sel [3, 1, 4, 5] (by decide) rfl)) ?_ ?_)))
       · exact ⟨by rw [show q - 1 + 1 = q by omega]; exact Pz.wl_next hI1.1 h4 hs11 (by simpa using h5) (Pz.sep_no h6 (by omega)) h12 (Pz.ms1 (Classical.not_not.1 h13) hs22 h14 hs23.1), by simp only [List.length_append, List.length_cons, List.length_nil]; omega, by omega⟩
       omega
     refine c_skip (e_go hK46 ?_)
     refine c_seq fun _ hK50 => ?_
     refine c_region ?_
     refine l_val wn (r_move rfl) rfl ?_
     refine l_give (α := (ByteArray × Nat × Int × Int)) [Wb 69 p s j18 n bl al] [.blk b6 [iV 4, .string ⟨#[]⟩, .string ⟨#[]⟩] 74, Row (.slice A2 ms.length cp2) 74 3 matchE ms, .blk b5 [iV 2, iV 0, iV 0, .string word, .slice A2 ms.length cp2, Zs, Zs] 26, .blk b4 Zx 26] (fun z : ByteArray × Nat × Int × Int => .string z.1) (fun z32 => ((Pz.Sim s bl al (Pz.name s ⟨j18, n⟩) z32.1 ⟨z32.2.1, n, z32.2.2.1, z32.2.2.2⟩) ∧ z32.1.size ≤ 2000)) (fun z32 => [Wb 69 p s z32.2.1 n z32.2.2.1 z32.2.2.2]) _ (fun _ => rfl) (fun _ h => h.sel [0, 1, 2, 3, 4] (by decide) rfl) (fun _ => rfl) wn rfl rfl Tryd.call69 rfl (fun w1 Pb hG => w_name p s j18 n bl al  Pb w1 hG (by omega) (by omega)) fun z32 hz32 => ?_
     obtain ⟨wd6, j20, be19, ba19⟩ := z32
     have hs24 : (Pz.Sim s bl al (Pz.name s ⟨j18, n⟩) (wd6, j20, be19, ba19).1 ⟨(wd6, j20, be19, ba19).2.1, n, (wd6, j20, be19, ba19).2.2.1, (wd6, j20, be19, ba19).2.2.2⟩) ∧ (wd6, j20, be19, ba19).1.size ≤ 2000 := hz32
     try simp only at hs24
     have hs24l : j20 ≤ s.size := hs24.1.1
     have hs24z : wd6.size ≤ 2000 := hs24.2
     refine l_as 52 (.string wd6) [Wb 69 p s j20 n be19 ba19, .blk b6 [iV 4, .string ⟨#[]⟩, .string ⟨#[]⟩] 74, Row (.slice A2 ms.length cp2) 74 3 matchE ms, .blk b5 [iV 2, iV 0, iV 0, .string word, .slice A2 ms.length cp2, Zs, Zs] 26, .blk b4 Zx 26] ?_
     refine l_val wn (r_fa rfl fld74_1) rfl ?_
     refine l_st1 1 wn rfl rfl rfl rfl inf9 rfl rfl ?_
     refine l_val wn (r_fa rfl fld74_0) rfl ?_
     refine l_st1 1 wn rfl rfl rfl rfl inf3 rfl rfl ?_
     refine l_nil (e_go hK50 ?_)
     refine c_seq fun _ hK51 => ?_
     refine c_seq fun _ hK52 => ?_
     refine c_region ?_
     refine l_val wn (r_move rfl) rfl ?_
     refine l_give (α := (Bool × Nat)) [Wb 69 p s j20 n be19 ba19] [.blk b6 [iV 3, .string wd6, .string ⟨#[]⟩] 74, Row (.slice A2 ms.length cp2) 74 3 matchE ms, .blk b5 [iV 2, iV 0, iV 0, .string word, .slice A2 ms.length cp2, Zs, Zs] 26, .blk b4 Zx 26] (fun z : Bool × Nat => .bool z.1) (fun z33 => (Pz.SignR s ⟨#[33, 61]⟩ be19 j20 z33)) (fun z33 => [Wb 69 p s z33.2 n be19 ba19]) _ (fun _ => rfl) (fun _ h => h.sel [0, 1, 2, 3, 4] (by decide) rfl) (fun _ => rfl) wn rfl rfl Tryd.call53 rfl (fun w1 Pb hG => w_sign p s j20 n be19 ba19 ⟨#[33, 61]⟩ Pb w1 hG (by omega) (by omega) (by first | decide | omega)) fun z33 hz33 => ?_
     obtain ⟨bo6, j21⟩ := z33
     have hs25 : Pz.SignR s ⟨#[33, 61]⟩ be19 j20 (bo6, j21) := hz33
     try simp only at hs25
     have hs25l : j21 ≤ s.size := hs25.1
     refine l_as 56 (.bool bo6) [Wb 69 p s j21 n be19 ba19, .blk b6 [iV 3, .string wd6, .string ⟨#[]⟩] 74, Row (.slice A2 ms.length cp2) 74 3 matchE ms, .blk b5 [iV 2, iV 0, iV 0, .string word, .slice A2 ms.length cp2, Zs, Zs] 26, .blk b4 Zx 26] ?_
     refine l_nil (e_go hK52 ?_)
     refine c_condb rfl (fun h15 => ?_) (fun h15 => ?_)
     · refine c_region ?_
       refine l_val wn (r_move rfl) rfl ?_
       refine l_give (α := (ByteArray × Nat × Int × Int)) [Wb 69 p s j21 n be19 ba19] [.blk b6 [iV 3, .string wd6, .string ⟨#[]⟩] 74, Row (.slice A2 ms.length cp2) 74 3 matchE ms, .blk b5 [iV 2, iV 0, iV 0, .string word, .slice A2 ms.length cp2, Zs, Zs] 26, .blk b4 Zx 26] (fun z : ByteArray × Nat × Int × Int => .string z.1) (fun z34 => ((Pz.Sim s be19 ba19 (Pz.name s ⟨j21, n⟩) z34.1 ⟨z34.2.1, n, z34.2.2.1, z34.2.2.2⟩) ∧ z34.1.size ≤ 2000)) (fun z34 => [Wb 69 p s z34.2.1 n z34.2.2.1 z34.2.2.2]) _ (fun _ => rfl) (fun _ h => h.sel [0, 1, 2, 3, 4] (by decide) rfl) (fun _ => rfl) wn rfl rfl Tryd.call69 rfl (fun w1 Pb hG => w_name p s j21 n be19 ba19  Pb w1 hG (by omega) (by omega)) fun z34 hz34 => ?_
       obtain ⟨wd7, j22, be20, ba20⟩ := z34
       have hs26 : (Pz.Sim s be19 ba19 (Pz.name s ⟨j21, n⟩) (wd7, j22, be20, ba20).1 ⟨(wd7, j22, be20, ba20).2.1, n, (wd7, j22, be20, ba20).2.2.1, (wd7, j22, be20, ba20).2.2.2⟩) ∧ (wd7, j22, be20, ba20).1.size ≤ 2000 := hz34
       try simp only at hs26
       have hs26l : j22 ≤ s.size := hs26.1.1
       have hs26z : wd7.size ≤ 2000 := hs26.2
       refine l_as 58 (.string wd7) [Wb 69 p s j22 n be20 ba20, .blk b6 [iV 3, .string wd6, .string ⟨#[]⟩] 74, Row (.slice A2 ms.length cp2) 74 3 matchE ms, .blk b5 [iV 2, iV 0, iV 0, .string word, .slice A2 ms.length cp2, Zs, Zs] 26, .blk b4 Zx 26] ?_
       refine l_val wn (r_fa rfl fld74_0) rfl ?_
       refine l_st1 1 wn rfl rfl rfl rfl inf3 rfl rfl ?_
       refine l_val wn (r_fa rfl fld74_2) rfl ?_
       refine l_st1 1 wn rfl rfl rfl rfl inf9 rfl rfl ?_
       refine l_nil (e_go hK51 ?_)
       refine c_region ?_
       refine l_val wn (r_fa rfl fld26_4) rfl ?_
       refine l_val wn (r_lb 3 rfl rfl rfl flat22) rfl ?_
       refine l_val wn (r_lbn 1 [iV 2, .string wd6, .string wd7] rfl rfl rfl rfl agg74 inf74) rfl ?_
       refine l_bsL matchE ([(⟨2, wd6, wd7⟩ : Match)] : List Match) wn Tryd.underlying22 inf74 rfl rfl rfl rfl (by decide) (by decide) rfl fun b70 => ?_
       refine l_app 3 ms ([(⟨2, wd6, wd7⟩ : Match)] : List Match) encMatch wn rfl rfl rfl (fun _ hM => (RowSl encMatch hM 0 rfl)) Tryd.underlying22 inf74 rfl rfl (by simp only [List.length_append, List.length_cons, List.length_nil]; omega) rfl fun A8 cp8 hc8 hm8 hA8 => ?_
       refine l_val wn (r_fa rfl fld26_4) rfl ?_
       refine l_st1 4 wn rfl rfl rfl rfl inf22 rfl rfl ?_
       refine l_nil (e_in_n (e_round6 (ms ++ ([(⟨2, wd6, wd7⟩ : Match)] : List Match)) j22 be20 ba20 (q - 1) (.slice A8 ((ms ++ ([(⟨2, wd6, wd7⟩ : Match)] : List Match)).length) cp8) (sc rfl (sc rfl (sc rfl sn))) (fun _ h => (h.sel [3, 1, 4, 5] (by decide) rfl)) ?_ ?_))
       · exact ⟨by rw [show q - 1 + 1 = q by omega]; exact Pz.wl_next hI1.1 h4 hs11 (by simpa using h5) (Pz.sep_no h6 (by omega)) h12 (Pz.ms2 (Classical.not_not.1 h13) hs22 (by simpa using h14) hs24.1 hs25 h15 hs26.1), by simp only [List.length_append, List.length_cons, List.length_nil]; omega, by omega⟩
       omega
     refine c_seq fun _ hK53 => ?_
     refine c_region ?_
     refine l_val wn (r_move rfl) rfl ?_
     refine l_give (α := (Bool × Nat)) [Wb 69 p s j21 n be19 ba19] [.blk b6 [iV 3, .string wd6, .string ⟨#[]⟩] 74, Row (.slice A2 ms.length cp2) 74 3 matchE ms, .blk b5 [iV 2, iV 0, iV 0, .string word, .slice A2 ms.length cp2, Zs, Zs] 26, .blk b4 Zx 26] (fun z : Bool × Nat => .bool z.1) (fun z35 => (Pz.SignR s ⟨#[61]⟩ be19 j21 z35)) (fun z35 => [Wb 69 p s z35.2 n be19 ba19]) _ (fun _ => rfl) (fun _ h => h.sel [0, 1, 2, 3, 4] (by decide) rfl) (fun _ => rfl) wn rfl rfl Tryd.call53 rfl (fun w1 Pb hG => w_sign p s j21 n be19 ba19 ⟨#[61]⟩ Pb w1 hG (by omega) (by omega) (by first | decide | omega)) fun z35 hz35 => ?_
     obtain ⟨bo7, j23⟩ := z35
     have hs27 : Pz.SignR s ⟨#[61]⟩ be19 j21 (bo7, j23) := hz35
     try simp only at hs27
     have hs27l : j23 ≤ s.size := hs27.1
     refine l_as 62 (.bool bo7) [Wb 69 p s j23 n be19 ba19, .blk b6 [iV 3, .string wd6, .string ⟨#[]⟩] 74, Row (.slice A2 ms.length cp2) 74 3 matchE ms, .blk b5 [iV 2, iV 0, iV 0, .string word, .slice A2 ms.length cp2, Zs, Zs] 26, .blk b4 Zx 26] ?_
     refine l_nil (e_go hK53 ?_)
     refine c_condb rfl (fun h16 => ?_) (fun h16 => ?_)
     · refine c_region ?_
       refine l_val wn (r_move rfl) rfl ?_
       refine l_give (α := (ByteArray × Nat × Int × Int)) [Wb 69 p s j23 n be19 ba19] [.blk b6 [iV 3, .string wd6, .string ⟨#[]⟩] 74, Row (.slice A2 ms.length cp2) 74 3 matchE ms, .blk b5 [iV 2, iV 0, iV 0, .string word, .slice A2 ms.length cp2, Zs, Zs] 26, .blk b4 Zx 26] (fun z : ByteArray × Nat × Int × Int => .string z.1) (fun z36 => ((Pz.Sim s be19 ba19 (Pz.name s ⟨j23, n⟩) z36.1 ⟨z36.2.1, n, z36.2.2.1, z36.2.2.2⟩) ∧ z36.1.size ≤ 2000)) (fun z36 => [Wb 69 p s z36.2.1 n z36.2.2.1 z36.2.2.2]) _ (fun _ => rfl) (fun _ h => h.sel [0, 1, 2, 3, 4] (by decide) rfl) (fun _ => rfl) wn rfl rfl Tryd.call69 rfl (fun w1 Pb hG => w_name p s j23 n be19 ba19  Pb w1 hG (by omega) (by omega)) fun z36 hz36 => ?_
       obtain ⟨wd8, j24, be21, ba21⟩ := z36
       have hs28 : (Pz.Sim s be19 ba19 (Pz.name s ⟨j23, n⟩) (wd8, j24, be21, ba21).1 ⟨(wd8, j24, be21, ba21).2.1, n, (wd8, j24, be21, ba21).2.2.1, (wd8, j24, be21, ba21).2.2.2⟩) ∧ (wd8, j24, be21, ba21).1.size ≤ 2000 := hz36
       try simp only at hs28
       have hs28l : j24 ≤ s.size := hs28.1.1
       have hs28z : wd8.size ≤ 2000 := hs28.2
       refine l_as 64 (.string wd8) [Wb 69 p s j24 n be21 ba21, .blk b6 [iV 3, .string wd6, .string ⟨#[]⟩] 74, Row (.slice A2 ms.length cp2) 74 3 matchE ms, .blk b5 [iV 2, iV 0, iV 0, .string word, .slice A2 ms.length cp2, Zs, Zs] 26, .blk b4 Zx 26] ?_
       refine l_val wn (r_fa rfl fld74_0) rfl ?_
       refine l_st1 1 wn rfl rfl rfl rfl inf3 rfl rfl ?_
       refine l_val wn (r_fa rfl fld74_2) rfl ?_
       refine l_st1 1 wn rfl rfl rfl rfl inf9 rfl rfl ?_
       refine l_nil (e_go hK51 ?_)
       refine c_region ?_
       refine l_val wn (r_fa rfl fld26_4) rfl ?_
       refine l_val wn (r_lb 3 rfl rfl rfl flat22) rfl ?_
       refine l_val wn (r_lbn 1 [iV 1, .string wd6, .string wd8] rfl rfl rfl rfl agg74 inf74) rfl ?_
       refine l_bsL matchE ([(⟨1, wd6, wd8⟩ : Match)] : List Match) wn Tryd.underlying22 inf74 rfl rfl rfl rfl (by decide) (by decide) rfl fun b70 => ?_
       refine l_app 3 ms ([(⟨1, wd6, wd8⟩ : Match)] : List Match) encMatch wn rfl rfl rfl (fun _ hM => (RowSl encMatch hM 0 rfl)) Tryd.underlying22 inf74 rfl rfl (by simp only [List.length_append, List.length_cons, List.length_nil]; omega) rfl fun A9 cp9 hc9 hm9 hA9 => ?_
       refine l_val wn (r_fa rfl fld26_4) rfl ?_
       refine l_st1 4 wn rfl rfl rfl rfl inf22 rfl rfl ?_
       refine l_nil (e_in_n (e_round6 (ms ++ ([(⟨1, wd6, wd8⟩ : Match)] : List Match)) j24 be21 ba21 (q - 1) (.slice A9 ((ms ++ ([(⟨1, wd6, wd8⟩ : Match)] : List Match)).length) cp9) (sc rfl (sc rfl (sc rfl sn))) (fun _ h => (h.sel [3, 1, 4, 5] (by decide) rfl)) ?_ ?_))
       · exact ⟨by rw [show q - 1 + 1 = q by omega]; exact Pz.wl_next hI1.1 h4 hs11 (by simpa using h5) (Pz.sep_no h6 (by omega)) h12 (Pz.ms3 (Classical.not_not.1 h13) hs22 (by simpa using h14) hs24.1 hs25 (by simpa using h15) hs27 h16 hs28.1), by simp only [List.length_append, List.length_cons, List.length_nil]; omega, by omega⟩
       omega
     refine c_skip (e_go hK51 ?_)
     refine c_region ?_
     refine l_val wn (r_fa rfl fld26_4) rfl ?_
     refine l_val wn (r_lb 3 rfl rfl rfl flat22) rfl ?_
     refine l_val wn (r_lbn 1 [iV 3, .string wd6, .string ⟨#[]⟩] rfl rfl rfl rfl agg74 inf74) rfl ?_
     refine l_bsL matchE ([(⟨3, wd6, ⟨#[]⟩⟩ : Match)] : List Match) wn Tryd.underlying22 inf74 rfl rfl rfl rfl (by decide) (by decide) rfl fun b70 => ?_
     refine l_app 3 ms ([(⟨3, wd6, ⟨#[]⟩⟩ : Match)] : List Match) encMatch wn rfl rfl rfl (fun _ hM => (RowSl encMatch hM 0 rfl)) Tryd.underlying22 inf74 rfl rfl (by simp only [List.length_append, List.length_cons, List.length_nil]; omega) rfl fun A10 cp10 hc10 hm10 hA10 => ?_
     refine l_val wn (r_fa rfl fld26_4) rfl ?_
     refine l_st1 4 wn rfl rfl rfl rfl inf22 rfl rfl ?_
     refine l_nil (e_in_n (e_round6 (ms ++ ([(⟨3, wd6, ⟨#[]⟩⟩ : Match)] : List Match)) j23 be19 ba19 (q - 1) (.slice A10 ((ms ++ ([(⟨3, wd6, ⟨#[]⟩⟩ : Match)] : List Match)).length) cp10) (sc rfl (sc rfl (sc rfl sn))) (fun _ h => (h.sel [3, 1, 4, 5] (by decide) rfl)) ?_ ?_))
     · exact ⟨by rw [show q - 1 + 1 = q by omega]; exact Pz.wl_next hI1.1 h4 hs11 (by simpa using h5) (Pz.sep_no h6 (by omega)) h12 (Pz.ms4 (Classical.not_not.1 h13) hs22 (by simpa using h14) hs24.1 hs25 (by simpa using h15) hs27 (by simpa using h16)), by simp only [List.length_append, List.length_cons, List.length_nil]; omega, by omega⟩
     omega
   refine c_exit (e_then_x (e_loop6_x (e_in_hit (e_cut (hR1 ms j9 bl al (.slice A2 ms.length cp2) (Pz.wl_done hI1.1 hs11 (by simpa using h5)) (by omega)) (sc rfl (sc rfl (sc rfl sn))) (fun _ h => (h.sel [1, 0, 2, 3] (by decide) rfl))))))
 refine l_skip (wg rfl rfl rfl) rfl ?_
 refine l_skip (wg rfl rfl rfl) rfl ?_
 refine l_skip (wg rfl rfl rfl) rfl ?_
 refine l_val wn (r_pick rfl rfl) rfl ?_
 refine l_nil (e_go hK21 ?_)
 refine c_false rfl rfl ?_
 refine c_exit (e_then_x (e_loop6_x (e_in_hit (e_cut (hR1 ms k bl al (.slice A2 ms.length cp2) (Pz.wl_bad hI1.1 h4 (by omega)) (by omega)) (sc rfl (sc rfl (sc rfl sn))) (fun _ h => (h.sel [1, 0, 2, 3] (by decide) rfl))))))

def FacR (N : Nat) : Prop := ∀ (p : Nat) (s : ByteArray) (i : Nat) (n be ba : Int) (d : Int) (Pb : Nat → Prop) (w : World) (hG : Mem w ⟨fpOf [Wb 69 p s i n be ba], Pb⟩ [Wb 69 p s i n be ba] w) (hi : i ≤ s.size) (hs : s.size ≤ 2000) (hn : 0 ≤ n ∧ n ≤ 101) (hne : be = 0 → n ≤ 100) (hd : d + (N : Int) = 21) (hd1 : 1 ≤ d),
    Calls Tryd.prog 52 #[.pointer (some ⟨p, 0, none⟩), iV d] w (RetA w [Wb 69 p s i n be ba] Pb (fun z : ExprX × Nat × Int × Int × Int => .agg (exprE z.1).toArray) (fun z => Pz.Sim s be ba (Pz.fac s N ⟨i, n⟩) z.1.e ⟨z.2.1, z.2.2.1, z.2.2.2.1, z.2.2.2.2⟩ ∧ (0 ≤ z.2.2.1 ∧ z.2.2.1 ≤ 101) ∧ (z.2.2.2.1 = 0 → z.2.2.1 ≤ 100)) (fun z => [Wb 69 p s z.2.1 z.2.2.1 z.2.2.2.1 z.2.2.2.2, okI (z.2.2.2.1 = 0) z.1]))
def FacS (N : Nat) : Prop := ∀ (p : Nat) (s : ByteArray) (i : Nat) (n be ba : Int) (d : Int) (Pb : Nat → Prop) (w : World) (hG : Mem w ⟨fpOf [Wb 69 p s i n be ba], Pb⟩ [Wb 69 p s i n be ba] w) (hi : i ≤ s.size) (hs : s.size ≤ 2000) (hn : 0 ≤ n ∧ n ≤ 101) (hne : be = 0 → n ≤ 100) (hd : d + (N : Int) = 21) (hd1 : 1 ≤ d),
    Calls Tryd.prog 33 #[.pointer (some ⟨p, 0, none⟩), iV 2, iV d] w (RetA w [Wb 69 p s i n be ba] Pb (fun z : ExprX × Nat × Int × Int × Int => .agg (exprE z.1).toArray) (fun z => Pz.Sim s be ba (Pz.fac s N ⟨i, n⟩) z.1.e ⟨z.2.1, z.2.2.1, z.2.2.2.1, z.2.2.2.2⟩ ∧ (0 ≤ z.2.2.1 ∧ z.2.2.1 ≤ 101) ∧ (z.2.2.2.1 = 0 → z.2.2.1 ≤ 100)) (fun z => [Wb 69 p s z.2.1 z.2.2.1 z.2.2.2.1 z.2.2.2.2, okI (z.2.2.2.1 = 0) z.1]))
def TrmR (N : Nat) : Prop := ∀ (p : Nat) (s : ByteArray) (i : Nat) (n be ba : Int) (d : Int) (Pb : Nat → Prop) (w : World) (hG : Mem w ⟨fpOf [Wb 69 p s i n be ba], Pb⟩ [Wb 69 p s i n be ba] w) (hi : i ≤ s.size) (hs : s.size ≤ 2000) (hn : 0 ≤ n ∧ n ≤ 101) (hne : be = 0 → n ≤ 100) (hd : d + (N : Int) = 21) (hd1 : 1 ≤ d),
    Calls Tryd.prog 33 #[.pointer (some ⟨p, 0, none⟩), iV 1, iV d] w (RetA w [Wb 69 p s i n be ba] Pb (fun z : ExprX × Nat × Int × Int × Int => .agg (exprE z.1).toArray) (fun z => Pz.Sim s be ba (Pz.trm s N ⟨i, n⟩) z.1.e ⟨z.2.1, z.2.2.1, z.2.2.2.1, z.2.2.2.2⟩ ∧ (0 ≤ z.2.2.1 ∧ z.2.2.1 ≤ 101) ∧ (z.2.2.2.1 = 0 → z.2.2.1 ≤ 100)) (fun z => [Wb 69 p s z.2.1 z.2.2.1 z.2.2.2.1 z.2.2.2.2, okI (z.2.2.2.1 = 0) z.1]))
def XprR (N : Nat) : Prop := ∀ (p : Nat) (s : ByteArray) (i : Nat) (n be ba : Int) (d : Int) (Pb : Nat → Prop) (w : World) (hG : Mem w ⟨fpOf [Wb 69 p s i n be ba], Pb⟩ [Wb 69 p s i n be ba] w) (hi : i ≤ s.size) (hs : s.size ≤ 2000) (hn : 0 ≤ n ∧ n ≤ 101) (hne : be = 0 → n ≤ 100) (hd : d + (N : Int) = 21) (hd1 : 1 ≤ d),
    Calls Tryd.prog 33 #[.pointer (some ⟨p, 0, none⟩), iV 0, iV d] w (RetA w [Wb 69 p s i n be ba] Pb (fun z : ExprX × Nat × Int × Int × Int => .agg (exprE z.1).toArray) (fun z => Pz.Sim s be ba (Pz.xpr s N ⟨i, n⟩) z.1.e ⟨z.2.1, z.2.2.1, z.2.2.2.1, z.2.2.2.2⟩ ∧ (0 ≤ z.2.2.1 ∧ z.2.2.1 ≤ 101) ∧ (z.2.2.2.1 = 0 → z.2.2.1 ≤ 100)) (fun z => [Wb 69 p s z.2.1 z.2.2.1 z.2.2.2.1 z.2.2.2.2, okI (z.2.2.2.1 = 0) z.1]))

theorem w_sum2 (p : Nat) (s : ByteArray) (i : Nat) (n be ba : Int) (d : Int) (N : Nat) (Pb : Nat → Prop) (w : World) (hG : Mem w ⟨fpOf [Wb 69 p s i n be ba], Pb⟩ [Wb 69 p s i n be ba] w) (hi : i ≤ s.size) (hs : s.size ≤ 2000) (hn : 0 ≤ n ∧ n ≤ 101) (hne : be = 0 → n ≤ 100) (hd : d + (N : Int) = 21) (hd1 : 1 ≤ d) (ih : FacR N) :
    Calls Tryd.prog 33 #[.pointer (some ⟨p, 0, none⟩), iV 2, iV d] w (RetA w [Wb 69 p s i n be ba] Pb (fun z : ExprX × Nat × Int × Int × Int => .agg (exprE z.1).toArray) (fun z => Pz.Sim s be ba (Pz.fac s N ⟨i, n⟩) z.1.e ⟨z.2.1, z.2.2.1, z.2.2.2.1, z.2.2.2.2⟩ ∧ (0 ≤ z.2.2.1 ∧ z.2.2.1 ≤ 101) ∧ (z.2.2.2.1 = 0 → z.2.2.1 ≤ 100)) (fun z => [Wb 69 p s z.2.1 z.2.2.1 z.2.2.2.1 z.2.2.2.2, okI (z.2.2.2.1 = 0) z.1])) := by
 refine fstart (N := 61) (vals := [.pointer (some ⟨p, 0, none⟩), iV 2, iV d]) (S := Mem w ⟨fpOf [Wb 69 p s i n be ba], Pb⟩ [Wb 69 p s i n be ba]) Tryd.func33 rfl rfl rfl hG ?_
 refine c_seq fun _ hK1 => ?_
 refine c_region ?_
 refine l_alloc wn inf26 rfl fun b6 => ?_
 refine l_nil (e_go hK1 ?_)
 refine c_seq fun _ hK2 => ?_
 refine c_seq fun _ hK3 => ?_
 refine c_region ?_
 refine l_val wn (r_move rfl) rfl ?_
 refine l_val wn (r_eql rfl rfl) rfl ?_
 refine l_nil (e_go hK3 ?_)
 refine c_true rfl (decide_eq_true (by first | decide | simp)) ?_
 refine c_seq fun _ hK4 => ?_
 refine c_region ?_
 refine l_val wn (r_move rfl) rfl ?_
 refine l_val wn (r_move rfl) rfl ?_
 refine l_give (α := (ExprX × Nat × Int × Int × Int)) [Wb 69 p s i n be ba] [.blk b6 Zx 26] (fun z : ExprX × Nat × Int × Int × Int => .agg (exprE z.1).toArray) (fun z1 => (Pz.Sim s be ba (Pz.fac s N ⟨i, n⟩) z1.1.e ⟨z1.2.1, z1.2.2.1, z1.2.2.2.1, z1.2.2.2.2⟩ ∧ (0 ≤ z1.2.2.1 ∧ z1.2.2.1 ≤ 101) ∧ (z1.2.2.2.1 = 0 → z1.2.2.1 ≤ 100))) (fun z1 => [Wb 69 p s z1.2.1 z1.2.2.1 z1.2.2.2.1 z1.2.2.2.2, okI (z1.2.2.2.1 = 0) z1.1]) _ (fun _ => rfl) (fun _ h => h.sel [1, 0] (by decide) rfl) (fun _ => rfl) wn rfl rfl Tryd.call52 rfl (fun w1 Pb hG => ih p s i n be ba d Pb w1 hG (by omega) (by omega) (by omega) (by omega) (by omega) (by omega)) fun z1 hz1 => ?_
 obtain ⟨x1, j1, m1, be1, ba1⟩ := z1
 have hs1 : Pz.Sim s be ba (Pz.fac s N ⟨i, n⟩) (x1, j1, m1, be1, ba1).1.e ⟨(x1, j1, m1, be1, ba1).2.1, (x1, j1, m1, be1, ba1).2.2.1, (x1, j1, m1, be1, ba1).2.2.2.1, (x1, j1, m1, be1, ba1).2.2.2.2⟩ ∧ (0 ≤ (x1, j1, m1, be1, ba1).2.2.1 ∧ (x1, j1, m1, be1, ba1).2.2.1 ≤ 101) ∧ ((x1, j1, m1, be1, ba1).2.2.2.1 = 0 → (x1, j1, m1, be1, ba1).2.2.1 ≤ 100) := hz1
 try simp only at hs1
 have hs1l : j1 ≤ s.size := hs1.1.1
 have hs1n := hs1.2.1
 have hs1m := hs1.2.2
 refine l_as 16 (.agg (List.toArray [iV x1.kind, iV x1.n, iV x1.range, .string x1.word, .slice x1.ms.A x1.ms.l.length x1.ms.c, .slice x1.by_.A x1.by_.l.length x1.by_.c, .slice x1.kids.A x1.kids.l.length x1.kids.c])) [Wb 69 p s j1 m1 be1 ba1, okI (be1 = 0) x1, .blk b6 Zx 26] ?_
 refine l_stn 2 wn rfl rfl rfl inf26 rfl rfl rfl ?_
 refine l_nil (e_go hK4 ?_)
 refine c_ret (e_then_r (e_ret1 (.inl rfl) Tryd.results33 (rv_cell 2 rfl rfl agg26 inf26 rfl) fun w1 hM => ?_))
 have hM := hM.okI2 (be1 = 0) 1 rfl (fun h9 => h9)
 exact hM.retA (x1, j1, m1, be1, ba1) rfl ⟨show Pz.Sim s be ba (Pz.fac s N ⟨i, n⟩) (x1).e ⟨j1, m1, be1, ba1⟩ from hs1.1, by show 0 ≤ m1 ∧ m1 ≤ 101; omega, by show be1 = 0 → m1 ≤ 100; first | (intro h9; omega) | (intro h9; exact absurd h9 id) | omega⟩ (fun h => h.sel [1, 0] (by decide) rfl)

set_option maxHeartbeats 4000000 in
theorem w_sum1 (p : Nat) (s : ByteArray) (i : Nat) (n be ba : Int) (d : Int) (N : Nat) (Pb : Nat → Prop) (w : World) (hG : Mem w ⟨fpOf [Wb 69 p s i n be ba], Pb⟩ [Wb 69 p s i n be ba] w) (hi : i ≤ s.size) (hs : s.size ≤ 2000) (hn : 0 ≤ n ∧ n ≤ 101) (hne : be = 0 → n ≤ 100) (hd : d + (N : Int) = 21) (hd1 : 1 ≤ d) (ih : FacS N) :
    Calls Tryd.prog 33 #[.pointer (some ⟨p, 0, none⟩), iV 1, iV d] w (RetA w [Wb 69 p s i n be ba] Pb (fun z : ExprX × Nat × Int × Int × Int => .agg (exprE z.1).toArray) (fun z => Pz.Sim s be ba (Pz.trm s N ⟨i, n⟩) z.1.e ⟨z.2.1, z.2.2.1, z.2.2.2.1, z.2.2.2.2⟩ ∧ (0 ≤ z.2.2.1 ∧ z.2.2.1 ≤ 101) ∧ (z.2.2.2.1 = 0 → z.2.2.1 ≤ 100)) (fun z => [Wb 69 p s z.2.1 z.2.2.1 z.2.2.2.1 z.2.2.2.2, okI (z.2.2.2.1 = 0) z.1])) := by
 refine fstart (N := 61) (vals := [.pointer (some ⟨p, 0, none⟩), iV 1, iV d]) (S := Mem w ⟨fpOf [Wb 69 p s i n be ba], Pb⟩ [Wb 69 p s i n be ba]) Tryd.func33 rfl rfl rfl hG ?_
 refine c_seq fun _ hK1 => ?_
 refine c_region ?_
 refine l_alloc wn inf26 rfl fun b6 => ?_
 refine l_nil (e_go hK1 ?_)
 refine c_seq fun _ hK2 => ?_
 refine c_seq fun _ hK3 => ?_
 refine c_region ?_
 refine l_val wn (r_move rfl) rfl ?_
 refine l_val wn (r_eql rfl rfl) rfl ?_
 refine l_nil (e_go hK3 ?_)
 refine c_false rfl (decide_eq_false (by first | decide | simp)) ?_
 refine c_skip (e_go hK2 ?_)
 refine c_seq fun _ hK4 => ?_
 refine c_region ?_
 refine l_val wn (r_move rfl) rfl ?_
 refine l_val wn (r_move rfl) rfl ?_
 refine l_val wn (r_addn rfl rfl (by omega)) rfl ?_
 refine l_val wn (r_move rfl) rfl ?_
 refine l_give (α := (ExprX × Nat × Int × Int × Int)) [Wb 69 p s i n be ba] [.blk b6 Zx 26] (fun z : ExprX × Nat × Int × Int × Int => .agg (exprE z.1).toArray) (fun z1 => (Pz.Sim s be ba (Pz.fac s N ⟨i, n⟩) z1.1.e ⟨z1.2.1, z1.2.2.1, z1.2.2.2.1, z1.2.2.2.2⟩ ∧ (0 ≤ z1.2.2.1 ∧ z1.2.2.1 ≤ 101) ∧ (z1.2.2.2.1 = 0 → z1.2.2.1 ≤ 100))) (fun z1 => [Wb 69 p s z1.2.1 z1.2.2.1 z1.2.2.2.1 z1.2.2.2.2, okI (z1.2.2.2.1 = 0) z1.1]) _ (fun _ => rfl) (fun _ h => h.sel [1, 0] (by decide) rfl) (fun _ => rfl) wn rfl rfl Tryd.call33 rfl (fun w1 Pb hG => ih p s i n be ba d Pb w1 hG (by omega) (by omega) (by omega) (by omega) (by omega) (by omega)) fun z1 hz1 => ?_
 obtain ⟨x1, j1, m1, be1, ba1⟩ := z1
 have hs1 : Pz.Sim s be ba (Pz.fac s N ⟨i, n⟩) (x1, j1, m1, be1, ba1).1.e ⟨(x1, j1, m1, be1, ba1).2.1, (x1, j1, m1, be1, ba1).2.2.1, (x1, j1, m1, be1, ba1).2.2.2.1, (x1, j1, m1, be1, ba1).2.2.2.2⟩ ∧ (0 ≤ (x1, j1, m1, be1, ba1).2.2.1 ∧ (x1, j1, m1, be1, ba1).2.2.1 ≤ 101) ∧ ((x1, j1, m1, be1, ba1).2.2.2.1 = 0 → (x1, j1, m1, be1, ba1).2.2.1 ≤ 100) := hz1
 try simp only at hs1
 have hs1l : j1 ≤ s.size := hs1.1.1
 have hs1n := hs1.2.1
 have hs1m := hs1.2.2
 refine l_as 21 (.agg (List.toArray [iV x1.kind, iV x1.n, iV x1.range, .string x1.word, .slice x1.ms.A x1.ms.l.length x1.ms.c, .slice x1.by_.A x1.by_.l.length x1.by_.c, .slice x1.kids.A x1.kids.l.length x1.kids.c])) [Wb 69 p s j1 m1 be1 ba1, okI (be1 = 0) x1, .blk b6 Zx 26] ?_
 refine l_alloc wn inf26 rfl fun b7 => ?_
 refine l_stn 0 wn rfl rfl rfl inf26 rfl rfl rfl ?_
 refine l_nil (e_go hK4 ?_)
 refine c_seq fun _ hK5 => ?_
 refine c_block ?_
 refine c_loop6 (fun (x : ExprX) (k : Nat) (m : Int) (bl : Int) (al : Int) (q : Nat) => [(0, .pointer (some ⟨p, 0, none⟩)), (1, iV 1), (2, iV d), (6, .pointer (some ⟨b6, 0, none⟩)), (7, .pointer (some ⟨b7, 0, none⟩))]) (fun (x : ExprX) (k : Nat) (m : Int) (bl : Int) (al : Int) (q : Nat) => [.blk b7 [iV x.kind, iV x.n, iV x.range, .string x.word, .slice x.ms.A x.ms.l.length x.ms.c, .slice x.by_.A x.by_.l.length x.by_.c, .slice x.kids.A x.kids.l.length x.kids.c] 26, Wb 69 p s k m bl al, okI (bl = 0) x, .blk b6 Zx 26]) (fun (x : ExprX) (k : Nat) (m : Int) (bl : Int) (al : Int) (q : Nat) => (∀ b r, Pz.Sim s bl al (Pz.binL s (Pz.fac s N) Pz.star q x.e ⟨k, m⟩) b r → Pz.Sim s be1 ba1 (Pz.binL s (Pz.fac s N) Pz.star 101 x1.e ⟨j1, m1⟩) b r) ∧ k ≤ s.size ∧ (0 ≤ m ∧ m ≤ 101) ∧ (bl = 0 → m ≤ 100) ∧ (bl = 0 → (101 : Int) ≤ (q : Int) + m)) (fun (x : ExprX) (k : Nat) (m : Int) (bl : Int) (al : Int) (q : Nat) => q) x1 j1 m1 be1 ba1 101 (sc rfl (sc rfl (sc rfl (sc rfl (sc rfl sn))))) (fun _ h => h) ?_ (fun x k m bl al q hI1 => ?_)
 · exact ⟨fun _ _ h => h, by omega, by omega, by omega, by omega⟩
 have hq1 := hI1.2.2.1
 have hq2 := hI1.2.2.2.1
 have hq3 := hI1.2.2.2.2
 have hXi := hI1.1
 refine c_seq fun _ hK6 => ?_
 refine c_seq fun _ hK7 => ?_
 refine c_region ?_
 refine l_val wn (r_move rfl) rfl ?_
 refine l_give (α := Unit) [Wb 69 p s k m bl al] [.blk b7 [iV x.kind, iV x.n, iV x.range, .string x.word, .slice x.ms.A x.ms.l.length x.ms.c, .slice x.by_.A x.by_.l.length x.by_.c, .slice x.kids.A x.kids.l.length x.kids.c] 26, okI (bl = 0) x, .blk b6 Zx 26] (fun _ : Unit => .bool (decide (bl = 0))) (fun z2 => True) (fun z2 => [Wb 69 p s k m bl al]) (fun z2 => [Wb 69 p s k m bl al, .blk b7 [iV x.kind, iV x.n, iV x.range, .string x.word, .slice x.ms.A x.ms.l.length x.ms.c, .slice x.by_.A x.by_.l.length x.by_.c, .slice x.kids.A x.kids.l.length x.kids.c] 26, okI (bl = 0) x, .blk b6 Zx 26]) (fun _ => rfl) (fun _ h => h.sel [1, 0, 2, 3] (by decide) rfl) (fun _ => rfl) wn rfl rfl Tryd.call34 rfl (fun w1 Pb hG => w_ok p s k m bl al Pb w1 hG) fun z2 hz2 => ?_
 refine l_nil (e_go hK7 ?_)
 refine c_cond rfl (fun h1 => ?_) (fun h1 => ?_)
 · refine c_skip (e_go hK6 ?_)
   refine c_block ?_
   refine c_seq fun _ hK8 => ?_
   refine c_region ?_
   refine l_val wn (r_assign rfl) rfl ?_
   refine l_nil (e_go hK8 ?_)
   refine c_seq fun _ hK9 => ?_
   refine c_seq fun _ hK10 => ?_
   refine c_region ?_
   refine l_bsL strE ([⟨#[43]⟩, ⟨#[45]⟩] : List ByteArray) wn Tryd.underlying23 inf9 rfl rfl rfl rfl (by decide) (by decide) rfl fun b24 => ?_
   refine l_bsL strE ([⟨#[42]⟩] : List ByteArray) wn Tryd.underlying23 inf9 rfl rfl rfl rfl (by decide) (by decide) rfl fun b25 => ?_
   refine l_bsL strsE ([(StrsX.mk ⟨(some ⟨b24, 0, none⟩), 2, ([⟨#[43]⟩, ⟨#[45]⟩] : List ByteArray)⟩), (StrsX.mk ⟨(some ⟨b25, 0, none⟩), 1, ([⟨#[42]⟩] : List ByteArray)⟩)] : List StrsX) wn Tryd.underlying91 inf23 rfl rfl rfl rfl (by decide) (by decide) rfl fun b26 => ?_
   refine l_val wn (r_move rfl) rfl ?_
   refine l_val wn (r_ia (i := 1) rfl rfl rfl (by omega) (by first | omega | (simp <;> omega)) Tryd.underlying91 inf23) rfl ?_
   refine l_val wn (r_rl 0 encStrsX rfl rfl rfl (show ([(StrsX.mk ⟨(some ⟨b24, 0, none⟩), 2, ([⟨#[43]⟩, ⟨#[45]⟩] : List ByteArray)⟩), (StrsX.mk ⟨(some ⟨b25, 0, none⟩), 1, ([⟨#[42]⟩] : List ByteArray)⟩)] : List StrsX)[1]? = some (StrsX.mk ⟨(some ⟨b25, 0, none⟩), 1, ([⟨#[42]⟩] : List ByteArray)⟩) from rfl) rfl flat23) rfl ?_
   refine l_val wn (r_len rfl Tryd.underlying23) rfl ?_
   refine l_val wn (r_move rfl) rfl ?_
   refine l_nil (e_go hK10 ?_)
   refine c_block ?_
   refine c_enter ?_
   refine c_round fun _ hK11 => ?_
   refine c_seq fun _ hK12 => ?_
   refine c_region ?_
   refine l_val wn (r_lss rfl rfl) rfl ?_
   refine l_nil (e_go hK12 ?_)
   refine c_seq fun _ hK13 => ?_
   refine c_true rfl (decide_eq_true (by first | decide | simp)) ?_
   refine c_skip (e_go hK13 ?_)
   refine c_seq fun _ hK14 => ?_
   refine c_block ?_
   refine c_seq fun _ hK15 => ?_
   refine c_region ?_
   refine l_val wn (r_ia (i := 0) rfl rfl rfl (by omega) (by first | omega | (simp <;> omega)) Tryd.underlying23 inf9) rfl ?_
   refine l_val wn (r_rl 1 encString rfl rfl rfl (show ([⟨#[42]⟩] : List ByteArray)[0]? = some ⟨#[42]⟩ from rfl) rfl flat9) rfl ?_
   refine l_val wn (r_assign rfl) rfl ?_
   refine l_nil (e_go hK15 ?_)
   refine c_seq fun _ hK16 => ?_
   refine c_region ?_
   refine l_val wn (r_move rfl) rfl ?_
   refine l_val wn (r_seql rfl rfl) rfl ?_
   refine l_val wn (r_move rfl) rfl ?_
   refine l_litt (t := 37) rfl (by decide) ?_
   refine l_val (wg rfl rfl rfl) (r_move rfl) rfl ?_
   refine l_val (wg rfl rfl rfl) (r_move rfl) rfl ?_
   refine l_give (α := (Bool × Nat)) [Wb 69 p s k m bl al] [Row (.slice (some ⟨b26, 0, none⟩) 2 2) 23 1 strsE ([(StrsX.mk ⟨(some ⟨b24, 0, none⟩), 2, ([⟨#[43]⟩, ⟨#[45]⟩] : List ByteArray)⟩), (StrsX.mk ⟨(some ⟨b25, 0, none⟩), 1, ([⟨#[42]⟩] : List ByteArray)⟩)] : List StrsX), Row (.slice (some ⟨b25, 0, none⟩) 1 1) 9 1 strE ([⟨#[42]⟩] : List ByteArray), Row (.slice (some ⟨b24, 0, none⟩) 2 2) 9 1 strE ([⟨#[43]⟩, ⟨#[45]⟩] : List ByteArray), .blk b7 [iV x.kind, iV x.n, iV x.range, .string x.word, .slice x.ms.A x.ms.l.length x.ms.c, .slice x.by_.A x.by_.l.length x.by_.c, .slice x.kids.A x.kids.l.length x.kids.c] 26, okI (bl = 0) x, .blk b6 Zx 26] (fun z : Bool × Nat => .bool z.1) (fun z3 => (Pz.SignR s ⟨#[42]⟩ bl k z3)) (fun z3 => [Wb 69 p s z3.2 m bl al]) _ (fun _ => rfl) (fun _ h => h.sel [3, 0, 1, 2, 4, 5, 6] (by decide) rfl) (fun _ => rfl) (wg rfl rfl rfl) rfl rfl Tryd.call53 rfl (fun w1 Pb hG => w_sign p s k m bl al ⟨#[42]⟩ Pb w1 hG (by omega) (by omega) (by first | decide | omega)) fun z3 hz3 => ?_
   obtain ⟨bo1, j2⟩ := z3
   have hs2 : Pz.SignR s ⟨#[42]⟩ bl k (bo1, j2) := hz3
   try simp only at hs2
   have hs2l : j2 ≤ s.size := hs2.1
   refine l_as 40 (.bool bo1) [Wb 69 p s j2 m bl al, Row (.slice (some ⟨b26, 0, none⟩) 2 2) 23 1 strsE ([(StrsX.mk ⟨(some ⟨b24, 0, none⟩), 2, ([⟨#[43]⟩, ⟨#[45]⟩] : List ByteArray)⟩), (StrsX.mk ⟨(some ⟨b25, 0, none⟩), 1, ([⟨#[42]⟩] : List ByteArray)⟩)] : List StrsX), Row (.slice (some ⟨b25, 0, none⟩) 1 1) 9 1 strE ([⟨#[42]⟩] : List ByteArray), Row (.slice (some ⟨b24, 0, none⟩) 2 2) 9 1 strE ([⟨#[43]⟩, ⟨#[45]⟩] : List ByteArray), .blk b7 [iV x.kind, iV x.n, iV x.range, .string x.word, .slice x.ms.A x.ms.l.length x.ms.c, .slice x.by_.A x.by_.l.length x.by_.c, .slice x.kids.A x.kids.l.length x.kids.c] 26, okI (bl = 0) x, .blk b6 Zx 26] ?_
   refine l_val wn (r_pick rfl rfl) rfl ?_
   refine l_nil (e_go hK16 ?_)
   refine c_condb rfl (fun h2 => ?_) (fun h2 => ?_)
   · refine c_region ?_
     refine l_val wn (r_move rfl) rfl ?_
     refine l_val wn (r_assign rfl) rfl ?_
     refine l_nil (e_in_n (e_go hK14 ?_))
     refine c_region ?_
     refine l_val wn (r_addn rfl rfl (by omega)) rfl ?_
     refine l_val wn (r_move rfl) rfl ?_
     refine l_nil (e_goL hK11 ?_)
     refine c_round fun _ hK17 => ?_
     refine c_seq fun _ hK18 => ?_
     refine c_region ?_
     refine l_val wn (r_lss rfl rfl) rfl ?_
     refine l_nil (e_go hK18 ?_)
     refine c_seq fun _ hK19 => ?_
     refine c_false rfl (decide_eq_false (by first | decide | simp)) ?_
     refine c_exit (e_then_x (e_then_x (e_in_hit (e_go hK9 ?_))))
     refine c_seq fun _ hK20 => ?_
     refine c_seq fun _ hK21 => ?_
     refine c_region ?_
     refine l_val wn (r_move rfl) rfl ?_
     refine l_val wn (r_seql rfl rfl) rfl ?_
     refine l_nil (e_go hK21 ?_)
     refine c_false rfl (decide_eq_false (by decide)) ?_
     refine c_skip (e_go hK20 ?_)
     refine c_seq fun _ hK22 => ?_
     refine c_region ?_
     refine l_val wn (r_move rfl) rfl ?_
     refine l_val wn (r_move rfl) rfl ?_
     refine l_val wn (r_addn rfl rfl (by omega)) rfl ?_
     refine l_val wn (r_move rfl) rfl ?_
     refine l_give (α := (ExprX × Nat × Int × Int × Int)) [Wb 69 p s j2 m bl al] [Row (.slice (some ⟨b26, 0, none⟩) 2 2) 23 1 strsE ([(StrsX.mk ⟨(some ⟨b24, 0, none⟩), 2, ([⟨#[43]⟩, ⟨#[45]⟩] : List ByteArray)⟩), (StrsX.mk ⟨(some ⟨b25, 0, none⟩), 1, ([⟨#[42]⟩] : List ByteArray)⟩)] : List StrsX), Row (.slice (some ⟨b25, 0, none⟩) 1 1) 9 1 strE ([⟨#[42]⟩] : List ByteArray), Row (.slice (some ⟨b24, 0, none⟩) 2 2) 9 1 strE ([⟨#[43]⟩, ⟨#[45]⟩] : List ByteArray), .blk b7 [iV x.kind, iV x.n, iV x.range, .string x.word, .slice x.ms.A x.ms.l.length x.ms.c, .slice x.by_.A x.by_.l.length x.by_.c, .slice x.kids.A x.kids.l.length x.kids.c] 26, okI (bl = 0) x, .blk b6 Zx 26] (fun z : ExprX × Nat × Int × Int × Int => .agg (exprE z.1).toArray) (fun z4 => (Pz.Sim s bl al (Pz.fac s N ⟨j2, m⟩) z4.1.e ⟨z4.2.1, z4.2.2.1, z4.2.2.2.1, z4.2.2.2.2⟩ ∧ (0 ≤ z4.2.2.1 ∧ z4.2.2.1 ≤ 101) ∧ (z4.2.2.2.1 = 0 → z4.2.2.1 ≤ 100))) (fun z4 => [Wb 69 p s z4.2.1 z4.2.2.1 z4.2.2.2.1 z4.2.2.2.2, okI (z4.2.2.2.1 = 0) z4.1]) _ (fun _ => rfl) (fun _ h => h.sel [0, 1, 2, 3, 4, 5, 6] (by decide) rfl) (fun _ => rfl) wn rfl rfl Tryd.call33 rfl (fun w1 Pb hG => ih p s j2 m bl al d Pb w1 hG (by omega) (by omega) (by omega) (by omega) (by omega) (by omega)) fun z4 hz4 => ?_
     obtain ⟨x2, j3, m2, be2, ba2⟩ := z4
     have hs3 : Pz.Sim s bl al (Pz.fac s N ⟨j2, m⟩) (x2, j3, m2, be2, ba2).1.e ⟨(x2, j3, m2, be2, ba2).2.1, (x2, j3, m2, be2, ba2).2.2.1, (x2, j3, m2, be2, ba2).2.2.2.1, (x2, j3, m2, be2, ba2).2.2.2.2⟩ ∧ (0 ≤ (x2, j3, m2, be2, ba2).2.2.1 ∧ (x2, j3, m2, be2, ba2).2.2.1 ≤ 101) ∧ ((x2, j3, m2, be2, ba2).2.2.2.1 = 0 → (x2, j3, m2, be2, ba2).2.2.1 ≤ 100) := hz4
     try simp only at hs3
     have hs3l : j3 ≤ s.size := hs3.1.1
     have hs3n := hs3.2.1
     have hs3m := hs3.2.2
     refine l_as 50 (.agg (List.toArray [iV x2.kind, iV x2.n, iV x2.range, .string x2.word, .slice x2.ms.A x2.ms.l.length x2.ms.c, .slice x2.by_.A x2.by_.l.length x2.by_.c, .slice x2.kids.A x2.kids.l.length x2.kids.c])) [Wb 69 p s j3 m2 be2 ba2, okI (be2 = 0) x2, Row (.slice (some ⟨b26, 0, none⟩) 2 2) 23 1 strsE ([(StrsX.mk ⟨(some ⟨b24, 0, none⟩), 2, ([⟨#[43]⟩, ⟨#[45]⟩] : List ByteArray)⟩), (StrsX.mk ⟨(some ⟨b25, 0, none⟩), 1, ([⟨#[42]⟩] : List ByteArray)⟩)] : List StrsX), Row (.slice (some ⟨b25, 0, none⟩) 1 1) 9 1 strE ([⟨#[42]⟩] : List ByteArray), Row (.slice (some ⟨b24, 0, none⟩) 2 2) 9 1 strE ([⟨#[43]⟩, ⟨#[45]⟩] : List ByteArray), .blk b7 [iV x.kind, iV x.n, iV x.range, .string x.word, .slice x.ms.A x.ms.l.length x.ms.c, .slice x.by_.A x.by_.l.length x.by_.c, .slice x.kids.A x.kids.l.length x.kids.c] 26, okI (bl = 0) x, .blk b6 Zx 26] ?_
     refine l_alloc wn inf26 rfl fun b11 => ?_
     refine l_stn 0 wn rfl rfl rfl inf26 rfl rfl rfl ?_
     refine l_nil (e_go hK22 ?_)
     refine c_seq fun _ hK23 => ?_
     refine c_region ?_
     refine l_val wn (r_move rfl) rfl ?_
     refine l_give (α := Unit) [Wb 69 p s j3 m2 be2 ba2] [.blk b11 [iV x2.kind, iV x2.n, iV x2.range, .string x2.word, .slice x2.ms.A x2.ms.l.length x2.ms.c, .slice x2.by_.A x2.by_.l.length x2.by_.c, .slice x2.kids.A x2.kids.l.length x2.kids.c] 26, okI (be2 = 0) x2, Row (.slice (some ⟨b26, 0, none⟩) 2 2) 23 1 strsE ([(StrsX.mk ⟨(some ⟨b24, 0, none⟩), 2, ([⟨#[43]⟩, ⟨#[45]⟩] : List ByteArray)⟩), (StrsX.mk ⟨(some ⟨b25, 0, none⟩), 1, ([⟨#[42]⟩] : List ByteArray)⟩)] : List StrsX), Row (.slice (some ⟨b25, 0, none⟩) 1 1) 9 1 strE ([⟨#[42]⟩] : List ByteArray), Row (.slice (some ⟨b24, 0, none⟩) 2 2) 9 1 strE ([⟨#[43]⟩, ⟨#[45]⟩] : List ByteArray), .blk b7 [iV x.kind, iV x.n, iV x.range, .string x.word, .slice x.ms.A x.ms.l.length x.ms.c, .slice x.by_.A x.by_.l.length x.by_.c, .slice x.kids.A x.kids.l.length x.kids.c] 26, okI (bl = 0) x, .blk b6 Zx 26] (fun _ : Unit => .bool (decide (be2 = 0))) (fun z5 => True) (fun z5 => [Wb 69 p s j3 m2 be2 ba2]) (fun z5 => [Wb 69 p s j3 m2 be2 ba2, .blk b11 [iV x2.kind, iV x2.n, iV x2.range, .string x2.word, .slice x2.ms.A x2.ms.l.length x2.ms.c, .slice x2.by_.A x2.by_.l.length x2.by_.c, .slice x2.kids.A x2.kids.l.length x2.kids.c] 26, okI (be2 = 0) x2, Row (.slice (some ⟨b26, 0, none⟩) 2 2) 23 1 strsE ([(StrsX.mk ⟨(some ⟨b24, 0, none⟩), 2, ([⟨#[43]⟩, ⟨#[45]⟩] : List ByteArray)⟩), (StrsX.mk ⟨(some ⟨b25, 0, none⟩), 1, ([⟨#[42]⟩] : List ByteArray)⟩)] : List StrsX), Row (.slice (some ⟨b25, 0, none⟩) 1 1) 9 1 strE ([⟨#[42]⟩] : List ByteArray), Row (.slice (some ⟨b24, 0, none⟩) 2 2) 9 1 strE ([⟨#[43]⟩, ⟨#[45]⟩] : List ByteArray), .blk b7 [iV x.kind, iV x.n, iV x.range, .string x.word, .slice x.ms.A x.ms.l.length x.ms.c, .slice x.by_.A x.by_.l.length x.by_.c, .slice x.kids.A x.kids.l.length x.kids.c] 26, okI (bl = 0) x, .blk b6 Zx 26]) (fun _ => rfl) (fun _ h => h.sel [1, 0, 2, 3, 4, 5, 6, 7, 8] (by decide) rfl) (fun _ => rfl) wn rfl rfl Tryd.call34 rfl (fun w1 Pb hG => w_ok p s j3 m2 be2 ba2 Pb w1 hG) fun z5 hz5 => ?_
     refine l_nil (e_go hK23 ?_)
     refine c_cond rfl (fun h3 => ?_) (fun h3 => ?_)
     · refine c_region ?_
       refine l_val wn (r_move rfl) rfl ?_
       refine l_val wn (r_move rfl) rfl ?_
       refine l_val wn (r_lbn 6 [iV x.kind, iV x.n, iV x.range, .string x.word, .slice x.ms.A x.ms.l.length x.ms.c, .slice x.by_.A x.by_.l.length x.by_.c, .slice x.kids.A x.kids.l.length x.kids.c] rfl rfl rfl rfl agg26 inf26) rfl ?_
       refine l_val wn (r_lbn 1 [iV x2.kind, iV x2.n, iV x2.range, .string x2.word, .slice x2.ms.A x2.ms.l.length x2.ms.c, .slice x2.by_.A x2.by_.l.length x2.by_.c, .slice x2.kids.A x2.kids.l.length x2.kids.c] rfl rfl rfl rfl agg26 inf26) rfl ?_
       refine l_bsL exprE ([x, x2] : List ExprX) wn Tryd.underlying24 inf26 rfl rfl rfl rfl (by decide) (by decide) rfl fun b57 => ?_
       refine l_val wn (r_build [iV 4, iV 0, iV 0, .string ⟨#[42]⟩, Zs, Zs, .slice (some ⟨b57, 0, none⟩) 2 2] pl26 inf26 rfl rfl) rfl ?_
       refine l_mem (fun _ h => h.okOf 8 rfl h1) ?_
       refine l_mem (fun _ h => h.okOf 4 rfl h3) ?_
       have hb0_1 : be2 = 0 := h3
       have hb0_2 : bl = 0 := h1
       refine l_sealX 2 3 encExprX rfl rfl (fp1) ?_
       refine l_mem (fun _ h => h.exprG (k := 4) (n := 0) (r := 0) (wd := ⟨#[42]⟩) (ms := ⟨none, 0, []⟩) (bs := ⟨none, 0, []⟩) (ks := ⟨(some ⟨b57, 0, none⟩), 2, ([x, x2] : List ExprX)⟩) (fun _ _ => FlatSl.nil_ _ _ _ _) (fun _ _ => FlatSl.nil_ _ _ _ _) (fun _ pp => pp.sl 2 rfl) (fun _ pp x hx => by simp only [List.mem_cons, List.not_mem_nil, or_false] at hx; rcases hx with rfl | rfl <;> first | exact pp.at_ 1 _ rfl | exact pp.at_ 0 _ rfl) (by first | decide | omega) (fun x hx => by cases hx) (fun x hx => by cases hx)) ?_
       refine l_give (α := (Int × Int)) [Wb 69 p s j3 m2 be2 ba2] [okP ExprX.Ok (ExprX.mk 4 0 0 ⟨#[42]⟩ ⟨none, 0, []⟩ ⟨none, 0, []⟩ ⟨(some ⟨b57, 0, none⟩), 2, ([x, x2] : List ExprX)⟩), okP ExprX.Ok x2, okP ExprX.Ok x, slP 7 exprE (.slice (some ⟨b57, 0, none⟩) 2 2) ([x, x2] : List ExprX), .blk b11 [iV x2.kind, iV x2.n, iV x2.range, .string x2.word, .slice x2.ms.A x2.ms.l.length x2.ms.c, .slice x2.by_.A x2.by_.l.length x2.by_.c, .slice x2.kids.A x2.kids.l.length x2.kids.c] 26, okI (be2 = 0) x2, Row (.slice (some ⟨b26, 0, none⟩) 2 2) 23 1 strsE ([(StrsX.mk ⟨(some ⟨b24, 0, none⟩), 2, ([⟨#[43]⟩, ⟨#[45]⟩] : List ByteArray)⟩), (StrsX.mk ⟨(some ⟨b25, 0, none⟩), 1, ([⟨#[42]⟩] : List ByteArray)⟩)] : List StrsX), Row (.slice (some ⟨b25, 0, none⟩) 1 1) 9 1 strE ([⟨#[42]⟩] : List ByteArray), Row (.slice (some ⟨b24, 0, none⟩) 2 2) 9 1 strE ([⟨#[43]⟩, ⟨#[45]⟩] : List ByteArray), .blk b7 [iV x.kind, iV x.n, iV x.range, .string x.word, .slice x.ms.A x.ms.l.length x.ms.c, .slice x.by_.A x.by_.l.length x.by_.c, .slice x.kids.A x.kids.l.length x.kids.c] 26, okI (bl = 0) x, .blk b6 Zx 26] (fun _ : Int × Int => .agg (List.toArray [iV 4, iV 0, iV 0, .string ⟨#[42]⟩, Zs, Zs, .slice (some ⟨b57, 0, none⟩) 2 2])) (fun z6 => (Pz.SimU s be2 ba2 (Pz.node ⟨j3, m2⟩) ⟨j3, m2 + 1, z6.1, z6.2⟩)) (fun z6 => [Wb 69 p s j3 (m2 + 1) z6.1 z6.2]) _ (fun _ => rfl) (fun _ h => h.sel [4, 0, 1, 2, 3, 5, 6, 7, 8, 9, 10, 11, 12] (by decide) rfl) (fun _ => rfl) wn rfl rfl Tryd.call54 rfl (fun w1 Pb hG => w_made p s j3 m2 be2 ba2 4 0 0 ⟨#[42]⟩ none 0 0 none 0 0 (some ⟨b57, 0, none⟩) 2 2 Pb w1 hG (by omega) (by omega) (by omega)) fun z6 hz6 => ?_
       obtain ⟨be3, ba3⟩ := z6
       have hs4 : Pz.SimU s be2 ba2 (Pz.node ⟨j3, m2⟩) ⟨j3, m2 + 1, be3, ba3⟩ := hz6
       have hs4n : be3 = 0 → m2 + 1 ≤ 100 := fun h9 => by have h8 := (Pz.Fine.ok_ (Pz.node_fine (s := s) (t := ⟨j3, m2⟩) (by show _ ≤ _; omega)) (hs4.ok_ (hs4.first h9) h9)).most (show m2 ≤ 100 by omega); exact h8
       refine l_as 59 (.agg (List.toArray [iV 4, iV 0, iV 0, .string ⟨#[42]⟩, Zs, Zs, .slice (some ⟨b57, 0, none⟩) 2 2])) [Wb 69 p s j3 (m2 + 1) be3 ba3, okP ExprX.Ok (ExprX.mk 4 0 0 ⟨#[42]⟩ ⟨none, 0, []⟩ ⟨none, 0, []⟩ ⟨(some ⟨b57, 0, none⟩), 2, ([x, x2] : List ExprX)⟩), okP ExprX.Ok x2, okP ExprX.Ok x, slP 7 exprE (.slice (some ⟨b57, 0, none⟩) 2 2) ([x, x2] : List ExprX), .blk b11 [iV x2.kind, iV x2.n, iV x2.range, .string x2.word, .slice x2.ms.A x2.ms.l.length x2.ms.c, .slice x2.by_.A x2.by_.l.length x2.by_.c, .slice x2.kids.A x2.kids.l.length x2.kids.c] 26, okI (be2 = 0) x2, Row (.slice (some ⟨b26, 0, none⟩) 2 2) 23 1 strsE ([(StrsX.mk ⟨(some ⟨b24, 0, none⟩), 2, ([⟨#[43]⟩, ⟨#[45]⟩] : List ByteArray)⟩), (StrsX.mk ⟨(some ⟨b25, 0, none⟩), 1, ([⟨#[42]⟩] : List ByteArray)⟩)] : List StrsX), Row (.slice (some ⟨b25, 0, none⟩) 1 1) 9 1 strE ([⟨#[42]⟩] : List ByteArray), Row (.slice (some ⟨b24, 0, none⟩) 2 2) 9 1 strE ([⟨#[43]⟩, ⟨#[45]⟩] : List ByteArray), .blk b7 [iV x.kind, iV x.n, iV x.range, .string x.word, .slice x.ms.A x.ms.l.length x.ms.c, .slice x.by_.A x.by_.l.length x.by_.c, .slice x.kids.A x.kids.l.length x.kids.c] 26, okI (bl = 0) x, .blk b6 Zx 26] ?_
       refine l_stn 10 wn rfl rfl rfl inf26 rfl rfl rfl ?_
       refine l_mem (fun _ h => h.okI1 (be3 = 0) 1 rfl) ?_
       refine l_nil (e_in_n (e_round6 (ExprX.mk 4 0 0 ⟨#[42]⟩ ⟨none, 0, []⟩ ⟨none, 0, []⟩ ⟨(some ⟨b57, 0, none⟩), 2, ([x, x2] : List ExprX)⟩) j3 (m2 + 1) be3 ba3 (q - 1) (sc rfl (sc rfl (sc rfl (sc rfl (sc rfl sn))))) (fun _ h => (h.sel [11, 1, 0, 13] (by decide) rfl)) ?_ ?_))
       · have hX := hXi
         rw [show q = (q - 1) + 1 by omega] at hX
         have hmo := (Pz.Kid.ok (Pz.fac_fine s N) (by show _ ≤ s.size; exact hs2l) (hs3.1.ok_ h1 h3)).mono
         exact ⟨Pz.sl_next hX h1 (Pz.star1 (hs2.yes h2).2) (by decide) hs3.1 hs4, by omega, by omega, by omega, by intro h9; have h8 : m ≤ m2 := hmo; omega⟩
       omega
     refine c_mem (fun _ h => h.okI0 (be2 = 0) x h3) ?_
     refine c_skip (e_in_n (e_round6 x j3 m2 be2 ba2 (q - 1) (sc rfl (sc rfl (sc rfl (sc rfl (sc rfl sn))))) (fun _ h => (h.sel [7, 1, 0, 9] (by decide) rfl)) ?_ ?_))
     · have hX := hXi
       rw [show q = (q - 1) + 1 by omega] at hX
       exact ⟨Pz.sl_off hX h1 (Pz.star1 (hs2.yes h2).2) (by decide) hs3.1 h3 (q - 1) x.e, by omega, by omega, by omega, by intro h9; exact absurd h9 h3⟩
     omega
   refine c_skip (e_in_n (e_go hK14 ?_))
   refine c_region ?_
   refine l_val wn (r_addn rfl rfl (by omega)) rfl ?_
   refine l_val wn (r_move rfl) rfl ?_
   refine l_nil (e_goL hK11 ?_)
   refine c_round fun _ hK24 => ?_
   refine c_seq fun _ hK25 => ?_
   refine c_region ?_
   refine l_val wn (r_lss rfl rfl) rfl ?_
   refine l_nil (e_go hK25 ?_)
   refine c_seq fun _ hK26 => ?_
   refine c_false rfl (decide_eq_false (by first | decide | simp)) ?_
   refine c_exit (e_then_x (e_then_x (e_in_hit (e_go hK9 ?_))))
   refine c_seq fun _ hK27 => ?_
   refine c_seq fun _ hK28 => ?_
   refine c_region ?_
   refine l_val wn (r_move rfl) rfl ?_
   refine l_val wn (r_seql rfl rfl) rfl ?_
   refine l_nil (e_go hK28 ?_)
   refine c_true rfl (decide_eq_true (by decide)) ?_
   refine c_exit (e_then_x (e_in_miss rfl (e_loop6_x (e_in_hit (e_go hK5 ?_)))))
   refine c_seq fun _ hK29 => ?_
   refine c_region ?_
   refine l_val wn (r_lbn 4 [iV x.kind, iV x.n, iV x.range, .string x.word, .slice x.ms.A x.ms.l.length x.ms.c, .slice x.by_.A x.by_.l.length x.by_.c, .slice x.kids.A x.kids.l.length x.kids.c] rfl rfl rfl rfl agg26 inf26) rfl ?_
   refine l_stn 6 wn rfl rfl rfl inf26 rfl rfl rfl ?_
   refine l_nil (e_go hK29 ?_)
   refine c_ret (e_ret1 (.inl rfl) Tryd.results33 (rv_cell 6 rfl rfl agg26 inf26 rfl) fun w1 hM => ?_)
   have hM := hM.okI2 (bl = 0) 5 rfl (fun h9 => h9)
   exact hM.retA (x, j2, m, bl, al) rfl ⟨show Pz.Sim s be ba (Pz.trm s N ⟨i, n⟩) (x).e ⟨j2, m, bl, al⟩ from Pz.sum_sim hs1.1 ((by have hX := hXi; rw [show q = (q - 1) + 1 by omega] at hX; exact Pz.sl_done hX h1 (Pz.star0 (hs2.no (by simpa using h2) h1)) hs2l)), by show 0 ≤ m ∧ m ≤ 101; omega, by show bl = 0 → m ≤ 100; first | (intro h9; omega) | (intro h9; exact absurd h9 id) | omega⟩ (fun h => h.sel [1, 0] (by decide) rfl)
 refine c_exit (e_then_x (e_loop6_x (e_in_hit (e_go hK5 ?_))))
 refine c_seq fun _ hK30 => ?_
 refine c_region ?_
 refine l_val wn (r_lbn 1 [iV x.kind, iV x.n, iV x.range, .string x.word, .slice x.ms.A x.ms.l.length x.ms.c, .slice x.by_.A x.by_.l.length x.by_.c, .slice x.kids.A x.kids.l.length x.kids.c] rfl rfl rfl rfl agg26 inf26) rfl ?_
 refine l_stn 3 wn rfl rfl rfl inf26 rfl rfl rfl ?_
 refine l_nil (e_go hK30 ?_)
 refine c_ret (e_ret1 (.inl rfl) Tryd.results33 (rv_cell 3 rfl rfl agg26 inf26 rfl) fun w1 hM => ?_)
 have hM := hM.okI2 (bl = 0) 2 rfl (fun h9 => h9)
 exact hM.retA (x, k, m, bl, al) rfl ⟨show Pz.Sim s be ba (Pz.trm s N ⟨i, n⟩) (x).e ⟨k, m, bl, al⟩ from Pz.sum_sim hs1.1 (Pz.sl_bad hXi h1 (by omega)), by show 0 ≤ m ∧ m ≤ 101; omega, by show bl = 0 → m ≤ 100; first | (intro h9; omega) | (intro h9; exact absurd h9 h1) | omega⟩ (fun h => h.sel [1, 0] (by decide) rfl)

set_option maxHeartbeats 4000000 in
theorem w_sum0 (p : Nat) (s : ByteArray) (i : Nat) (n be ba : Int) (d : Int) (N : Nat) (Pb : Nat → Prop) (w : World) (hG : Mem w ⟨fpOf [Wb 69 p s i n be ba], Pb⟩ [Wb 69 p s i n be ba] w) (hi : i ≤ s.size) (hs : s.size ≤ 2000) (hn : 0 ≤ n ∧ n ≤ 101) (hne : be = 0 → n ≤ 100) (hd : d + (N : Int) = 21) (hd1 : 1 ≤ d) (ih : TrmR N) :
    Calls Tryd.prog 33 #[.pointer (some ⟨p, 0, none⟩), iV 0, iV d] w (RetA w [Wb 69 p s i n be ba] Pb (fun z : ExprX × Nat × Int × Int × Int => .agg (exprE z.1).toArray) (fun z => Pz.Sim s be ba (Pz.xpr s N ⟨i, n⟩) z.1.e ⟨z.2.1, z.2.2.1, z.2.2.2.1, z.2.2.2.2⟩ ∧ (0 ≤ z.2.2.1 ∧ z.2.2.1 ≤ 101) ∧ (z.2.2.2.1 = 0 → z.2.2.1 ≤ 100)) (fun z => [Wb 69 p s z.2.1 z.2.2.1 z.2.2.2.1 z.2.2.2.2, okI (z.2.2.2.1 = 0) z.1])) := by
 refine fstart (N := 61) (vals := [.pointer (some ⟨p, 0, none⟩), iV 0, iV d]) (S := Mem w ⟨fpOf [Wb 69 p s i n be ba], Pb⟩ [Wb 69 p s i n be ba]) Tryd.func33 rfl rfl rfl hG ?_
 refine c_seq fun _ hK1 => ?_
 refine c_region ?_
 refine l_alloc wn inf26 rfl fun b6 => ?_
 refine l_nil (e_go hK1 ?_)
 refine c_seq fun _ hK2 => ?_
 refine c_seq fun _ hK3 => ?_
 refine c_region ?_
 refine l_val wn (r_move rfl) rfl ?_
 refine l_val wn (r_eql rfl rfl) rfl ?_
 refine l_nil (e_go hK3 ?_)
 refine c_false rfl (decide_eq_false (by first | decide | simp)) ?_
 refine c_skip (e_go hK2 ?_)
 refine c_seq fun _ hK4 => ?_
 refine c_region ?_
 refine l_val wn (r_move rfl) rfl ?_
 refine l_val wn (r_move rfl) rfl ?_
 refine l_val wn (r_addn rfl rfl (by omega)) rfl ?_
 refine l_val wn (r_move rfl) rfl ?_
 refine l_give (α := (ExprX × Nat × Int × Int × Int)) [Wb 69 p s i n be ba] [.blk b6 Zx 26] (fun z : ExprX × Nat × Int × Int × Int => .agg (exprE z.1).toArray) (fun z1 => (Pz.Sim s be ba (Pz.trm s N ⟨i, n⟩) z1.1.e ⟨z1.2.1, z1.2.2.1, z1.2.2.2.1, z1.2.2.2.2⟩ ∧ (0 ≤ z1.2.2.1 ∧ z1.2.2.1 ≤ 101) ∧ (z1.2.2.2.1 = 0 → z1.2.2.1 ≤ 100))) (fun z1 => [Wb 69 p s z1.2.1 z1.2.2.1 z1.2.2.2.1 z1.2.2.2.2, okI (z1.2.2.2.1 = 0) z1.1]) _ (fun _ => rfl) (fun _ h => h.sel [1, 0] (by decide) rfl) (fun _ => rfl) wn rfl rfl Tryd.call33 rfl (fun w1 Pb hG => ih p s i n be ba d Pb w1 hG (by omega) (by omega) (by omega) (by omega) (by omega) (by omega)) fun z1 hz1 => ?_
 obtain ⟨x1, j1, m1, be1, ba1⟩ := z1
 have hs1 : Pz.Sim s be ba (Pz.trm s N ⟨i, n⟩) (x1, j1, m1, be1, ba1).1.e ⟨(x1, j1, m1, be1, ba1).2.1, (x1, j1, m1, be1, ba1).2.2.1, (x1, j1, m1, be1, ba1).2.2.2.1, (x1, j1, m1, be1, ba1).2.2.2.2⟩ ∧ (0 ≤ (x1, j1, m1, be1, ba1).2.2.1 ∧ (x1, j1, m1, be1, ba1).2.2.1 ≤ 101) ∧ ((x1, j1, m1, be1, ba1).2.2.2.1 = 0 → (x1, j1, m1, be1, ba1).2.2.1 ≤ 100) := hz1
 try simp only at hs1
 have hs1l : j1 ≤ s.size := hs1.1.1
 have hs1n := hs1.2.1
 have hs1m := hs1.2.2
 refine l_as 21 (.agg (List.toArray [iV x1.kind, iV x1.n, iV x1.range, .string x1.word, .slice x1.ms.A x1.ms.l.length x1.ms.c, .slice x1.by_.A x1.by_.l.length x1.by_.c, .slice x1.kids.A x1.kids.l.length x1.kids.c])) [Wb 69 p s j1 m1 be1 ba1, okI (be1 = 0) x1, .blk b6 Zx 26] ?_
 refine l_alloc wn inf26 rfl fun b7 => ?_
 refine l_stn 0 wn rfl rfl rfl inf26 rfl rfl rfl ?_
 refine l_nil (e_go hK4 ?_)
 refine c_seq fun _ hK5 => ?_
 refine c_block ?_
 refine c_loop6 (fun (x : ExprX) (k : Nat) (m : Int) (bl : Int) (al : Int) (q : Nat) => [(0, .pointer (some ⟨p, 0, none⟩)), (1, iV 0), (2, iV d), (6, .pointer (some ⟨b6, 0, none⟩)), (7, .pointer (some ⟨b7, 0, none⟩))]) (fun (x : ExprX) (k : Nat) (m : Int) (bl : Int) (al : Int) (q : Nat) => [.blk b7 [iV x.kind, iV x.n, iV x.range, .string x.word, .slice x.ms.A x.ms.l.length x.ms.c, .slice x.by_.A x.by_.l.length x.by_.c, .slice x.kids.A x.kids.l.length x.kids.c] 26, Wb 69 p s k m bl al, okI (bl = 0) x, .blk b6 Zx 26]) (fun (x : ExprX) (k : Nat) (m : Int) (bl : Int) (al : Int) (q : Nat) => (∀ b r, Pz.Sim s bl al (Pz.binL s (Pz.trm s N) Pz.plus q x.e ⟨k, m⟩) b r → Pz.Sim s be1 ba1 (Pz.binL s (Pz.trm s N) Pz.plus 101 x1.e ⟨j1, m1⟩) b r) ∧ k ≤ s.size ∧ (0 ≤ m ∧ m ≤ 101) ∧ (bl = 0 → m ≤ 100) ∧ (bl = 0 → (101 : Int) ≤ (q : Int) + m)) (fun (x : ExprX) (k : Nat) (m : Int) (bl : Int) (al : Int) (q : Nat) => q) x1 j1 m1 be1 ba1 101 (sc rfl (sc rfl (sc rfl (sc rfl (sc rfl sn))))) (fun _ h => h) ?_ (fun x k m bl al q hI1 => ?_)
 · exact ⟨fun _ _ h => h, by omega, by omega, by omega, by omega⟩
 have hq1 := hI1.2.2.1
 have hq2 := hI1.2.2.2.1
 have hq3 := hI1.2.2.2.2
 have hXi := hI1.1
 refine c_seq fun _ hK6 => ?_
 refine c_seq fun _ hK7 => ?_
 refine c_region ?_
 refine l_val wn (r_move rfl) rfl ?_
 refine l_give (α := Unit) [Wb 69 p s k m bl al] [.blk b7 [iV x.kind, iV x.n, iV x.range, .string x.word, .slice x.ms.A x.ms.l.length x.ms.c, .slice x.by_.A x.by_.l.length x.by_.c, .slice x.kids.A x.kids.l.length x.kids.c] 26, okI (bl = 0) x, .blk b6 Zx 26] (fun _ : Unit => .bool (decide (bl = 0))) (fun z2 => True) (fun z2 => [Wb 69 p s k m bl al]) (fun z2 => [Wb 69 p s k m bl al, .blk b7 [iV x.kind, iV x.n, iV x.range, .string x.word, .slice x.ms.A x.ms.l.length x.ms.c, .slice x.by_.A x.by_.l.length x.by_.c, .slice x.kids.A x.kids.l.length x.kids.c] 26, okI (bl = 0) x, .blk b6 Zx 26]) (fun _ => rfl) (fun _ h => h.sel [1, 0, 2, 3] (by decide) rfl) (fun _ => rfl) wn rfl rfl Tryd.call34 rfl (fun w1 Pb hG => w_ok p s k m bl al Pb w1 hG) fun z2 hz2 => ?_
 refine l_nil (e_go hK7 ?_)
 refine c_cond rfl (fun h1 => ?_) (fun h1 => ?_)
 · refine c_skip (e_go hK6 ?_)
   refine c_block ?_
   refine c_seq fun _ hK8 => ?_
   refine c_region ?_
   refine l_val wn (r_assign rfl) rfl ?_
   refine l_nil (e_go hK8 ?_)
   refine c_seq fun _ hK9 => ?_
   refine c_seq fun _ hK10 => ?_
   refine c_region ?_
   refine l_bsL strE ([⟨#[43]⟩, ⟨#[45]⟩] : List ByteArray) wn Tryd.underlying23 inf9 rfl rfl rfl rfl (by decide) (by decide) rfl fun b24 => ?_
   refine l_bsL strE ([⟨#[42]⟩] : List ByteArray) wn Tryd.underlying23 inf9 rfl rfl rfl rfl (by decide) (by decide) rfl fun b25 => ?_
   refine l_bsL strsE ([(StrsX.mk ⟨(some ⟨b24, 0, none⟩), 2, ([⟨#[43]⟩, ⟨#[45]⟩] : List ByteArray)⟩), (StrsX.mk ⟨(some ⟨b25, 0, none⟩), 1, ([⟨#[42]⟩] : List ByteArray)⟩)] : List StrsX) wn Tryd.underlying91 inf23 rfl rfl rfl rfl (by decide) (by decide) rfl fun b26 => ?_
   refine l_val wn (r_move rfl) rfl ?_
   refine l_val wn (r_ia (i := 0) rfl rfl rfl (by omega) (by first | omega | (simp <;> omega)) Tryd.underlying91 inf23) rfl ?_
   refine l_val wn (r_rl 0 encStrsX rfl rfl rfl (show ([(StrsX.mk ⟨(some ⟨b24, 0, none⟩), 2, ([⟨#[43]⟩, ⟨#[45]⟩] : List ByteArray)⟩), (StrsX.mk ⟨(some ⟨b25, 0, none⟩), 1, ([⟨#[42]⟩] : List ByteArray)⟩)] : List StrsX)[0]? = some (StrsX.mk ⟨(some ⟨b24, 0, none⟩), 2, ([⟨#[43]⟩, ⟨#[45]⟩] : List ByteArray)⟩) from rfl) rfl flat23) rfl ?_
   refine l_val wn (r_len rfl Tryd.underlying23) rfl ?_
   refine l_val wn (r_move rfl) rfl ?_
   refine l_nil (e_go hK10 ?_)
   refine c_block ?_
   refine c_enter ?_
   refine c_round fun _ hK11 => ?_
   refine c_seq fun _ hK12 => ?_
   refine c_region ?_
   refine l_val wn (r_lss rfl rfl) rfl ?_
   refine l_nil (e_go hK12 ?_)
   refine c_seq fun _ hK13 => ?_
   refine c_true rfl (decide_eq_true (by first | decide | simp)) ?_
   refine c_skip (e_go hK13 ?_)
   refine c_seq fun _ hK14 => ?_
   refine c_block ?_
   refine c_seq fun _ hK15 => ?_
   refine c_region ?_
   refine l_val wn (r_ia (i := 0) rfl rfl rfl (by omega) (by first | omega | (simp <;> omega)) Tryd.underlying23 inf9) rfl ?_
   refine l_val wn (r_rl 2 encString rfl rfl rfl (show ([⟨#[43]⟩, ⟨#[45]⟩] : List ByteArray)[0]? = some ⟨#[43]⟩ from rfl) rfl flat9) rfl ?_
   refine l_val wn (r_assign rfl) rfl ?_
   refine l_nil (e_go hK15 ?_)
   refine c_seq fun _ hK16 => ?_
   refine c_region ?_
   refine l_val wn (r_move rfl) rfl ?_
   refine l_val wn (r_seql rfl rfl) rfl ?_
   refine l_val wn (r_move rfl) rfl ?_
   refine l_litt (t := 37) rfl (by decide) ?_
   refine l_val (wg rfl rfl rfl) (r_move rfl) rfl ?_
   refine l_val (wg rfl rfl rfl) (r_move rfl) rfl ?_
   refine l_give (α := (Bool × Nat)) [Wb 69 p s k m bl al] [Row (.slice (some ⟨b26, 0, none⟩) 2 2) 23 1 strsE ([(StrsX.mk ⟨(some ⟨b24, 0, none⟩), 2, ([⟨#[43]⟩, ⟨#[45]⟩] : List ByteArray)⟩), (StrsX.mk ⟨(some ⟨b25, 0, none⟩), 1, ([⟨#[42]⟩] : List ByteArray)⟩)] : List StrsX), Row (.slice (some ⟨b25, 0, none⟩) 1 1) 9 1 strE ([⟨#[42]⟩] : List ByteArray), Row (.slice (some ⟨b24, 0, none⟩) 2 2) 9 1 strE ([⟨#[43]⟩, ⟨#[45]⟩] : List ByteArray), .blk b7 [iV x.kind, iV x.n, iV x.range, .string x.word, .slice x.ms.A x.ms.l.length x.ms.c, .slice x.by_.A x.by_.l.length x.by_.c, .slice x.kids.A x.kids.l.length x.kids.c] 26, okI (bl = 0) x, .blk b6 Zx 26] (fun z : Bool × Nat => .bool z.1) (fun z3 => (Pz.SignR s ⟨#[43]⟩ bl k z3)) (fun z3 => [Wb 69 p s z3.2 m bl al]) _ (fun _ => rfl) (fun _ h => h.sel [3, 0, 1, 2, 4, 5, 6] (by decide) rfl) (fun _ => rfl) (wg rfl rfl rfl) rfl rfl Tryd.call53 rfl (fun w1 Pb hG => w_sign p s k m bl al ⟨#[43]⟩ Pb w1 hG (by omega) (by omega) (by first | decide | omega)) fun z3 hz3 => ?_
   obtain ⟨bo1, j2⟩ := z3
   have hs2 : Pz.SignR s ⟨#[43]⟩ bl k (bo1, j2) := hz3
   try simp only at hs2
   have hs2l : j2 ≤ s.size := hs2.1
   refine l_as 40 (.bool bo1) [Wb 69 p s j2 m bl al, Row (.slice (some ⟨b26, 0, none⟩) 2 2) 23 1 strsE ([(StrsX.mk ⟨(some ⟨b24, 0, none⟩), 2, ([⟨#[43]⟩, ⟨#[45]⟩] : List ByteArray)⟩), (StrsX.mk ⟨(some ⟨b25, 0, none⟩), 1, ([⟨#[42]⟩] : List ByteArray)⟩)] : List StrsX), Row (.slice (some ⟨b25, 0, none⟩) 1 1) 9 1 strE ([⟨#[42]⟩] : List ByteArray), Row (.slice (some ⟨b24, 0, none⟩) 2 2) 9 1 strE ([⟨#[43]⟩, ⟨#[45]⟩] : List ByteArray), .blk b7 [iV x.kind, iV x.n, iV x.range, .string x.word, .slice x.ms.A x.ms.l.length x.ms.c, .slice x.by_.A x.by_.l.length x.by_.c, .slice x.kids.A x.kids.l.length x.kids.c] 26, okI (bl = 0) x, .blk b6 Zx 26] ?_
   refine l_val wn (r_pick rfl rfl) rfl ?_
   refine l_nil (e_go hK16 ?_)
   refine c_condb rfl (fun h2 => ?_) (fun h2 => ?_)
   · refine c_region ?_
     refine l_val wn (r_move rfl) rfl ?_
     refine l_val wn (r_assign rfl) rfl ?_
     refine l_nil (e_in_n (e_go hK14 ?_))
     refine c_region ?_
     refine l_val wn (r_addn rfl rfl (by omega)) rfl ?_
     refine l_val wn (r_move rfl) rfl ?_
     refine l_nil (e_goL hK11 ?_)
     refine c_round fun _ hK17 => ?_
     refine c_seq fun _ hK18 => ?_
     refine c_region ?_
     refine l_val wn (r_lss rfl rfl) rfl ?_
     refine l_nil (e_go hK18 ?_)
     refine c_seq fun _ hK19 => ?_
     refine c_true rfl (decide_eq_true (by first | decide | simp)) ?_
     refine c_skip (e_go hK19 ?_)
     refine c_seq fun _ hK20 => ?_
     refine c_block ?_
     refine c_seq fun _ hK21 => ?_
     refine c_region ?_
     refine l_val wn (r_ia (i := 1) rfl rfl rfl (by omega) (by first | omega | (simp <;> omega)) Tryd.underlying23 inf9) rfl ?_
     refine l_val wn (r_rl 3 encString rfl rfl rfl (show ([⟨#[43]⟩, ⟨#[45]⟩] : List ByteArray)[1]? = some ⟨#[45]⟩ from rfl) rfl flat9) rfl ?_
     refine l_val wn (r_assign rfl) rfl ?_
     refine l_nil (e_go hK21 ?_)
     refine c_seq fun _ hK22 => ?_
     refine c_region ?_
     refine l_val wn (r_move rfl) rfl ?_
     refine l_val wn (r_seql rfl rfl) rfl ?_
     refine l_val wn (r_move rfl) rfl ?_
     refine l_litf (t := 37) rfl (by decide) ?_
     refine l_skip (wg rfl rfl rfl) rfl ?_
     refine l_skip (wg rfl rfl rfl) rfl ?_
     refine l_skip (wg rfl rfl rfl) rfl ?_
     refine l_val wn (r_pick rfl rfl) rfl ?_
     refine l_nil (e_go hK22 ?_)
     refine c_false rfl rfl ?_
     refine c_skip (e_in_n (e_go hK20 ?_))
     refine c_region ?_
     refine l_val wn (r_addn rfl rfl (by omega)) rfl ?_
     refine l_val wn (r_move rfl) rfl ?_
     refine l_nil (e_goL hK17 ?_)
     refine c_round fun _ hK23 => ?_
     refine c_seq fun _ hK24 => ?_
     refine c_region ?_
     refine l_val wn (r_lss rfl rfl) rfl ?_
     refine l_nil (e_go hK24 ?_)
     refine c_seq fun _ hK25 => ?_
     refine c_false rfl (decide_eq_false (by first | decide | simp)) ?_
     refine c_exit (e_then_x (e_then_x (e_in_hit (e_go hK9 ?_))))
     refine c_seq fun _ hK26 => ?_
     refine c_seq fun _ hK27 => ?_
     refine c_region ?_
     refine l_val wn (r_move rfl) rfl ?_
     refine l_val wn (r_seql rfl rfl) rfl ?_
     refine l_nil (e_go hK27 ?_)
     refine c_false rfl (decide_eq_false (by decide)) ?_
     refine c_skip (e_go hK26 ?_)
     refine c_seq fun _ hK28 => ?_
     refine c_region ?_
     refine l_val wn (r_move rfl) rfl ?_
     refine l_val wn (r_move rfl) rfl ?_
     refine l_val wn (r_addn rfl rfl (by omega)) rfl ?_
     refine l_val wn (r_move rfl) rfl ?_
     refine l_give (α := (ExprX × Nat × Int × Int × Int)) [Wb 69 p s j2 m bl al] [Row (.slice (some ⟨b26, 0, none⟩) 2 2) 23 1 strsE ([(StrsX.mk ⟨(some ⟨b24, 0, none⟩), 2, ([⟨#[43]⟩, ⟨#[45]⟩] : List ByteArray)⟩), (StrsX.mk ⟨(some ⟨b25, 0, none⟩), 1, ([⟨#[42]⟩] : List ByteArray)⟩)] : List StrsX), Row (.slice (some ⟨b25, 0, none⟩) 1 1) 9 1 strE ([⟨#[42]⟩] : List ByteArray), Row (.slice (some ⟨b24, 0, none⟩) 2 2) 9 1 strE ([⟨#[43]⟩, ⟨#[45]⟩] : List ByteArray), .blk b7 [iV x.kind, iV x.n, iV x.range, .string x.word, .slice x.ms.A x.ms.l.length x.ms.c, .slice x.by_.A x.by_.l.length x.by_.c, .slice x.kids.A x.kids.l.length x.kids.c] 26, okI (bl = 0) x, .blk b6 Zx 26] (fun z : ExprX × Nat × Int × Int × Int => .agg (exprE z.1).toArray) (fun z4 => (Pz.Sim s bl al (Pz.trm s N ⟨j2, m⟩) z4.1.e ⟨z4.2.1, z4.2.2.1, z4.2.2.2.1, z4.2.2.2.2⟩ ∧ (0 ≤ z4.2.2.1 ∧ z4.2.2.1 ≤ 101) ∧ (z4.2.2.2.1 = 0 → z4.2.2.1 ≤ 100))) (fun z4 => [Wb 69 p s z4.2.1 z4.2.2.1 z4.2.2.2.1 z4.2.2.2.2, okI (z4.2.2.2.1 = 0) z4.1]) _ (fun _ => rfl) (fun _ h => h.sel [0, 1, 2, 3, 4, 5, 6] (by decide) rfl) (fun _ => rfl) wn rfl rfl Tryd.call33 rfl (fun w1 Pb hG => ih p s j2 m bl al d Pb w1 hG (by omega) (by omega) (by omega) (by omega) (by omega) (by omega)) fun z4 hz4 => ?_
     obtain ⟨x2, j3, m2, be2, ba2⟩ := z4
     have hs3 : Pz.Sim s bl al (Pz.trm s N ⟨j2, m⟩) (x2, j3, m2, be2, ba2).1.e ⟨(x2, j3, m2, be2, ba2).2.1, (x2, j3, m2, be2, ba2).2.2.1, (x2, j3, m2, be2, ba2).2.2.2.1, (x2, j3, m2, be2, ba2).2.2.2.2⟩ ∧ (0 ≤ (x2, j3, m2, be2, ba2).2.2.1 ∧ (x2, j3, m2, be2, ba2).2.2.1 ≤ 101) ∧ ((x2, j3, m2, be2, ba2).2.2.2.1 = 0 → (x2, j3, m2, be2, ba2).2.2.1 ≤ 100) := hz4
     try simp only at hs3
     have hs3l : j3 ≤ s.size := hs3.1.1
     have hs3n := hs3.2.1
     have hs3m := hs3.2.2
     refine l_as 50 (.agg (List.toArray [iV x2.kind, iV x2.n, iV x2.range, .string x2.word, .slice x2.ms.A x2.ms.l.length x2.ms.c, .slice x2.by_.A x2.by_.l.length x2.by_.c, .slice x2.kids.A x2.kids.l.length x2.kids.c])) [Wb 69 p s j3 m2 be2 ba2, okI (be2 = 0) x2, Row (.slice (some ⟨b26, 0, none⟩) 2 2) 23 1 strsE ([(StrsX.mk ⟨(some ⟨b24, 0, none⟩), 2, ([⟨#[43]⟩, ⟨#[45]⟩] : List ByteArray)⟩), (StrsX.mk ⟨(some ⟨b25, 0, none⟩), 1, ([⟨#[42]⟩] : List ByteArray)⟩)] : List StrsX), Row (.slice (some ⟨b25, 0, none⟩) 1 1) 9 1 strE ([⟨#[42]⟩] : List ByteArray), Row (.slice (some ⟨b24, 0, none⟩) 2 2) 9 1 strE ([⟨#[43]⟩, ⟨#[45]⟩] : List ByteArray), .blk b7 [iV x.kind, iV x.n, iV x.range, .string x.word, .slice x.ms.A x.ms.l.length x.ms.c, .slice x.by_.A x.by_.l.length x.by_.c, .slice x.kids.A x.kids.l.length x.kids.c] 26, okI (bl = 0) x, .blk b6 Zx 26] ?_
     refine l_alloc wn inf26 rfl fun b11 => ?_
     refine l_stn 0 wn rfl rfl rfl inf26 rfl rfl rfl ?_
     refine l_nil (e_go hK28 ?_)
     refine c_seq fun _ hK29 => ?_
     refine c_region ?_
     refine l_val wn (r_move rfl) rfl ?_
     refine l_give (α := Unit) [Wb 69 p s j3 m2 be2 ba2] [.blk b11 [iV x2.kind, iV x2.n, iV x2.range, .string x2.word, .slice x2.ms.A x2.ms.l.length x2.ms.c, .slice x2.by_.A x2.by_.l.length x2.by_.c, .slice x2.kids.A x2.kids.l.length x2.kids.c] 26, okI (be2 = 0) x2, Row (.slice (some ⟨b26, 0, none⟩) 2 2) 23 1 strsE ([(StrsX.mk ⟨(some ⟨b24, 0, none⟩), 2, ([⟨#[43]⟩, ⟨#[45]⟩] : List ByteArray)⟩), (StrsX.mk ⟨(some ⟨b25, 0, none⟩), 1, ([⟨#[42]⟩] : List ByteArray)⟩)] : List StrsX), Row (.slice (some ⟨b25, 0, none⟩) 1 1) 9 1 strE ([⟨#[42]⟩] : List ByteArray), Row (.slice (some ⟨b24, 0, none⟩) 2 2) 9 1 strE ([⟨#[43]⟩, ⟨#[45]⟩] : List ByteArray), .blk b7 [iV x.kind, iV x.n, iV x.range, .string x.word, .slice x.ms.A x.ms.l.length x.ms.c, .slice x.by_.A x.by_.l.length x.by_.c, .slice x.kids.A x.kids.l.length x.kids.c] 26, okI (bl = 0) x, .blk b6 Zx 26] (fun _ : Unit => .bool (decide (be2 = 0))) (fun z5 => True) (fun z5 => [Wb 69 p s j3 m2 be2 ba2]) (fun z5 => [Wb 69 p s j3 m2 be2 ba2, .blk b11 [iV x2.kind, iV x2.n, iV x2.range, .string x2.word, .slice x2.ms.A x2.ms.l.length x2.ms.c, .slice x2.by_.A x2.by_.l.length x2.by_.c, .slice x2.kids.A x2.kids.l.length x2.kids.c] 26, okI (be2 = 0) x2, Row (.slice (some ⟨b26, 0, none⟩) 2 2) 23 1 strsE ([(StrsX.mk ⟨(some ⟨b24, 0, none⟩), 2, ([⟨#[43]⟩, ⟨#[45]⟩] : List ByteArray)⟩), (StrsX.mk ⟨(some ⟨b25, 0, none⟩), 1, ([⟨#[42]⟩] : List ByteArray)⟩)] : List StrsX), Row (.slice (some ⟨b25, 0, none⟩) 1 1) 9 1 strE ([⟨#[42]⟩] : List ByteArray), Row (.slice (some ⟨b24, 0, none⟩) 2 2) 9 1 strE ([⟨#[43]⟩, ⟨#[45]⟩] : List ByteArray), .blk b7 [iV x.kind, iV x.n, iV x.range, .string x.word, .slice x.ms.A x.ms.l.length x.ms.c, .slice x.by_.A x.by_.l.length x.by_.c, .slice x.kids.A x.kids.l.length x.kids.c] 26, okI (bl = 0) x, .blk b6 Zx 26]) (fun _ => rfl) (fun _ h => h.sel [1, 0, 2, 3, 4, 5, 6, 7, 8] (by decide) rfl) (fun _ => rfl) wn rfl rfl Tryd.call34 rfl (fun w1 Pb hG => w_ok p s j3 m2 be2 ba2 Pb w1 hG) fun z5 hz5 => ?_
     refine l_nil (e_go hK29 ?_)
     refine c_cond rfl (fun h3 => ?_) (fun h3 => ?_)
     · refine c_region ?_
       refine l_val wn (r_move rfl) rfl ?_
       refine l_val wn (r_move rfl) rfl ?_
       refine l_val wn (r_lbn 6 [iV x.kind, iV x.n, iV x.range, .string x.word, .slice x.ms.A x.ms.l.length x.ms.c, .slice x.by_.A x.by_.l.length x.by_.c, .slice x.kids.A x.kids.l.length x.kids.c] rfl rfl rfl rfl agg26 inf26) rfl ?_
       refine l_val wn (r_lbn 1 [iV x2.kind, iV x2.n, iV x2.range, .string x2.word, .slice x2.ms.A x2.ms.l.length x2.ms.c, .slice x2.by_.A x2.by_.l.length x2.by_.c, .slice x2.kids.A x2.kids.l.length x2.kids.c] rfl rfl rfl rfl agg26 inf26) rfl ?_
       refine l_bsL exprE ([x, x2] : List ExprX) wn Tryd.underlying24 inf26 rfl rfl rfl rfl (by decide) (by decide) rfl fun b57 => ?_
       refine l_val wn (r_build [iV 4, iV 0, iV 0, .string ⟨#[43]⟩, Zs, Zs, .slice (some ⟨b57, 0, none⟩) 2 2] pl26 inf26 rfl rfl) rfl ?_
       refine l_mem (fun _ h => h.okOf 8 rfl h1) ?_
       refine l_mem (fun _ h => h.okOf 4 rfl h3) ?_
       have hb0_1 : be2 = 0 := h3
       have hb0_2 : bl = 0 := h1
       refine l_sealX 2 3 encExprX rfl rfl (fp1) ?_
       refine l_mem (fun _ h => h.exprG (k := 4) (n := 0) (r := 0) (wd := ⟨#[43]⟩) (ms := ⟨none, 0, []⟩) (bs := ⟨none, 0, []⟩) (ks := ⟨(some ⟨b57, 0, none⟩), 2, ([x, x2] : List ExprX)⟩) (fun _ _ => FlatSl.nil_ _ _ _ _) (fun _ _ => FlatSl.nil_ _ _ _ _) (fun _ pp => pp.sl 2 rfl) (fun _ pp x hx => by simp only [List.mem_cons, List.not_mem_nil, or_false] at hx; rcases hx with rfl | rfl <;> first | exact pp.at_ 1 _ rfl | exact pp.at_ 0 _ rfl) (by first | decide | omega) (fun x hx => by cases hx) (fun x hx => by cases hx)) ?_
       refine l_give (α := (Int × Int)) [Wb 69 p s j3 m2 be2 ba2] [okP ExprX.Ok (ExprX.mk 4 0 0 ⟨#[43]⟩ ⟨none, 0, []⟩ ⟨none, 0, []⟩ ⟨(some ⟨b57, 0, none⟩), 2, ([x, x2] : List ExprX)⟩), okP ExprX.Ok x2, okP ExprX.Ok x, slP 7 exprE (.slice (some ⟨b57, 0, none⟩) 2 2) ([x, x2] : List ExprX), .blk b11 [iV x2.kind, iV x2.n, iV x2.range, .string x2.word, .slice x2.ms.A x2.ms.l.length x2.ms.c, .slice x2.by_.A x2.by_.l.length x2.by_.c, .slice x2.kids.A x2.kids.l.length x2.kids.c] 26, okI (be2 = 0) x2, Row (.slice (some ⟨b26, 0, none⟩) 2 2) 23 1 strsE ([(StrsX.mk ⟨(some ⟨b24, 0, none⟩), 2, ([⟨#[43]⟩, ⟨#[45]⟩] : List ByteArray)⟩), (StrsX.mk ⟨(some ⟨b25, 0, none⟩), 1, ([⟨#[42]⟩] : List ByteArray)⟩)] : List StrsX), Row (.slice (some ⟨b25, 0, none⟩) 1 1) 9 1 strE ([⟨#[42]⟩] : List ByteArray), Row (.slice (some ⟨b24, 0, none⟩) 2 2) 9 1 strE ([⟨#[43]⟩, ⟨#[45]⟩] : List ByteArray), .blk b7 [iV x.kind, iV x.n, iV x.range, .string x.word, .slice x.ms.A x.ms.l.length x.ms.c, .slice x.by_.A x.by_.l.length x.by_.c, .slice x.kids.A x.kids.l.length x.kids.c] 26, okI (bl = 0) x, .blk b6 Zx 26] (fun _ : Int × Int => .agg (List.toArray [iV 4, iV 0, iV 0, .string ⟨#[43]⟩, Zs, Zs, .slice (some ⟨b57, 0, none⟩) 2 2])) (fun z6 => (Pz.SimU s be2 ba2 (Pz.node ⟨j3, m2⟩) ⟨j3, m2 + 1, z6.1, z6.2⟩)) (fun z6 => [Wb 69 p s j3 (m2 + 1) z6.1 z6.2]) _ (fun _ => rfl) (fun _ h => h.sel [4, 0, 1, 2, 3, 5, 6, 7, 8, 9, 10, 11, 12] (by decide) rfl) (fun _ => rfl) wn rfl rfl Tryd.call54 rfl (fun w1 Pb hG => w_made p s j3 m2 be2 ba2 4 0 0 ⟨#[43]⟩ none 0 0 none 0 0 (some ⟨b57, 0, none⟩) 2 2 Pb w1 hG (by omega) (by omega) (by omega)) fun z6 hz6 => ?_
       obtain ⟨be3, ba3⟩ := z6
       have hs4 : Pz.SimU s be2 ba2 (Pz.node ⟨j3, m2⟩) ⟨j3, m2 + 1, be3, ba3⟩ := hz6
       have hs4n : be3 = 0 → m2 + 1 ≤ 100 := fun h9 => by have h8 := (Pz.Fine.ok_ (Pz.node_fine (s := s) (t := ⟨j3, m2⟩) (by show _ ≤ _; omega)) (hs4.ok_ (hs4.first h9) h9)).most (show m2 ≤ 100 by omega); exact h8
       refine l_as 59 (.agg (List.toArray [iV 4, iV 0, iV 0, .string ⟨#[43]⟩, Zs, Zs, .slice (some ⟨b57, 0, none⟩) 2 2])) [Wb 69 p s j3 (m2 + 1) be3 ba3, okP ExprX.Ok (ExprX.mk 4 0 0 ⟨#[43]⟩ ⟨none, 0, []⟩ ⟨none, 0, []⟩ ⟨(some ⟨b57, 0, none⟩), 2, ([x, x2] : List ExprX)⟩), okP ExprX.Ok x2, okP ExprX.Ok x, slP 7 exprE (.slice (some ⟨b57, 0, none⟩) 2 2) ([x, x2] : List ExprX), .blk b11 [iV x2.kind, iV x2.n, iV x2.range, .string x2.word, .slice x2.ms.A x2.ms.l.length x2.ms.c, .slice x2.by_.A x2.by_.l.length x2.by_.c, .slice x2.kids.A x2.kids.l.length x2.kids.c] 26, okI (be2 = 0) x2, Row (.slice (some ⟨b26, 0, none⟩) 2 2) 23 1 strsE ([(StrsX.mk ⟨(some ⟨b24, 0, none⟩), 2, ([⟨#[43]⟩, ⟨#[45]⟩] : List ByteArray)⟩), (StrsX.mk ⟨(some ⟨b25, 0, none⟩), 1, ([⟨#[42]⟩] : List ByteArray)⟩)] : List StrsX), Row (.slice (some ⟨b25, 0, none⟩) 1 1) 9 1 strE ([⟨#[42]⟩] : List ByteArray), Row (.slice (some ⟨b24, 0, none⟩) 2 2) 9 1 strE ([⟨#[43]⟩, ⟨#[45]⟩] : List ByteArray), .blk b7 [iV x.kind, iV x.n, iV x.range, .string x.word, .slice x.ms.A x.ms.l.length x.ms.c, .slice x.by_.A x.by_.l.length x.by_.c, .slice x.kids.A x.kids.l.length x.kids.c] 26, okI (bl = 0) x, .blk b6 Zx 26] ?_
       refine l_stn 10 wn rfl rfl rfl inf26 rfl rfl rfl ?_
       refine l_mem (fun _ h => h.okI1 (be3 = 0) 1 rfl) ?_
       refine l_nil (e_in_n (e_round6 (ExprX.mk 4 0 0 ⟨#[43]⟩ ⟨none, 0, []⟩ ⟨none, 0, []⟩ ⟨(some ⟨b57, 0, none⟩), 2, ([x, x2] : List ExprX)⟩) j3 (m2 + 1) be3 ba3 (q - 1) (sc rfl (sc rfl (sc rfl (sc rfl (sc rfl sn))))) (fun _ h => (h.sel [11, 1, 0, 13] (by decide) rfl)) ?_ ?_))
       · have hX := hXi
         rw [show q = (q - 1) + 1 by omega] at hX
         have hmo := (Pz.Kid.ok (Pz.trm_fine s N) (by show _ ≤ s.size; exact hs2l) (hs3.1.ok_ h1 h3)).mono
         exact ⟨Pz.sl_next hX h1 (Pz.plus1 (hs2.yes h2).2) (by decide) hs3.1 hs4, by omega, by omega, by omega, by intro h9; have h8 : m ≤ m2 := hmo; omega⟩
       omega
     refine c_mem (fun _ h => h.okI0 (be2 = 0) x h3) ?_
     refine c_skip (e_in_n (e_round6 x j3 m2 be2 ba2 (q - 1) (sc rfl (sc rfl (sc rfl (sc rfl (sc rfl sn))))) (fun _ h => (h.sel [7, 1, 0, 9] (by decide) rfl)) ?_ ?_))
     · have hX := hXi
       rw [show q = (q - 1) + 1 by omega] at hX
       exact ⟨Pz.sl_off hX h1 (Pz.plus1 (hs2.yes h2).2) (by decide) hs3.1 h3 (q - 1) x.e, by omega, by omega, by omega, by intro h9; exact absurd h9 h3⟩
     omega
   refine c_skip (e_in_n (e_go hK14 ?_))
   refine c_region ?_
   refine l_val wn (r_addn rfl rfl (by omega)) rfl ?_
   refine l_val wn (r_move rfl) rfl ?_
   refine l_nil (e_goL hK11 ?_)
   refine c_round fun _ hK30 => ?_
   refine c_seq fun _ hK31 => ?_
   refine c_region ?_
   refine l_val wn (r_lss rfl rfl) rfl ?_
   refine l_nil (e_go hK31 ?_)
   refine c_seq fun _ hK32 => ?_
   refine c_true rfl (decide_eq_true (by first | decide | simp)) ?_
   refine c_skip (e_go hK32 ?_)
   refine c_seq fun _ hK33 => ?_
   refine c_block ?_
   refine c_seq fun _ hK34 => ?_
   refine c_region ?_
   refine l_val wn (r_ia (i := 1) rfl rfl rfl (by omega) (by first | omega | (simp <;> omega)) Tryd.underlying23 inf9) rfl ?_
   refine l_val wn (r_rl 3 encString rfl rfl rfl (show ([⟨#[43]⟩, ⟨#[45]⟩] : List ByteArray)[1]? = some ⟨#[45]⟩ from rfl) rfl flat9) rfl ?_
   refine l_val wn (r_assign rfl) rfl ?_
   refine l_nil (e_go hK34 ?_)
   refine c_seq fun _ hK35 => ?_
   refine c_region ?_
   refine l_val wn (r_move rfl) rfl ?_
   refine l_val wn (r_seql rfl rfl) rfl ?_
   refine l_val wn (r_move rfl) rfl ?_
   refine l_litt (t := 37) rfl (by decide) ?_
   refine l_val (wg rfl rfl rfl) (r_move rfl) rfl ?_
   refine l_val (wg rfl rfl rfl) (r_move rfl) rfl ?_
   refine l_give (α := (Bool × Nat)) [Wb 69 p s j2 m bl al] [Row (.slice (some ⟨b26, 0, none⟩) 2 2) 23 1 strsE ([(StrsX.mk ⟨(some ⟨b24, 0, none⟩), 2, ([⟨#[43]⟩, ⟨#[45]⟩] : List ByteArray)⟩), (StrsX.mk ⟨(some ⟨b25, 0, none⟩), 1, ([⟨#[42]⟩] : List ByteArray)⟩)] : List StrsX), Row (.slice (some ⟨b25, 0, none⟩) 1 1) 9 1 strE ([⟨#[42]⟩] : List ByteArray), Row (.slice (some ⟨b24, 0, none⟩) 2 2) 9 1 strE ([⟨#[43]⟩, ⟨#[45]⟩] : List ByteArray), .blk b7 [iV x.kind, iV x.n, iV x.range, .string x.word, .slice x.ms.A x.ms.l.length x.ms.c, .slice x.by_.A x.by_.l.length x.by_.c, .slice x.kids.A x.kids.l.length x.kids.c] 26, okI (bl = 0) x, .blk b6 Zx 26] (fun z : Bool × Nat => .bool z.1) (fun z7 => (Pz.SignR s ⟨#[45]⟩ bl j2 z7)) (fun z7 => [Wb 69 p s z7.2 m bl al]) _ (fun _ => rfl) (fun _ h => h.sel [0, 1, 2, 3, 4, 5, 6] (by decide) rfl) (fun _ => rfl) (wg rfl rfl rfl) rfl rfl Tryd.call53 rfl (fun w1 Pb hG => w_sign p s j2 m bl al ⟨#[45]⟩ Pb w1 hG (by omega) (by omega) (by first | decide | omega)) fun z7 hz7 => ?_
   obtain ⟨bo2, j4⟩ := z7
   have hs5 : Pz.SignR s ⟨#[45]⟩ bl j2 (bo2, j4) := hz7
   try simp only at hs5
   have hs5l : j4 ≤ s.size := hs5.1
   refine l_as 40 (.bool bo2) [Wb 69 p s j4 m bl al, Row (.slice (some ⟨b26, 0, none⟩) 2 2) 23 1 strsE ([(StrsX.mk ⟨(some ⟨b24, 0, none⟩), 2, ([⟨#[43]⟩, ⟨#[45]⟩] : List ByteArray)⟩), (StrsX.mk ⟨(some ⟨b25, 0, none⟩), 1, ([⟨#[42]⟩] : List ByteArray)⟩)] : List StrsX), Row (.slice (some ⟨b25, 0, none⟩) 1 1) 9 1 strE ([⟨#[42]⟩] : List ByteArray), Row (.slice (some ⟨b24, 0, none⟩) 2 2) 9 1 strE ([⟨#[43]⟩, ⟨#[45]⟩] : List ByteArray), .blk b7 [iV x.kind, iV x.n, iV x.range, .string x.word, .slice x.ms.A x.ms.l.length x.ms.c, .slice x.by_.A x.by_.l.length x.by_.c, .slice x.kids.A x.kids.l.length x.kids.c] 26, okI (bl = 0) x, .blk b6 Zx 26] ?_
   refine l_val wn (r_pick rfl rfl) rfl ?_
   refine l_nil (e_go hK35 ?_)
   refine c_condb rfl (fun h4 => ?_) (fun h4 => ?_)
   · refine c_region ?_
     refine l_val wn (r_move rfl) rfl ?_
     refine l_val wn (r_assign rfl) rfl ?_
     refine l_nil (e_in_n (e_go hK33 ?_))
     refine c_region ?_
     refine l_val wn (r_addn rfl rfl (by omega)) rfl ?_
     refine l_val wn (r_move rfl) rfl ?_
     refine l_nil (e_goL hK30 ?_)
     refine c_round fun _ hK36 => ?_
     refine c_seq fun _ hK37 => ?_
     refine c_region ?_
     refine l_val wn (r_lss rfl rfl) rfl ?_
     refine l_nil (e_go hK37 ?_)
     refine c_seq fun _ hK38 => ?_
     refine c_false rfl (decide_eq_false (by first | decide | simp)) ?_
     refine c_exit (e_then_x (e_then_x (e_in_hit (e_go hK9 ?_))))
     refine c_seq fun _ hK39 => ?_
     refine c_seq fun _ hK40 => ?_
     refine c_region ?_
     refine l_val wn (r_move rfl) rfl ?_
     refine l_val wn (r_seql rfl rfl) rfl ?_
     refine l_nil (e_go hK40 ?_)
     refine c_false rfl (decide_eq_false (by decide)) ?_
     refine c_skip (e_go hK39 ?_)
     refine c_seq fun _ hK41 => ?_
     refine c_region ?_
     refine l_val wn (r_move rfl) rfl ?_
     refine l_val wn (r_move rfl) rfl ?_
     refine l_val wn (r_addn rfl rfl (by omega)) rfl ?_
     refine l_val wn (r_move rfl) rfl ?_
     refine l_give (α := (ExprX × Nat × Int × Int × Int)) [Wb 69 p s j4 m bl al] [Row (.slice (some ⟨b26, 0, none⟩) 2 2) 23 1 strsE ([(StrsX.mk ⟨(some ⟨b24, 0, none⟩), 2, ([⟨#[43]⟩, ⟨#[45]⟩] : List ByteArray)⟩), (StrsX.mk ⟨(some ⟨b25, 0, none⟩), 1, ([⟨#[42]⟩] : List ByteArray)⟩)] : List StrsX), Row (.slice (some ⟨b25, 0, none⟩) 1 1) 9 1 strE ([⟨#[42]⟩] : List ByteArray), Row (.slice (some ⟨b24, 0, none⟩) 2 2) 9 1 strE ([⟨#[43]⟩, ⟨#[45]⟩] : List ByteArray), .blk b7 [iV x.kind, iV x.n, iV x.range, .string x.word, .slice x.ms.A x.ms.l.length x.ms.c, .slice x.by_.A x.by_.l.length x.by_.c, .slice x.kids.A x.kids.l.length x.kids.c] 26, okI (bl = 0) x, .blk b6 Zx 26] (fun z : ExprX × Nat × Int × Int × Int => .agg (exprE z.1).toArray) (fun z8 => (Pz.Sim s bl al (Pz.trm s N ⟨j4, m⟩) z8.1.e ⟨z8.2.1, z8.2.2.1, z8.2.2.2.1, z8.2.2.2.2⟩ ∧ (0 ≤ z8.2.2.1 ∧ z8.2.2.1 ≤ 101) ∧ (z8.2.2.2.1 = 0 → z8.2.2.1 ≤ 100))) (fun z8 => [Wb 69 p s z8.2.1 z8.2.2.1 z8.2.2.2.1 z8.2.2.2.2, okI (z8.2.2.2.1 = 0) z8.1]) _ (fun _ => rfl) (fun _ h => h.sel [0, 1, 2, 3, 4, 5, 6] (by decide) rfl) (fun _ => rfl) wn rfl rfl Tryd.call33 rfl (fun w1 Pb hG => ih p s j4 m bl al d Pb w1 hG (by omega) (by omega) (by omega) (by omega) (by omega) (by omega)) fun z8 hz8 => ?_
     obtain ⟨x3, j5, m3, be4, ba4⟩ := z8
     have hs6 : Pz.Sim s bl al (Pz.trm s N ⟨j4, m⟩) (x3, j5, m3, be4, ba4).1.e ⟨(x3, j5, m3, be4, ba4).2.1, (x3, j5, m3, be4, ba4).2.2.1, (x3, j5, m3, be4, ba4).2.2.2.1, (x3, j5, m3, be4, ba4).2.2.2.2⟩ ∧ (0 ≤ (x3, j5, m3, be4, ba4).2.2.1 ∧ (x3, j5, m3, be4, ba4).2.2.1 ≤ 101) ∧ ((x3, j5, m3, be4, ba4).2.2.2.1 = 0 → (x3, j5, m3, be4, ba4).2.2.1 ≤ 100) := hz8
     try simp only at hs6
     have hs6l : j5 ≤ s.size := hs6.1.1
     have hs6n := hs6.2.1
     have hs6m := hs6.2.2
     refine l_as 50 (.agg (List.toArray [iV x3.kind, iV x3.n, iV x3.range, .string x3.word, .slice x3.ms.A x3.ms.l.length x3.ms.c, .slice x3.by_.A x3.by_.l.length x3.by_.c, .slice x3.kids.A x3.kids.l.length x3.kids.c])) [Wb 69 p s j5 m3 be4 ba4, okI (be4 = 0) x3, Row (.slice (some ⟨b26, 0, none⟩) 2 2) 23 1 strsE ([(StrsX.mk ⟨(some ⟨b24, 0, none⟩), 2, ([⟨#[43]⟩, ⟨#[45]⟩] : List ByteArray)⟩), (StrsX.mk ⟨(some ⟨b25, 0, none⟩), 1, ([⟨#[42]⟩] : List ByteArray)⟩)] : List StrsX), Row (.slice (some ⟨b25, 0, none⟩) 1 1) 9 1 strE ([⟨#[42]⟩] : List ByteArray), Row (.slice (some ⟨b24, 0, none⟩) 2 2) 9 1 strE ([⟨#[43]⟩, ⟨#[45]⟩] : List ByteArray), .blk b7 [iV x.kind, iV x.n, iV x.range, .string x.word, .slice x.ms.A x.ms.l.length x.ms.c, .slice x.by_.A x.by_.l.length x.by_.c, .slice x.kids.A x.kids.l.length x.kids.c] 26, okI (bl = 0) x, .blk b6 Zx 26] ?_
     refine l_alloc wn inf26 rfl fun b11 => ?_
     refine l_stn 0 wn rfl rfl rfl inf26 rfl rfl rfl ?_
     refine l_nil (e_go hK41 ?_)
     refine c_seq fun _ hK42 => ?_
     refine c_region ?_
     refine l_val wn (r_move rfl) rfl ?_
     refine l_give (α := Unit) [Wb 69 p s j5 m3 be4 ba4] [.blk b11 [iV x3.kind, iV x3.n, iV x3.range, .string x3.word, .slice x3.ms.A x3.ms.l.length x3.ms.c, .slice x3.by_.A x3.by_.l.length x3.by_.c, .slice x3.kids.A x3.kids.l.length x3.kids.c] 26, okI (be4 = 0) x3, Row (.slice (some ⟨b26, 0, none⟩) 2 2) 23 1 strsE ([(StrsX.mk ⟨(some ⟨b24, 0, none⟩), 2, ([⟨#[43]⟩, ⟨#[45]⟩] : List ByteArray)⟩), (StrsX.mk ⟨(some ⟨b25, 0, none⟩), 1, ([⟨#[42]⟩] : List ByteArray)⟩)] : List StrsX), Row (.slice (some ⟨b25, 0, none⟩) 1 1) 9 1 strE ([⟨#[42]⟩] : List ByteArray), Row (.slice (some ⟨b24, 0, none⟩) 2 2) 9 1 strE ([⟨#[43]⟩, ⟨#[45]⟩] : List ByteArray), .blk b7 [iV x.kind, iV x.n, iV x.range, .string x.word, .slice x.ms.A x.ms.l.length x.ms.c, .slice x.by_.A x.by_.l.length x.by_.c, .slice x.kids.A x.kids.l.length x.kids.c] 26, okI (bl = 0) x, .blk b6 Zx 26] (fun _ : Unit => .bool (decide (be4 = 0))) (fun z9 => True) (fun z9 => [Wb 69 p s j5 m3 be4 ba4]) (fun z9 => [Wb 69 p s j5 m3 be4 ba4, .blk b11 [iV x3.kind, iV x3.n, iV x3.range, .string x3.word, .slice x3.ms.A x3.ms.l.length x3.ms.c, .slice x3.by_.A x3.by_.l.length x3.by_.c, .slice x3.kids.A x3.kids.l.length x3.kids.c] 26, okI (be4 = 0) x3, Row (.slice (some ⟨b26, 0, none⟩) 2 2) 23 1 strsE ([(StrsX.mk ⟨(some ⟨b24, 0, none⟩), 2, ([⟨#[43]⟩, ⟨#[45]⟩] : List ByteArray)⟩), (StrsX.mk ⟨(some ⟨b25, 0, none⟩), 1, ([⟨#[42]⟩] : List ByteArray)⟩)] : List StrsX), Row (.slice (some ⟨b25, 0, none⟩) 1 1) 9 1 strE ([⟨#[42]⟩] : List ByteArray), Row (.slice (some ⟨b24, 0, none⟩) 2 2) 9 1 strE ([⟨#[43]⟩, ⟨#[45]⟩] : List ByteArray), .blk b7 [iV x.kind, iV x.n, iV x.range, .string x.word, .slice x.ms.A x.ms.l.length x.ms.c, .slice x.by_.A x.by_.l.length x.by_.c, .slice x.kids.A x.kids.l.length x.kids.c] 26, okI (bl = 0) x, .blk b6 Zx 26]) (fun _ => rfl) (fun _ h => h.sel [1, 0, 2, 3, 4, 5, 6, 7, 8] (by decide) rfl) (fun _ => rfl) wn rfl rfl Tryd.call34 rfl (fun w1 Pb hG => w_ok p s j5 m3 be4 ba4 Pb w1 hG) fun z9 hz9 => ?_
     refine l_nil (e_go hK42 ?_)
     refine c_cond rfl (fun h5 => ?_) (fun h5 => ?_)
     · refine c_region ?_
       refine l_val wn (r_move rfl) rfl ?_
       refine l_val wn (r_move rfl) rfl ?_
       refine l_val wn (r_lbn 6 [iV x.kind, iV x.n, iV x.range, .string x.word, .slice x.ms.A x.ms.l.length x.ms.c, .slice x.by_.A x.by_.l.length x.by_.c, .slice x.kids.A x.kids.l.length x.kids.c] rfl rfl rfl rfl agg26 inf26) rfl ?_
       refine l_val wn (r_lbn 1 [iV x3.kind, iV x3.n, iV x3.range, .string x3.word, .slice x3.ms.A x3.ms.l.length x3.ms.c, .slice x3.by_.A x3.by_.l.length x3.by_.c, .slice x3.kids.A x3.kids.l.length x3.kids.c] rfl rfl rfl rfl agg26 inf26) rfl ?_
       refine l_bsL exprE ([x, x3] : List ExprX) wn Tryd.underlying24 inf26 rfl rfl rfl rfl (by decide) (by decide) rfl fun b57 => ?_
       refine l_val wn (r_build [iV 4, iV 0, iV 0, .string ⟨#[45]⟩, Zs, Zs, .slice (some ⟨b57, 0, none⟩) 2 2] pl26 inf26 rfl rfl) rfl ?_
       refine l_mem (fun _ h => h.okOf 8 rfl h1) ?_
       refine l_mem (fun _ h => h.okOf 4 rfl h5) ?_
       have hb0_3 : be4 = 0 := h5
       have hb0_4 : bl = 0 := h1
       refine l_sealX 2 3 encExprX rfl rfl (fp1) ?_
       refine l_mem (fun _ h => h.exprG (k := 4) (n := 0) (r := 0) (wd := ⟨#[45]⟩) (ms := ⟨none, 0, []⟩) (bs := ⟨none, 0, []⟩) (ks := ⟨(some ⟨b57, 0, none⟩), 2, ([x, x3] : List ExprX)⟩) (fun _ _ => FlatSl.nil_ _ _ _ _) (fun _ _ => FlatSl.nil_ _ _ _ _) (fun _ pp => pp.sl 2 rfl) (fun _ pp x hx => by simp only [List.mem_cons, List.not_mem_nil, or_false] at hx; rcases hx with rfl | rfl <;> first | exact pp.at_ 1 _ rfl | exact pp.at_ 0 _ rfl) (by first | decide | omega) (fun x hx => by cases hx) (fun x hx => by cases hx)) ?_
       refine l_give (α := (Int × Int)) [Wb 69 p s j5 m3 be4 ba4] [okP ExprX.Ok (ExprX.mk 4 0 0 ⟨#[45]⟩ ⟨none, 0, []⟩ ⟨none, 0, []⟩ ⟨(some ⟨b57, 0, none⟩), 2, ([x, x3] : List ExprX)⟩), okP ExprX.Ok x3, okP ExprX.Ok x, slP 7 exprE (.slice (some ⟨b57, 0, none⟩) 2 2) ([x, x3] : List ExprX), .blk b11 [iV x3.kind, iV x3.n, iV x3.range, .string x3.word, .slice x3.ms.A x3.ms.l.length x3.ms.c, .slice x3.by_.A x3.by_.l.length x3.by_.c, .slice x3.kids.A x3.kids.l.length x3.kids.c] 26, okI (be4 = 0) x3, Row (.slice (some ⟨b26, 0, none⟩) 2 2) 23 1 strsE ([(StrsX.mk ⟨(some ⟨b24, 0, none⟩), 2, ([⟨#[43]⟩, ⟨#[45]⟩] : List ByteArray)⟩), (StrsX.mk ⟨(some ⟨b25, 0, none⟩), 1, ([⟨#[42]⟩] : List ByteArray)⟩)] : List StrsX), Row (.slice (some ⟨b25, 0, none⟩) 1 1) 9 1 strE ([⟨#[42]⟩] : List ByteArray), Row (.slice (some ⟨b24, 0, none⟩) 2 2) 9 1 strE ([⟨#[43]⟩, ⟨#[45]⟩] : List ByteArray), .blk b7 [iV x.kind, iV x.n, iV x.range, .string x.word, .slice x.ms.A x.ms.l.length x.ms.c, .slice x.by_.A x.by_.l.length x.by_.c, .slice x.kids.A x.kids.l.length x.kids.c] 26, okI (bl = 0) x, .blk b6 Zx 26] (fun _ : Int × Int => .agg (List.toArray [iV 4, iV 0, iV 0, .string ⟨#[45]⟩, Zs, Zs, .slice (some ⟨b57, 0, none⟩) 2 2])) (fun z10 => (Pz.SimU s be4 ba4 (Pz.node ⟨j5, m3⟩) ⟨j5, m3 + 1, z10.1, z10.2⟩)) (fun z10 => [Wb 69 p s j5 (m3 + 1) z10.1 z10.2]) _ (fun _ => rfl) (fun _ h => h.sel [4, 0, 1, 2, 3, 5, 6, 7, 8, 9, 10, 11, 12] (by decide) rfl) (fun _ => rfl) wn rfl rfl Tryd.call54 rfl (fun w1 Pb hG => w_made p s j5 m3 be4 ba4 4 0 0 ⟨#[45]⟩ none 0 0 none 0 0 (some ⟨b57, 0, none⟩) 2 2 Pb w1 hG (by omega) (by omega) (by omega)) fun z10 hz10 => ?_
       obtain ⟨be5, ba5⟩ := z10
       have hs7 : Pz.SimU s be4 ba4 (Pz.node ⟨j5, m3⟩) ⟨j5, m3 + 1, be5, ba5⟩ := hz10
       have hs7n : be5 = 0 → m3 + 1 ≤ 100 := fun h9 => by have h8 := (Pz.Fine.ok_ (Pz.node_fine (s := s) (t := ⟨j5, m3⟩) (by show _ ≤ _; omega)) (hs7.ok_ (hs7.first h9) h9)).most (show m3 ≤ 100 by omega); exact h8
       refine l_as 59 (.agg (List.toArray [iV 4, iV 0, iV 0, .string ⟨#[45]⟩, Zs, Zs, .slice (some ⟨b57, 0, none⟩) 2 2])) [Wb 69 p s j5 (m3 + 1) be5 ba5, okP ExprX.Ok (ExprX.mk 4 0 0 ⟨#[45]⟩ ⟨none, 0, []⟩ ⟨none, 0, []⟩ ⟨(some ⟨b57, 0, none⟩), 2, ([x, x3] : List ExprX)⟩), okP ExprX.Ok x3, okP ExprX.Ok x, slP 7 exprE (.slice (some ⟨b57, 0, none⟩) 2 2) ([x, x3] : List ExprX), .blk b11 [iV x3.kind, iV x3.n, iV x3.range, .string x3.word, .slice x3.ms.A x3.ms.l.length x3.ms.c, .slice x3.by_.A x3.by_.l.length x3.by_.c, .slice x3.kids.A x3.kids.l.length x3.kids.c] 26, okI (be4 = 0) x3, Row (.slice (some ⟨b26, 0, none⟩) 2 2) 23 1 strsE ([(StrsX.mk ⟨(some ⟨b24, 0, none⟩), 2, ([⟨#[43]⟩, ⟨#[45]⟩] : List ByteArray)⟩), (StrsX.mk ⟨(some ⟨b25, 0, none⟩), 1, ([⟨#[42]⟩] : List ByteArray)⟩)] : List StrsX), Row (.slice (some ⟨b25, 0, none⟩) 1 1) 9 1 strE ([⟨#[42]⟩] : List ByteArray), Row (.slice (some ⟨b24, 0, none⟩) 2 2) 9 1 strE ([⟨#[43]⟩, ⟨#[45]⟩] : List ByteArray), .blk b7 [iV x.kind, iV x.n, iV x.range, .string x.word, .slice x.ms.A x.ms.l.length x.ms.c, .slice x.by_.A x.by_.l.length x.by_.c, .slice x.kids.A x.kids.l.length x.kids.c] 26, okI (bl = 0) x, .blk b6 Zx 26] ?_
       refine l_stn 10 wn rfl rfl rfl inf26 rfl rfl rfl ?_
       refine l_mem (fun _ h => h.okI1 (be5 = 0) 1 rfl) ?_
       refine l_nil (e_in_n (e_round6 (ExprX.mk 4 0 0 ⟨#[45]⟩ ⟨none, 0, []⟩ ⟨none, 0, []⟩ ⟨(some ⟨b57, 0, none⟩), 2, ([x, x3] : List ExprX)⟩) j5 (m3 + 1) be5 ba5 (q - 1) (sc rfl (sc rfl (sc rfl (sc rfl (sc rfl sn))))) (fun _ h => (h.sel [11, 1, 0, 13] (by decide) rfl)) ?_ ?_))
       · have hX := hXi
         rw [show q = (q - 1) + 1 by omega] at hX
         have hmo := (Pz.Kid.ok (Pz.trm_fine s N) (by show _ ≤ s.size; exact hs5l) (hs6.1.ok_ h1 h5)).mono
         exact ⟨Pz.sl_next hX h1 (Pz.minus1 (hs2.no (by simpa using h2) h1) (hs5.yes h4).2) (by decide) hs6.1 hs7, by omega, by omega, by omega, by intro h9; have h8 : m ≤ m3 := hmo; omega⟩
       omega
     refine c_mem (fun _ h => h.okI0 (be4 = 0) x h5) ?_
     refine c_skip (e_in_n (e_round6 x j5 m3 be4 ba4 (q - 1) (sc rfl (sc rfl (sc rfl (sc rfl (sc rfl sn))))) (fun _ h => (h.sel [7, 1, 0, 9] (by decide) rfl)) ?_ ?_))
     · have hX := hXi
       rw [show q = (q - 1) + 1 by omega] at hX
       exact ⟨Pz.sl_off hX h1 (Pz.minus1 (hs2.no (by simpa using h2) h1) (hs5.yes h4).2) (by decide) hs6.1 h5 (q - 1) x.e, by omega, by omega, by omega, by intro h9; exact absurd h9 h5⟩
     omega
   refine c_skip (e_in_n (e_go hK33 ?_))
   refine c_region ?_
   refine l_val wn (r_addn rfl rfl (by omega)) rfl ?_
   refine l_val wn (r_move rfl) rfl ?_
   refine l_nil (e_goL hK30 ?_)
   refine c_round fun _ hK43 => ?_
   refine c_seq fun _ hK44 => ?_
   refine c_region ?_
   refine l_val wn (r_lss rfl rfl) rfl ?_
   refine l_nil (e_go hK44 ?_)
   refine c_seq fun _ hK45 => ?_
   refine c_false rfl (decide_eq_false (by first | decide | simp)) ?_
   refine c_exit (e_then_x (e_then_x (e_in_hit (e_go hK9 ?_))))
   refine c_seq fun _ hK46 => ?_
   refine c_seq fun _ hK47 => ?_
   refine c_region ?_
   refine l_val wn (r_move rfl) rfl ?_
   refine l_val wn (r_seql rfl rfl) rfl ?_
   refine l_nil (e_go hK47 ?_)
   refine c_true rfl (decide_eq_true (by decide)) ?_
   refine c_exit (e_then_x (e_in_miss rfl (e_loop6_x (e_in_hit (e_go hK5 ?_)))))
   refine c_seq fun _ hK48 => ?_
   refine c_region ?_
   refine l_val wn (r_lbn 4 [iV x.kind, iV x.n, iV x.range, .string x.word, .slice x.ms.A x.ms.l.length x.ms.c, .slice x.by_.A x.by_.l.length x.by_.c, .slice x.kids.A x.kids.l.length x.kids.c] rfl rfl rfl rfl agg26 inf26) rfl ?_
   refine l_stn 6 wn rfl rfl rfl inf26 rfl rfl rfl ?_
   refine l_nil (e_go hK48 ?_)
   refine c_ret (e_ret1 (.inl rfl) Tryd.results33 (rv_cell 6 rfl rfl agg26 inf26 rfl) fun w1 hM => ?_)
   have hM := hM.okI2 (bl = 0) 5 rfl (fun h9 => h9)
   exact hM.retA (x, j4, m, bl, al) rfl ⟨show Pz.Sim s be ba (Pz.xpr s N ⟨i, n⟩) (x).e ⟨j4, m, bl, al⟩ from Pz.sum_sim hs1.1 ((by have hX := hXi; rw [show q = (q - 1) + 1 by omega] at hX; exact Pz.sl_done hX h1 (Pz.plus0 (hs2.no (by simpa using h2) h1) (hs5.no (by simpa using h4) h1)) hs5l)), by show 0 ≤ m ∧ m ≤ 101; omega, by show bl = 0 → m ≤ 100; first | (intro h9; omega) | (intro h9; exact absurd h9 id) | omega⟩ (fun h => h.sel [1, 0] (by decide) rfl)
 refine c_exit (e_then_x (e_loop6_x (e_in_hit (e_go hK5 ?_))))
 refine c_seq fun _ hK49 => ?_
 refine c_region ?_
 refine l_val wn (r_lbn 1 [iV x.kind, iV x.n, iV x.range, .string x.word, .slice x.ms.A x.ms.l.length x.ms.c, .slice x.by_.A x.by_.l.length x.by_.c, .slice x.kids.A x.kids.l.length x.kids.c] rfl rfl rfl rfl agg26 inf26) rfl ?_
 refine l_stn 3 wn rfl rfl rfl inf26 rfl rfl rfl ?_
 refine l_nil (e_go hK49 ?_)
 refine c_ret (e_ret1 (.inl rfl) Tryd.results33 (rv_cell 3 rfl rfl agg26 inf26 rfl) fun w1 hM => ?_)
 have hM := hM.okI2 (bl = 0) 2 rfl (fun h9 => h9)
 exact hM.retA (x, k, m, bl, al) rfl ⟨show Pz.Sim s be ba (Pz.xpr s N ⟨i, n⟩) (x).e ⟨k, m, bl, al⟩ from Pz.sum_sim hs1.1 (Pz.sl_bad hXi h1 (by omega)), by show 0 ≤ m ∧ m ≤ 101; omega, by show bl = 0 → m ≤ 100; first | (intro h9; omega) | (intro h9; exact absurd h9 h1) | omega⟩ (fun h => h.sel [1, 0] (by decide) rfl)

end Go.Proofs.YtffpglgboaigfaaDoor
