/-
  Walks: what each function hands back.
-/
import Derived.Test.YtffpglgboaigfaaDoorWparse2
import Derived.Test.YtffpglgboaigfaaDoorDefer
namespace Go.Proofs.YtffpglgboaigfaaDoor
open Ex
set_option linter.unusedVariables false
set_option linter.unusedSimpArgs false
theorem c_catch (b2 b3 : Nat) (v0 v1 v2 v3 v4 v5 v6 u0 u1 : Value) (er at_ : Int) (Pb : Nat → Prop) (w : World) (hG : Mem w ⟨fpOf [.blk b2 [v0, v1, v2, v3, v4, v5, v6] 26, .blk b3 [u0, u1] 33], Pb⟩ [.blk b2 [v0, v1, v2, v3, v4, v5, v6] 26, .blk b3 [u0, u1] 33] w)  :
    CallsD Tryd.prog 29 #[.pointer (some ⟨b2, 0, none⟩), .pointer (some ⟨b3, 0, none⟩)] (.panicking [{ v := .iface 61 (.agg (List.toArray [iV er, iV at_])), recovered := false }]) w (fun e u2 w2 => u2 = .panicking [{ v := .iface 61 (.agg (List.toArray [iV er, iV at_])), recovered := true }] ∧ (RetA w [.blk b2 [v0, v1, v2, v3, v4, v5, v6] 26, .blk b3 [u0, u1] 33] Pb (fun _ : Unit => .tuple #[]) (fun _ => True) (fun _ => [.blk b2 [iV 0, iV 0, iV 0, .string (⟨#[]⟩ : ByteArray), Zs, Zs, Zs] 26, .blk b3 [iV er, iV at_] 33])) e w2) := by
 refine dstart (N := 14) (vals := [.pointer (some ⟨b2, 0, none⟩), .pointer (some ⟨b3, 0, none⟩)]) (S := Mem w ⟨fpOf [.blk b2 [v0, v1, v2, v3, v4, v5, v6] 26, .blk b3 [u0, u1] 33], Pb⟩ [.blk b2 [v0, v1, v2, v3, v4, v5, v6] 26, .blk b3 [u0, u1] 33]) Tryd.func29 rfl rfl rfl rfl (.inr ⟨[], rfl, rfl⟩) hG ?_
 refine c_block ?_
 refine c_seq fun _ hK1 => ?_
 refine c_region ?_
 refine l_val wn (r_ieq rfl (.inr ⟨_, _, rfl⟩) Tryd.underlying20) rfl ?_
 refine l_nil (e_go hK1 ?_)
 refine c_false rfl rfl ?_
 refine c_seq fun _ hK2 => ?_
 refine c_region ?_
 refine l_val wn (r_tassert rfl Tryd.underlying61) rfl ?_
 refine l_val wn (r_extract rfl rfl) rfl ?_
 refine l_val wn (r_extract rfl rfl) rfl ?_
 refine l_nil (e_go hK2 ?_)
 refine c_true rfl rfl ?_
 refine c_seq fun _ hK3 => ?_
 refine c_region ?_
 refine l_alloc wn inf61 rfl fun b3_1 => ?_
 refine l_stn 0 wn rfl rfl rfl inf61 rfl rfl rfl ?_
 refine l_nil (e_go hK3 ?_)
 refine c_nodes (Mem w ⟨fpOf [.blk b2 [v0, v1, v2, v3, v4, v5, v6] 26, .blk b3 [u0, u1] 33], Pb⟩ [.blk b3_1 [iV er, iV at_] 61]) mix (fun _ h => h.drew) rfl ?_
 refine n_run (f := 2) [0, 1, 2] rfl rfl (by kernel_rfl) (by kernel_rfl) (fun _ h => (h.sel [0] (by decide) rfl)) fun KS hKS => ?_
 refine s_val wn (r_build Zx pl26 inf26 rfl rfl) rfl ?_
 refine s_val wn (r_fa rfl fld61_0) rfl ?_
 refine s_val wn (r_lbn 0 [iV er, iV at_] rfl rfl rfl rfl agg33 inf33) rfl ?_
 refine s_end hKS ?_
 refine n_step1 (f := 1) (i := 3) rfl (by kernel_rfl) ?_
 refine n_one (i := 3) rfl fun KN hKN => ?_
 refine l_stn 1 wn rfl rfl rfl inf26 rfl rfl rfl ?_
 refine l_nil (hKN _ _ (fun _ h => (h.sel [0] (by decide) rfl)) ?_)
 refine n_step1 (f := 0) (i := 4) rfl (by kernel_rfl) ?_
 refine n_one (i := 4) rfl fun KN hKN => ?_
 refine l_stn 2 wn rfl rfl rfl inf33 rfl rfl rfl ?_
 refine l_nil (hKN _ _ (fun _ h => (h.sel [0] (by decide) rfl)) ?_)
 refine n_done (by kernel_rfl) (e_in_n (e_ret0 (.inr rfl) Tryd.results29  fun w1 hM => ?_))
 exact hM.retA () rfl trivial (fun h => h.sel [1, 2] (by decide) rfl)

theorem c_idle (b2 b3 : Nat) (Pb : Nat → Prop) (w : World) (hG : Mem w ⟨fpOf [], Pb⟩ [] w)  :
    CallsD Tryd.prog 29 #[.pointer (some ⟨b2, 0, none⟩), .pointer (some ⟨b3, 0, none⟩)] .returning w (fun e u2 w2 => u2 = .returning ∧ (RetA w [] Pb (fun _ : Unit => .tuple #[]) (fun _ => True) (fun _ => [])) e w2) := by
 refine dstart (N := 14) (vals := [.pointer (some ⟨b2, 0, none⟩), .pointer (some ⟨b3, 0, none⟩)]) (S := Mem w ⟨fpOf [], Pb⟩ []) Tryd.func29 rfl rfl rfl rfl (.inl ⟨rfl, rfl, rfl⟩) hG ?_
 refine c_block ?_
 refine c_seq fun _ hK1 => ?_
 refine c_region ?_
 refine l_val wn (r_ieq rfl (.inl rfl) Tryd.underlying20) rfl ?_
 refine l_nil (e_go hK1 ?_)
 refine c_true rfl rfl ?_
 refine c_region ?_
 refine l_val wn (r_assign rfl) rfl ?_
 refine l_nil (e_in_n (e_ret0 (.inr rfl) Tryd.results29  fun w1 hM => ?_))
 exact hM.retA () rfl trivial (fun h => h.sel [] (by decide) rfl)

theorem c_shapeB (x : ExprX) {w0 w : World} {M : Fp} {L : List Own} {hp b TB i j k : Nat} (hM : Mem w0 M L w) (hi : L[i]? = some (.blk hp [iV 0] 55)) (hj : L[j]? = some (.blk b (exprE x) TB)) (hij : Nat.beq i j = false) (hk : L[k]? = some (okP ExprX.Ok x)) :
    Calls Tryd.prog 26 #[.pointer (some ⟨hp, 0, none⟩), .pointer (some ⟨b, 0, none⟩), iV 1] w (RetM w hp 55 (iV (Lg.shape x.e 1 0).1) [iV (Lg.shape x.e 1 0).2]) := by
 obtain ⟨Pb, pp⟩ := hM.pb
 have hb := (hM.ok j _ hj).2.1 b rfl
 have hne : b ≠ hp := fun e => hM.dj i j _ _ hi hj (Nat.ne_of_beq_eq_false hij) (.inl rfl) hp rfl (show hp = b from e.symm)
 refine c_shape x hp 0 ⟨b, 0, none⟩ 1 (fun q => q < w.heap.size ∧ q ≠ hp) w (hM.blk hi) (fun q hq => hq) ⟨⟨hb, hne⟩, fun u v hv => ?_⟩ (ExprX.Ok.loc x Pb _ w w (fun q hq => ⟨pp.lt q hq, fun e => pp.dj i _ hi rfl q hq e⟩) (fun _ _ => rfl) (pp.at_ k _ hk)) (by omega) (by omega) (by omega)
 rw [add_lit]
 have := hM.cell (j := 0 + u) hj
 rw [this]; simpa using hv

set_option maxHeartbeats 1000000 in
theorem c_parse (s : ByteArray) (P0 : Nat → Prop) (w : World) (hP0 : ∀ b, P0 b → b < w.heap.size) (hE : ErrV P0 w)  :
    Calls Tryd.prog 15 #[.string s] w (RetE w P0 (fun z : ExprX × Pz.F => .tuple #[.agg (exprE z.1).toArray, .agg #[iV z.2.1, iV z.2.2]]) (fun z => Pz.parse s = (z.1.e, z.2)) (fun z S => ExprX.Ok S z.1)) := by
 refine fstartD (N := 35) (vals := [.string s]) (S := Mem w ⟨no, P0⟩ [.pub ErrV]) Tryd.func15 rfl rfl rfl (Mem.ofDatsP hP0 (dc (dp ErrV.loc hE) dn)) ?_
 refine c_seq fun _ hK1 => ?_
 refine c_region ?_
 refine l_alloc wn inf26 rfl fun b2 => ?_
 refine l_alloc wn inf33 rfl fun b3 => ?_
 refine l_nil (e_go hK1 ?_)
 refine c_seq fun _ hK2 => ?_
 refine c_seq fun _ hK3 => ?_
 refine c_region ?_
 refine l_val wn (r_move rfl) rfl ?_
 refine l_val wn (r_slen rfl Tryd.underlying9) rfl ?_
 refine l_val wn (r_gtr rfl rfl) rfl ?_
 refine l_nil (e_go hK3 ?_)
 refine c_cond rfl (fun h1 => ?_) (fun h1 => ?_)
 · refine c_seq fun _ hK4 => ?_
   refine c_region ?_
   refine l_val wn (r_build Zx pl26 inf26 rfl rfl) rfl ?_
   refine l_val wn (r_build [iV 4, iV 0] pl33 inf33 rfl rfl) rfl ?_
   refine l_stn 1 wn rfl rfl rfl inf26 rfl rfl rfl ?_
   refine l_stn 0 wn rfl rfl rfl inf33 rfl rfl rfl ?_
   refine l_nil (e_go hK4 ?_)
   refine c_ret (e_then_r (e_retD0 (.inl rfl) Tryd.results15 (rv_cell 1 rfl rfl agg26 inf26 rfl) (rv_cell 0 rfl rfl agg33 inf33 rfl) fun w1 hM => ?_))
   exact hM.retE ((ExprX.mk 0 0 0 ⟨#[]⟩ ⟨none, 0, []⟩ ⟨none, 0, []⟩ ⟨none, 0, []⟩), (4, 0)) rfl (Pz.parse_big h1) fun Pb pp => Pz.okZero Pb w1
 refine c_skip (e_go hK2 ?_)
 refine c_seqD fun _ hK5 => ?_
 refine c_region ?_
 refine l_val wn (r_makeFunc rfl rfl) rfl ?_
 refine l_defer wn rfl ?_
 refine l_nil (e_go (hK5 _) ?_)
 refine c_seq fun _ hK6 => ?_
 refine c_region ?_
 refine l_val wn (r_move rfl) rfl ?_
 refine l_val wn (r_build [.string s, iV 0, iV 0] pl64 inf64 rfl rfl) rfl ?_
 refine l_box wn rfl rfl fun b13 => ?_
 refine l_val wn (r_assign rfl) rfl ?_
 refine l_nil (e_go hK6 ?_)
 refine c_seq fun _ hK7 => ?_
 refine c_region ?_
 refine l_val wn (r_move rfl) rfl ?_
 refine l_giveX (α := ExprX × Pz.St) (PT := 61) [.blk b13 [.string s, iV 0, iV 0] 64, .pub ErrV] [.blk b3 [iV 0, iV 0] 33, .blk b2 Zx 26] (fun z : ExprX × Pz.St => .agg (exprE z.1).toArray) (fun z1 => Pz.xpr s 20 ⟨0, 0⟩ = .ok (z1.1.e, z1.2) ∧ Pz.Good s ⟨0, 0⟩ z1.2) (fun z1 => [Rb 64 b13 s z1.2.at_ z1.2.nd, .pub ErrV, okP ExprX.Ok z1.1]) _ (fun f1 => Pz.xpr s 20 ⟨0, 0⟩ = .no f1) (fun _ => rfl) (fun _ h => h.sel [0, 3, 1, 2] (by decide) rfl) (fun _ => rfl) wn rfl rfl Tryd.call30 rfl (fun w1 Pb hG => (xpr_all 20) b13 s 0 0 1 Pb w1 hG (by omega) (by omega) (by omega) (by omega) (by omega)) ?_ fun z1 hz1 => ?_
 · intro f1 hf1
   refine e_then_p (e_panD Tryd.call29 (dgive [.blk b2 Zx 26, .blk b3 [iV 0, iV 0] 33] [] (fun _ : Unit => .tuple #[]) [.blk b2 [iV 0, iV 0, iV 0, .string (⟨#[]⟩ : ByteArray), Zs, Zs, Zs] 26, .blk b3 [iV f1.1, iV f1.2] 33] [.blk b2 [iV 0, iV 0, iV 0, .string (⟨#[]⟩ : ByteArray), Zs, Zs, Zs] 26, .blk b3 [iV f1.1, iV f1.2] 33] rfl (fun _ h => h.sel [1, 0] (by decide) rfl) rfl (fun w1 Pb hG => c_catch b2 b3 (iV 0) (iV 0) (iV 0) (.string ⟨#[]⟩) (Zs) (Zs) (Zs) (iV 0) (iV 0) f1.1 f1.2 Pb w1 hG)) rfl Tryd.results15 (rv_cell 0 rfl rfl agg26 inf26 rfl) (rv_cell 1 rfl rfl agg33 inf33 rfl) fun w1 hM => ?_)
   exact hM.retE ((ExprX.mk 0 0 0 ⟨#[]⟩ ⟨none, 0, []⟩ ⟨none, 0, []⟩ ⟨none, 0, []⟩), f1) rfl (Pz.parse_no h1 hf1) fun Pb pp => Pz.okZero Pb w1
 obtain ⟨x1, j1, m1⟩ := z1
 have he1 : Pz.xpr s 20 ⟨0, 0⟩ = .ok (x1.e, ⟨j1, m1⟩) := hz1.1
 have ga1 : j1 ≤ s.size := hz1.2.at_
 have gm1 : 0 ≤ m1 := hz1.2.mono
 have gn1 : m1 ≤ 100 := hz1.2.most (show 0 ≤ 100 by omega)
 refine l_as 15 (.agg (List.toArray [iV x1.kind, iV x1.n, iV x1.range, .string x1.word, .slice x1.ms.A x1.ms.l.length x1.ms.c, .slice x1.by_.A x1.by_.l.length x1.by_.c, .slice x1.kids.A x1.kids.l.length x1.kids.c])) [Rb 64 b13 s j1 m1, .pub ErrV, okP ExprX.Ok x1, .blk b3 [iV 0, iV 0] 33, .blk b2 Zx 26] ?_
 refine l_stn 4 wn rfl rfl rfl inf26 rfl rfl rfl ?_
 refine l_nil (e_go hK7 ?_)
 refine c_seq fun _ hK8 => ?_
 refine c_region ?_
 refine l_val wn (r_move rfl) rfl ?_
 refine l_give (α := Nat) [Rb 64 b13 s j1 m1, .pub ErrV] [okP ExprX.Ok x1, .blk b3 [iV 0, iV 0] 33, .blk b2 [iV x1.kind, iV x1.n, iV x1.range, .string x1.word, .slice x1.ms.A x1.ms.l.length x1.ms.c, .slice x1.by_.A x1.by_.l.length x1.by_.c, .slice x1.kids.A x1.kids.l.length x1.kids.c] 26] (fun _ => .tuple #[]) (fun j2 => (Pz.blank s j1 = j2 ∧ j1 ≤ j2 ∧ j2 ≤ s.size)) (fun j2 => [Rb 64 b13 s j2 m1, .pub ErrV]) (fun j2 => [Rb 64 b13 s j2 m1, .pub ErrV, okP ExprX.Ok x1, .blk b3 [iV 0, iV 0] 33, .blk b2 [iV x1.kind, iV x1.n, iV x1.range, .string x1.word, .slice x1.ms.A x1.ms.l.length x1.ms.c, .slice x1.by_.A x1.by_.l.length x1.by_.c, .slice x1.kids.A x1.kids.l.length x1.kids.c] 26]) (fun _ => rfl) (fun _ h => h.sel [0, 1, 2, 3, 4] (by decide) rfl) (fun _ => rfl) wn rfl rfl Tryd.call31 rfl (fun w1 Pb hG => c_blank b13 s j1 m1 Pb w1 hG (by omega) (by omega)) fun j2 hz2 => ?_
 obtain ⟨hz2e, hz2a, hz2b⟩ := hz2
 refine l_nil (e_go hK8 ?_)
 refine c_seq fun _ hK9 => ?_
 refine c_seq fun _ hK10 => ?_
 refine c_region ?_
 refine l_val wn (r_move rfl) rfl ?_
 refine l_val wn (r_nilCheck rfl) rfl ?_
 refine l_val wn (r_fa rfl fld64_1) rfl ?_
 refine l_val wn (r_lb 0 rfl rfl rfl flat3) rfl ?_
 refine l_val wn (r_move rfl) rfl ?_
 refine l_val wn (r_slen rfl Tryd.underlying9) rfl ?_
 refine l_val wn (r_lss rfl rfl) rfl ?_
 refine l_nil (e_go hK10 ?_)
 refine c_cond rfl (fun h2 => ?_) (fun h2 => ?_)
 · refine c_region ?_
   refine l_val wn (r_move rfl) rfl ?_
   refine l_giveX (α := Unit) (PT := 61) [Rb 64 b13 s j2 m1, .pub ErrV] [okP ExprX.Ok x1, .blk b3 [iV 0, iV 0] 33, .blk b2 [iV x1.kind, iV x1.n, iV x1.range, .string x1.word, .slice x1.ms.A x1.ms.l.length x1.ms.c, .slice x1.by_.A x1.by_.l.length x1.by_.c, .slice x1.kids.A x1.kids.l.length x1.kids.c] 26] (fun _ : Unit => .tuple #[]) (fun z2 => False) (fun z2 => [Rb 64 b13 s j2 m1, .pub ErrV]) (fun z2 => [Rb 64 b13 s j2 m1, .pub ErrV, okP ExprX.Ok x1, .blk b3 [iV 0, iV 0] 33, .blk b2 [iV x1.kind, iV x1.n, iV x1.range, .string x1.word, .slice x1.ms.A x1.ms.l.length x1.ms.c, .slice x1.by_.A x1.by_.l.length x1.by_.c, .slice x1.kids.A x1.kids.l.length x1.kids.c] 26]) (fun f2 => f2 = (2, (j2 : Int))) (fun _ => rfl) (fun _ h => h.sel [0, 1, 2, 3, 4] (by decide) rfl) (fun _ => rfl) wn rfl rfl Tryd.call32 rfl (fun w1 Pb hG => c_fail b13 s j2 m1 2 Pb w1 hG) ?_ fun z2 hz3 => ?_
   · intro f2 hf2
     refine e_then_p (e_panD Tryd.call29 (dgive [.blk b2 [iV x1.kind, iV x1.n, iV x1.range, .string x1.word, .slice x1.ms.A x1.ms.l.length x1.ms.c, .slice x1.by_.A x1.by_.l.length x1.by_.c, .slice x1.kids.A x1.kids.l.length x1.kids.c] 26, .blk b3 [iV 0, iV 0] 33] [okP ExprX.Ok x1] (fun _ : Unit => .tuple #[]) [.blk b2 [iV 0, iV 0, iV 0, .string (⟨#[]⟩ : ByteArray), Zs, Zs, Zs] 26, .blk b3 [iV f2.1, iV f2.2] 33] [.blk b2 [iV 0, iV 0, iV 0, .string (⟨#[]⟩ : ByteArray), Zs, Zs, Zs] 26, .blk b3 [iV f2.1, iV f2.2] 33, okP ExprX.Ok x1] rfl (fun _ h => h.sel [2, 1, 0] (by decide) rfl) rfl (fun w1 Pb hG => c_catch b2 b3 (iV x1.kind) (iV x1.n) (iV x1.range) (.string x1.word) (.slice x1.ms.A x1.ms.l.length x1.ms.c) (.slice x1.by_.A x1.by_.l.length x1.by_.c) (.slice x1.kids.A x1.kids.l.length x1.kids.c) (iV 0) (iV 0) f2.1 f2.2 Pb w1 hG)) rfl Tryd.results15 (rv_cell 0 rfl rfl agg26 inf26 rfl) (rv_cell 1 rfl rfl agg33 inf33 rfl) fun w1 hM => ?_)
     exact hM.retE ((ExprX.mk 0 0 0 ⟨#[]⟩ ⟨none, 0, []⟩ ⟨none, 0, []⟩ ⟨none, 0, []⟩), f2) rfl (by rw [hf2]; exact Pz.parse_form h1 he1 hz2e (by omega)) fun Pb pp => Pz.okZero Pb w1
   exact hz3.elim
 refine c_skip (e_go hK9 ?_)
 refine c_seq fun _ hK11 => ?_
 refine c_seq fun _ hK12 => ?_
 refine c_region ?_
 refine l_val wn (r_build [iV 0] pl55 inf55 rfl rfl) rfl ?_
 refine l_box wn rfl rfl fun b28 => ?_
 refine l_callM 0 (v := iV (Lg.shape x1.e 1 0).1) (cs' := [iV (Lg.shape x1.e 1 0).2]) wn rfl rfl Tryd.call26 rfl (fun w1 Pb hM pp => c_shapeB x1 (TB := 26) hM (i := 0) rfl (j := 5) rfl rfl (k := 3) rfl) ?_
 refine l_val wn (r_neq rfl rfl) rfl ?_
 refine l_nil (e_go hK12 ?_)
 refine c_cond rfl (fun h3 => ?_) (fun h3 => ?_)
 · refine c_region ?_
   refine l_val wn (r_move rfl) rfl ?_
   refine l_giveX (α := Unit) (PT := 61) [Rb 64 b13 s j2 m1, .pub ErrV] [.blk b28 [iV ((Lg.shape x1.e 1 0).2)] 55, okP ExprX.Ok x1, .blk b3 [iV 0, iV 0] 33, .blk b2 [iV x1.kind, iV x1.n, iV x1.range, .string x1.word, .slice x1.ms.A x1.ms.l.length x1.ms.c, .slice x1.by_.A x1.by_.l.length x1.by_.c, .slice x1.kids.A x1.kids.l.length x1.kids.c] 26] (fun _ : Unit => .tuple #[]) (fun z3 => False) (fun z3 => [Rb 64 b13 s j2 m1, .pub ErrV]) (fun z3 => [Rb 64 b13 s j2 m1, .pub ErrV, .blk b28 [iV ((Lg.shape x1.e 1 0).2)] 55, okP ExprX.Ok x1, .blk b3 [iV 0, iV 0] 33, .blk b2 [iV x1.kind, iV x1.n, iV x1.range, .string x1.word, .slice x1.ms.A x1.ms.l.length x1.ms.c, .slice x1.by_.A x1.by_.l.length x1.by_.c, .slice x1.kids.A x1.kids.l.length x1.kids.c] 26]) (fun f3 => f3 = (4, (j2 : Int))) (fun _ => rfl) (fun _ h => h.sel [1, 2, 0, 3, 4, 5] (by decide) rfl) (fun _ => rfl) wn rfl rfl Tryd.call32 rfl (fun w1 Pb hG => c_fail b13 s j2 m1 4 Pb w1 hG) ?_ fun z3 hz4 => ?_
   · intro f3 hf3
     refine e_then_p (e_panD Tryd.call29 (dgive [.blk b2 [iV x1.kind, iV x1.n, iV x1.range, .string x1.word, .slice x1.ms.A x1.ms.l.length x1.ms.c, .slice x1.by_.A x1.by_.l.length x1.by_.c, .slice x1.kids.A x1.kids.l.length x1.kids.c] 26, .blk b3 [iV 0, iV 0] 33] [.blk b28 [iV ((Lg.shape x1.e 1 0).2)] 55, okP ExprX.Ok x1] (fun _ : Unit => .tuple #[]) [.blk b2 [iV 0, iV 0, iV 0, .string (⟨#[]⟩ : ByteArray), Zs, Zs, Zs] 26, .blk b3 [iV f3.1, iV f3.2] 33] [.blk b2 [iV 0, iV 0, iV 0, .string (⟨#[]⟩ : ByteArray), Zs, Zs, Zs] 26, .blk b3 [iV f3.1, iV f3.2] 33, .blk b28 [iV ((Lg.shape x1.e 1 0).2)] 55, okP ExprX.Ok x1] rfl (fun _ h => h.sel [3, 2, 0, 1] (by decide) rfl) rfl (fun w1 Pb hG => c_catch b2 b3 (iV x1.kind) (iV x1.n) (iV x1.range) (.string x1.word) (.slice x1.ms.A x1.ms.l.length x1.ms.c) (.slice x1.by_.A x1.by_.l.length x1.by_.c) (.slice x1.kids.A x1.kids.l.length x1.kids.c) (iV 0) (iV 0) f3.1 f3.2 Pb w1 hG)) rfl Tryd.results15 (rv_cell 0 rfl rfl agg26 inf26 rfl) (rv_cell 1 rfl rfl agg33 inf33 rfl) fun w1 hM => ?_)
     exact hM.retE ((ExprX.mk 0 0 0 ⟨#[]⟩ ⟨none, 0, []⟩ ⟨none, 0, []⟩ ⟨none, 0, []⟩), f3) rfl (by rw [hf3]; exact Pz.parse_much h1 he1 hz2e (by omega) h3) fun Pb pp => Pz.okZero Pb w1
   exact hz4.elim
 refine c_skip (e_go hK11 ?_)
 refine c_seq fun _ hK13 => ?_
 refine c_nodes (Mem w ⟨no, P0⟩ [.blk b28 [iV ((Lg.shape x1.e 1 0).2)] 55, Rb 64 b13 s j2 m1, .pub ErrV, okP ExprX.Ok x1, .blk b3 [iV 0, iV 0] 33, .blk b2 [iV x1.kind, iV x1.n, iV x1.range, .string x1.word, .slice x1.ms.A x1.ms.l.length x1.ms.c, .slice x1.by_.A x1.by_.l.length x1.by_.c, .slice x1.kids.A x1.kids.l.length x1.kids.c] 26]) mix (fun _ h => h.drew) rfl ?_
 refine n_run (f := 2) [0, 1] rfl rfl (by kernel_rfl) (by kernel_rfl) (fun _ h => h) fun KS hKS => ?_
 refine s_val wn (r_lbn 5 [iV x1.kind, iV x1.n, iV x1.range, .string x1.word, .slice x1.ms.A x1.ms.l.length x1.ms.c, .slice x1.by_.A x1.by_.l.length x1.by_.c, .slice x1.kids.A x1.kids.l.length x1.kids.c] rfl rfl rfl rfl agg26 inf26) rfl ?_
 refine s_val wn (r_lbn 4 [iV 0, iV 0] rfl rfl rfl rfl agg33 inf33) rfl ?_
 refine s_end hKS ?_
 refine n_step1 (f := 1) (i := 2) rfl (by kernel_rfl) ?_
 refine n_oneX (i := 2) rfl fun KN hKN hPN => ?_
 refine l_stn 5 wn rfl rfl rfl inf26 rfl rfl rfl ?_
 refine l_nil (hKN _ _ (fun _ h => h) ?_)
 refine n_step1 (f := 0) (i := 3) rfl (by kernel_rfl) ?_
 refine n_oneX (i := 3) rfl fun KN hKN hPN => ?_
 refine l_stn 4 wn rfl rfl rfl inf33 rfl rfl rfl ?_
 refine l_nil (hKN _ _ (fun _ h => h) ?_)
 refine n_done (by kernel_rfl) (e_go hK13 ?_)
 refine c_ret (e_retD (.inl rfl) Tryd.call29 (didle fun w1 hM => c_idle b2 b3 (fun _ => False) w1 (memNil w1)) Tryd.results15 (rv_cell 5 rfl rfl agg26 inf26 rfl) (rv_cell 4 rfl rfl agg33 inf33 rfl) fun w1 hM => ?_)
 exact hM.retE (x1, (0, 0)) rfl (Pz.parse_ok h1 he1 hz2e (by omega) h3) fun Pb pp => pp.at_ 3 _ rfl

end Go.Proofs.YtffpglgboaigfaaDoor
