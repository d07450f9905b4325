/-
  Calls that may throw a fault: what is thrown, and what of memory stays.
-/
import Derived.Test.YtffpglgboaigfaaDoorParse
import Derived.Test.YtffpglgboaigfaaDoorStar
import Derived.Test.YtffpglgboaigfaaDoorGive
import Derived.Test.YtffpglgboaigfaaDoorEval
import Derived.Lib.AtoiAll
import Derived.Lib.Strings
import Derived.Test.YtffpglgboaigfaaDoorAbb
namespace Go.Proofs.YtffpglgboaigfaaDoor
namespace Ex
set_option linter.unusedVariables false
/-- a fault, as it is thrown -/
def thrown (T : TypeId) (f : Pz.F) : Value := .iface T (.agg (List.toArray [.int .i64 f.1, .int .i64 f.2]))
@[reducible] def pan (T : TypeId) (f : Pz.F) : List PanicEntry := [{ v := thrown T f, recovered := false }]
/-- hands back a value and other parts, or throws a fault -/
def RetX {α : Type} (w : World) (A : List Own) (Pb : Nat → Prop) (PT : TypeId) (mk : α → Value) (pure : α → Prop) (A' : α → List Own) (bad : Pz.F → Prop) : Ending → World → Prop := fun e w' =>
  RetA w A Pb mk pure A' e w' ∨ ∃ f, e = .panicked (pan PT f) ∧ bad f ∧ Fr (fpOf A) w w'
section
variable {P : Program} {N : Nat} {D : List Deferred} {E E' : Env} {S S' : World → Prop} {Q : Exit → Act → World → Prop} {K : Act → World → Prop} {w0 w w' : World} {M : Fp} {L A A' R : List Own} {Pb : Nat → Prop}
  {ops : Array Oper} {rest : List Oper} {d : Nat} {ty T PT : TypeId} {pos : String} {aft : Array Edge} {g : Option (Nat × Bool)} {v u : Value} {x y : Operand}
/-- what was handed on is gone, the rest stays -/
theorem Mem.dropA (h : Mem w0 M (A ++ R) w) (k : Fr (fpOf A) w w') : Mem w0 M R w' := by
  have hR : ∀ (j : Nat) (o : Own), R[j]? = some o → (A ++ R)[A.length + j]? = some o := fun j o hj => by rw [List.getElem?_append_right (by omega)]; simpa using hj
  have hfA : ∀ b, fpOf A b → ∃ (i : Nat) (o : Own), (A ++ R)[i]? = some o ∧ i < A.length ∧ o.mut = true ∧ o.fp b := by
    rintro b ⟨o, ho, hm, hb⟩
    obtain ⟨i, hi, rfl⟩ := List.mem_iff_getElem.1 ho
    exact ⟨i, _, by rw [List.getElem?_append_left hi]; exact List.getElem?_eq_getElem hi, hi, hm, hb⟩
  have hRk : ∀ (j : Nat) (o : Own), R[j]? = some o → ∀ b, o.fp b → w'.heap[b]? = w.heap[b]? := fun j o hj b hb => k.block b ((h.ok _ o (hR j o hj)).2.1 b hb) fun hf => by
    obtain ⟨i, o', hi, hil, hm, hb'⟩ := hfA b hf
    exact h.dj i _ o' o hi (hR j o hj) (by omega) (.inl hm) b hb' hb
  have hsz := k.size
  refine ⟨h.fr.trans k fun b hb hf => ?_, fun i o hi => ?_, fun i j o o' hi hj hij hmm => h.dj _ _ o o' (hR i o hi) (hR j o' hj) (by omega) hmm, ?_⟩
  · obtain ⟨i, o', hi, _, hm, hb'⟩ := hfA b hf
    exact ((h.ok i o' hi).2.2 hm b hb').resolve_left (by omega)
  · obtain ⟨a1, a2, a3⟩ := h.ok _ o (hR i o hi)
    exact ⟨Own.holds_keep a1 (hRk i o hi), fun b hb => Nat.lt_of_lt_of_le (a2 b hb) hsz, a3⟩
  · obtain ⟨Pb, pp⟩ := h.pb
    refine ⟨Pb, pp.sub, fun b hb => Nat.lt_of_lt_of_le (pp.lt b hb) hsz, fun i o hi => pp.dj _ o (hR i o hi), fun i F hi => ?_⟩
    exact (h.ok _ _ (hR i _ hi)).1 Pb Pb w w' (fun _ h => h) (fun b hb => k.block b (pp.lt b hb) fun hf => by
      obtain ⟨j, o', hj, _, hm, hb'⟩ := hfA b hf
      exact pp.dj j o' hj hm b hb hb') (pp.at_ _ F (hR i _ hi))
/-- as l_give, of a call that may throw -/
theorem l_giveX {α : Type} {f : Nat} {args : Array Operand} {ts : Array TypeId} {vs cap : List Value} (A R : List Own) (mk : α → Value) (pure : α → Prop) (A' L' : α → List Own) (bad : Pz.F → Prop) (hL' : ∀ z, A' z ++ R = L' z) (hA : ∀ w, Mem w0 M L w → Mem w0 M (A ++ R) w) (hq : ∀ z, (A' z).all (fun o => o.mut || o.isPub) = true)
    (hw : Want N D ops E g true) (hx : ev E x = some (.func (.func f) #[] cap.toArray)) (hargs : evs E args.toList = some vs)
    (hcall : ∀ vs w, (callFunc f vs).run P w = .ok (.enter f vs) w) (hd : Nat.blt d N = true)
    (hc : ∀ w Pb, Mem w ⟨fpOf A, Pb⟩ A w → Calls P f (vs ++ cap).toArray w (RetX w A Pb PT mk pure A' bad))
    (hb : ∀ f, bad f → WE N D Q (.panic (pan PT f)) E (Mem w0 M R))
    (h : ∀ z, pure z → WL P N D ops Q rest ((d, mk z) :: E) (Mem w0 M (L' z))) :
    WL P N D ops Q (⟨some d, .call { callee := .value x, args := args, argTypes := ts }, ty, pos, aft, g⟩ :: rest) E (Mem w0 M L) := fun w hS a ha => by
  unfold wpList
  rw [if_pos (hw _ rfl a ha)]
  left
  unfold Oper.wp
  rw [run_call ha hx hargs hcall rfl, Oper.upon_enter]
  have hS' := hA w hS
  obtain ⟨Pb, pp⟩ := hS'.pb
  have h9 := hc w Pb (hS'.give pp)
  rw [← List.append_toArray] at h9
  refine h9.mono ?_
  rintro e w' (⟨z, rfl, hz, hk⟩ | ⟨f, rfl, hf, hfr⟩)
  · exact h z hz w' (by rw [← hL' z]; exact hS'.take pp hk (hq z)) _ (ha.put _ hd)
  · exact hb f hf w' (hS'.dropA hfr) a ha
theorem Mem.retX {α : Type} {mk : α → Value} {pure : α → Prop} {A' : α → List Own} {bad : Pz.F → Prop} (h : Mem w ⟨fpOf A, Pb⟩ L w') (z : α) (hv : v = mk z) (hz : pure z) (hs : Mem w ⟨fpOf A, Pb⟩ L w' → Mem w ⟨fpOf A, Pb⟩ (A' z) w') : RetX w A Pb PT mk pure A' bad (.returned v) w' := .inl (h.retA z hv hz hs)
theorem Mem.retPan {α : Type} {mk : α → Value} {pure : α → Prop} {A' : α → List Own} {bad : Pz.F → Prop} (h : Mem w ⟨fpOf A, Pb⟩ L w') (f : Pz.F) (hf : bad f) : RetX w A Pb PT mk pure A' bad (.panicked (pan PT f)) w' := .inr ⟨f, rfl, hf, h.fr⟩
/-! ## The way out -/
theorem e_then_p {c : List PanicEntry} (h : WE N D Q (.panic c) E S) : WE N D (Exit.then K Q) (.panic c) E S := h
theorem e_in_p {c : List PanicEntry} {id : Nat} (h : WE N D Q (.panic c) E S) : WE N D (Exit.inBlock id Q) (.panic c) E S := h
theorem e_node_p {K : Exit → Act → World → Prop} {c : List PanicEntry} (hP : ∀ c S', WE N D Q (.panic c) [] S' → ∀ E', WE N D K (.panic c) E' S') (h : WE N D Q (.panic c) [] S) : WE N D K (.panic c) E S := hP c S h E
theorem e_body_p {fn : Func} {R : Ending → World → Prop} {c : List PanicEntry} (h : ∀ w, S w → R (.panicked c) w) : WE N [] (bodyPost P fn R) (.panic c) E S := fun w hw a ha => ⟨ha.d, h w hw⟩
section
variable {α β γ δ : Type} {c : List PanicEntry}
theorem e_loop1_p {env : α → Env} {Lf : α → List Own} {inv : α → Prop} {μ : α → Nat} {m : Nat} (h : WE N D Q (.panic c) E S) : WE N D (LQ1 N D w0 M env Lf inv μ m Q) (.panic c) E S := h
theorem e_loop2_p {env : α → β → Env} {Lf : α → β → List Own} {inv : α → β → Prop} {μ : α → β → Nat} {m : Nat} (h : WE N D Q (.panic c) E S) : WE N D (LQ2 N D w0 M env Lf inv μ m Q) (.panic c) E S := h
theorem e_loop3_p {env : α → β → γ → Env} {Lf : α → β → γ → List Own} {inv : α → β → γ → Prop} {μ : α → β → γ → Nat} {m : Nat} (h : WE N D Q (.panic c) E S) : WE N D (LQ3 N D w0 M env Lf inv μ m Q) (.panic c) E S := h
theorem e_loop4_p {env : α → β → γ → δ → Env} {Lf : α → β → γ → δ → List Own} {inv : α → β → γ → δ → Prop} {μ : α → β → γ → δ → Nat} {m : Nat} (h : WE N D Q (.panic c) E S) : WE N D (LQ4 N D w0 M env Lf inv μ m Q) (.panic c) E S := h
theorem e_loop5_p {ε : Type} {env : α → β → γ → δ → ε → Env} {Lf : α → β → γ → δ → ε → List Own} {inv : α → β → γ → δ → ε → Prop} {μ : α → β → γ → δ → ε → Nat} {m : Nat} (h : WE N D Q (.panic c) E S) : WE N D (LQ5 N D w0 M env Lf inv μ m Q) (.panic c) E S := h
end
/-! ## What is thrown -/
theorem r_mkI {cs : List Value} (hx : ev E x = some (.agg cs.toArray)) (hT : P.concrete T = true) : Runs P N D E S (.makeInterface T x) ty (.iface T (.agg cs.toArray)) := fun o ho _ a w ha _ => by
  unfold execOp; rw [ho]; simp [ha.eval hx, run_makeInterface _ T _ hT]
theorem l_panic (hw : Want N D ops E g true) (hx : ev E x = some (.iface T v)) (h : WE N D Q (.panic [{ v := .iface T v, recovered := false }]) E S) : WL P N D ops Q (⟨none, .panic x, ty, pos, aft, g⟩ :: rest) E S := fun w hS a ha => by
  unfold wpList
  rw [if_pos (hw _ rfl a ha)]
  left
  unfold Oper.wp
  rw [show (execOp a.eval ⟨none, .panic x, ty, pos, aft, g⟩).run P w = .halt (.panic (.iface T v)) w from by unfold execOp; simp [ha.eval hx, Instr.panic, goPanic], Oper.upon_panic]
  exact h w hS a ha
/-! ## A block that may be written, and others that are laid down for good -/
theorem fp1 {p : Nat} {cs : List Value} {T : TypeId} (b : Nat) (h : fpOf [.blk p cs T] b) : b = p := by
  obtain ⟨o, ho, _, hb⟩ := h
  rw [List.mem_singleton.1 ho] at hb; exact hb
theorem fp2 {p : Nat} {cs : List Value} {T : TypeId} {F : (Nat → Prop) → World → Prop} (b : Nat) (h : fpOf [.blk p cs T, .pub F] b) : b = p := by
  obtain ⟨o, ho, hm, hb⟩ := h
  rcases List.mem_cons.1 ho with rfl | ho
  · exact hb
  · rw [List.mem_singleton.1 ho] at hm; cases hm
theorem Mem.notP {o : Own} {i j p : Nat} {cs : List Value} (h : Mem w0 M L w) (hi : L[i]? = some o) (hj : L[j]? = some (.blk p cs T)) (hij : i ≠ j) (hm : o.mut = true) (hM : ∀ b, M.m b → b = p) : ∀ b, o.fp b → w0.heap.size ≤ b ∨ M.p b := fun b hb => by
  rcases (h.ok i o hi).2.2 hm b hb with h1 | h1
  · exact .inl h1
  · exact absurd (show (Own.blk p cs T).fp b from hM b h1) (h.dj i j o _ hi hj hij (.inl hm) b hb)
theorem Mem.sealRowX {α : Type} {enc : α → List Value} {k p : Nat} {cs : List Value} {e : TypeId} {l : List α} (he : Enc enc k) (h : Mem w0 M L w) {i j : Nat} (hi : L[i]? = some (Row v e k enc l)) (hj : L[j]? = some (.blk p cs T)) (hM : ∀ b, M.m b → b = p) : Mem w0 M (L.set i (slP k enc v l)) w := by
  have hij : i ≠ j := by rintro rfl; rw [hi] at hj; cases hj
  refine h.seal hi rfl (h.notP hi hj hij rfl hM) (FlatSl.loc _ _ _ _) fun Pb pp => ?_
  have hrow := h.row hi
  obtain ⟨A, c, rfl, e2, e3, e4⟩ := row_form' hrow
  refine ⟨A, c, rfl, e2, by simpa [maxLen] using e3, fun hne => ?_⟩
  obtain ⟨ad, rfl⟩ := e4 hne
  have hb : (Value.slice (some ad) l.length c).ownBlock = some ad.block := by
    rcases hrow.2 with ⟨h1, h2⟩ | ⟨gb, cap, cur, h1, _⟩
    · cases h1
    · injection h1 with h1 _ _; injection h1 with h1; subst h1; rfl
  refine ⟨ad, rfl, .inr hb, fun i' x hx j u hu => ?_⟩
  exact (RowSl he h i hi).cell rfl hx hu
theorem l_sealX {α : Type} {enc : α → List Value} {k p : Nat} {cs : List Value} {e : TypeId} {l : List α} (i j : Nat) (he : Enc enc k) (hi : L[i]? = some (Row v e k enc l)) (hj : L[j]? = some (.blk p cs T)) (hM : ∀ b, M.m b → b = p) (h : WL P N D ops Q rest E (Mem w0 M (L.set i (slP k enc v l)))) : WL P N D ops Q rest E (Mem w0 M L) :=
  fun w hS => h w (hS.sealRowX he hi hj hM)
theorem Mem.sealBX {i j b p : Nat} {cs cp : List Value} {T' : TypeId} (h : Mem w0 M L w) (hi : L[i]? = some (.blk b cs T)) (hj : L[j]? = some (.blk p cp T')) (hij : Nat.beq i j = false) (hM : ∀ b, M.m b → b = p) : Mem w0 M (L.set i (celP ⟨b, 0, none⟩ cs)) w := by
  refine h.seal hi rfl (h.notP hi hj (Nat.ne_of_beq_eq_false hij) rfl hM) (CelAt.loc _ _) fun Pb pp => ⟨.inr rfl, fun j u hu => ?_⟩
  rw [add_lit]
  have := h.cell (j := 0 + j) hi
  rw [this]; simpa using hu
theorem l_sealBX (i j : Nat) {b p : Nat} {cs cp : List Value} {T' : TypeId} (hi : L[i]? = some (.blk b cs T)) (hj : L[j]? = some (.blk p cp T')) (hij : Nat.beq i j = false) (hM : ∀ b, M.m b → b = p) (h : WL P N D ops Q rest E (Mem w0 M (L.set i (celP ⟨b, 0, none⟩ cs)))) : WL P N D ops Q rest E (Mem w0 M L) :=
  fun w hS => h w (hS.sealBX hi hj hij hM)
/-- a block of one's own, read by a call that keeps nothing -/
theorem Mem.celIn {i b : Nat} {cs : List Value} (h : Mem w0 M L w) (hi : L[i]? = some (.blk b cs T)) : CelAt (In w) ⟨b, 0, none⟩ cs w := ⟨(h.ok i _ hi).2.1 b rfl, fun j u hu => by
  rw [add_lit]
  have := h.cell (j := 0 + j) hi
  rw [this]; simpa using hu⟩
/-- an expression, put together of parts that are laid down for good -/
theorem Mem.exprG (h : Mem w0 M L w) {k n r : Int} {wd : ByteArray} {ms : SlX Match} {bs : SlX ByteArray} {ks : SlX ExprX} (hm : ∀ Pb, Pubs w0 M L w Pb → FlatSl Pb 3 matchE (.slice ms.A ms.l.length ms.c) ms.l w) (hb : ∀ Pb, Pubs w0 M L w Pb → FlatSl Pb 1 strE (.slice bs.A bs.l.length bs.c) bs.l w)
    (hk : ∀ Pb, Pubs w0 M L w Pb → FlatSl Pb 7 exprE (.slice ks.A ks.l.length ks.c) ks.l w) (ha : ∀ Pb, Pubs w0 M L w Pb → ∀ x ∈ ks.l, ExprX.Ok Pb x w) (hw : wd.size ≤ 100) (hms : ∀ x ∈ ms.l, x.key.size ≤ 100 ∧ x.val.size ≤ 100) (hbs : ∀ x ∈ bs.l, x.size ≤ 100) :
    Mem w0 M (okP ExprX.Ok (.mk k n r wd ms bs ks) :: L) w :=
  h.note (ExprX.Ok.loc _) fun Pb pp => .mk (hm Pb pp) (hb Pb pp) (hk Pb pp) (ha Pb pp) ⟨Nat.le_trans hw (by decide), fun x hx => ⟨Nat.le_trans (hms x hx).1 (by decide), Nat.le_trans (hms x hx).2 (by decide)⟩, fun x hx => Nat.le_trans (hbs x hx) (by decide)⟩
/-- the same, told otherwise -/
theorem l_as (d : Nat) (v : Value) (L : List Own) (h : WL P N D ops Q rest ((d, v) :: E) (Mem w0 M L)) : WL P N D ops Q rest ((d, v) :: E) (Mem w0 M L) := h
theorem r_tassert {xT : TypeId} {fs : Array Field} (hx : ev E x = some (.iface T v)) (hT : P.underlying T = some (.struct fs)) : Runs P N D E S (.typeAssert x xT T true) ty (.tuple (List.toArray [v, .bool true])) := fun o ho _ a w ha _ => by
  unfold execOp; rw [ho]; simp [ha.eval hx, Instr.typeAssert, run_underlying hT]
/-! ## Interface values: nil, or not -/
def isNil : Value → Bool
  | .nilIface => true
  | _ => false
theorem run_ieq {ms : Array (String × TypeId)} (hT : P.underlying T = some (.interface ms)) (hv : v = .nilIface ∨ ∃ t u, v = .iface t u) (d : Nat) : (Op.equalIn (d + 1) T v .nilIface).run P w = .ok (isNil v) w := by
  rcases hv with rfl | ⟨t, u, rfl⟩ <;> simp [Op.equalIn, run_underlying hT, isNil]
theorem r_ineq {ms : Array (String × TypeId)} {T' : TypeId} (hx : ev E x = some v) (hv : v = .nilIface ∨ ∃ t u, v = .iface t u) (hT : P.underlying T = some (.interface ms)) : Runs P N D E S (.binOp .neq T x (.const .nilIface) T') ty (.bool (!(isNil v))) := fun o ho _ a w ha _ => by
  have h := run_ieq (w := w) hT hv 9999
  have hy : a.eval (.const .nilIface) = .nilIface := rfl
  unfold execOp; rw [ho]
  rcases hv with rfl | ⟨t, u, rfl⟩ <;> simp [ha.eval hx, hy, eqGuard, binOp, Op.equal, Op.maxDepth, h]
theorem r_ieq {ms : Array (String × TypeId)} {T' : TypeId} (hx : ev E x = some v) (hv : v = .nilIface ∨ ∃ t u, v = .iface t u) (hT : P.underlying T = some (.interface ms)) : Runs P N D E S (.binOp .eql T x (.const .nilIface) T') ty (.bool (isNil v)) := fun o ho _ a w ha _ => by
  have h := run_ieq (w := w) hT hv 9999
  have hy : a.eval (.const .nilIface) = .nilIface := rfl
  unfold execOp; rw [ho]
  rcases hv with rfl | ⟨t, u, rfl⟩ <;> simp [ha.eval hx, hy, eqGuard, binOp, Op.equal, Op.maxDepth, h]
end
/-- a package's variable of an interface type that is not nil, on blocks of S -/
def VarI (P : Program) (name : String) (S : Nat → Prop) (w : World) : Prop := (∀ g, P.globalNamed name = some g → S g) ∧ ∃ tp p, w.var? P name = some #[.iface tp p]
theorem VarI.loc (P : Program) (name : String) : Loc (VarI P name) := fun S S' u u' hs hk h => by
  obtain ⟨h1, tp, p, h2⟩ := h
  refine ⟨fun g hg => hs _ (h1 g hg), tp, p, ?_⟩
  unfold World.var? at h2 ⊢
  cases hg : P.globalNamed name with
  | none => rw [hg] at h2; cases h2
  | some g => rw [hg] at h2; simp only [Option.bind_some] at h2 ⊢; rw [hk _ (h1 g hg)]; exact h2
end Ex
/-! ## Plain laws for the walks of the parser -/
namespace Pz
open Ex
theorem rest_ext (s : ByteArray) (j : Nat) : (s.extract j s.size).data.toList = rest s j := by
  unfold rest
  rw [ByteArray.data_extract, Array.toList_extract, List.extract_eq_take_drop]
  exact List.take_of_length_le (by rw [List.length_drop, size_l]; exact Nat.le_refl _)
theorem pfx_ext (s sg : ByteArray) (j : Nat) : Go.Lib.hasPrefix (s.extract j s.size).data.toList sg.data.toList = pfx s sg j := by unfold Go.Lib.hasPrefix pfx; rw [rest_ext]
theorem eat_yes {s sg : ByteArray} {i j : Nat} (hj : blank s i = j) (h : pfx s sg j = true) : eat s sg i = (true, j + sg.size) := by unfold eat; rw [hj, if_pos h]
theorem eat_no {s sg : ByteArray} {i j : Nat} (hj : blank s i = j) (h : ¬ pfx s sg j = true) : eat s sg i = (false, j) := by unfold eat; rw [hj, if_neg h]
theorem ext_size (s : ByteArray) {i j : Nat} (h : j ≤ s.size) : (s.extract i j).size = j - i := by rw [ByteArray.size_extract]; omega
theorem word_ok {s : ByteArray} {i j k : Nat} {n : Int} (hj : blank s i = j) (hk : wend s j = k) (h : ¬ (12 : Int) < ((s.extract j k).size : Int)) (hs : k ≤ s.size) : word s ⟨i, n⟩ = .ok (s.extract j k, ⟨k, n⟩) := by
  unfold word
  show (if 12 < wend s (blank s i) - blank s i then _ else _) = _
  rw [hj, hk, if_neg (by rw [ext_size s hs] at h; omega)]; rfl
theorem word_no {s : ByteArray} {i j k : Nat} {n : Int} (hj : blank s i = j) (hk : wend s j = k) (h : (12 : Int) < ((s.extract j k).size : Int)) (hs : k ≤ s.size) : word s ⟨i, n⟩ = .no (7, j) := by
  unfold word
  show (if 12 < wend s (blank s i) - blank s i then _ else _) = _
  rw [hj, hk, if_pos (by rw [ext_size s hs] at h; omega)]
theorem word_size {s : ByteArray} {t : St} {x : ByteArray × St} (ht : t.at_ ≤ s.size) (h : word s t = .ok x) : x.1.size ≤ 12 := by
  unfold word at h
  split at h
  · cases h
  · rename_i h1
    obtain rfl := Res.ok.inj h
    show (s.extract _ _).size ≤ 12
    rw [ext_size s (wend_le (blank_le ht).2).2]; omega
theorem name_size {s : ByteArray} {t : St} {x : ByteArray × St} (ht : t.at_ ≤ s.size) (h : name s t = .ok x) : x.1.size ≤ 12 := by
  unfold name at h
  cases hw : word s t with
  | no f => rw [hw] at h; cases h
  | ok y =>
    rw [hw, then_ok] at h
    split at h
    · cases h
    · obtain rfl := Res.ok.inj h; exact word_size ht hw
theorem empty_size : (⟨#[]⟩ : ByteArray).size ≤ 12 := by decide
theorem then_some {α β : Type} {x : Res α} {g : α → Res β} {b : β} (h : x.then g = .ok b) : ∃ a, x = .ok a ∧ g a = .ok b := by
  cases x with
  | no f => cases h
  | ok a => exact ⟨a, rfl, h⟩
theorem match_size {s : ByteArray} {t : St} {x : Match × St} (ht : t.at_ ≤ s.size) (h : match_ s t = .ok x) : x.1.key.size ≤ 12 ∧ x.1.val.size ≤ 12 := by
  unfold match_ at h
  have h0 := (eat_le ⟨#[33]⟩ ht).2
  split at h
  · obtain ⟨a, h1, h2⟩ := then_some h
    obtain rfl := Res.ok.inj h2
    exact ⟨name_size (t := t.go _) h0 h1, empty_size⟩
  · obtain ⟨a, h1, h2⟩ := then_some h
    have hn := name_size (t := t.go _) h0 h1
    have ha : a.2.at_ ≤ s.size := ((name_go h0).ok_ h1).at_
    split at h2
    · obtain ⟨b, h3, h4⟩ := then_some h2
      obtain rfl := Res.ok.inj h4
      exact ⟨hn, name_size (t := a.2.go _) (eat_le _ ha).2 h3⟩
    · split at h2
      · obtain ⟨b, h3, h4⟩ := then_some h2
        obtain rfl := Res.ok.inj h4
        exact ⟨hn, name_size (t := a.2.go _) (eat_le _ (eat_le _ ha).2).2 h3⟩
      · obtain rfl := Res.ok.inj h2
        exact ⟨hn, empty_size⟩
/-! ## Numbers -/
def fold (n : Nat) (l : List UInt8) : Nat := l.foldl (fun n b => 10 * n + (b.toNat - 48)) n
theorem fold_ge : ∀ (l : List UInt8) (n : Nat), n ≤ fold n l
  | [], n => Nat.le_refl _
  | c :: l, n => by have := fold_ge l (10 * n + (c.toNat - 48)); unfold fold at this ⊢; rw [List.foldl_cons]; omega
theorem parse_dig : ∀ (l : List UInt8) (acc : Nat), (∀ c ∈ l, 48 ≤ c.toNat ∧ c.toNat ≤ 57) → acc < 18446744073709551616 → (Go.Lib.parseUint10 acc l = .ok (fold acc l) ∧ fold acc l < 18446744073709551616) ∨ (Go.Lib.parseUint10 acc l = .range ∧ 18446744073709551616 ≤ fold acc l)
  | [], acc, _, h => .inl ⟨rfl, h⟩
  | c :: l, acc, hc, h => by
    have h1 := hc c (List.mem_cons_self ..)
    have hf : fold acc (c :: l) = fold (acc * 10 + (c.toNat - 48)) l := by unfold fold; rw [List.foldl_cons, Nat.mul_comm]
    simp only [Go.Lib.parseUint10, if_pos h1]
    by_cases g1 : 1844674407370955162 ≤ acc
    · rw [if_pos g1]
      refine .inr ⟨rfl, ?_⟩
      have := fold_ge l (acc * 10 + (c.toNat - 48))
      rw [hf]; omega
    · rw [if_neg g1]
      by_cases g2 : 18446744073709551616 ≤ acc * 10 + (c.toNat - 48)
      · rw [if_pos g2]
        have := fold_ge l (acc * 10 + (c.toNat - 48))
        exact .inr ⟨rfl, by rw [hf]; omega⟩
      · rw [if_neg g2, hf]
        exact parse_dig l _ (fun x hx => hc x (List.mem_cons_of_mem _ hx)) (by omega)
theorem atoi_dig {l : List UInt8} (hl : l ≠ []) (hc : ∀ c ∈ l, 48 ≤ c.toNat ∧ c.toNat ≤ 57) : (Go.Lib.atoiAll l = .ok (dval l : Int) ∧ dval l < 9223372036854775808) ∨ (Go.Lib.atoiAll l = .range ∧ 9223372036854775808 ≤ dval l) := by
  cases l with
  | nil => exact absurd rfl hl
  | cons c r =>
    have h1 := hc c (List.mem_cons_self ..)
    have hp := parse_dig (c :: r) 0 hc (by decide)
    have hd : fold 0 (c :: r) = dval (c :: r) := rfl
    rw [hd] at hp
    have h43 : ¬ (c.toNat = 43 ∨ c.toNat = 45) := by omega
    have h45 : ¬ (c.toNat = 45) := by omega
    unfold Go.Lib.atoiAll
    simp only [if_neg h43, Go.Lib.parseMag, if_neg hl]
    rcases hp with ⟨e, hlt⟩ | ⟨e, hle⟩
    · rw [e]
      simp only [h45, not_false_eq_true, true_and, false_and, if_false]
      by_cases g : 9223372036854775808 ≤ dval (c :: r)
      · rw [if_pos g]; exact .inr ⟨rfl, g⟩
      · rw [if_neg g]; exact .inl ⟨rfl, by omega⟩
    · rw [e]; exact .inr ⟨rfl, by omega⟩
theorem take_dig : ∀ (l : List UInt8) (c : UInt8), c ∈ l.takeWhile dig → 48 ≤ c.toNat ∧ c.toNat ≤ 57
  | b :: l, c, h => by
    rw [List.takeWhile_cons] at h
    split at h
    · rename_i hb
      rcases List.mem_cons.1 h with rfl | h
      · simpa [dig] using hb
      · exact take_dig l c h
    · cases h
theorem ext_take (s : ByteArray) (j : Nat) (p : UInt8 → Bool) : (s.extract j (run p s j)).data.toList = (rest s j).takeWhile p := by
  rw [ByteArray.data_extract, Array.toList_extract, List.extract_eq_take_drop]
  unfold run rest
  rw [show j + ((s.data.toList.drop j).takeWhile p).length - j = ((s.data.toList.drop j).takeWhile p).length by omega]
  exact (List.prefix_iff_eq_take.1 (List.takeWhile_prefix p)).symm
theorem ext_dig {s : ByteArray} {j k : Nat} (hk : run dig s j = k) : ∀ c ∈ (s.extract j k).data.toList, 48 ≤ c.toNat ∧ c.toNat ≤ 57 := fun c hc => by
  subst hk; rw [ext_take] at hc; exact take_dig _ c hc
theorem sat_dig {l : List UInt8} (hd : ∀ c ∈ l, 48 ≤ c.toNat ∧ c.toNat ≤ 57) : Go.Lib.atoiSat l = 9223372036854775807 := by
  unfold Go.Lib.atoiSat
  cases l with
  | nil => rfl
  | cons c r =>
    have := hd c (List.mem_cons_self ..)
    rw [if_neg]
    intro h
    simp at h
    omega
/-- what Atoi says of a run of digits -/
def AtoiR (l : List UInt8) (z : Int × Value) : Prop := (z.2 = .nilIface ∧ z.1 = (dval l : Int)) ∨ ((∃ u v, z.2 = .iface u v) ∧ z.1 = 9223372036854775807 ∧ 9223372036854775808 ≤ dval l)
theorem AtoiR.ifc {l : List UInt8} {z : Int × Value} (h : AtoiR l z) : z.2 = .nilIface ∨ ∃ t u, z.2 = .iface t u := h.imp (·.1) (·.1)
theorem AtoiR.bad {l : List UInt8} {z : Int × Value} (h : AtoiR l z) (most : Int) (hm : most ≤ 9223372036854775806) (hn : ((!(isNil z.2)) = true ∨ most < z.1)) : most < (dval l : Int) := by
  rcases h with ⟨h1, h2⟩ | ⟨⟨u, v, h1⟩, h2, h3⟩
  · rcases hn with hn | hn
    · rw [h1] at hn; cases hn
    · rw [← h2]; exact hn
  · omega
theorem AtoiR.good {l : List UInt8} {z : Int × Value} (h : AtoiR l z) (hn : ¬ (!(isNil z.2)) = true) : z.1 = (dval l : Int) := by
  rcases h with ⟨h1, h2⟩ | ⟨⟨u, v, h1⟩, h2, h3⟩
  · exact h2
  · rw [h1] at hn; exact absurd rfl hn
theorem num_form {s : ByteArray} {i j k : Nat} {n : Int} (least most : Int) (hj : blank s i = j) (hk : run dig s j = k) (h : (k : Int) = (j : Int)) : num s least most ⟨i, n⟩ = .no (2, j) := by
  unfold num
  show (if run dig s (blank s i) = blank s i then _ else _) = _
  rw [hj, hk, if_pos (by omega)]
theorem num_no {s : ByteArray} {i j k : Nat} {n least most : Int} (hj : blank s i = j) (hk : run dig s j = k) (h : ¬ (k : Int) = (j : Int)) (hb : badNum s least most j) : num s least most ⟨i, n⟩ = .no (3, j) := by
  unfold num
  show (if run dig s (blank s i) = blank s i then _ else _) = _
  rw [hj, hk, if_neg (by omega), if_pos hb]
theorem num_ok {s : ByteArray} {i j k : Nat} {n least most : Int} (hj : blank s i = j) (hk : run dig s j = k) (h : ¬ (k : Int) = (j : Int)) (hb : ¬ badNum s least most j) : num s least most ⟨i, n⟩ = .ok (numAt s j, ⟨k, n⟩) := by
  unfold num
  show (if run dig s (blank s i) = blank s i then _ else _) = _
  rw [hj, hk, if_neg (by omega), if_neg hb]; rfl
theorem num_at {s : ByteArray} {j k : Nat} (hk : run dig s j = k) : numAt s j = (dval (s.extract j k).data.toList : Int) := by subst hk; rfl
theorem atoi_lt {s : ByteArray} {j k : Nat} (h : (k : Int) ≠ (j : Int)) (hk : run dig s j = k) (hs : k ≤ s.size) : (s.extract j k).data.toList ≠ [] := fun e => by
  have h1 := ext_size s (i := j) hs
  have h2 : (s.extract j k).size = (s.extract j k).data.toList.length := (size_l _).symm
  rw [e] at h2
  have h3 : j ≤ k := by subst hk; unfold run; omega
  simp at h2; omega
theorem num_bad {s : ByteArray} {j k : Nat} {least most : Int} {z : Int × Value} (hk : run dig s j = k) (hz : AtoiR (s.extract j k).data.toList z) (hm : most ≤ 9223372036854775806) (h : (!(isNil z.2)) = true ∨ z.1 < least ∨ most < z.1 ∨ (s[j]? = some 48 ∧ (j : Int) + 1 < (k : Int))) : badNum s least most j := by
  unfold badNum
  rw [num_at hk]
  rcases h with h | h | h | ⟨h1, h2⟩
  · exact .inr (.inl (hz.bad most hm (.inl h)))
  · rcases hz with ⟨h1, h2⟩ | ⟨h1, h2, h3⟩
    · exact .inl (by rw [← h2]; exact h)
    · exact .inr (.inl (by omega))
  · exact .inr (.inl (hz.bad most hm (.inr h)))
  · exact .inr (.inr ⟨h1, by rw [hk]; omega⟩)
theorem num_good {s : ByteArray} {j k : Nat} {least most : Int} {z : Int × Value} (hk : run dig s j = k) (hz : AtoiR (s.extract j k).data.toList z) (h1 : ¬ (!(isNil z.2)) = true) (h2 : ¬ z.1 < least) (h3 : ¬ most < z.1) (h4 : ¬ (s[j]? = some 48 ∧ (j : Int) + 1 < (k : Int))) : ¬ badNum s least most j ∧ numAt s j = z.1 := by
  have hg := hz.good h1
  unfold badNum
  rw [num_at hk, ← hg]
  refine ⟨?_, rfl⟩
  rintro (h | h | ⟨h5, h6⟩)
  · exact h2 h
  · exact h3 h
  · exact h4 ⟨h5, by rw [hk] at h6; omega⟩
theorem at48 {s : ByteArray} {j : Nat} {c : UInt8} (h : s[j]? = some c) (hc : (c.toNat : Int) = 48) : s[j]? = some 48 := by
  rw [h]
  have : c = 48 := by
    apply UInt8.toNat_inj.1
    show c.toNat = 48
    omega
  rw [this]
theorem not48 {s : ByteArray} {j : Nat} {c : UInt8} (h : s[j]? = some c) (hc : ¬ (c.toNat : Int) = 48) {q : Prop} : ¬ (s[j]? = some 48 ∧ q) := fun g => by
  rw [h] at g
  injection g.1 with g1
  subst g1
  exact hc rfl
theorem node_yes {i : Nat} {n : Int} (h : n + 1 ≤ 100) : node ⟨i, n⟩ = .ok ⟨i, n + 1⟩ := by unfold node; rw [if_neg (by show ¬ 100 < n + 1; omega)]
theorem node_no {i : Nat} {n : Int} (h : 100 < n + 1) : node ⟨i, n⟩ = .no (4, i) := by unfold node; rw [if_pos (by show 100 < n + 1; exact h)]
/-! ## The matches of a window -/
theorem win_done {X : Res (List Match × St)} {s : ByteArray} {q k j : Nat} {m : Int} {ms : List Match} (hX : X = winL s (q + 1) ms ⟨k, m⟩) (he : eat s ⟨#[125]⟩ k = (true, j)) : X = .ok (ms, ⟨j, m⟩) := by
  rw [hX, winL]; simp only [he, if_true, St.go]
theorem win_more {X : Res (List Match × St)} {s : ByteArray} {q k j : Nat} {m : Int} {ms : List Match} (hX : X = winL s (q + 1) ms ⟨k, m⟩) (he : eat s ⟨#[125]⟩ k = (false, j)) : X = (if 0 < ms.length then must s ⟨#[44]⟩ ⟨j, m⟩ else .ok ⟨j, m⟩).then fun u => if ms.length = 5 then .no (5, u.at_) else (match_ s u).then fun x => winL s q (ms ++ [x.1]) x.2 := by
  rw [hX, winL]; simp only [he, if_false, St.go, Bool.false_eq_true]
theorem win_sep {s : ByteArray} {j : Nat} {m : Int} {ms : List Match} (h : ¬ (0 : Int) < (ms.length : Int)) : (if 0 < ms.length then must s ⟨#[44]⟩ ⟨j, m⟩ else .ok ⟨j, m⟩) = .ok ⟨j, m⟩ := if_neg (by omega)
theorem win_sep' {s : ByteArray} {j : Nat} {m : Int} {ms : List Match} {r : Res St} (h : (0 : Int) < (ms.length : Int)) (he : must s ⟨#[44]⟩ ⟨j, m⟩ = r) : (if 0 < ms.length then must s ⟨#[44]⟩ ⟨j, m⟩ else .ok ⟨j, m⟩) = r := by rw [if_pos (by omega), he]
theorem win_next {X : Res (List Match × St)} {s : ByteArray} {q : Nat} {ms : List Match} {a : Res St} {u : St} {r : Res (Match × St)} (hX : X = a.then fun u => if ms.length = 5 then .no (5, u.at_) else (match_ s u).then fun x => winL s q (ms ++ [x.1]) x.2) (ha : a = .ok u) (h5 : ¬ (ms.length : Int) = 5) (hm : match_ s u = r) : X = r.then fun x => winL s q (ms ++ [x.1]) x.2 := by
  rw [hX, ha, then_ok, if_neg (by omega), hm]
theorem win_many {X : Res (List Match × St)} {s : ByteArray} {q : Nat} {ms : List Match} {a : Res St} {u : St} (hX : X = a.then fun u => if ms.length = 5 then .no (5, u.at_) else (match_ s u).then fun x => winL s q (ms ++ [x.1]) x.2) (ha : a = .ok u) (h5 : (ms.length : Int) = 5) : X = .no (5, u.at_) := by
  rw [hX, ha, then_ok, if_pos (by omega)]
theorem winL_size {s : ByteArray} : ∀ (q : Nat) {ms : List Match} {t : St} {x : List Match × St}, t.at_ ≤ s.size → winL s q ms t = .ok x → (∀ m ∈ ms, m.key.size ≤ 12 ∧ m.val.size ≤ 12) → ∀ m ∈ x.1, m.key.size ≤ 12 ∧ m.val.size ≤ 12
  | 0, _, _, _, _, h, _ => by cases h
  | q + 1, ms, t, x, ht, h, hms => by
    rw [winL] at h
    split at h
    · obtain rfl := Res.ok.inj h; exact hms
    · obtain ⟨u, h1, h2⟩ := then_some h
      have h0 := (eat_le (s := s) ⟨#[125]⟩ ht).2
      have hu : u.at_ ≤ s.size := by
        split at h1
        · exact ((must_fine (t := t.go _) _ h0).ok_ h1).at_
        · obtain rfl := Res.ok.inj h1; exact h0
      split at h2
      · cases h2
      · obtain ⟨y, h3, h4⟩ := then_some h2
        have hy := match_size hu h3
        refine winL_size q ((match_fine hu).ok_ h3).at_ h4 fun m hm => ?_
        rcases List.mem_append.1 hm with hm | hm
        · exact hms m hm
        · rw [List.mem_singleton.1 hm]; exact hy
/-! ## The labels behind by -/
theorem by_done {X : Res (List ByteArray × St)} {s : ByteArray} {q k j : Nat} {m : Int} {l : List ByteArray} (hX : X = byL s (q + 1) l ⟨k, m⟩) (he : eat s ⟨#[44]⟩ k = (false, j)) : X = .ok (l, ⟨j, m⟩) := by
  rw [hX, byL]; simp only [he, if_false, St.go, Bool.false_eq_true]
theorem by_many {X : Res (List ByteArray × St)} {s : ByteArray} {q k j : Nat} {m : Int} {l : List ByteArray} (hX : X = byL s (q + 1) l ⟨k, m⟩) (he : eat s ⟨#[44]⟩ k = (true, j)) (h4 : (l.length : Int) = 4) : X = .no (5, j) := by
  rw [hX, byL]; simp only [he, if_true]; rw [if_pos (by omega)]
theorem by_next {X : Res (List ByteArray × St)} {s : ByteArray} {q k j : Nat} {m : Int} {l : List ByteArray} {r : Res (ByteArray × St)} (hX : X = byL s (q + 1) l ⟨k, m⟩) (he : eat s ⟨#[44]⟩ k = (true, j)) (h4 : ¬ (l.length : Int) = 4) (hr : name s ⟨j, m⟩ = r) : X = r.then fun x => byL s q (l ++ [x.1]) x.2 := by
  rw [hX, byL]; simp only [he, if_true, St.go]; rw [if_neg (by omega), hr]
theorem byL_size {s : ByteArray} : ∀ (q : Nat) {l : List ByteArray} {t : St} {x : List ByteArray × St}, t.at_ ≤ s.size → byL s q l t = .ok x → (∀ m ∈ l, m.size ≤ 12) → ∀ m ∈ x.1, m.size ≤ 12
  | 0, _, _, _, _, h, _ => by cases h
  | q + 1, l, t, x, ht, h, hl => by
    rw [byL] at h
    have h0 := (eat_le (s := s) ⟨#[44]⟩ ht).2
    split at h
    · split at h
      · cases h
      · obtain ⟨y, h3, h4⟩ := then_some h
        have hy := name_size (t := t.go _) h0 h3
        refine byL_size q ((name_go h0).ok_ h3).at_ h4 fun m hm => ?_
        rcases List.mem_append.1 hm with hm | hm
        · exact hl m hm
        · rw [List.mem_singleton.1 hm]; exact hy
    · obtain rfl := Res.ok.inj h; exact hl
/-! ## Sums -/
section
variable {X : Res (Expr × St)} {s : ByteArray} {sub : St → Res (Expr × St)} {signs : List ByteArray} {q k j : Nat} {m : Int} {e : Expr} {wd : ByteArray}
theorem bin_done (hX : X = binL s sub signs (q + 1) e ⟨k, m⟩) (hp : pick s signs k = (⟨#[]⟩, j)) : X = .ok (e, ⟨j, m⟩) := by
  rw [hX, binL]; simp only [hp, if_true, St.go]
theorem bin_next {r : Res (Expr × St)} (hX : X = binL s sub signs (q + 1) e ⟨k, m⟩) (hp : pick s signs k = (wd, j)) (hw : wd ≠ ⟨#[]⟩) (hr : sub ⟨j, m⟩ = r) : X = r.then fun f => (node f.2).then fun u => binL s sub signs q (.mk 4 0 0 wd [] [] [e, f.1]) u := by
  rw [hX, binL]; simp only [hp, if_neg hw, St.go, hr]
theorem star1 {j : Nat} (h : eat s ⟨#[42]⟩ k = (true, j)) : pick s star k = (⟨#[42]⟩, j) := by unfold star; simp only [pick, h, if_true]
theorem star0 {j : Nat} (h : eat s ⟨#[42]⟩ k = (false, j)) : pick s star k = (⟨#[]⟩, j) := by unfold star; simp only [pick, h, if_false, Bool.false_eq_true]
theorem plus1 {j : Nat} (h : eat s ⟨#[43]⟩ k = (true, j)) : pick s plus k = (⟨#[43]⟩, j) := by unfold plus; simp only [pick, h, if_true]
theorem minus1 {j j' : Nat} (h : eat s ⟨#[43]⟩ k = (false, j)) (h' : eat s ⟨#[45]⟩ j = (true, j')) : pick s plus k = (⟨#[45]⟩, j') := by unfold plus; simp only [pick, h, h', if_true, if_false, Bool.false_eq_true]
theorem plus0 {j j' : Nat} (h : eat s ⟨#[43]⟩ k = (false, j)) (h' : eat s ⟨#[45]⟩ j = (false, j')) : pick s plus k = (⟨#[]⟩, j') := by unfold plus; simp only [pick, h, h', if_false, Bool.false_eq_true]
end
/-! ## A whole text -/
theorem okZero (S : Nat → Prop) (w : World) : ExprX.Ok S (.mk 0 0 0 ⟨#[]⟩ ⟨none, 0, []⟩ ⟨none, 0, []⟩ ⟨none, 0, []⟩) w :=
  .mk (FlatSl.nil_ _ _ _ _) (FlatSl.nil_ _ _ _ _) (FlatSl.nil_ _ _ _ _) (fun x hx => by cases hx) ⟨by decide, fun x hx => (by cases hx), fun x hx => (by cases hx)⟩
theorem parse_big {s : ByteArray} (h : (2000 : Int) < (s.size : Int)) : parse s = (none_, (4, 0)) := if_pos (by omega)
theorem parse_no {s : ByteArray} {f : F} (h : ¬ (2000 : Int) < (s.size : Int)) (hx : xpr s 20 ⟨0, 0⟩ = .no f) : parse s = (none_, f) := by unfold parse; rw [if_neg (by omega), hx]
theorem parse_form {s : ByteArray} {x : Expr} {j k : Nat} {m : Int} (h : ¬ (2000 : Int) < (s.size : Int)) (hx : xpr s 20 ⟨0, 0⟩ = .ok (x, ⟨j, m⟩)) (hb : blank s j = k) (hk : k < s.size) : parse s = (none_, ((2 : Int), (k : Int))) := by
  unfold parse; rw [if_neg (by omega), hx]; simp only [hb, if_pos hk]
theorem parse_much {s : ByteArray} {x : Expr} {j k : Nat} {m : Int} (h : ¬ (2000 : Int) < (s.size : Int)) (hx : xpr s 20 ⟨0, 0⟩ = .ok (x, ⟨j, m⟩)) (hb : blank s j = k) (hk : ¬ k < s.size) (hw : (Lg.shape x 1 0).1 ≠ 0) : parse s = (none_, ((4 : Int), (k : Int))) := by
  unfold parse; rw [if_neg (by omega), hx]; simp only [hb, if_neg hk]; rw [if_pos (show Lg.wrong x ≠ 0 from hw)]
theorem parse_ok {s : ByteArray} {x : Expr} {j k : Nat} {m : Int} (h : ¬ (2000 : Int) < (s.size : Int)) (hx : xpr s 20 ⟨0, 0⟩ = .ok (x, ⟨j, m⟩)) (hb : blank s j = k) (hk : ¬ k < s.size) (hw : ¬ (Lg.shape x 1 0).1 ≠ 0) : parse s = (x, (0, 0)) := by
  unfold parse; rw [if_neg (by omega), hx]; simp only [hb, if_neg hk]; rw [if_neg (show ¬ Lg.wrong x ≠ 0 from hw)]
/-! ## A match, behind its key -/
def msR (s wd : ByteArray) (t : St) : Res (Match × St) :=
  if (eat s ⟨#[33, 61]⟩ t.at_).1 = true then (name s (t.go (eat s ⟨#[33, 61]⟩ t.at_).2)).then fun y => .ok (⟨2, wd, y.1⟩, y.2)
  else if (eat s ⟨#[61]⟩ (eat s ⟨#[33, 61]⟩ t.at_).2).1 = true then (name s (t.go (eat s ⟨#[61]⟩ (eat s ⟨#[33, 61]⟩ t.at_).2).2)).then fun y => .ok (⟨1, wd, y.1⟩, y.2)
  else .ok (⟨3, wd, ⟨#[]⟩⟩, t.go (eat s ⟨#[61]⟩ (eat s ⟨#[33, 61]⟩ t.at_).2).2)
theorem match_no {s : ByteArray} {i j1 : Nat} {n : Int} (e : eat s ⟨#[33]⟩ i = (false, j1)) : match_ s ⟨i, n⟩ = (name s ⟨j1, n⟩).then fun x => msR s x.1 x.2 := by
  unfold match_ msR; simp only [e, if_false, Bool.false_eq_true, St.go]
theorem msR_1 {s wd : ByteArray} {j2 : Nat} {t : St} (e : eat s ⟨#[33, 61]⟩ t.at_ = (true, j2)) : msR s wd t = (name s ⟨j2, t.nd⟩).then fun y => .ok (⟨2, wd, y.1⟩, y.2) := by unfold msR; simp only [e, if_true, St.go]
theorem msR_2 {s wd : ByteArray} {j2 j3 : Nat} {t : St} (e : eat s ⟨#[33, 61]⟩ t.at_ = (false, j2)) (e3 : eat s ⟨#[61]⟩ j2 = (true, j3)) : msR s wd t = (name s ⟨j3, t.nd⟩).then fun y => .ok (⟨1, wd, y.1⟩, y.2) := by unfold msR; simp only [e, e3, if_true, if_false, Bool.false_eq_true, St.go]
theorem msR_3 {s wd : ByteArray} {j2 j3 : Nat} {t : St} (e : eat s ⟨#[33, 61]⟩ t.at_ = (false, j2)) (e3 : eat s ⟨#[61]⟩ j2 = (false, j3)) : msR s wd t = .ok (⟨3, wd, ⟨#[]⟩⟩, ⟨j3, t.nd⟩) := by unfold msR; simp only [e, e3, if_false, Bool.false_eq_true, St.go]
end Pz
end Go.Proofs.YtffpglgboaigfaaDoor
