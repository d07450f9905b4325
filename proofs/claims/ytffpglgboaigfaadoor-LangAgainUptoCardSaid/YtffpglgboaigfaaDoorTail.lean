/-
  A region that draws its order: what comes first only reads, or calls what leaves all that was there as it was; what comes last waits for all of that, one behind the other. One walk in the text's order serves every order.
  (The turn of the library's law on a region with a tail, Derived/StillTail, from one world to a class of worlds.)
-/
import Derived.Test.YtffpglgboaigfaaDoorMem
import Derived.StillTail
namespace Go.Proofs.YtffpglgboaigfaaDoor
namespace Ex

section
variable {P : Program} {ops : Array Oper} {md : Region.Mode} {C : World → Prop}

def wpAnyH (P : Program) (md : Region.Mode) (ops : Array Oper) (C : World → Prop) (n : Nat) (L : Array Bool → Act → Prop) : Nat → Array Bool → Act → Prop
  | 0, listed, a => L listed a
  | f + 1, listed, a =>
    Region.ready md ops listed ≠ [] ∧ ∀ i ∈ Region.ready md ops listed, i < n ∧ qOp P ops C i (wpAnyH P md ops C n L f (listed.setIfInBounds i true)) a

theorem wpAny_of_headH {n g : Nat} {L : Array Bool → Act → Prop} {Q' : Exit → Act → World → Prop} (hL : ∀ listed a w, C w → L listed a → wpAny P md ops Q' g listed a w) :
    ∀ (f : Nat) (listed : Array Bool) (a : Act) (w : World), C w → wpAnyH P md ops C n L f listed a → wpAny P md ops Q' (f + g) listed a w
  | 0, listed, a, w, hw, h => by rw [Nat.zero_add]; exact hL _ _ _ hw h
  | f + 1, listed, a, w, hw, h => by
    rw [show f + 1 + g = (f + g) + 1 by omega]
    exact ⟨fun h0 => absurd h0 h.1, fun i hi => wpOp_of_qOp hw (fun a' w' hw' h' => wpAny_of_headH hL f _ a' w' hw' h') (h.2 i hi).2⟩

theorem wpAnyH_first {n i : Nat} {oi : Oper} {v : Value} {L : Array Bool → Act → Prop} (hi : ops[i]? = some oi) (hsel : ∀ (j : Nat) (o : Oper) cs b, ops[j]? = some o → o.op ≠ .select cs b)
    (hs : Region.sinkB md ops n = true) (hc : Region.chainB md ops n = true) (hn : n < ops.size) (hin : i < n)
    (hdone : ∀ listed a, L listed a → ∀ j ∈ Region.ready md ops listed, n ≤ j) :
    ∀ (f : Nat) (listed : Array Bool) (a : Act), HeadInv md ops n listed →
      (∀ j oj, ops[j]? = some oj → j ≠ i → listed.getD j true = false → (∀ e ∈ oj.after, Region.binds md e = true → e.on ≠ i) → oi.apart ops oj = true) →
      i ∈ Region.ready md ops listed → YieldsIn P ops C oi v a →
      wpAnyH P md ops C n L f (listed.setIfInBounds i true) (a.put oi.dst v) → wpAnyH P md ops C n L (f + 1) listed a := by
  intro f
  induction f with
  | zero =>
    intro listed a inv _ hr hy H
    have hun := (mem_ready.1 hr).1
    refine ⟨fun h => (by rw [h] at hr; cases hr), fun j hj => ?_⟩
    have hjn : j < n := by
      rcases Nat.lt_or_ge j n with h | h
      · exact h
      · exact absurd hj (tail_waits hs hc hn inv _ i rfl hin hun j h)
    refine ⟨hjn, ?_⟩
    by_cases hji : j = i
    · subst hji; exact hy.qOp hi H
    · have := hdone _ _ H j (ready_mono hj hji)
      omega
  | succ f ih =>
    intro listed a inv hfree hr hy H
    have hun := (mem_ready.1 hr).1
    refine ⟨fun h => (by rw [h] at hr; cases hr), fun j hj => ?_⟩
    have hjn : j < n := by
      rcases Nat.lt_or_ge j n with h | h
      · exact h
      · exact absurd hj (tail_waits hs hc hn inv _ i rfl hin hun j h)
    refine ⟨hjn, ?_⟩
    by_cases hji : j = i
    · subst hji; exact hy.qOp hi H
    · have h1 := (H.2 j (ready_mono hj hji)).2
      obtain ⟨hjun, oj, hoj, hall⟩ := mem_ready.1 hj
      have hnot : ∀ e ∈ oj.after, Region.binds md e = true → e.on ≠ i := fun e he hb heq => by
        have h1 := hall e he hb
        rw [heq, getD_both hun] at h1
        cases h1
      have h2 := qOp_put hoj (hfree j oj hoj hji hjun hnot) (fun cs b => hsel i oi cs b hi) (fun cs b => hsel j oj cs b hoj) hy h1
      have hfree' : ∀ k ok, ops[k]? = some ok → k ≠ i → (listed.setIfInBounds j true).getD k true = false →
          (∀ e ∈ ok.after, Region.binds md e = true → e.on ≠ i) → oi.apart ops ok = true := fun k ok hk hki hun hno => by
        refine hfree k ok hk hki ?_ hno
        by_cases hjk : j = k
        · subst hjk; exact hjun
        · rw [getD_set_ne true hjk] at hun; exact hun
      refine qOp_mono (fun a' h3 => ih (listed.setIfInBounds j true) a' (inv.set hj hjn) hfree' (ready_mono hr (Ne.symm hji)) h3.1 ?_) h2
      rw [Array.setIfInBounds_comm _ _ hji]
      exact h3.2

theorem wpAnyH_lex {n g : Nat} {Lq : Act → Prop} (hsel : Region.noSelect ops = true) (hs : Region.sinkB md ops n = true) (hc : Region.chainB md ops n = true) (hn : n < ops.size) :
    ∀ (l : List Oper) (k : Nat) (listed : Array Bool) (a : Act), (∀ j, j < l.length → l[j]? = ops[k + j]?) → k + l.length = n → HeadInv md ops n listed →
    Region.lexHead md ops g l.length k listed = true → wpQuiet P ops C Lq l a →
    wpAnyH P md ops C n (fun listed' a' => Region.seqB md ops g n listed' = true ∧ Lq a') l.length listed a
  | [], k, listed, a, _, hk, _, hB, h => by
    have : k = n := by simpa using hk
    subst this
    exact ⟨by simpa [Region.lexHead] using hB, h⟩
  | o :: l, k, listed, a, hl, hk, inv, hB, h => by
    have h0 : ops[k]? = some o := by simpa using (hl 0 (by simp)).symm
    simp only [List.length_cons, Region.lexHead, Bool.and_eq_true] at hB
    obtain ⟨⟨hr, hf⟩, hB'⟩ := hB
    have hkn : k < n := by simp only [List.length_cons] at hk; omega
    have hr' : k ∈ Region.ready md ops listed := by simpa using hr
    have hst : qOp P ops C k (wpQuiet P ops C Lq l) a := by unfold qOp; simp only [h0]; exact h
    obtain ⟨v, hy, hK⟩ := yieldsIn_of_qOp h0 hst
    exact wpAnyH_first h0 (Region.noSelect_spec hsel) hs hc hn hkn (fun listed' a' hL => seqB_ready hL.1) l.length listed a inv (Region.free_spec h0 hf) hr' hy
      (wpAnyH_lex hsel hs hc hn l (k + 1) _ _ (fun j hj => by have := hl (j + 1) (by simp; omega); simpa [Nat.add_assoc, Nat.add_comm 1 j] using this) (by simp only [List.length_cons] at hk; omega) (inv.set hr' hkn) hB' hK)

theorem wp_region_quiet_tail {id : Nat} {Q : Exit → Act → World → Prop} {a : Act} {w : World} {l : List Oper} (n : Nat) (hm : P.follows .mixedOrders = true) (hB : Region.lexTailB .any l.toArray n = true) (hC : C { w with drawn := w.drawn + 1 })
    (h : wpQuiet P l.toArray C (fun a' => ∀ w', C w' → wpList P l.toArray Q (l.drop n) a' w') (l.take n) a) : (Code.region id l.toArray true).wp P Q a w := by
  simp only [Region.lexTailB, Bool.and_eq_true, decide_eq_true_eq] at hB
  obtain ⟨⟨⟨⟨hsel, hn⟩, hs⟩, hc⟩, hlex⟩ := hB
  have hn' : n < l.length := by simpa using hn
  have htl : (l.take n).length = n := by simp; omega
  have hdl : (l.drop n).length = l.toArray.size - n := by simp
  have inv0 : HeadInv .any l.toArray n (Array.replicate l.toArray.size false) :=
    ⟨by simp, fun j oj _ hl => (by rw [getD_replicate_false] at hl; cases hl), fun t _ ht => getD_in (by simpa using ht) (getD_replicate_false _ _)⟩
  have H := wpAnyH_lex (md := .any) (g := l.toArray.size - n) hsel hs hc hn (l.take n) 0 _ a (fun j hj => by
    have hj' : j < n := by rw [htl] at hj; exact hj
    simp [hj']) (by simpa using htl) inv0 (by rw [htl]; exact hlex) h
  refine wp_region_any hm ?_
  have := wpAny_of_headH (Q' := Q) (g := l.toArray.size - n) (fun listed a' w' hw' hL => by
    have := wpAny_of_seq (md := .any) (Q' := Q) (l.drop n) n listed a' w' (fun j => by simp [List.getElem?_drop]) (by rw [hdl]; exact hL.1) (hL.2 w' hw')
    rwa [hdl] at this) _ _ _ _ hC H
  rw [htl, show n + (l.toArray.size - n) = l.toArray.size by omega] at this
  exact this
end

/-- the head of a region with a tail: its walk ends where the tail begins -/
theorem c_quietT {P : Program} {N : Nat} {D : List Deferred} {E : Env} {S : World → Prop} {Q : Exit → Act → World → Prop} {id : Nat} {l : List Oper} (n : Nat) (hm : P.follows .mixedOrders = true) (hB : Region.lexTailB .any l.toArray n = true) (hd : ∀ w, S w → S w.drew)
    (h : ∀ K : Act → World → Prop, (∀ E S', WL P N D l.toArray Q (l.drop n) E S' → ∀ w, S' w → ∀ a, Has N D a E → K a w) → WQ P N D l.toArray K (l.take n) E S) : WC P N D (.region id l.toArray true) Q E S :=
  fun w hw a ha => wp_region_quiet_tail (C := S) n hm hB (hd w hw) (h (fun a w => wpList P l.toArray Q (l.drop n) a w) (fun _ _ h' w' hw' a' ha' => h' w' hw' a' ha') a ha)
theorem q_tail {P : Program} {N : Nat} {D : List Deferred} {E : Env} {S : World → Prop} {Q : Exit → Act → World → Prop} {ops : Array Oper} {K : Act → World → Prop} {l : List Oper} (hK : ∀ E S', WL P N D ops Q l E S' → ∀ w, S' w → ∀ a, Has N D a E → K a w) (h : WL P N D ops Q l E S) : WQ P N D ops K [] E S :=
  q_nil fun w hw a ha => hK E S h w hw a ha

/-! ## Loops over one to four things -/
section
variable {P : Program} {N : Nat} {D : List Deferred} {E : Env} {S : World → Prop} {Q : Exit → Act → World → Prop} {w0 : World} {M : Fp} {c : Code} {α β γ δ : Type}
def LQ1 (N : Nat) (D : List Deferred) (w0 : World) (M : Fp) (env : α → Env) (Lf : α → List Own) (inv : α → Prop) (μ : α → Nat) (m : Nat) (Q : Exit → Act → World → Prop) : Exit → Act → World → Prop :=
  Exit.then (fun a' w' => ∃ s', Has N D a' (env s') ∧ (inv s' ∧ Mem w0 M (Lf s') w') ∧ μ s' < m) Q
theorem c_loop1 (env : α → Env) (Lf : α → List Own) (inv : α → Prop) (μ : α → Nat) (a0 : α) (he : subB E (env a0)) (hm : ∀ w, S w → Mem w0 M (Lf a0) w) (hi : inv a0)
    (round : ∀ a, inv a → WC P N D c (LQ1 N D w0 M env Lf inv μ (μ a) Q) (env a) (Mem w0 M (Lf a))) : WC P N D (.loop c) Q E S :=
  c_loop env (fun s w => inv s ∧ Mem w0 M (Lf s) w) μ a0 he (fun w hw => ⟨hi, hm w hw⟩) fun s w hw => round s hw.1 w hw.2
theorem e_round1 {env : α → Env} {Lf : α → List Own} {inv : α → Prop} {μ : α → Nat} {m : Nat} (s' : α) (he : subB E (env s')) (hm : ∀ w, S w → Mem w0 M (Lf s') w) (hi : inv s') (hμ : μ s' < m) :
    WE N D (LQ1 N D w0 M env Lf inv μ m Q) .normal E S := fun w hw _ ha => ⟨s', ha.less he.all, ⟨hi, hm w hw⟩, hμ⟩
theorem e_loop1_x {env : α → Env} {Lf : α → List Own} {inv : α → Prop} {μ : α → Nat} {m id : Nat} (h : WE N D Q (.exit id) E S) : WE N D (LQ1 N D w0 M env Lf inv μ m Q) (.exit id) E S := h
theorem e_loop1_r {env : α → Env} {Lf : α → List Own} {inv : α → Prop} {μ : α → Nat} {m : Nat} (h : WE N D Q .ret E S) : WE N D (LQ1 N D w0 M env Lf inv μ m Q) .ret E S := h
def LQ2 (N : Nat) (D : List Deferred) (w0 : World) (M : Fp) (env : α → β → Env) (Lf : α → β → List Own) (inv : α → β → Prop) (μ : α → β → Nat) (m : Nat) (Q : Exit → Act → World → Prop) : Exit → Act → World → Prop :=
  LQ1 N D w0 M (fun s : α × β => env s.1 s.2) (fun s => Lf s.1 s.2) (fun s => inv s.1 s.2) (fun s => μ s.1 s.2) m Q
theorem c_loop2 (env : α → β → Env) (Lf : α → β → List Own) (inv : α → β → Prop) (μ : α → β → Nat) (a0 : α) (b0 : β) (he : subB E (env a0 b0)) (hm : ∀ w, S w → Mem w0 M (Lf a0 b0) w) (hi : inv a0 b0)
    (round : ∀ a b, inv a b → WC P N D c (LQ2 N D w0 M env Lf inv μ (μ a b) Q) (env a b) (Mem w0 M (Lf a b))) : WC P N D (.loop c) Q E S :=
  c_loop1 (fun s : α × β => env s.1 s.2) (fun s => Lf s.1 s.2) (fun s => inv s.1 s.2) (fun s => μ s.1 s.2) (a0, b0) he hm hi fun s hs => round s.1 s.2 hs
theorem e_round2 {env : α → β → Env} {Lf : α → β → List Own} {inv : α → β → Prop} {μ : α → β → Nat} {m : Nat} (a' : α) (b' : β) (he : subB E (env a' b')) (hm : ∀ w, S w → Mem w0 M (Lf a' b') w) (hi : inv a' b') (hμ : μ a' b' < m) :
    WE N D (LQ2 N D w0 M env Lf inv μ m Q) .normal E S := fun w hw _ ha => ⟨(a', b'), ha.less he.all, ⟨hi, hm w hw⟩, hμ⟩
theorem e_loop2_x {env : α → β → Env} {Lf : α → β → List Own} {inv : α → β → Prop} {μ : α → β → Nat} {m id : Nat} (h : WE N D Q (.exit id) E S) : WE N D (LQ2 N D w0 M env Lf inv μ m Q) (.exit id) E S := h
theorem e_loop2_r {env : α → β → Env} {Lf : α → β → List Own} {inv : α → β → Prop} {μ : α → β → Nat} {m : Nat} (h : WE N D Q .ret E S) : WE N D (LQ2 N D w0 M env Lf inv μ m Q) .ret E S := h
def LQ3 (N : Nat) (D : List Deferred) (w0 : World) (M : Fp) (env : α → β → γ → Env) (Lf : α → β → γ → List Own) (inv : α → β → γ → Prop) (μ : α → β → γ → Nat) (m : Nat) (Q : Exit → Act → World → Prop) : Exit → Act → World → Prop :=
  LQ1 N D w0 M (fun s : α × β × γ => env s.1 s.2.1 s.2.2) (fun s => Lf s.1 s.2.1 s.2.2) (fun s => inv s.1 s.2.1 s.2.2) (fun s => μ s.1 s.2.1 s.2.2) m Q
theorem c_loop3 (env : α → β → γ → Env) (Lf : α → β → γ → List Own) (inv : α → β → γ → Prop) (μ : α → β → γ → Nat) (a0 : α) (b0 : β) (c0 : γ) (he : subB E (env a0 b0 c0)) (hm : ∀ w, S w → Mem w0 M (Lf a0 b0 c0) w) (hi : inv a0 b0 c0)
    (round : ∀ a b g, inv a b g → WC P N D c (LQ3 N D w0 M env Lf inv μ (μ a b g) Q) (env a b g) (Mem w0 M (Lf a b g))) : WC P N D (.loop c) Q E S :=
  c_loop1 (fun s : α × β × γ => env s.1 s.2.1 s.2.2) (fun s => Lf s.1 s.2.1 s.2.2) (fun s => inv s.1 s.2.1 s.2.2) (fun s => μ s.1 s.2.1 s.2.2) (a0, b0, c0) he hm hi fun s hs => round s.1 s.2.1 s.2.2 hs
theorem e_round3 {env : α → β → γ → Env} {Lf : α → β → γ → List Own} {inv : α → β → γ → Prop} {μ : α → β → γ → Nat} {m : Nat} (a' : α) (b' : β) (c' : γ) (he : subB E (env a' b' c')) (hm : ∀ w, S w → Mem w0 M (Lf a' b' c') w) (hi : inv a' b' c') (hμ : μ a' b' c' < m) :
    WE N D (LQ3 N D w0 M env Lf inv μ m Q) .normal E S := fun w hw _ ha => ⟨(a', b', c'), ha.less he.all, ⟨hi, hm w hw⟩, hμ⟩
theorem e_loop3_x {env : α → β → γ → Env} {Lf : α → β → γ → List Own} {inv : α → β → γ → Prop} {μ : α → β → γ → Nat} {m id : Nat} (h : WE N D Q (.exit id) E S) : WE N D (LQ3 N D w0 M env Lf inv μ m Q) (.exit id) E S := h
theorem e_loop3_r {env : α → β → γ → Env} {Lf : α → β → γ → List Own} {inv : α → β → γ → Prop} {μ : α → β → γ → Nat} {m : Nat} (h : WE N D Q .ret E S) : WE N D (LQ3 N D w0 M env Lf inv μ m Q) .ret E S := h
def LQ4 (N : Nat) (D : List Deferred) (w0 : World) (M : Fp) (env : α → β → γ → δ → Env) (Lf : α → β → γ → δ → List Own) (inv : α → β → γ → δ → Prop) (μ : α → β → γ → δ → Nat) (m : Nat) (Q : Exit → Act → World → Prop) : Exit → Act → World → Prop :=
  LQ1 N D w0 M (fun s : α × β × γ × δ => env s.1 s.2.1 s.2.2.1 s.2.2.2) (fun s => Lf s.1 s.2.1 s.2.2.1 s.2.2.2) (fun s => inv s.1 s.2.1 s.2.2.1 s.2.2.2) (fun s => μ s.1 s.2.1 s.2.2.1 s.2.2.2) m Q
theorem c_loop4 (env : α → β → γ → δ → Env) (Lf : α → β → γ → δ → List Own) (inv : α → β → γ → δ → Prop) (μ : α → β → γ → δ → Nat) (a0 : α) (b0 : β) (c0 : γ) (d0 : δ) (he : subB E (env a0 b0 c0 d0)) (hm : ∀ w, S w → Mem w0 M (Lf a0 b0 c0 d0) w) (hi : inv a0 b0 c0 d0)
    (round : ∀ a b g d, inv a b g d → WC P N D c (LQ4 N D w0 M env Lf inv μ (μ a b g d) Q) (env a b g d) (Mem w0 M (Lf a b g d))) : WC P N D (.loop c) Q E S :=
  c_loop1 (fun s : α × β × γ × δ => env s.1 s.2.1 s.2.2.1 s.2.2.2) (fun s => Lf s.1 s.2.1 s.2.2.1 s.2.2.2) (fun s => inv s.1 s.2.1 s.2.2.1 s.2.2.2) (fun s => μ s.1 s.2.1 s.2.2.1 s.2.2.2) (a0, b0, c0, d0) he hm hi fun s hs => round s.1 s.2.1 s.2.2.1 s.2.2.2 hs
theorem e_round4 {env : α → β → γ → δ → Env} {Lf : α → β → γ → δ → List Own} {inv : α → β → γ → δ → Prop} {μ : α → β → γ → δ → Nat} {m : Nat} (a' : α) (b' : β) (c' : γ) (d' : δ) (he : subB E (env a' b' c' d')) (hm : ∀ w, S w → Mem w0 M (Lf a' b' c' d') w) (hi : inv a' b' c' d') (hμ : μ a' b' c' d' < m) :
    WE N D (LQ4 N D w0 M env Lf inv μ m Q) .normal E S := fun w hw _ ha => ⟨(a', b', c', d'), ha.less he.all, ⟨hi, hm w hw⟩, hμ⟩
theorem e_loop4_x {env : α → β → γ → δ → Env} {Lf : α → β → γ → δ → List Own} {inv : α → β → γ → δ → Prop} {μ : α → β → γ → δ → Nat} {m id : Nat} (h : WE N D Q (.exit id) E S) : WE N D (LQ4 N D w0 M env Lf inv μ m Q) (.exit id) E S := h
theorem e_loop4_r {env : α → β → γ → δ → Env} {Lf : α → β → γ → δ → List Own} {inv : α → β → γ → δ → Prop} {μ : α → β → γ → δ → Nat} {m : Nat} (h : WE N D Q .ret E S) : WE N D (LQ4 N D w0 M env Lf inv μ m Q) .ret E S := h
def LQ5 {α β γ δ ε : Type} (N : Nat) (D : List Deferred) (w0 : World) (M : Fp) (env : α → β → γ → δ → ε → Env) (Lf : α → β → γ → δ → ε → List Own) (inv : α → β → γ → δ → ε → Prop) (μ : α → β → γ → δ → ε → Nat) (m : Nat) (Q : Exit → Act → World → Prop) : Exit → Act → World → Prop :=
  LQ1 N D w0 M (fun s : α × β × γ × δ × ε => env s.1 s.2.1 s.2.2.1 s.2.2.2.1 s.2.2.2.2) (fun s => Lf s.1 s.2.1 s.2.2.1 s.2.2.2.1 s.2.2.2.2) (fun s => inv s.1 s.2.1 s.2.2.1 s.2.2.2.1 s.2.2.2.2) (fun s => μ s.1 s.2.1 s.2.2.1 s.2.2.2.1 s.2.2.2.2) m Q
theorem c_loop5 {α β γ δ ε : Type} (env : α → β → γ → δ → ε → Env) (Lf : α → β → γ → δ → ε → List Own) (inv : α → β → γ → δ → ε → Prop) (μ : α → β → γ → δ → ε → Nat) (a0 : α) (b0 : β) (g0 : γ) (d0 : δ) (e0 : ε) (he : subB E (env a0 b0 g0 d0 e0)) (hm : ∀ w, S w → Mem w0 M (Lf a0 b0 g0 d0 e0) w) (hi : inv a0 b0 g0 d0 e0)
    (round : ∀ a b g d e, inv a b g d e → WC P N D c (LQ5 N D w0 M env Lf inv μ (μ a b g d e) Q) (env a b g d e) (Mem w0 M (Lf a b g d e))) : WC P N D (.loop c) Q E S :=
  c_loop1 (fun s : α × β × γ × δ × ε => env s.1 s.2.1 s.2.2.1 s.2.2.2.1 s.2.2.2.2) (fun s => Lf s.1 s.2.1 s.2.2.1 s.2.2.2.1 s.2.2.2.2) (fun s => inv s.1 s.2.1 s.2.2.1 s.2.2.2.1 s.2.2.2.2) (fun s => μ s.1 s.2.1 s.2.2.1 s.2.2.2.1 s.2.2.2.2) (a0, b0, g0, d0, e0) he hm hi fun s hs => round s.1 s.2.1 s.2.2.1 s.2.2.2.1 s.2.2.2.2 hs
theorem e_round5 {α β γ δ ε : Type} {env : α → β → γ → δ → ε → Env} {Lf : α → β → γ → δ → ε → List Own} {inv : α → β → γ → δ → ε → Prop} {μ : α → β → γ → δ → ε → Nat} {m : Nat} (a' : α) (b' : β) (g' : γ) (d' : δ) (e' : ε) (he : subB E (env a' b' g' d' e')) (hm : ∀ w, S w → Mem w0 M (Lf a' b' g' d' e') w) (hi : inv a' b' g' d' e') (hμ : μ a' b' g' d' e' < m) :
    WE N D (LQ5 N D w0 M env Lf inv μ m Q) .normal E S := fun w hw _ ha => ⟨(a', b', g', d', e'), ha.less he.all, ⟨hi, hm w hw⟩, hμ⟩
theorem e_loop5_x {α β γ δ ε : Type} {env : α → β → γ → δ → ε → Env} {Lf : α → β → γ → δ → ε → List Own} {inv : α → β → γ → δ → ε → Prop} {μ : α → β → γ → δ → ε → Nat} {m id : Nat} (h : WE N D Q (.exit id) E S) : WE N D (LQ5 N D w0 M env Lf inv μ m Q) (.exit id) E S := h
theorem e_loop5_r {α β γ δ ε : Type} {env : α → β → γ → δ → ε → Env} {Lf : α → β → γ → δ → ε → List Own} {inv : α → β → γ → δ → ε → Prop} {μ : α → β → γ → δ → ε → Nat} {m : Nat} (h : WE N D Q .ret E S) : WE N D (LQ5 N D w0 M env Lf inv μ m Q) .ret E S := h
def LQ6 {α β γ δ ε ζ : Type} (N : Nat) (D : List Deferred) (w0 : World) (M : Fp) (env : α → β → γ → δ → ε → ζ → Env) (Lf : α → β → γ → δ → ε → ζ → List Own) (inv : α → β → γ → δ → ε → ζ → Prop) (μ : α → β → γ → δ → ε → ζ → Nat) (m : Nat) (Q : Exit → Act → World → Prop) : Exit → Act → World → Prop :=
  LQ1 N D w0 M (fun s : α × β × γ × δ × ε × ζ => env s.1 s.2.1 s.2.2.1 s.2.2.2.1 s.2.2.2.2.1 s.2.2.2.2.2) (fun s => Lf s.1 s.2.1 s.2.2.1 s.2.2.2.1 s.2.2.2.2.1 s.2.2.2.2.2) (fun s => inv s.1 s.2.1 s.2.2.1 s.2.2.2.1 s.2.2.2.2.1 s.2.2.2.2.2) (fun s => μ s.1 s.2.1 s.2.2.1 s.2.2.2.1 s.2.2.2.2.1 s.2.2.2.2.2) m Q
theorem c_loop6 {α β γ δ ε ζ : Type} (env : α → β → γ → δ → ε → ζ → Env) (Lf : α → β → γ → δ → ε → ζ → List Own) (inv : α → β → γ → δ → ε → ζ → Prop) (μ : α → β → γ → δ → ε → ζ → Nat) (a0 : α) (b0 : β) (g0 : γ) (d0 : δ) (e0 : ε) (f0 : ζ) (he : subB E (env a0 b0 g0 d0 e0 f0)) (hm : ∀ w, S w → Mem w0 M (Lf a0 b0 g0 d0 e0 f0) w) (hi : inv a0 b0 g0 d0 e0 f0)
    (round : ∀ a b g d e f, inv a b g d e f → WC P N D c (LQ6 N D w0 M env Lf inv μ (μ a b g d e f) Q) (env a b g d e f) (Mem w0 M (Lf a b g d e f))) : WC P N D (.loop c) Q E S :=
  c_loop1 (fun s : α × β × γ × δ × ε × ζ => env s.1 s.2.1 s.2.2.1 s.2.2.2.1 s.2.2.2.2.1 s.2.2.2.2.2) (fun s => Lf s.1 s.2.1 s.2.2.1 s.2.2.2.1 s.2.2.2.2.1 s.2.2.2.2.2) (fun s => inv s.1 s.2.1 s.2.2.1 s.2.2.2.1 s.2.2.2.2.1 s.2.2.2.2.2) (fun s => μ s.1 s.2.1 s.2.2.1 s.2.2.2.1 s.2.2.2.2.1 s.2.2.2.2.2) (a0, b0, g0, d0, e0, f0) he hm hi fun s hs => round s.1 s.2.1 s.2.2.1 s.2.2.2.1 s.2.2.2.2.1 s.2.2.2.2.2 hs
theorem e_round6 {α β γ δ ε ζ : Type} {env : α → β → γ → δ → ε → ζ → Env} {Lf : α → β → γ → δ → ε → ζ → List Own} {inv : α → β → γ → δ → ε → ζ → Prop} {μ : α → β → γ → δ → ε → ζ → Nat} {m : Nat} (a' : α) (b' : β) (g' : γ) (d' : δ) (e' : ε) (f' : ζ) (he : subB E (env a' b' g' d' e' f')) (hm : ∀ w, S w → Mem w0 M (Lf a' b' g' d' e' f') w) (hi : inv a' b' g' d' e' f') (hμ : μ a' b' g' d' e' f' < m) :
    WE N D (LQ6 N D w0 M env Lf inv μ m Q) .normal E S := fun w hw _ ha => ⟨(a', b', g', d', e', f'), ha.less he.all, ⟨hi, hm w hw⟩, hμ⟩
theorem e_loop6_x {α β γ δ ε ζ : Type} {env : α → β → γ → δ → ε → ζ → Env} {Lf : α → β → γ → δ → ε → ζ → List Own} {inv : α → β → γ → δ → ε → ζ → Prop} {μ : α → β → γ → δ → ε → ζ → Nat} {m id : Nat} (h : WE N D Q (.exit id) E S) : WE N D (LQ6 N D w0 M env Lf inv μ m Q) (.exit id) E S := h
theorem e_loop6_r {α β γ δ ε ζ : Type} {env : α → β → γ → δ → ε → ζ → Env} {Lf : α → β → γ → δ → ε → ζ → List Own} {inv : α → β → γ → δ → ε → ζ → Prop} {μ : α → β → γ → δ → ε → ζ → Nat} {m : Nat} (h : WE N D Q .ret E S) : WE N D (LQ6 N D w0 M env Lf inv μ m Q) .ret E S := h
def LQ7 {α β γ δ ε ζ η : Type} (N : Nat) (D : List Deferred) (w0 : World) (M : Fp) (env : α → β → γ → δ → ε → ζ → η → Env) (Lf : α → β → γ → δ → ε → ζ → η → List Own) (inv : α → β → γ → δ → ε → ζ → η → Prop) (μ : α → β → γ → δ → ε → ζ → η → Nat) (m : Nat) (Q : Exit → Act → World → Prop) : Exit → Act → World → Prop :=
  LQ1 N D w0 M (fun s : α × β × γ × δ × ε × ζ × η => env s.1 s.2.1 s.2.2.1 s.2.2.2.1 s.2.2.2.2.1 s.2.2.2.2.2.1 s.2.2.2.2.2.2) (fun s => Lf s.1 s.2.1 s.2.2.1 s.2.2.2.1 s.2.2.2.2.1 s.2.2.2.2.2.1 s.2.2.2.2.2.2) (fun s => inv s.1 s.2.1 s.2.2.1 s.2.2.2.1 s.2.2.2.2.1 s.2.2.2.2.2.1 s.2.2.2.2.2.2) (fun s => μ s.1 s.2.1 s.2.2.1 s.2.2.2.1 s.2.2.2.2.1 s.2.2.2.2.2.1 s.2.2.2.2.2.2) m Q
theorem c_loop7 {α β γ δ ε ζ η : Type} (env : α → β → γ → δ → ε → ζ → η → Env) (Lf : α → β → γ → δ → ε → ζ → η → List Own) (inv : α → β → γ → δ → ε → ζ → η → Prop) (μ : α → β → γ → δ → ε → ζ → η → Nat) (a0 : α) (b0 : β) (g0 : γ) (d0 : δ) (e0 : ε) (f0 : ζ) (h0 : η) (he : subB E (env a0 b0 g0 d0 e0 f0 h0)) (hm : ∀ w, S w → Mem w0 M (Lf a0 b0 g0 d0 e0 f0 h0) w) (hi : inv a0 b0 g0 d0 e0 f0 h0)
    (round : ∀ a b g d e f h, inv a b g d e f h → WC P N D c (LQ7 N D w0 M env Lf inv μ (μ a b g d e f h) Q) (env a b g d e f h) (Mem w0 M (Lf a b g d e f h))) : WC P N D (.loop c) Q E S :=
  c_loop1 (fun s : α × β × γ × δ × ε × ζ × η => env s.1 s.2.1 s.2.2.1 s.2.2.2.1 s.2.2.2.2.1 s.2.2.2.2.2.1 s.2.2.2.2.2.2) (fun s => Lf s.1 s.2.1 s.2.2.1 s.2.2.2.1 s.2.2.2.2.1 s.2.2.2.2.2.1 s.2.2.2.2.2.2) (fun s => inv s.1 s.2.1 s.2.2.1 s.2.2.2.1 s.2.2.2.2.1 s.2.2.2.2.2.1 s.2.2.2.2.2.2) (fun s => μ s.1 s.2.1 s.2.2.1 s.2.2.2.1 s.2.2.2.2.1 s.2.2.2.2.2.1 s.2.2.2.2.2.2) (a0, b0, g0, d0, e0, f0, h0) he hm hi fun s hs => round s.1 s.2.1 s.2.2.1 s.2.2.2.1 s.2.2.2.2.1 s.2.2.2.2.2.1 s.2.2.2.2.2.2 hs
theorem e_round7 {α β γ δ ε ζ η : Type} {env : α → β → γ → δ → ε → ζ → η → Env} {Lf : α → β → γ → δ → ε → ζ → η → List Own} {inv : α → β → γ → δ → ε → ζ → η → Prop} {μ : α → β → γ → δ → ε → ζ → η → Nat} {m : Nat} (a' : α) (b' : β) (g' : γ) (d' : δ) (e' : ε) (f' : ζ) (h' : η) (he : subB E (env a' b' g' d' e' f' h')) (hm : ∀ w, S w → Mem w0 M (Lf a' b' g' d' e' f' h') w) (hi : inv a' b' g' d' e' f' h') (hμ : μ a' b' g' d' e' f' h' < m) :
    WE N D (LQ7 N D w0 M env Lf inv μ m Q) .normal E S := fun w hw _ ha => ⟨(a', b', g', d', e', f', h'), ha.less he.all, ⟨hi, hm w hw⟩, hμ⟩
theorem e_loop7_x {α β γ δ ε ζ η : Type} {env : α → β → γ → δ → ε → ζ → η → Env} {Lf : α → β → γ → δ → ε → ζ → η → List Own} {inv : α → β → γ → δ → ε → ζ → η → Prop} {μ : α → β → γ → δ → ε → ζ → η → Nat} {m id : Nat} (h : WE N D Q (.exit id) E S) : WE N D (LQ7 N D w0 M env Lf inv μ m Q) (.exit id) E S := h
theorem e_loop7_r {α β γ δ ε ζ η : Type} {env : α → β → γ → δ → ε → ζ → η → Env} {Lf : α → β → γ → δ → ε → ζ → η → List Own} {inv : α → β → γ → δ → ε → ζ → η → Prop} {μ : α → β → γ → δ → ε → ζ → η → Nat} {m : Nat} (h : WE N D Q .ret E S) : WE N D (LQ7 N D w0 M env Lf inv μ m Q) .ret E S := h
end

/-! ## Where ways meet: what a slot holds, said in one form -/
theorem jt {p : Prop} [Decidable p] (h : p) : some (Value.bool true) = some (Value.bool (decide p)) := by simp [h]
theorem jf {p : Prop} [Decidable p] (h : ¬ p) : some (Value.bool false) = some (Value.bool (decide p)) := by simp [h]
theorem jp {p q : Prop} [Decidable p] [Decidable q] (h : p ↔ q) : some (Value.bool (decide p)) = some (Value.bool (decide q)) := by simp [h]
theorem jv {u v : Value} (h : u = v) : some u = some v := by rw [h]
theorem ji {k : IntKind} {m n : Int} (h : m = n) : some (Value.int k m) = some (Value.int k n) := by rw [h]

end Ex
end Go.Proofs.YtffpglgboaigfaaDoor
