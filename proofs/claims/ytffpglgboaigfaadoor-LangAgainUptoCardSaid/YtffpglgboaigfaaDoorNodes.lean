/-
  A region that draws its order and makes memory on the way: what only reads is taken first, in one walk; what writes, or calls, comes up in whichever order it may, and each such order is walked.
-/
import Derived.Test.YtffpglgboaigfaaDoorLists
import Derived.OrdersHeld
namespace Go.Proofs.YtffpglgboaigfaaDoor
namespace Ex

def mk (n : Nat) : List Nat → Array Bool
  | [] => Array.replicate n false
  | i :: is => (mk n is).setIfInBounds i true
/-- an end that goes on, or a panic that hangs on the deferred calls alone -/
def NQ (Q : Exit → Act → World → Prop) : Exit → Act → World → Prop := fun e a w => (e = .normal ∧ Q .normal a w) ∨ ∃ c, e = .panic c ∧ ∀ a' : Act, a'.defers = a.defers → a'.tmps.size = a.tmps.size → Q (.panic c) a' w
theorem NQ.use {Q : Exit → Act → World → Prop} (e : Exit) (a : Act) (w : World) (h : NQ Q e a w) : Q e a w := by
  rcases h with ⟨rfl, h⟩ | ⟨c, rfl, h⟩
  · exact h
  · exact h a rfl rfl
theorem NQ.put {Q : Exit → Act → World → Prop} {d : Option Tmp} {v : Value} (c : List PanicEntry) (a : Act) (w : World) (h : NQ Q (.panic c) (a.put d v) w) : NQ Q (.panic c) a w := by
  rcases h with ⟨h, _⟩ | ⟨c', h, k⟩
  · cases h
  · refine .inr ⟨c', h, fun a' h1 h2 => k a' (h1.trans ?_) (h2.trans ?_)⟩ <;> cases d <;> simp [Act.put]

section
variable {P : Program} {ops : Array Oper} {Q Q' : Exit → Act → World → Prop} {S0 : World → Prop}

theorem upon_monoQ (h : ∀ e a w, Q e a w → Q' e a w) {o : Oper} {a : Act} {K : Act → World → Prop} {r : Result Next} (hh : o.upon P a K Q r) : o.upon P a K Q' r := by
  cases r with
  | ok n w' =>
    cases n <;> simp only [Oper.upon] at hh ⊢ <;>
      first
        | exact hh
        | exact Calls.mono hh (fun e w'' he => by cases e <;> first | exact he | exact h _ _ _ he | exact (by obtain ⟨a, w, hq⟩ := he; exact ⟨a, w, h _ _ _ hq⟩))
  | halt x w' => cases x <;> simp only [Oper.upon] at hh ⊢ <;> first | exact hh | exact h _ _ _ hh
theorem upon_nonnormal {K1 : Exit → Act → World → Prop} {o : Oper} {a : Act} {K : Act → World → Prop} {r : Result Next} (hK : ∀ e a w, K1 e a w → e = .normal) (hh : o.upon P a K K1 r) : o.upon P a K (fun _ _ _ => False) r := by
  cases r with
  | ok n w' =>
    cases n <;> simp only [Oper.upon] at hh ⊢ <;>
      first
        | exact hh
        | exact Calls.mono hh (fun e w'' he => by cases e <;> first | exact he | (exact absurd (hK _ _ _ he) (by simp)) | exact (by obtain ⟨a, w, hq⟩ := he; exact absurd (hK _ _ _ hq) (by simp)))
  | halt x w' => cases x <;> simp only [Oper.upon] at hh ⊢ <;> first | exact hh | exact absurd (hK _ _ _ hh) (by simp)
theorem wpOp_monoQ (h : ∀ e a w, Q e a w → Q' e a w) {i : Nat} {a : Act} {w : World} {K : Act → World → Prop} (hh : wpOp P ops Q i K a w) : wpOp P ops Q' i K a w := by
  unfold wpOp at *
  split
  · simpa [*] using hh
  · rename_i o ho
    simp only [ho] at hh
    split
    · rename_i hw
      simp only [hw, if_true] at hh
      rcases hh with hh | ⟨h1, a, w, hq⟩
      · exact .inl (upon_monoQ h hh)
      · exact .inr ⟨h1, a, w, h _ _ _ hq⟩
    · rename_i hw; simp only [hw] at hh; exact hh
theorem wpAny_monoQ {md : Region.Mode} (h : ∀ e a w, Q e a w → Q' e a w) : ∀ (f : Nat) (listed : Array Bool) (a : Act) (w : World), wpAny P md ops Q f listed a w → wpAny P md ops Q' f listed a w
  | 0, _, _, _, hh => ⟨hh.1, h _ _ _ hh.2⟩
  | f + 1, _, _, _, hh => ⟨fun h0 => h _ _ _ (hh.1 h0), fun i hi => wpOp_mono (fun a' w' h' => wpAny_monoQ h f _ a' w' h') (wpOp_monoQ h (hh.2 i hi))⟩

/-- taken first, one behind the other -/
def pureRun (P : Program) (ops : Array Oper) (S0 : World → Prop) (K : Act → Prop) : List Oper → Act → Prop
  | [], a => K a
  | o :: r, a => ∃ v, YieldsIf P ops S0 o v a ∧ pureRun P ops S0 K r (a.put o.dst v)
def okRun (ops : Array Oper) (n : Nat) : List Nat → List Nat → Bool
  | _, [] => true
  | is, i :: r => (Region.ready .any ops (mk n is)).contains i && Region.free .any ops (mk n is) i && okRun ops n (i :: is) r
theorem held_run {n : Nat} (hs : Region.noSelect ops = true) {f : Nat} {w : World} (hS : S0 w) : ∀ (seq is : List Nat) (l : List Oper) (a : Act), okRun ops n is seq = true → seq.map (fun i => ops[i]?) = l.map some →
    pureRun P ops S0 (fun a' => Go.wpAnyH P .any ops (NQ Q) S0 f (mk n (seq.reverse ++ is)) a' w) l a → Go.wpAnyH P .any ops (NQ Q) S0 (f + seq.length) (mk n is) a w
  | [], is, [], a, _, _, h => by simpa [pureRun] using h
  | [], is, o :: l, a, _, he, _ => by simp at he
  | i :: seq, is, [], a, _, he, _ => by simp at he
  | i :: seq, is, o :: l, a, hB, he, h => by
    simp only [okRun, Bool.and_eq_true] at hB
    simp only [List.map_cons, List.cons.injEq] at he
    obtain ⟨v, hy, hK⟩ := h
    refine Go.wpAnyH_take (fuel := f + seq.length) he.1 hs hB.1.2 hB.1.1 (fun c a w hq => NQ.put c a w hq) hy hS ?_
    refine held_run hs hS seq (i :: is) l _ hB.2 he.2 ?_
    simpa [List.reverse_cons, List.append_assoc] using hK
end

def nthO : List Oper → Nat → Option Oper
  | [], _ => none
  | o :: _, 0 => some o
  | _ :: r, i + 1 => nthO r i
theorem nthO_eq : ∀ (l : List Oper) (i : Nat), nthO l i = l[i]?
  | [], i => by simp [nthO]
  | o :: r, 0 => by simp [nthO]
  | o :: r, i + 1 => by simp [nthO, nthO_eq r i]
def seqOps (l0 : List Oper) : List Nat → Option (List Oper)
  | [] => some []
  | i :: r => match nthO l0 i, seqOps l0 r with
    | some o, some t => some (o :: t)
    | _, _ => none
theorem seqOps_eq (l0 : List Oper) : ∀ (seq : List Nat) (l : List Oper), seqOps l0 seq = some l → seq.map (fun i => l0.toArray[i]?) = l.map some
  | [], l, h => by simp [seqOps] at h; subst h; rfl
  | i :: r, l, h => by
    unfold seqOps at h
    split at h
    · rename_i o t h1 h2
      obtain rfl : o :: t = l := by simpa using h
      rw [nthO_eq] at h1
      simp only [List.map_cons, seqOps_eq l0 r t h2]
      simp [h1]
    · cases h

/-- what is left of a region, whatever order is picked -/
def WN (P : Program) (N : Nat) (D : List Deferred) (ops : Array Oper) (n : Nat) (Q : Exit → Act → World → Prop) (S0 : World → Prop) (f : Nat) (is : List Nat) (E : Env) (S : World → Prop) : Prop :=
  ∀ w, S w → ∀ a, Has N D a E → Go.wpAnyH P .any ops (NQ Q) S0 f (mk n is) a w
/-- what is taken first -/
def WS (P : Program) (N : Nat) (D : List Deferred) (ops : Array Oper) (S0 : World → Prop) (K : Act → Prop) (l : List Oper) (E : Env) : Prop := ∀ a, Has N D a E → pureRun P ops S0 K l a

section
variable {P : Program} {N n : Nat} {D : List Deferred} {E : Env} {S S0 : World → Prop} {Q : Exit → Act → World → Prop} {ops : Array Oper} {K : Act → Prop} {f F : Nat} {is : List Nat}
  {rest : List Oper} {d : Nat} {dst : Option Tmp} {op : Op} {ty : TypeId} {pos : String} {aft : Array Edge} {g : Option (Nat × Bool)} {v u : Value}

theorem c_nodes {id : Nat} {l : List Oper} (S0 : World → Prop) (hm : P.follows .mixedOrders = true) (hd : ∀ w, S w → S w.drew) (hn : l.length = n)
    (h : WN P N D l.toArray n Q S0 n [] E S) : WC P N D (.region id l.toArray true) Q E S := fun w hw a ha => by
  subst hn
  refine wp_region_any hm (wpAny_monoQ (Q := NQ Q) NQ.use _ _ _ _ (wpAny_of_held (S := S0) _ _ _ _ ?_))
  have := h _ (hd w hw) a ha
  simpa [mk] using this
theorem n_run {l0 l : List Oper} (seq : List Nat) (hl : seqOps l0 seq = some l) (hf : F = f + seq.length) (hs : Region.noSelect l0.toArray = true) (hB : okRun l0.toArray n is seq = true) (hS0 : ∀ w, S w → S0 w)
    (h : ∀ K : Act → Prop, (∀ E', WN P N D l0.toArray n Q S0 f (seq.reverse ++ is) E' S → ∀ a, Has N D a E' → K a) → WS P N D l0.toArray S0 K l E) : WN P N D l0.toArray n Q S0 F is E S := fun w hw a ha => by
  subst hf
  exact held_run hs (hS0 w hw) seq is l a hB (seqOps_eq l0 seq l hl) (h _ (fun E' h' a' ha' => h' w hw a' ha') a ha)
theorem s_end (hK : ∀ E', WN P N D ops n Q S0 f is E' S → ∀ a, Has N D a E' → K a) (h : WN P N D ops n Q S0 f is E S) : WS P N D ops S0 K [] E := fun a ha => hK E h a ha
theorem s_val (hw : Want N D ops E g true) (hr : Runs P N D E S0 op ty v) (hd : Nat.blt d N = true) (h : WS P N D ops S0 K rest ((d, v) :: E)) : WS P N D ops S0 K (⟨some d, op, ty, pos, aft, g⟩ :: rest) E := fun a ha =>
  ⟨v, .inl ⟨hw _ rfl a ha, fun w hS => hr _ rfl rfl a w ha hS⟩, h _ (ha.put v hd)⟩
theorem s_skip (hw : Want N D ops E g false) (hd : Nat.blt d N = true) (h : WS P N D ops S0 K rest ((d, undef) :: E)) : WS P N D ops S0 K (⟨some d, op, ty, pos, aft, g⟩ :: rest) E := fun a ha =>
  ⟨undef, .inr ⟨hw _ rfl a ha, rfl⟩, h _ (ha.put undef hd)⟩
section
variable {t : Nat} {p : Prop} [Decidable p] {l : List Oper} {b : Bool}
theorem s_litt (hl : look E t = some (.bool (decide p))) (hp : p) (h : WS P N D ops S0 K l ((t, .bool true) :: E)) : WS P N D ops S0 K l E := fun a ha => h a (over hl (by simp [hp]) ha)
theorem s_litf (hl : look E t = some (.bool (decide p))) (hp : ¬ p) (h : WS P N D ops S0 K l ((t, .bool false) :: E)) : WS P N D ops S0 K l E := fun a ha => h a (over hl (by simp [hp]) ha)
theorem s_case (hl : look E t = some (.bool (decide p))) (h1 : p → WS P N D ops S0 K l ((t, .bool true) :: E)) (h2 : ¬ p → WS P N D ops S0 K l ((t, .bool false) :: E)) : WS P N D ops S0 K l E := by
  by_cases hp : p
  · exact s_litt hl hp (h1 hp)
  · exact s_litf hl hp (h2 hp)
end
theorem s_littb {t : Nat} {b : Bool} {l : List Oper} (hl : look E t = some (.bool b)) (hb : b = true) (h : WS P N D ops S0 K l ((t, .bool true) :: E)) : WS P N D ops S0 K l E := fun a ha => h a (over hl (by simp [hb]) ha)
theorem s_litfb {t : Nat} {b : Bool} {l : List Oper} (hl : look E t = some (.bool b)) (hb : ¬ b = true) (h : WS P N D ops S0 K l ((t, .bool false) :: E)) : WS P N D ops S0 K l E := fun a ha => h a (over hl (by simp [hb]) ha)
theorem s_caseb {t : Nat} {b : Bool} {l : List Oper} (hl : look E t = some (.bool b)) (h1 : b = true → WS P N D ops S0 K l ((t, .bool true) :: E)) (h2 : ¬ b = true → WS P N D ops S0 K l ((t, .bool false) :: E)) : WS P N D ops S0 K l E := by
  by_cases hp : b = true
  · exact s_littb hl hp (h1 hp)
  · exact s_litfb hl hp (h2 hp)

/-- one operation that comes up -/
def W1 (P : Program) (N : Nat) (D : List Deferred) (ops : Array Oper) (n : Nat) (Q : Exit → Act → World → Prop) (S0 : World → Prop) (f : Nat) (is : List Nat) (i : Nat) (E : Env) (S : World → Prop) : Prop :=
  ∀ w, S w → ∀ a, Has N D a E → wpOp P ops (NQ Q) i (fun a' w' => S0 w' ∧ Go.wpAnyH P .any ops (NQ Q) S0 f (mk n (i :: is)) a' w') a w
theorem n_one {l0 : List Oper} {o : Oper} {i : Nat} (hi : nthO l0 i = some o) (h : ∀ K : Exit → Act → World → Prop, (∀ E' S', (∀ w, S' w → S0 w) → WN P N D l0.toArray n Q S0 f (i :: is) E' S' → WE N D K .normal E' S') → WL P N D l0.toArray K [o] E S) : W1 P N D l0.toArray n Q S0 f is i E S := fun w hw a ha => by
  have hi : l0.toArray[i]? = some o := by rw [nthO_eq] at hi; simpa using hi
  have h1 := h (fun e a w => e = .normal ∧ S0 w ∧ Go.wpAnyH P .any l0.toArray (NQ Q) S0 f (mk n (i :: is)) a w) (fun E' S' hS h' w hw a ha => ⟨rfl, hS w hw, h' w hw a ha⟩) w hw a ha
  unfold wpList at h1
  unfold wpOp
  simp only [hi]
  split at h1
  · rename_i hwn
    rw [if_pos hwn]
    rcases h1 with h1 | ⟨h1, a, w, hq⟩
    · refine .inl (upon_monoQ (Q := fun _ _ _ => False) (fun _ _ _ hq => hq.elim) ?_)
      have h2 := Oper.wp_mono (K' := fun a' w' => S0 w' ∧ Go.wpAnyH P .any l0.toArray (NQ Q) S0 f (mk n (i :: is)) a' w') (fun a w hh => (show _ ∧ _ from hh).2) h1
      exact upon_nonnormal (fun _ _ _ hq => hq.1) h2
    · exact absurd hq.1 (by simp)
  · rename_i hwn
    rw [if_neg hwn]
    exact h1.2
/-- .. one that may panic -/
theorem n_oneX {l0 : List Oper} {o : Oper} {i : Nat} (hi : nthO l0 i = some o) (h : ∀ K : Exit → Act → World → Prop, (∀ E' S', (∀ w, S' w → S0 w) → WN P N D l0.toArray n Q S0 f (i :: is) E' S' → WE N D K .normal E' S') → (∀ c S', WE N D Q (.panic c) [] S' → ∀ E', WE N D K (.panic c) E' S') → WL P N D l0.toArray K [o] E S) : W1 P N D l0.toArray n Q S0 f is i E S := fun w hw a ha => by
  have hi : l0.toArray[i]? = some o := by rw [nthO_eq] at hi; simpa using hi
  have h1 := h (fun e a w => (e = .normal ∧ S0 w ∧ Go.wpAnyH P .any l0.toArray (NQ Q) S0 f (mk n (i :: is)) a w) ∨ ∃ c, e = .panic c ∧ ∀ a' : Act, a'.defers = a.defers → a'.tmps.size = a.tmps.size → Q (.panic c) a' w) (fun E' S' hS h' w hw a ha => .inl ⟨rfl, hS w hw, h' w hw a ha⟩)
    (fun c S' h' E' w hw a ha => .inr ⟨c, rfl, fun a' h1 h2 => h' w hw a' ⟨h1.trans ha.d, h2.trans ha.n, fun t v hv => by simp [look] at hv⟩⟩) w hw a ha
  unfold wpList at h1
  unfold wpOp
  simp only [hi]
  split at h1
  · rename_i hwn
    rw [if_pos hwn]
    rcases h1 with h1 | ⟨h1, a, w, hq⟩
    · refine .inl (upon_monoQ (Q := fun e a w => ∃ c, e = .panic c ∧ ∀ a' : Act, a'.defers = a.defers → a'.tmps.size = a.tmps.size → Q (.panic c) a' w) (fun _ _ _ hq => .inr hq) ?_)
      have h2 := Oper.wp_mono (K' := fun a' w' => S0 w' ∧ Go.wpAnyH P .any l0.toArray (NQ Q) S0 f (mk n (i :: is)) a' w') (fun a w hh => by rcases (show (_ ∨ _) from hh) with hh | ⟨c, e, _⟩; exact hh.2; cases e) h1
      unfold Oper.wp at h2
      generalize (execOp a.eval o).run P w = r at h2
      cases r with
      | ok n w' =>
        cases n <;> simp only [Oper.upon] at h2 ⊢ <;>
          first
            | exact h2
            | exact Calls.mono h2 (fun e w'' he => by
                cases e with
                | returned v => exact he
                | panicked c => rcases he with ⟨e, _⟩ | he; cases e; exact he
                | outgrown => obtain ⟨a, w, hq⟩ := he; rcases hq with ⟨e, _⟩ | ⟨c, e, _⟩ <;> cases e)
      | halt x w' =>
        cases x <;> simp only [Oper.upon] at h2 ⊢ <;> first | exact h2 | (rcases h2 with ⟨e, _⟩ | h2; cases e; exact h2)
    · rcases hq with ⟨e, _⟩ | ⟨c, e, _⟩ <;> cases e
  · rename_i hwn
    rw [if_neg hwn]
    rcases h1 with h1 | ⟨c, e, _⟩
    · exact h1.2
    · cases e
theorem n_step1 {i : Nat} (hf : F = f + 1) (hr : Region.ready .any ops (mk n is) = [i]) (h : W1 P N D ops n Q S0 f is i E S) : WN P N D ops n Q S0 F is E S := fun w hw a ha => by
  subst hf
  exact Go.wpAnyH_all hr (by simp) (fun x hx => by obtain rfl := List.mem_singleton.1 hx; exact h w hw a ha)
theorem n_step2 {i j : Nat} (hf : F = f + 1) (hr : Region.ready .any ops (mk n is) = [i, j]) (h1 : W1 P N D ops n Q S0 f is i E S) (h2 : W1 P N D ops n Q S0 f is j E S) : WN P N D ops n Q S0 F is E S := fun w hw a ha => by
  subst hf
  exact Go.wpAnyH_all hr (by simp) (fun x hx => by
    rcases List.mem_cons.1 hx with rfl | hx
    · exact h1 w hw a ha
    obtain rfl := List.mem_singleton.1 hx; exact h2 w hw a ha)
theorem n_step3 {i j k : Nat} (hf : F = f + 1) (hr : Region.ready .any ops (mk n is) = [i, j, k]) (h1 : W1 P N D ops n Q S0 f is i E S) (h2 : W1 P N D ops n Q S0 f is j E S) (h3 : W1 P N D ops n Q S0 f is k E S) : WN P N D ops n Q S0 F is E S := fun w hw a ha => by
  subst hf
  exact Go.wpAnyH_all hr (by simp) (fun x hx => by
    rcases List.mem_cons.1 hx with rfl | hx
    · exact h1 w hw a ha
    rcases List.mem_cons.1 hx with rfl | hx
    · exact h2 w hw a ha
    obtain rfl := List.mem_singleton.1 hx; exact h3 w hw a ha)
theorem n_step4 {i j k l : Nat} (hf : F = f + 1) (hr : Region.ready .any ops (mk n is) = [i, j, k, l]) (h1 : W1 P N D ops n Q S0 f is i E S) (h2 : W1 P N D ops n Q S0 f is j E S) (h3 : W1 P N D ops n Q S0 f is k E S) (h4 : W1 P N D ops n Q S0 f is l E S) : WN P N D ops n Q S0 F is E S := fun w hw a ha => by
  subst hf
  exact Go.wpAnyH_all hr (by simp) (fun x hx => by
    rcases List.mem_cons.1 hx with rfl | hx
    · exact h1 w hw a ha
    rcases List.mem_cons.1 hx with rfl | hx
    · exact h2 w hw a ha
    rcases List.mem_cons.1 hx with rfl | hx
    · exact h3 w hw a ha
    obtain rfl := List.mem_singleton.1 hx; exact h4 w hw a ha)
theorem n_done (hr : Region.ready .any ops (mk n is) = []) (h : WE N D Q .normal E S) : WN P N D ops n Q S0 f is E S := fun w hw a ha => Go.wpAnyH_done hr (.inl ⟨rfl, h w hw a ha⟩) _
end

end Ex
end Go.Proofs.YtffpglgboaigfaaDoor
