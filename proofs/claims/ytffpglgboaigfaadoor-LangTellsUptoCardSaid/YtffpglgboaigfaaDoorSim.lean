/-
  A reader that keeps its first fault, against the plain one.
-/
import Derived.Test.YtffpglgboaigfaaDoorPan
import Derived.Test.YtffpglgboaigfaaDoorBits
namespace Go.Proofs.YtffpglgboaigfaaDoor
structure StrsX where (sr : SlX ByteArray)
namespace Ex
@[reducible] def strsE (x : StrsX) : List Value := [.slice x.sr.A x.sr.l.length x.sr.c]
theorem encStrsX : Enc strsE 1 := .of (fun _ => rfl) (fun _ => rfl) rfl
end Ex
namespace Pz
open Ex
set_option linter.unusedVariables false
/-- where one stands, how many parts there are, and the fault that is kept -/
structure RS where
  at_ : Nat
  nd : Int
  be : Int
  ba : Int
/-- from a kept fault (be, ba) on: what it comes to, beside the plain answer -/
def Sim {α : Type} (s : ByteArray) (be ba : Int) (P : Res (α × St)) (a : α) (r : RS) : Prop :=
  r.at_ ≤ s.size ∧ (be ≠ 0 → r.be = be ∧ r.ba = ba) ∧ (be = 0 → (∀ x, P = .ok x → r.be = 0 ∧ x.1 = a ∧ x.2 = ⟨r.at_, r.nd⟩) ∧ ∀ f, P = .no f → f.1 ≠ 0 ∧ r.be = f.1 ∧ r.ba = f.2)
def SimU (s : ByteArray) (be ba : Int) (P : Res St) (r : RS) : Prop :=
  r.at_ ≤ s.size ∧ (be ≠ 0 → r.be = be ∧ r.ba = ba) ∧ (be = 0 → (∀ x, P = .ok x → r.be = 0 ∧ x = ⟨r.at_, r.nd⟩) ∧ ∀ f, P = .no f → f.1 ≠ 0 ∧ r.be = f.1 ∧ r.ba = f.2)
section
variable {α β : Type} {s : ByteArray} {be ba : Int} {P : Res (α × St)} {U : Res St} {a : α} {b : β} {r r1 r2 : RS}
theorem Sim.pure (h : r.at_ ≤ s.size) (hb : r.be = be) (hc : r.ba = ba) : Sim s be ba (.ok (a, ⟨r.at_, r.nd⟩)) a r :=
  ⟨h, fun _ => ⟨hb, hc⟩, fun h0 => ⟨fun x hx => by obtain rfl := Res.ok.inj hx; exact ⟨hb.trans h0, rfl, rfl⟩, fun f hf => (by cases hf)⟩⟩
theorem Sim.bad (h : r.at_ ≤ s.size) (hn : be ≠ 0) (hb : r.be = be) (hc : r.ba = ba) : Sim s be ba P a r := ⟨h, fun _ => ⟨hb, hc⟩, fun h0 => absurd h0 hn⟩
theorem Sim.stop {f : F} (h : r.at_ ≤ s.size) (h0 : be = 0) (hf : f.1 ≠ 0) (hb : r.be = f.1) (hc : r.ba = f.2) : Sim s be ba (.no f : Res (α × St)) a r :=
  ⟨h, fun hn => absurd h0 hn, fun _ => ⟨fun x hx => (by cases hx), fun g hg => by obtain rfl := Res.no.inj hg; exact ⟨hf, hb, hc⟩⟩⟩
theorem SimU.pure (h : r.at_ ≤ s.size) (hb : r.be = be) (hc : r.ba = ba) : SimU s be ba (.ok ⟨r.at_, r.nd⟩) r :=
  ⟨h, fun _ => ⟨hb, hc⟩, fun h0 => ⟨fun x hx => by obtain rfl := Res.ok.inj hx; exact ⟨hb.trans h0, rfl⟩, fun f hf => (by cases hf)⟩⟩
theorem SimU.bad (h : r.at_ ≤ s.size) (hn : be ≠ 0) (hb : r.be = be) (hc : r.ba = ba) : SimU s be ba U r := ⟨h, fun _ => ⟨hb, hc⟩, fun h0 => absurd h0 hn⟩
theorem SimU.stop {f : F} (h : r.at_ ≤ s.size) (h0 : be = 0) (hf : f.1 ≠ 0) (hb : r.be = f.1) (hc : r.ba = f.2) : SimU s be ba (.no f) r :=
  ⟨h, fun hn => absurd h0 hn, fun _ => ⟨fun x hx => (by cases hx), fun g hg => by obtain rfl := Res.no.inj hg; exact ⟨hf, hb, hc⟩⟩⟩
theorem Sim.then {g : α → St → Res (β × St)} (h : Sim s be ba P a r1) (k : Sim s r1.be r1.ba (g a ⟨r1.at_, r1.nd⟩) b r2) : Sim s be ba (P.then fun x => g x.1 x.2) b r2 := by
  refine ⟨k.1, fun hn => ?_, fun h0 => ?_⟩
  · obtain ⟨h1, h2⟩ := h.2.1 hn
    obtain ⟨k1, k2⟩ := k.2.1 (by rw [h1]; exact hn)
    exact ⟨k1.trans h1, k2.trans h2⟩
  · obtain ⟨h1, h2⟩ := h.2.2 h0
    cases P with
    | ok x =>
      obtain ⟨e1, e2, e3⟩ := h1 x rfl
      have := k.2.2 e1
      rw [then_ok, e2, e3]; exact this
    | no f =>
      obtain ⟨e1, e2, e3⟩ := h2 f rfl
      obtain ⟨k1, k2⟩ := k.2.1 (by rw [e2]; exact e1)
      rw [then_no]
      exact ⟨fun x hx => (by cases hx), fun g hg => by obtain rfl := Res.no.inj hg; exact ⟨e1, k1.trans e2, k2.trans e3⟩⟩
theorem SimU.then {g : St → Res (β × St)} (h : SimU s be ba U r1) (k : Sim s r1.be r1.ba (g ⟨r1.at_, r1.nd⟩) b r2) : Sim s be ba (U.then g) b r2 := by
  refine ⟨k.1, fun hn => ?_, fun h0 => ?_⟩
  · obtain ⟨h1, h2⟩ := h.2.1 hn
    obtain ⟨k1, k2⟩ := k.2.1 (by rw [h1]; exact hn)
    exact ⟨k1.trans h1, k2.trans h2⟩
  · obtain ⟨h1, h2⟩ := h.2.2 h0
    cases U with
    | ok x =>
      obtain ⟨e1, e2⟩ := h1 x rfl
      have := k.2.2 e1
      rw [then_ok, e2]; exact this
    | no f =>
      obtain ⟨e1, e2, e3⟩ := h2 f rfl
      obtain ⟨k1, k2⟩ := k.2.1 (by rw [e2]; exact e1)
      rw [then_no]
      exact ⟨fun x hx => (by cases hx), fun g hg => by obtain rfl := Res.no.inj hg; exact ⟨e1, k1.trans e2, k2.trans e3⟩⟩
/-- said of the plain answer if nothing is kept -/
theorem Sim.eq {Q : Res (α × St)} (h : Sim s be ba Q a r) (e : be = 0 → P = Q) : Sim s be ba P a r := ⟨h.1, h.2.1, fun h0 => by rw [e h0]; exact h.2.2 h0⟩
theorem SimU.eq {V : Res St} (h : SimU s be ba V r) (e : be = 0 → U = V) : SimU s be ba U r := ⟨h.1, h.2.1, fun h0 => by rw [e h0]; exact h.2.2 h0⟩
theorem Sim.ok_ (h : Sim s be ba P a r) (h0 : be = 0) (hr : r.be = 0) : P = .ok (a, ⟨r.at_, r.nd⟩) := by
  cases P with
  | ok x => obtain ⟨_, e2, e3⟩ := (h.2.2 h0).1 x rfl; rw [← e2, ← e3]
  | no f => obtain ⟨e1, e2, _⟩ := (h.2.2 h0).2 f rfl; exact absurd (e2.symm.trans hr) e1
theorem SimU.ok_ (h : SimU s be ba U r) (h0 : be = 0) (hr : r.be = 0) : U = .ok ⟨r.at_, r.nd⟩ := by
  cases U with
  | ok x => obtain ⟨_, e2⟩ := (h.2.2 h0).1 x rfl; rw [← e2]
  | no f => obtain ⟨e1, e2, _⟩ := (h.2.2 h0).2 f rfl; exact absurd (e2.symm.trans hr) e1
theorem Sim.first (h : Sim s be ba P a r) (hr : r.be = 0) : be = 0 := by
  by_cases h0 : be = 0
  · exact h0
  · exact (h.2.1 h0).1.symm.trans hr
theorem SimU.first (h : SimU s be ba U r) (hr : r.be = 0) : be = 0 := by
  by_cases h0 : be = 0
  · exact h0
  · exact (h.2.1 h0).1.symm.trans hr
end
/-- what a sign tells -/
def SignR (s sg : ByteArray) (be : Int) (i : Nat) (z : Bool × Nat) : Prop := z.2 ≤ s.size ∧ (be = 0 → eat s sg i = z) ∧ (be ≠ 0 → z.1 = false)
def StopR (be ba e at_ : Int) (z : Int × Int) : Prop := (be = 0 → z = (e, at_)) ∧ (be ≠ 0 → z = (be, ba))
theorem SignR.yes {s sg : ByteArray} {be : Int} {i j : Nat} {b : Bool} (h : SignR s sg be i (b, j)) (hb : b = true) : be = 0 ∧ eat s sg i = (true, j) := by
  subst hb
  by_cases h0 : be = 0
  · exact ⟨h0, h.2.1 h0⟩
  · exact absurd (h.2.2 h0) (by simp)
theorem SignR.no {s sg : ByteArray} {be : Int} {i j : Nat} {b : Bool} (h : SignR s sg be i (b, j)) (hb : b = false) (h0 : be = 0) : eat s sg i = (false, j) := by subst hb; exact h.2.1 h0
theorem pfx_pos {s sg : ByteArray} {j : Nat} (h1 : j + sg.size ≤ s.size) (h2 : s.extract j (j + sg.size) = sg) : pfx s sg j = true := by
  unfold pfx
  rw [List.isPrefixOf_iff_prefix]
  have h3 : (s.extract j (j + sg.size)).data.toList = (rest s j).take sg.size := by
    rw [ByteArray.data_extract, Array.toList_extract, List.extract_eq_take_drop]
    unfold rest; rw [show j + sg.size - j = sg.size by omega]
  rw [h2] at h3
  rw [h3]; exact List.take_prefix _ _
theorem pfx_neg {s sg : ByteArray} {j : Nat} (h : ¬ (j + sg.size ≤ s.size ∧ s.extract j (j + sg.size) = sg)) (hj : j ≤ s.size) : ¬ pfx s sg j = true := fun hp => by
  have h1 := pfx_le hp hj
  refine h ⟨h1, ?_⟩
  unfold pfx at hp
  rw [List.isPrefixOf_iff_prefix] at hp
  have h3 : (s.extract j (j + sg.size)).data.toList = (rest s j).take sg.size := by
    rw [ByteArray.data_extract, Array.toList_extract, List.extract_eq_take_drop]
    unfold rest; rw [show j + sg.size - j = sg.size by omega]
  rw [← size_l sg, ← List.prefix_iff_eq_take.1 hp] at h3
  exact ByteArray.ext (Array.toList_inj.1 h3)
section
variable {s sg : ByteArray} {be ba be' ba' : Int} {i j k : Nat} {n : Int} {b : Bool}
theorem must_yes (h : SignR s sg be i (b, j)) (hb : b = true) : SimU s be ba (must s sg ⟨i, n⟩) ⟨j, n, be, ba⟩ :=
  (SimU.pure (r := ⟨j, n, be, ba⟩) h.1 rfl rfl).eq fun _ => by unfold must; rw [(h.yes hb).2]; rfl
theorem must_not (h : SignR s sg be i (b, j)) (hb : b = false) (hs : StopR be ba 2 j (be', ba')) : SimU s be ba (must s sg ⟨i, n⟩) ⟨j, n, be', ba'⟩ := by
  by_cases h0 : be = 0
  · have e := hs.1 h0
    refine (SimU.stop (f := (2, j)) h.1 h0 (by simp) (congrArg (·.1) e) (congrArg (·.2) e)).eq fun _ => ?_
    unfold must; rw [h.no hb h0]; rfl
  · have e := hs.2 h0
    exact .bad h.1 h0 (congrArg (·.1) e) (congrArg (·.2) e)
theorem node_sim (hi : i ≤ s.size) (h : ¬ 100 < n + 1) : SimU s be ba (node ⟨i, n⟩) ⟨i, n + 1, be, ba⟩ :=
  (SimU.pure (r := ⟨i, n + 1, be, ba⟩) hi rfl rfl).eq fun _ => node_yes (by omega)
theorem node_simN (hi : i ≤ s.size) (h : 100 < n + 1) (hs : StopR be ba 4 i (be', ba')) : SimU s be ba (node ⟨i, n⟩) ⟨i, n + 1, be', ba'⟩ := by
  by_cases h0 : be = 0
  · have e := hs.1 h0
    exact (SimU.stop (f := (4, i)) hi h0 (by simp) (congrArg (·.1) e) (congrArg (·.2) e)).eq fun _ => node_no h
  · have e := hs.2 h0
    exact .bad hi h0 (congrArg (·.1) e) (congrArg (·.2) e)
/-! ## Words -/
theorem word_sim (hj : blank s i = j) (hk : wend s j = k) (hl : ¬ (12 : Int) < ((s.extract j k).size : Int)) (hs : k ≤ s.size) (h0 : be = 0) : Sim s be ba (word s ⟨i, n⟩) (s.extract j k) ⟨k, n, be, ba⟩ :=
  (Sim.pure (r := ⟨k, n, be, ba⟩) hs rfl rfl).eq fun _ => word_ok hj hk hl hs
theorem word_simN {v : ByteArray} (hj : blank s i = j) (hk : wend s j = k) (hl : (12 : Int) < ((s.extract j k).size : Int)) (hs : k ≤ s.size) (hjs : j ≤ s.size) (h0 : be = 0) (hst : StopR be ba 7 j (be', ba')) : Sim s be ba (word s ⟨i, n⟩) v ⟨j, n, be', ba'⟩ := by
  have e := hst.1 h0
  exact (Sim.stop (f := (7, j)) hjs h0 (by simp) (congrArg (·.1) e) (congrArg (·.2) e)).eq fun _ => word_no hj hk hl hs
theorem name_sim {v : ByteArray} {r : RS} (h : Sim s be ba (word s ⟨i, n⟩) v r) (hv : ¬ v = ⟨#[]⟩) : Sim s be ba (name s ⟨i, n⟩) v r := by
  unfold name
  refine Sim.eq (Sim.then (g := fun a t => if a = ⟨#[]⟩ then .no (2, t.at_) else .ok (a, t)) h (by rw [if_neg hv]; exact Sim.pure h.1 rfl rfl)) fun _ => rfl
theorem name_simN {v : ByteArray} {r r' : RS} (h : Sim s be ba (word s ⟨i, n⟩) v r) (hv : v = ⟨#[]⟩) (hst : StopR r.be r.ba 2 r.at_ (r'.be, r'.ba)) (ha : r'.at_ = r.at_) : Sim s be ba (name s ⟨i, n⟩) v r' := by
  unfold name
  refine Sim.eq (Sim.then (g := fun a t => if a = ⟨#[]⟩ then .no (2, t.at_) else .ok (a, t)) h ?_) fun _ => rfl
  rw [if_pos hv]
  by_cases h0 : r.be = 0
  · have e := hst.1 h0
    exact Sim.stop (by rw [ha]; exact h.1) h0 (by simp) (congrArg (·.1) e) (congrArg (·.2) e)
  · have e := hst.2 h0
    exact .bad (by rw [ha]; exact h.1) h0 (congrArg (·.1) e) (congrArg (·.2) e)
end
/-! ## Numbers -/
def NumR (V : Nat) (x : Int) : Prop := (0 ≤ x ∧ x ≤ 10000009) ∧ (x = (V : Int) ∨ (1000000 < x ∧ 1000000 < (V : Int)))
theorem dval_nil (s : ByteArray) (j : Nat) : dval (s.extract j j).data.toList = 0 := by
  have : (s.extract j j).data.toList = [] := by rw [ByteArray.data_extract, Array.toList_extract, List.extract_eq_take_drop]; simp
  rw [this]; rfl
theorem ext_succ {s : ByteArray} {j k : Nat} {c : UInt8} (h : s[k]? = some c) (hj : j ≤ k) : (s.extract j (k + 1)).data.toList = (s.extract j k).data.toList ++ [c] := by
  rw [ByteArray.data_extract, Array.toList_extract, List.extract_eq_take_drop, ByteArray.data_extract, Array.toList_extract, List.extract_eq_take_drop]
  have h1 : (s.data.toList.drop j)[k - j]? = some c := by rw [List.getElem?_drop, show j + (k - j) = k by omega]; exact Names.at_list h
  rw [show k + 1 - j = (k - j) + 1 by omega, List.take_add_one, h1]; rfl
theorem dval_succ {s : ByteArray} {j k : Nat} {c : UInt8} (h : s[k]? = some c) (hj : j ≤ k) : dval (s.extract j (k + 1)).data.toList = 10 * dval (s.extract j k).data.toList + (c.toNat - 48) := by
  rw [ext_succ h hj]; unfold dval; rw [List.foldl_append]; rfl
theorem NumR.step {s : ByteArray} {j k : Nat} {c : UInt8} {x : Int} (hr : NumR (dval (s.extract j k).data.toList) x) (h : s[k]? = some c) (hj : j ≤ k) (h1 : 48 ≤ (c.toNat : Int)) (h2 : (c.toNat : Int) ≤ 57) (hx : x ≤ 1000000) : NumR (dval (s.extract j (k + 1)).data.toList) (10 * x + ((c.toNat : Int) - 48)) := by
  rw [dval_succ h hj]
  obtain ⟨⟨h3, h4⟩, h5⟩ := hr
  rcases h5 with h5 | ⟨h5, _⟩
  · exact ⟨⟨by omega, by omega⟩, .inl (by omega)⟩
  · omega
theorem NumR.stay {s : ByteArray} {j k : Nat} {c : UInt8} {x : Int} (hr : NumR (dval (s.extract j k).data.toList) x) (h : s[k]? = some c) (hj : j ≤ k) (hx : ¬ x ≤ 1000000) : NumR (dval (s.extract j (k + 1)).data.toList) x := by
  rw [dval_succ h hj]
  obtain ⟨⟨h3, h4⟩, h5⟩ := hr
  refine ⟨⟨h3, h4⟩, .inr ⟨by omega, ?_⟩⟩
  rcases h5 with h5 | ⟨h5, h6⟩ <;> omega
/-- the number that the document's answer reads: no more digits than are needed -/
def capv (l : List UInt8) : Int := l.foldl (fun n b => if n ≤ 1000000 then 10 * n + ((b.toNat : Int) - 48) else n) 0
theorem capv_nil (s : ByteArray) (j : Nat) : capv (s.extract j j).data.toList = 0 := by
  have : (s.extract j j).data.toList = [] := by rw [ByteArray.data_extract, Array.toList_extract, List.extract_eq_take_drop]; simp
  rw [this]; rfl
theorem capv_succ {s : ByteArray} {j k : Nat} {c : UInt8} (h : s[k]? = some c) (hj : j ≤ k) : capv (s.extract j (k + 1)).data.toList = if capv (s.extract j k).data.toList ≤ 1000000 then 10 * capv (s.extract j k).data.toList + ((c.toNat : Int) - 48) else capv (s.extract j k).data.toList := by
  rw [ext_succ h hj]; unfold capv; rw [List.foldl_append]; rfl
theorem NumR.bad {s : ByteArray} {j k : Nat} {x least most : Int} (hk : run dig s j = k) (hr : NumR (dval (s.extract j k).data.toList) x) (hm : most ≤ 1000000) (hl : least ≤ 1000000) : badNum s least most j ↔ (x < least ∨ most < x ∨ (s[j]? = some 48 ∧ j + 1 < k)) := by
  unfold badNum
  rw [num_at hk, hk]
  obtain ⟨_, h5⟩ := hr
  rcases h5 with h5 | ⟨h5, h6⟩
  · rw [← h5]
  · constructor
    · intro _; exact .inr (.inl (by omega))
    · intro _; exact .inr (.inl (by omega))
theorem NumR.val {s : ByteArray} {j k : Nat} {x most : Int} (hk : run dig s j = k) (hr : NumR (dval (s.extract j k).data.toList) x) (hm : most ≤ 1000000) (h : ¬ most < x) : numAt s j = x := by
  rw [num_at hk]
  rcases hr.2 with h5 | ⟨h5, h6⟩
  · exact h5.symm
  · omega
section
variable {s : ByteArray} {be ba be' ba' : Int} {i j k : Nat} {n least most x : Int}
theorem num_sim (hj : blank s i = j) (hk : run dig s j = k) (hr : NumR (dval (s.extract j k).data.toList) x) (hm : most ≤ 1000000) (hl : least ≤ 1000000) (hks : k ≤ s.size) (h : ¬ (k : Int) = (j : Int)) (hb : ¬ (x < least ∨ most < x ∨ (s[j]? = some 48 ∧ j + 1 < k))) : Sim s be ba (num s least most ⟨i, n⟩) x ⟨k, n, be, ba⟩ :=
  (Sim.pure (r := ⟨k, n, be, ba⟩) hks rfl rfl).eq fun _ => by rw [num_ok hj hk h (fun g => hb ((NumR.bad hk hr hm hl).1 g)), NumR.val hk hr hm (fun g => hb (.inr (.inl g)))]
theorem num_simF (hj : blank s i = j) (hk : run dig s j = k) (hjs : j ≤ s.size) (h : (k : Int) = (j : Int)) (hst : StopR be ba 2 j (be', ba')) : Sim s be ba (num s least most ⟨i, n⟩) x ⟨j, n, be', ba'⟩ := by
  by_cases h0 : be = 0
  · have e := hst.1 h0
    exact (Sim.stop (f := (2, j)) hjs h0 (by simp) (congrArg (·.1) e) (congrArg (·.2) e)).eq fun _ => num_form least most hj hk h
  · have e := hst.2 h0
    exact .bad hjs h0 (congrArg (·.1) e) (congrArg (·.2) e)
theorem num_simR (hj : blank s i = j) (hk : run dig s j = k) (hr : NumR (dval (s.extract j k).data.toList) x) (hm : most ≤ 1000000) (hl : least ≤ 1000000) (hjs : j ≤ s.size) (h : ¬ (k : Int) = (j : Int)) (hb : x < least ∨ most < x ∨ (s[j]? = some 48 ∧ j + 1 < k)) (hst : StopR be ba 3 j (be', ba')) : Sim s be ba (num s least most ⟨i, n⟩) x ⟨j, n, be', ba'⟩ := by
  by_cases h0 : be = 0
  · have e := hst.1 h0
    exact (Sim.stop (f := (3, j)) hjs h0 (by simp) (congrArg (·.1) e) (congrArg (·.2) e)).eq fun _ => num_no hj hk h ((NumR.bad hk hr hm hl).2 hb)
  · have e := hst.2 h0
    exact .bad hjs h0 (congrArg (·.1) e) (congrArg (·.2) e)
theorem StopR.ne {e a : Int} (h : StopR be ba e a (be', ba')) (he : e ≠ 0) : ¬ be' = 0 := fun h1 => by
  by_cases h0 : be = 0
  · have := congrArg (·.1) (h.1 h0)
    exact he (this.symm.trans h1)
  · have := congrArg (·.1) (h.2 h0)
    exact h0 (this.symm.trans h1)
/-- where one stands behind a fault that is kept -/
theorem Sim.move {α : Type} {P : Res (α × St)} {a : α} {r : RS} (h : Sim s be ba P a r) (hn : ¬ r.be = 0) (hj : j ≤ s.size) {v : α} {m : Int} : Sim s be ba P v ⟨j, m, r.be, r.ba⟩ :=
  ⟨hj, h.2.1, fun h0 => ⟨fun x hx => absurd ((h.2.2 h0).1 x hx).1 hn, (h.2.2 h0).2⟩⟩
end
end Pz
namespace Ex
section
variable {P : Program} {N : Nat} {D : List Deferred} {E : Env} {S : World → Prop} {x y : Operand} {T T' ty : TypeId} {m n : Int}
theorem r_sub8 (hx : ev E x = some (.int .u8 m)) (hy : ev E y = some (.int .u8 n)) (h : 0 ≤ m - n ∧ m - n ≤ 255) : Runs P N D E S (.binOp .sub T x y T') ty (.int .u8 (m - n)) := by
  have := r_sub (P := P) (N := N) (D := D) (S := S) (T := T) (T' := T') (ty := ty) hx hy
  rwa [wrap_u8, Int.emod_eq_of_lt h.1 (by omega)] at this
end
set_option linter.unusedVariables false
/-- told of, if it is of use -/
@[reducible] def okI (c : Prop) (x : ExprX) : Own := .pub fun S w => c → ExprX.Ok S x w
theorem okI.loc (c : Prop) (x : ExprX) : Loc (fun S w => c → ExprX.Ok S x w) := fun S S' u u' hs hk h hc => ExprX.Ok.loc x S S' u u' hs hk (h hc)
section
variable {w0 w : World} {M : Fp} {L : List Own} {c c' : Prop} {x : ExprX}
theorem Mem.okOf (h : Mem w0 M L w) (q : Nat) (hi : L[q]? = some (okI c x)) (hc : c) : Mem w0 M (okP ExprX.Ok x :: L) w := h.note (ExprX.Ok.loc x) fun Pb pp => pp.at_ q _ hi hc
theorem Mem.okI0 (h : Mem w0 M L w) (c : Prop) (x : ExprX) (hn : ¬ c) : Mem w0 M (okI c x :: L) w := h.note (okI.loc c x) fun Pb pp hc => absurd hc hn
theorem Mem.okI1 (h : Mem w0 M L w) (c : Prop) (q : Nat) (hi : L[q]? = some (okP ExprX.Ok x)) : Mem w0 M (okI c x :: L) w := h.note (okI.loc c x) fun Pb pp _ => pp.at_ q _ hi
theorem Mem.okI2 (h : Mem w0 M L w) (c : Prop) (q : Nat) (hi : L[q]? = some (okI c' x)) (hc : c → c') : Mem w0 M (okI c x :: L) w := h.note (okI.loc c x) fun Pb pp g => pp.at_ q _ hi (hc g)
end
end Ex
namespace Pz
open Ex
set_option linter.unusedVariables false
section
variable {α β : Type} {s : ByteArray} {be ba be' ba' : Int} {i j j1 j2 j3 k q : Nat} {n v : Int} {b b2 b3 : Bool} {r r1 r2 r3 r4 r5 r6 r7 r8 : RS} {wd wd2 : ByteArray} {ms : List Match} {m : Match} {e f : Expr}
theorem Sim.any {P P' : Res (α × St)} {a : α} (h : Sim s be ba P a r) (hn : be ≠ 0) : Sim s be ba P' a r := ⟨h.1, h.2.1, fun h0 => absurd h0 hn⟩
theorem Sim.any' {P : Res (α × St)} {P' : Res (β × St)} {a : α} {a' : β} (h : Sim s be ba P a r) (hn : be ≠ 0) : Sim s be ba P' a' r := ⟨h.1, h.2.1, fun h0 => absurd h0 hn⟩
theorem SimU.stop' {U : Res St} {c a : Int} (hz : StopR be ba c a (be', ba')) (hc : c ≠ 0) (hi : i ≤ s.size) (h : be = 0 → U = .no (c, a)) : SimU s be ba U ⟨i, n, be', ba'⟩ := by
  by_cases h0 : be = 0
  · have e := hz.1 h0
    exact (SimU.stop (f := (c, a)) hi h0 hc (congrArg (·.1) e) (congrArg (·.2) e)).eq h
  · have e := hz.2 h0
    exact .bad hi h0 (congrArg (·.1) e) (congrArg (·.2) e)
theorem Sim.stop' {P : Res (α × St)} {x : α} {c a : Int} (hz : StopR be ba c a (be', ba')) (hc : c ≠ 0) (hi : i ≤ s.size) (h : be = 0 → P = .no (c, a)) : Sim s be ba P x ⟨i, n, be', ba'⟩ := by
  by_cases h0 : be = 0
  · have e := hz.1 h0
    exact (Sim.stop (f := (c, a)) hi h0 hc (congrArg (·.1) e) (congrArg (·.2) e)).eq h
  · have e := hz.2 h0
    exact .bad hi h0 (congrArg (·.1) e) (congrArg (·.2) e)
/-! ## Matches -/
theorem ms1 (h0 : be = 0) (e1 : SignR s ⟨#[33]⟩ be i (b, j1)) (hb : b = true) (hn : Sim s be ba (name s ⟨j1, n⟩) wd r) : Sim s be ba (match_ s ⟨i, n⟩) ⟨4, wd, ⟨#[]⟩⟩ r :=
  Sim.eq (Sim.then (g := fun a t => .ok (⟨4, a, ⟨#[]⟩⟩, t)) hn (Sim.pure hn.1 rfl rfl)) fun _ => by
    unfold match_; simp only [(e1.yes hb).2, if_true, St.go]
def msR (s wd : ByteArray) (t : St) : Res (Match × St) :=
  if (eat s ⟨#[33, 61]⟩ t.at_).1 = true then (name s (t.go (eat s ⟨#[33, 61]⟩ t.at_).2)).then fun y => .ok (⟨2, wd, y.1⟩, y.2)
  else if (eat s ⟨#[61]⟩ (eat s ⟨#[33, 61]⟩ t.at_).2).1 = true then (name s (t.go (eat s ⟨#[61]⟩ (eat s ⟨#[33, 61]⟩ t.at_).2).2)).then fun y => .ok (⟨1, wd, y.1⟩, y.2)
  else .ok (⟨3, wd, ⟨#[]⟩⟩, t.go (eat s ⟨#[61]⟩ (eat s ⟨#[33, 61]⟩ t.at_).2).2)
theorem match_no {s : ByteArray} {i j1 : Nat} {n : Int} (e : eat s ⟨#[33]⟩ i = (false, j1)) : match_ s ⟨i, n⟩ = (name s ⟨j1, n⟩).then fun x => msR s x.1 x.2 := by
  unfold match_ msR; simp only [e, if_false, Bool.false_eq_true, St.go]
theorem ms0 (h0 : be = 0) (e1 : SignR s ⟨#[33]⟩ be i (b, j1)) (hb : b = false) (hn : Sim s be ba (name s ⟨j1, n⟩) wd r1) (hk : Sim s r1.be r1.ba (msR s wd ⟨r1.at_, r1.nd⟩) m r) : Sim s be ba (match_ s ⟨i, n⟩) m r :=
  Sim.eq (Sim.then (g := msR s) hn hk) fun _ => match_no (e1.no hb h0)
theorem msR_1 {t : St} (e : eat s ⟨#[33, 61]⟩ t.at_ = (true, j2)) : msR s wd t = (name s ⟨j2, t.nd⟩).then fun y => .ok (⟨2, wd, y.1⟩, y.2) := by unfold msR; simp only [e, if_true, St.go]
theorem msR_2 {t : St} (e : eat s ⟨#[33, 61]⟩ t.at_ = (false, j2)) (e3 : eat s ⟨#[61]⟩ j2 = (true, j3)) : msR s wd t = (name s ⟨j3, t.nd⟩).then fun y => .ok (⟨1, wd, y.1⟩, y.2) := by unfold msR; simp only [e, e3, if_true, if_false, Bool.false_eq_true, St.go]
theorem msR_3 {t : St} (e : eat s ⟨#[33, 61]⟩ t.at_ = (false, j2)) (e3 : eat s ⟨#[61]⟩ j2 = (false, j3)) : msR s wd t = .ok (⟨3, wd, ⟨#[]⟩⟩, ⟨j3, t.nd⟩) := by unfold msR; simp only [e, e3, if_false, Bool.false_eq_true, St.go]
theorem ms2 (h0 : be = 0) (e1 : SignR s ⟨#[33]⟩ be i (b, j1)) (hb : b = false) (hn : Sim s be ba (name s ⟨j1, n⟩) wd r1) (e2 : SignR s ⟨#[33, 61]⟩ r1.be r1.at_ (b2, j2)) (hb2 : b2 = true) (hn2 : Sim s r1.be r1.ba (name s ⟨j2, r1.nd⟩) wd2 r) : Sim s be ba (match_ s ⟨i, n⟩) ⟨2, wd, wd2⟩ r := by
  refine ms0 h0 e1 hb hn ?_
  exact Sim.eq (Sim.then (g := fun a t => .ok (⟨2, wd, a⟩, t)) hn2 (Sim.pure hn2.1 rfl rfl)) fun _ => msR_1 (e2.yes hb2).2
theorem ms3 (h0 : be = 0) (e1 : SignR s ⟨#[33]⟩ be i (b, j1)) (hb : b = false) (hn : Sim s be ba (name s ⟨j1, n⟩) wd r1) (e2 : SignR s ⟨#[33, 61]⟩ r1.be r1.at_ (b2, j2)) (hb2 : b2 = false) (e3 : SignR s ⟨#[61]⟩ r1.be j2 (b3, j3)) (hb3 : b3 = true) (hn3 : Sim s r1.be r1.ba (name s ⟨j3, r1.nd⟩) wd2 r) : Sim s be ba (match_ s ⟨i, n⟩) ⟨1, wd, wd2⟩ r := by
  refine ms0 h0 e1 hb hn ?_
  exact Sim.eq (Sim.then (g := fun a t => .ok (⟨1, wd, a⟩, t)) hn3 (Sim.pure hn3.1 rfl rfl)) fun _ => msR_2 (e2.no hb2 (e3.yes hb3).1) (e3.yes hb3).2
theorem ms4 (h0 : be = 0) (e1 : SignR s ⟨#[33]⟩ be i (b, j1)) (hb : b = false) (hn : Sim s be ba (name s ⟨j1, n⟩) wd r1) (e2 : SignR s ⟨#[33, 61]⟩ r1.be r1.at_ (b2, j2)) (hb2 : b2 = false) (e3 : SignR s ⟨#[61]⟩ r1.be j2 (b3, j3)) (hb3 : b3 = false) : Sim s be ba (match_ s ⟨i, n⟩) ⟨3, wd, ⟨#[]⟩⟩ ⟨j3, r1.nd, r1.be, r1.ba⟩ := by
  refine ms0 h0 e1 hb hn ?_
  by_cases h1 : r1.be = 0
  · exact (Sim.pure (r := ⟨j3, r1.nd, r1.be, r1.ba⟩) e3.1 rfl rfl).eq fun _ => msR_3 (e2.no hb2 h1) (e3.no hb3 h1)
  · exact .bad e3.1 h1 rfl rfl
/-! ## A window -/
section
variable {T : List Match → RS → Prop}
def sepP (s : ByteArray) (ms : List Match) (t : St) : Res St := if 0 < ms.length then must s ⟨#[44]⟩ t else .ok t
theorem sep_no (h : ¬ (0 : Int) < (ms.length : Int)) (hj : j ≤ s.size) : SimU s be ba (sepP s ms ⟨j, n⟩) ⟨j, n, be, ba⟩ := (SimU.pure (r := ⟨j, n, be, ba⟩) hj rfl rfl).eq fun _ => if_neg (by omega)
theorem sep_yes (h : (0 : Int) < (ms.length : Int)) (hm : SimU s be ba (must s ⟨#[44]⟩ ⟨j, n⟩) r) : SimU s be ba (sepP s ms ⟨j, n⟩) r := hm.eq fun _ => if_pos (by omega)
theorem wl_bad (hX : ∀ b r', Sim s be ba (winL s (q + 1) ms ⟨k, n⟩) b r' → T b r') (hn : ¬ be = 0) (hk : k ≤ s.size) : T ms ⟨k, n, be, ba⟩ := hX _ _ (.bad hk hn rfl rfl)
theorem wl_done (hX : ∀ b r', Sim s be ba (winL s (q + 1) ms ⟨k, n⟩) b r' → T b r') (he : SignR s ⟨#[125]⟩ be k (b, j)) (hb : b = true) : T ms ⟨j, n, be, ba⟩ :=
  hX _ _ ((Sim.pure (r := ⟨j, n, be, ba⟩) he.1 rfl rfl).eq fun _ => win_done rfl (he.yes hb).2)
theorem wl_more (hX : ∀ b r', Sim s be ba (winL s (q + 1) ms ⟨k, n⟩) b r' → T b r') (h0 : be = 0) (he : SignR s ⟨#[125]⟩ be k (b, j)) (hb : b = false) (hs : SimU s be ba (sepP s ms ⟨j, n⟩) r1)
    (b' : List Match) (r' : RS) (hk : Sim s r1.be r1.ba (if ms.length = 5 then .no (5, (r1.at_ : Int)) else (match_ s ⟨r1.at_, r1.nd⟩).then fun x => winL s q (ms ++ [x.1]) x.2) b' r') : T b' r' :=
  hX _ _ (Sim.eq (SimU.then (g := fun u => if ms.length = 5 then .no (5, u.at_) else (match_ s u).then fun x => winL s q (ms ++ [x.1]) x.2) hs hk) fun h0 => win_more rfl (he.no hb h0))
theorem wl_next (hX : ∀ b r', Sim s be ba (winL s (q + 1) ms ⟨k, n⟩) b r' → T b r') (h0 : be = 0) (he : SignR s ⟨#[125]⟩ be k (b, j)) (hb : b = false) (hs : SimU s be ba (sepP s ms ⟨j, n⟩) r1) (h5 : ¬ (5 : Int) ≤ (ms.length : Int)) (hm : Sim s r1.be r1.ba (match_ s ⟨r1.at_, r1.nd⟩) m r2) :
    ∀ b' r', Sim s r2.be r2.ba (winL s q (ms ++ [m]) ⟨r2.at_, r2.nd⟩) b' r' → T b' r' := fun b' r' hk =>
  wl_more hX h0 he hb hs b' r' (by rw [if_neg (by omega)]; exact Sim.eq (Sim.then (g := fun a t => winL s q (ms ++ [a]) t) hm hk) fun _ => rfl)
theorem wl_many (hX : ∀ b r', Sim s be ba (winL s (q + 1) ms ⟨k, n⟩) b r' → T b r') (h0 : be = 0) (he : SignR s ⟨#[125]⟩ be k (b, j)) (hb : b = false) (hs : SimU s be ba (sepP s ms ⟨j, n⟩) r1) (h5 : (5 : Int) ≤ (ms.length : Int)) (hl : ms.length ≤ 5) (hz : StopR r1.be r1.ba 5 r1.at_ (be', ba')) : T ms ⟨r1.at_, r1.nd, be', ba'⟩ :=
  wl_more hX h0 he hb hs _ _ (Sim.stop' hz (by decide) hs.1 fun _ => if_pos (by omega))
theorem wl_off (hX : ∀ b r', Sim s be ba (winL s (q + 1) ms ⟨k, n⟩) b r' → T b r') (h0 : be = 0) (he : SignR s ⟨#[125]⟩ be k (b, j)) (hb : b = false) (hs : SimU s be ba (sepP s ms ⟨j, n⟩) r1) (hn : ¬ r1.be = 0) : T ms r1 :=
  wl_more hX h0 he hb hs _ _ (.bad hs.1 hn rfl rfl)
end
theorem window_sim (h1 : SimU s be ba (must s ⟨#[40]⟩ ⟨i, n⟩) r1) (h2 : SimU s r1.be r1.ba (must s ⟨#[123]⟩ ⟨r1.at_, r1.nd⟩) r2) (h3 : Sim s r2.be r2.ba (winL s 6 [] ⟨r2.at_, r2.nd⟩) ms r3) (h4 : SimU s r3.be r3.ba (must s ⟨#[91]⟩ ⟨r3.at_, r3.nd⟩) r4)
    (h5 : Sim s r4.be r4.ba (num s 1 100000 ⟨r4.at_, r4.nd⟩) v r5) (h6 : SimU s r5.be r5.ba (must s ⟨#[93]⟩ ⟨r5.at_, r5.nd⟩) r6) (h7 : SimU s r6.be r6.ba (must s ⟨#[41]⟩ ⟨r6.at_, r6.nd⟩) r7) (h8 : SimU s r7.be r7.ba (node ⟨r7.at_, r7.nd⟩) r8) : Sim s be ba (window s wd ⟨i, n⟩) (.mk 2 0 v wd ms [] []) r8 :=
by
  have k8 : Sim s r7.be r7.ba ((node ⟨r7.at_, r7.nd⟩).then fun j => .ok (Expr.mk 2 0 v wd ms [] [], j)) (.mk 2 0 v wd ms [] []) r8 := SimU.then (g := fun j => .ok (Expr.mk 2 0 v wd ms [] [], j)) h8 (Sim.pure h8.1 rfl rfl)
  have k7 := SimU.then (g := fun i => (node i).then fun j => .ok (Expr.mk 2 0 v wd ms [] [], j)) h7 k8
  have k6 := SimU.then (g := fun h => (must s ⟨#[41]⟩ h).then fun i => (node i).then fun j => .ok (Expr.mk 2 0 v wd ms [] [], j)) h6 k7
  have k5 := Sim.then (g := fun v t => (must s ⟨#[93]⟩ t).then fun h => (must s ⟨#[41]⟩ h).then fun i => (node i).then fun j => .ok (Expr.mk 2 0 v wd ms [] [], j)) h5 k6
  have k4 := SimU.then (g := fun d => (num s 1 100000 d).then fun n => (must s ⟨#[93]⟩ n.2).then fun h => (must s ⟨#[41]⟩ h).then fun i => (node i).then fun j => .ok (Expr.mk 2 0 n.1 wd ms [] [], j)) h4 k5
  have k3 := Sim.then (g := fun c t => (must s ⟨#[91]⟩ t).then fun d => (num s 1 100000 d).then fun n => (must s ⟨#[93]⟩ n.2).then fun h => (must s ⟨#[41]⟩ h).then fun i => (node i).then fun j => .ok (Expr.mk 2 0 n.1 wd c [] [], j)) h3 k4
  have k2 := SimU.then (g := fun b => (winL s 6 [] b).then fun c => (must s ⟨#[91]⟩ c.2).then fun d => (num s 1 100000 d).then fun n => (must s ⟨#[93]⟩ n.2).then fun h => (must s ⟨#[41]⟩ h).then fun i => (node i).then fun j => .ok (Expr.mk 2 0 n.1 wd c.1 [] [], j)) h2 k3
  exact Sim.eq (SimU.then (g := fun a => (must s ⟨#[123]⟩ a).then fun b => (winL s 6 [] b).then fun c => (must s ⟨#[91]⟩ c.2).then fun d => (num s 1 100000 d).then fun n => (must s ⟨#[93]⟩ n.2).then fun h => (must s ⟨#[41]⟩ h).then fun i => (node i).then fun j => .ok (Expr.mk 2 0 n.1 wd c.1 [] [], j)) h1 k2) fun _ => rfl
/-! ## Labels behind by -/
section
variable {T : List ByteArray → RS → Prop} {l : List ByteArray}
theorem bl_done (hX : ∀ b r', Sim s be ba (byL s (q + 1) l ⟨k, n⟩) b r' → T b r') (he : SignR s ⟨#[44]⟩ be k (b, j)) (hb : b = false) : T l ⟨j, n, be, ba⟩ := by
  refine hX _ _ ?_
  by_cases h0 : be = 0
  · exact (Sim.pure (r := ⟨j, n, be, ba⟩) he.1 rfl rfl).eq fun _ => by_done rfl (he.no hb h0)
  · exact .bad he.1 h0 rfl rfl
theorem bl_many (hX : ∀ b r', Sim s be ba (byL s (q + 1) l ⟨k, n⟩) b r' → T b r') (he : SignR s ⟨#[44]⟩ be k (b, j)) (hb : b = true) (h4 : (4 : Int) ≤ (l.length : Int)) (hl : l.length ≤ 4) (hz : StopR be ba 5 j (be', ba')) : T l ⟨j, n, be', ba'⟩ :=
  hX _ _ (Sim.stop' hz (by decide) he.1 fun _ => by_many rfl (he.yes hb).2 (by omega))
theorem bl_next (hX : ∀ b r', Sim s be ba (byL s (q + 1) l ⟨k, n⟩) b r' → T b r') (he : SignR s ⟨#[44]⟩ be k (b, j)) (hb : b = true) (h4 : ¬ (4 : Int) ≤ (l.length : Int)) (hn : Sim s be ba (name s ⟨j, n⟩) wd r1) :
    ∀ b' r', Sim s r1.be r1.ba (byL s q (l ++ [wd]) ⟨r1.at_, r1.nd⟩) b' r' → T b' r' := fun b' r' hk =>
  hX _ _ (Sim.eq (Sim.then (g := fun a t => byL s q (l ++ [a]) t) hn hk) fun _ => by_next rfl (he.yes hb).2 (by omega) rfl)
end
/-! ## Sums -/
section
variable {T : Expr → RS → Prop} {sub : St → Res (Expr × St)} {signs : List ByteArray}
theorem sl_bad (hX : ∀ b r', Sim s be ba (binL s sub signs q e ⟨k, n⟩) b r' → T b r') (hn : ¬ be = 0) (hk : k ≤ s.size) : T e ⟨k, n, be, ba⟩ := hX _ _ (.bad hk hn rfl rfl)
theorem sl_done (hX : ∀ b r', Sim s be ba (binL s sub signs (q + 1) e ⟨k, n⟩) b r' → T b r') (h0 : be = 0) (hp : pick s signs k = (⟨#[]⟩, j)) (hj : j ≤ s.size) : T e ⟨j, n, be, ba⟩ :=
  hX _ _ ((Sim.pure (r := ⟨j, n, be, ba⟩) hj rfl rfl).eq fun _ => bin_done rfl hp)
theorem sl_next (hX : ∀ b r', Sim s be ba (binL s sub signs (q + 1) e ⟨k, n⟩) b r' → T b r') (h0 : be = 0) (hp : pick s signs k = (wd, j)) (hw : wd ≠ ⟨#[]⟩) (hs : Sim s be ba (sub ⟨j, n⟩) f r1) (hn : SimU s r1.be r1.ba (node ⟨r1.at_, r1.nd⟩) r2) :
    ∀ b' r', Sim s r2.be r2.ba (binL s sub signs q (.mk 4 0 0 wd [] [] [e, f]) ⟨r2.at_, r2.nd⟩) b' r' → T b' r' := fun b' r' hk =>
  hX _ _ (Sim.eq (Sim.then (g := fun f t => (node t).then fun u => binL s sub signs q (.mk 4 0 0 wd [] [] [e, f]) u) hs (SimU.then (g := fun u => binL s sub signs q (.mk 4 0 0 wd [] [] [e, f]) u) hn hk)) fun _ => bin_next rfl hp hw rfl)
theorem sl_off (hX : ∀ b r', Sim s be ba (binL s sub signs (q + 1) e ⟨k, n⟩) b r' → T b r') (h0 : be = 0) (hp : pick s signs k = (wd, j)) (hw : wd ≠ ⟨#[]⟩) (hs : Sim s be ba (sub ⟨j, n⟩) f r1) (hn : ¬ r1.be = 0) (q' : Nat) (e' : Expr) :
    ∀ b' r', Sim s r1.be r1.ba (binL s sub signs q' e' ⟨r1.at_, r1.nd⟩) b' r' → T b' r' := fun b' r' hk =>
  hX _ _ (Sim.eq (Sim.then (g := fun f t => (node t).then fun u => binL s sub signs q (.mk 4 0 0 wd [] [] [e, f]) u) hs (hk.any hn)) fun _ => bin_next rfl hp hw rfl)
theorem sum_sim (hs : Sim s be ba (sub ⟨i, n⟩) e r1) (hX : Sim s r1.be r1.ba (binL s sub signs 101 e ⟨r1.at_, r1.nd⟩) f r) : Sim s be ba (sumOf s sub signs ⟨i, n⟩) f r :=
  Sim.eq (Sim.then (g := fun e t => binL s sub signs 101 e t) hs hX) fun _ => rfl
end
/-! ## Factors -/
section
variable {kid : St → Res (Expr × St)} {l : List ByteArray}
theorem fac_par (he : SignR s ⟨#[40]⟩ be i (b, j)) (hb : b = true) (hk : Sim s be ba (kid ⟨j, n⟩) e r1) (hm : SimU s r1.be r1.ba (must s ⟨#[41]⟩ ⟨r1.at_, r1.nd⟩) r) : Sim s be ba (factor s kid ⟨i, n⟩) e r :=
  Sim.eq (Sim.then (g := fun e t => (must s ⟨#[41]⟩ t).then fun u => .ok (e, u)) hk (SimU.then (g := fun u => .ok (e, u)) hm (Sim.pure hm.1 rfl rfl))) fun _ => by
    unfold factor; simp only [(he.yes hb).2, if_true, St.go]
def facW (s : ByteArray) (kid : St → Res (Expr × St)) (at_ : Nat) (w : ByteArray) (t : St) : Res (Expr × St) :=
  if w = ⟨#[97, 108, 108]⟩ then all s kid t else if w = ⟨#[]⟩ then (num s 0 1000000 t).then fun n => (node n.2).then fun c => .ok (.mk 1 n.1 0 ⟨#[]⟩ [] [] [], c)
  else if ¬ 0 ≤ Names.indexOf Agg.words w 0 then .no (7, at_) else window s w t
theorem fac_word (he : SignR s ⟨#[40]⟩ be i (b, j)) (hb : b = false) (hj : blank s j = k) (hw : Sim s be ba (word s ⟨k, n⟩) wd r1) (hk : Sim s r1.be r1.ba (facW s kid k wd ⟨r1.at_, r1.nd⟩) e r) : Sim s be ba (factor s kid ⟨i, n⟩) e r :=
  Sim.eq (Sim.then (g := facW s kid k) hw hk) fun h0 => by
    unfold factor facW; simp only [he.no hb h0, if_false, Bool.false_eq_true, St.go, hj]
theorem facW_num (hw : wd = ⟨#[]⟩) (h1 : Sim s be ba (num s 0 1000000 ⟨i, n⟩) v r1) (h2 : SimU s r1.be r1.ba (node ⟨r1.at_, r1.nd⟩) r) : Sim s be ba (facW s kid k wd ⟨i, n⟩) (.mk 1 v 0 ⟨#[]⟩ [] [] []) r :=
  Sim.eq (Sim.then (g := fun v t => (node t).then fun c => .ok (Expr.mk 1 v 0 ⟨#[]⟩ [] [] [], c)) h1 (SimU.then (g := fun c => .ok (Expr.mk 1 v 0 ⟨#[]⟩ [] [] [], c)) h2 (Sim.pure h2.1 rfl rfl))) fun _ => by
    unfold facW; rw [if_neg (by rw [hw]; decide), if_pos hw]
theorem facW_no (h1 : ¬ wd = ⟨#[]⟩) (h2 : wd ≠ ⟨#[97, 108, 108]⟩) (h3 : ¬ 0 ≤ Names.indexOf Agg.words wd 0) (hi : i ≤ s.size) (hz : StopR be ba 7 k (be', ba')) : Sim s be ba (facW s kid k wd ⟨i, n⟩) e ⟨i, n, be', ba'⟩ :=
  Sim.stop' hz (by decide) hi fun _ => by unfold facW; rw [if_neg h2, if_neg h1, if_pos h3]
theorem facW_win (h1 : ¬ wd = ⟨#[]⟩) (h2 : wd ≠ ⟨#[97, 108, 108]⟩) (h3 : ¬ ¬ 0 ≤ Names.indexOf Agg.words wd 0) (hw : Sim s be ba (window s wd ⟨i, n⟩) e r) : Sim s be ba (facW s kid k wd ⟨i, n⟩) e r :=
  hw.eq fun _ => by unfold facW; rw [if_neg h2, if_neg h1, if_neg h3]
theorem facW_all (h2 : ¬ wd ≠ ⟨#[97, 108, 108]⟩) (ha : Sim s be ba (all s kid ⟨i, n⟩) e r) : Sim s be ba (facW s kid k wd ⟨i, n⟩) e r :=
  ha.eq fun _ => by unfold facW; rw [if_pos (Classical.not_not.1 h2)]
def allW (s : ByteArray) (kid : St → Res (Expr × St)) (at_ : Nat) (w : ByteArray) (t : St) : Res (Expr × St) :=
  if ¬ 0 ≤ Names.indexOf Lg.totals w 0 then .no (7, at_) else (word s (t.go (blank s t.at_))).then fun v => if v.1 ≠ ⟨#[]⟩ ∧ v.1 ≠ ⟨#[98, 121]⟩ then .no (2, blank s t.at_) else (bys s v.1 v.2).then fun l => allTail s kid w l.1 l.2
theorem all_name (hj : blank s i = j) (hn : Sim s be ba (name s ⟨j, n⟩) wd r1) (hk : Sim s r1.be r1.ba (allW s kid j wd ⟨r1.at_, r1.nd⟩) e r) : Sim s be ba (all s kid ⟨i, n⟩) e r :=
  Sim.eq (Sim.then (g := allW s kid j) hn hk) fun _ => by unfold all allW; simp only [St.go, hj]
def byT (s : ByteArray) (kid : St → Res (Expr × St)) (at_ : Nat) (w v : ByteArray) (t : St) : Res (Expr × St) := if v ≠ ⟨#[]⟩ ∧ v ≠ ⟨#[98, 121]⟩ then .no (2, at_) else (bys s v t).then fun l => allTail s kid w l.1 l.2
theorem allW_word (h : ¬ ¬ 0 ≤ Names.indexOf Lg.totals wd 0) (hj : blank s i = j) (hw : Sim s be ba (word s ⟨j, n⟩) wd2 r1) (hk : Sim s r1.be r1.ba (byT s kid j wd wd2 ⟨r1.at_, r1.nd⟩) e r) : Sim s be ba (allW s kid k wd ⟨i, n⟩) e r :=
  Sim.eq (Sim.then (g := byT s kid j wd) hw hk) fun _ => by unfold allW byT; rw [if_neg h]; simp only [St.go, hj]
theorem allW_no (h : ¬ 0 ≤ Names.indexOf Lg.totals wd 0) (hi : i ≤ s.size) (hz : StopR be ba 7 k (be', ba')) : Sim s be ba (allW s kid k wd ⟨i, n⟩) e ⟨i, n, be', ba'⟩ :=
  Sim.stop' hz (by decide) hi fun _ => by unfold allW; rw [if_pos h]
theorem byT_form (h1 : wd2 ≠ ⟨#[]⟩) (h2 : wd2 ≠ ⟨#[98, 121]⟩) (hi : i ≤ s.size) (hz : StopR be ba 2 k (be', ba')) : Sim s be ba (byT s kid k wd wd2 ⟨i, n⟩) e ⟨i, n, be', ba'⟩ :=
  Sim.stop' hz (by decide) hi fun _ => by unfold byT; rw [if_pos ⟨h1, h2⟩]
theorem byT_none (h1 : wd2 = ⟨#[]⟩) (ht : Sim s be ba (allTail s kid wd [] ⟨i, n⟩) e r) : Sim s be ba (byT s kid k wd wd2 ⟨i, n⟩) e r :=
  ht.eq fun _ => by unfold byT bys; rw [if_neg (fun g => g.1 h1), if_neg (by rw [h1]; decide)]; rfl
theorem byT_by (h1 : wd2 = ⟨#[98, 121]⟩) {wd3 : ByteArray} (hn : Sim s be ba (name s ⟨i, n⟩) wd3 r1) (hl : Sim s r1.be r1.ba (byL s 5 [wd3] ⟨r1.at_, r1.nd⟩) l r2) (ht : Sim s r2.be r2.ba (allTail s kid wd l ⟨r2.at_, r2.nd⟩) e r) : Sim s be ba (byT s kid k wd wd2 ⟨i, n⟩) e r := by
  have h3 : Sim s be ba ((name s ⟨i, n⟩).then fun k => byL s 5 [k.1] k.2) l r2 := Sim.then (g := fun a t => byL s 5 [a] t) hn hl
  refine Sim.eq (Sim.then (g := fun l t => allTail s kid wd l t) h3 ht) fun _ => ?_
  unfold byT bys; rw [if_neg (fun g => g.2 h1), if_pos h1]
theorem tail_sim (h1 : SimU s be ba (must s ⟨#[40]⟩ ⟨i, n⟩) r1) (h2 : Sim s r1.be r1.ba (kid ⟨r1.at_, r1.nd⟩) f r2) (h3 : SimU s r2.be r2.ba (must s ⟨#[41]⟩ ⟨r2.at_, r2.nd⟩) r3) (h4 : SimU s r3.be r3.ba (node ⟨r3.at_, r3.nd⟩) r) : Sim s be ba (allTail s kid wd l ⟨i, n⟩) (.mk 3 0 0 wd [] l [f]) r := by
  have k4 := SimU.then (g := fun c => .ok (Expr.mk 3 0 0 wd [] l [f], c)) h4 (Sim.pure h4.1 rfl rfl)
  have k3 := SimU.then (g := fun b => (node b).then fun c => .ok (Expr.mk 3 0 0 wd [] l [f], c)) h3 k4
  have k2 := Sim.then (g := fun f t => (must s ⟨#[41]⟩ t).then fun b => (node b).then fun c => .ok (Expr.mk 3 0 0 wd [] l [f], c)) h2 k3
  exact Sim.eq (SimU.then (g := fun z => (kid z).then fun e => (must s ⟨#[41]⟩ e.2).then fun b => (node b).then fun c => .ok (Expr.mk 3 0 0 wd [] l [e.1], c)) h1 k2) fun _ => rfl
theorem fac0_sim (h0 : be = 0) (hi : i ≤ s.size) (hz : StopR be ba 4 i (be', ba')) : Sim s be ba (fac s 0 ⟨i, n⟩) e ⟨i, n, be', ba'⟩ := Sim.stop' hz (by decide) hi fun _ => rfl
end
/-- where nothing is kept now, nothing was kept then -/
structure Fst (a b : Int) : Prop where
  first : b = 0 → a = 0
theorem Sim.val {P : Res (α × St)} {a a' : α} (h : Sim s be ba P a r) (hn : ¬ r.be = 0) : Sim s be ba P a' r := ⟨h.1, h.2.1, fun h0 => ⟨fun x hx => absurd ((h.2.2 h0).1 x hx).1 hn, (h.2.2 h0).2⟩⟩
theorem Sim.over {P : Res (α × St)} {Q : Res (β × St)} {a e : α} {e' : β} (h : Sim s be ba P a r1) (hn : ¬ r1.be = 0) (k : Sim s r1.be r1.ba Q e' r) : Sim s be ba P e r := by
  obtain ⟨k1, k2⟩ := k.2.1 hn
  refine ⟨k.1, fun g => ?_, fun g => ⟨fun x hx => absurd ((h.2.2 g).1 x hx).1 hn, fun f hf => ?_⟩⟩
  · obtain ⟨h1, h2⟩ := h.2.1 g; exact ⟨k1.trans h1, k2.trans h2⟩
  · obtain ⟨h1, h2, h3⟩ := (h.2.2 g).2 f hf; exact ⟨h1, k1.trans h2, k2.trans h3⟩
end
end Pz
end Go.Proofs.YtffpglgboaigfaaDoor
