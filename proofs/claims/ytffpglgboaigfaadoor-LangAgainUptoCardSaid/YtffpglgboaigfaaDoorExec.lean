/-
  The step laws by which the walks of this claim are made: an environment of slots, a bundled assertion on memory, one law for each kind of operation.
-/
import Derived.WalkKit
import Derived.ProofKit
import Derived.OpenShut
import Derived.JoinedCond
import Derived.Deep.Quiet
import Derived.Laws.OwnMore
import Derived.Laws.StructEq
namespace Go.Proofs.YtffpglgboaigfaaDoor
namespace Ex

/-! ## Slots -/

abbrev Env := List (Nat × Value)

def look : Env → Nat → Option Value
  | [], _ => none
  | p :: r, t => match Nat.beq p.1 t with
    | true => some p.2
    | false => look r t

def ev (E : Env) : Operand → Option Value
  | .tmp t => look E t
  | .const v => some v
  | .global g => some (.pointer (some ⟨g, 0, none⟩))
  | .func f => some (.func (.func f) #[] #[])

/-- What is known of a frame: its deferred calls, how many slots, what lies in some of them. -/
structure Has (N : Nat) (D : List Deferred) (a : Act) (E : Env) : Prop where
  d : a.defers = D
  n : a.tmps.size = N
  h : ∀ t v, look E t = some v → a.tmps[t]? = some v

section
variable {N : Nat} {D : List Deferred} {E E' : Env} {a : Act}

theorem Has.eval (h : Has N D a E) {x : Operand} {v : Value} (e : ev E x = some v) : a.eval x = v := by
  cases x with
  | tmp t => have := h.h t v e; simp [Act.eval, this]
  | const u => simpa [ev, Act.eval] using e
  | global g => simpa [ev, Act.eval] using e
  | func f => simpa [ev, Act.eval] using e

theorem look_cons (p : Nat × Value) (r : Env) (t : Nat) : look (p :: r) t = if p.1 = t then some p.2 else look r t := by
  rw [look]
  cases h : Nat.beq p.1 t with
  | true => rw [if_pos (Nat.eq_of_beq_eq_true h)]
  | false => rw [if_neg (Nat.ne_of_beq_eq_false h)]

theorem Has.put (h : Has N D a E) {d : Nat} (v : Value) (hd : Nat.blt d N = true) : Has N D (a.put (some d) v) ((d, v) :: E) := by
  have hd' : d < N := by simpa [Nat.blt_eq] using hd
  refine ⟨h.d, by simp [Act.put, h.n], fun t u hu => ?_⟩
  rw [look_cons] at hu
  simp only [Act.put]
  by_cases e : d = t
  · subst e
    rw [if_pos rfl] at hu
    rw [Array.getElem?_setIfInBounds_self_of_lt (by rw [h.n]; exact hd')]
    exact hu
  · rw [if_neg e] at hu
    rw [Array.getElem?_setIfInBounds_ne e]
    exact h.h t u hu

/-- Fewer slots known. -/
theorem Has.less (h : Has N D a E) (hs : ∀ p ∈ E', look E p.1 = some p.2) : Has N D a E' := by
  refine ⟨h.d, h.n, fun t v hv => h.h t v ?_⟩
  clear h
  induction E' with
  | nil => simp [look] at hv
  | cons p r ih =>
    rw [look_cons] at hv
    by_cases e : p.1 = t
    · rw [if_pos e] at hv
      have := hs p (List.mem_cons_self ..)
      rw [← e, this, hv]
    · rw [if_neg e] at hv
      exact ih (fun q hq => hs q (List.mem_cons_of_mem _ hq)) hv
end

/-- The slots of E', each as E has it. -/
def subB (E : Env) : Env → Prop
  | [] => True
  | p :: r => look E p.1 = some p.2 ∧ subB E r
theorem subB.all {E E' : Env} (h : subB E E') : ∀ p ∈ E', look E p.1 = some p.2 := by
  induction E' with
  | nil => simp
  | cons p r ih =>
    intro q hq
    rcases List.mem_cons.1 hq with rfl | hq
    · exact h.1
    · exact ih h.2 q hq

/-! ## Memory -/

/-- From w to w' nothing that was there has turned but blocks in M. -/
structure Fr (M : Nat → Prop) (w w' : World) : Prop where
  os : w'.os = w.os
  tape : w'.tape = w.tape
  output : w'.output = w.output
  size : w.heap.size ≤ w'.heap.size
  block : ∀ k, k < w.heap.size → ¬ M k → w'.heap[k]? = w.heap[k]?

def no : Nat → Prop := fun _ => False

section
variable {M M' : Nat → Prop} {w w' w'' : World}
theorem Fr.refl (M : Nat → Prop) (w : World) : Fr M w w := ⟨rfl, rfl, rfl, Nat.le_refl _, fun _ _ _ => rfl⟩
theorem Fr.trans (h : Fr M w w') (k : Fr M' w' w'') (hM : ∀ b, b < w.heap.size → M' b → M b) : Fr M w w'' :=
  ⟨k.os.trans h.os, k.tape.trans h.tape, k.output.trans h.output, Nat.le_trans h.size k.size, fun b hb hn => (k.block b (Nat.lt_of_lt_of_le hb h.size) (fun hm => hn (hM b hb hm))).trans (h.block b hb hn)⟩
theorem Fr.mono (h : Fr M w w') (hM : ∀ b, b < w.heap.size → M b → M' b) : Fr M' w w' := ⟨h.os, h.tape, h.output, h.size, fun b hb hn => h.block b hb fun hm => hn (hM b hb hm)⟩
theorem Fr.alloc (M : Nat → Prop) (w : World) (o : Obj) : Fr M w (w.alloc o) := ⟨rfl, rfl, rfl, by simp, fun k hk _ => Go.RowKit.Below.heap_alloc w o k hk⟩
theorem Fr.drew (M : Nat → Prop) (w : World) : Fr M w w.drew := ⟨rfl, rfl, rfl, Nat.le_refl _, fun _ _ _ => rfl⟩
theorem Fr.setCell (w : World) (p : Addr) (v : Value) : Fr (· = p.block) w (w.setCell p v) := ⟨rfl, rfl, rfl, by simp, fun k _ hk => heap_setCell_other w p k v hk⟩
theorem Fr.below (h : Fr no w w') : Go.RowKit.Below w.heap.size w w' := ⟨h.os, h.tape, h.output, h.size, fun k hk => h.block k hk id⟩
theorem Fr.of_below (h : Go.RowKit.Below w.heap.size w w') : Fr no w w' := ⟨h.os, h.tape, h.output, h.size, fun k hk _ => h.block k hk⟩
theorem Fr.of_grown {row : Option Nat} (h : w.grownBy w' row) : Fr (fun b => row = some b) w w' := ⟨h.os, h.tape, h.output, h.size, fun k hk hn => h.block k hk fun e => hn e.symm⟩
theorem Fr.same (h : Fr M w w') {b : Nat} (hb : b < w.heap.size) (hn : ¬ M b) : w'.heap[b]? = w.heap[b]? := h.block b hb hn
theorem Fr.cell (h : Fr M w w') {p : Addr} (hb : p.block < w.heap.size) (hn : ¬ M p.block) : w'.cell? p = w.cell? p := World.cell?_of_block (h.block _ hb hn)
end

/-- What a call may write, and what of memory was laid down for good before it began. -/
structure Fp where
  m : Nat → Prop
  p : Nat → Prop
instance : Coe (Nat → Prop) Fp := ⟨fun m => ⟨m, fun _ => False⟩⟩

/-- A part of memory that is known. 'blk': a block, whole. 'row': a slice that is nil, or lies at the head of a block of its own. 'dat': whatever hangs on the blocks in S alone, and is not written any more. 'pub': whatever hangs on the blocks that were laid down for good. -/
inductive Own where
  | blk (b : Nat) (cs : List Value) (T : TypeId)
  | row (v : Value) (e : TypeId) (k n : Nat) (xs : List Value)
  | map (b : Nat) (es : List MapEntry) (n : Nat)
  | dat (S : Nat → Prop) (F : World → Prop)
  | pub (F : (Nat → Prop) → World → Prop)

def Own.mut : Own → Bool
  | .dat .. => false
  | .pub .. => false
  | _ => true
def Own.fp : Own → Nat → Prop
  | .blk b _ _ => (· = b)
  | .row v _ _ _ _ => fun b => v.ownBlock = some b
  | .map b _ _ => (· = b)
  | .dat S _ => S
  | .pub _ => fun _ => False
/-- hangs on the blocks of S alone; on more of them too -/
def Loc (F : (Nat → Prop) → World → Prop) : Prop := ∀ (S S' : Nat → Prop) (u u' : World), (∀ b, S b → S' b) → (∀ b, S b → u'.heap[b]? = u.heap[b]?) → F S u → F S' u'
def Own.holds : Own → World → Prop
  | .blk b cs T, w => w.heap[b]? = some (.cells cs.toArray T (0, 0))
  | .row v e k n xs, w => w.ownsRow 0 e k v n xs
  | .map b es n, w => w.heap[b]? = some (.map es.toArray n)
  | .dat S F, w => F w ∧ ∀ u u' : World, (∀ b, S b → u'.heap[b]? = u.heap[b]?) → F u → F u'
  | .pub F, _ => Loc F

theorem Own.holds_keep {o : Own} {w w' : World} (h : o.holds w) (hs : ∀ b, o.fp b → w'.heap[b]? = w.heap[b]?) : o.holds w' := by
  cases o with
  | blk b cs T => exact (hs b rfl).trans h
  | row v e k n xs =>
    refine ⟨h.1, ?_⟩
    rcases h.2 with h2 | ⟨g, cap, cur, rfl, hb, hh, r⟩
    · exact .inl h2
    · exact .inr ⟨g, cap, cur, rfl, hb, (hs g rfl).trans hh, r⟩
  | map b es n => exact (hs b rfl).trans h
  | dat S F => exact ⟨h.2 w w' hs h.1, h.2⟩
  | pub F => exact h

/-- what is known of the blocks that were laid down for good -/
structure Pubs (w0 : World) (M : Fp) (L : List Own) (w : World) (Pb : Nat → Prop) : Prop where
  sub : ∀ b, Pb b → M.p b ∨ w0.heap.size ≤ b
  lt : ∀ b, Pb b → b < w.heap.size
  dj : ∀ (i : Nat) (o : Own), L[i]? = some o → o.mut = true → ∀ b, Pb b → ¬ o.fp b
  at_ : ∀ (i : Nat) (F : (Nat → Prop) → World → Prop), L[i]? = some (.pub F) → F Pb w

structure Mem (w0 : World) (M : Fp) (L : List Own) (w : World) : Prop where
  fr : Fr M.m w0 w
  ok : ∀ (i : Nat) (o : Own), L[i]? = some o → o.holds w ∧ (∀ b, o.fp b → b < w.heap.size) ∧ (o.mut = true → ∀ b, o.fp b → w0.heap.size ≤ b ∨ M.m b)
  dj : ∀ (i j : Nat) (o o' : Own), L[i]? = some o → L[j]? = some o' → i ≠ j → (o.mut = true ∨ o'.mut = true) → ∀ b, o.fp b → ¬ o'.fp b
  pb : ∃ Pb, Pubs w0 M L w Pb

def Own.isPub : Own → Bool
  | .pub _ => true
  | _ => false
theorem Own.not_pub {o : Own} (h : o.isPub = false) (F : (Nat → Prop) → World → Prop) : o ≠ .pub F := by rintro rfl; cases h
theorem Own.mut_pub {o : Own} (h : o.mut = true) : o.isPub = false := by cases o <;> first | rfl | cases h

section
variable {w0 w w' : World} {M M' : Fp} {L L' : List Own} {o o' : Own}

theorem Mem.start (w : World) (M : Fp) : Mem w M [] w := ⟨Fr.refl _ _, by simp, by simp, fun _ => False, by simp, by simp, by simp, by simp⟩

/-- what is laid down for good stays, where none of its blocks turned -/
theorem Pubs.stay {Pb : Nat → Prop} (h : Pubs w0 M L w Pb) (hok : ∀ (i : Nat) (o : Own), L[i]? = some o → o.holds w) (hs : ∀ b, Pb b → w'.heap[b]? = w.heap[b]?) {i : Nat} {F : (Nat → Prop) → World → Prop} (hi : L[i]? = some (.pub F)) : F Pb w' :=
  (hok i _ hi : Loc F) Pb Pb w w' (fun _ h => h) hs (h.at_ i F hi)

theorem Mem.keep (h : Mem w0 M L w) (hf : Fr no w w') : Mem w0 M L w' := by
  refine ⟨h.fr.trans hf (fun _ _ hm => hm.elim), fun i o hi => ?_, h.dj, ?_⟩
  · obtain ⟨h1, h2, h3⟩ := h.ok i o hi
    exact ⟨Own.holds_keep h1 (fun b hb => hf.block b (h2 b hb) id), fun b hb => Nat.lt_of_lt_of_le (h2 b hb) hf.size, h3⟩
  · obtain ⟨Pb, hp⟩ := h.pb
    exact ⟨Pb, hp.sub, fun b hb => Nat.lt_of_lt_of_le (hp.lt b hb) hf.size, hp.dj, fun i F hi => hp.stay (fun i o hi => (h.ok i o hi).1) (fun b hb => hf.block b (hp.lt b hb) id) hi⟩

/-- One part is written. -/
theorem Mem.upd (h : Mem w0 M L w) {i : Nat} (hi : L[i]? = some o) (hm : o.mut = true) (hf : Fr o.fp w w') (hh : o'.holds w')
    (hp : ∀ b, o'.fp b → (o.fp b ∨ w.heap.size ≤ b) ∧ b < w'.heap.size) (hq : o'.isPub = false := by rfl) : Mem w0 M (L.set i o') w' := by
  have hil : i < L.length := (List.getElem?_eq_some_iff.1 hi).1
  have hsz0 := h.fr.size
  refine ⟨h.fr.trans hf (fun b hb hb' => ((h.ok i o hi).2.2 hm b hb').resolve_left (by omega)), fun j p hj => ?_, ?_, ?_⟩
  · rw [List.getElem?_set] at hj
    by_cases e : i = j
    · rw [if_pos e, if_pos hil] at hj
      obtain rfl : o' = p := by simpa using hj
      refine ⟨hh, fun b hb => (hp b hb).2, fun _ b hb => ?_⟩
      rcases (hp b hb).1 with hb' | hb'
      · exact (h.ok i o hi).2.2 hm b hb'
      · left; omega
    · rw [if_neg e] at hj
      obtain ⟨h1, h2, h3⟩ := h.ok j p hj
      exact ⟨Own.holds_keep h1 (fun b hb => hf.block b (h2 b hb) (h.dj j i p o hj hi (Ne.symm e) (.inr hm) b hb)), fun b hb => Nat.lt_of_lt_of_le (h2 b hb) hf.size, h3⟩
  · intro j k p q hj hk hjk hmm b hb hb'
    rw [List.getElem?_set] at hj hk
    by_cases ej : i = j
    · rw [if_pos ej, if_pos hil] at hj
      obtain rfl : o' = p := by simpa using hj
      rw [if_neg (by omega)] at hk
      rcases (hp b hb).1 with h1 | h1
      · exact h.dj i k o q hi hk (by omega) (.inl hm) b h1 hb'
      · have := (h.ok k q hk).2.1 b hb'; omega
    · rw [if_neg ej] at hj
      by_cases ek : i = k
      · rw [if_pos ek, if_pos hil] at hk
        obtain rfl : o' = q := by simpa using hk
        rcases (hp b hb').1 with h1 | h1
        · exact h.dj i j o p hi hj (by omega) (.inl hm) b h1 hb
        · have := (h.ok j p hj).2.1 b hb; omega
      · rw [if_neg ek] at hk
        exact h.dj j k p q hj hk hjk hmm b hb hb'
  · obtain ⟨Pb, pp⟩ := h.pb
    refine ⟨Pb, pp.sub, fun b hb => Nat.lt_of_lt_of_le (pp.lt b hb) hf.size, fun j p hj hmp b hb hb' => ?_, fun j F hj => ?_⟩
    · rw [List.getElem?_set] at hj
      by_cases e : i = j
      · rw [if_pos e, if_pos hil] at hj
        obtain rfl : o' = p := by simpa using hj
        rcases (hp b hb').1 with h1 | h1
        · exact pp.dj i o hi hm b hb h1
        · have := pp.lt b hb; omega
      · rw [if_neg e] at hj
        exact pp.dj j p hj hmp b hb hb'
    · rw [List.getElem?_set] at hj
      by_cases e : i = j
      · rw [if_pos e, if_pos hil] at hj
        exact absurd (by simpa using hj) (Own.not_pub hq F)
      · rw [if_neg e] at hj
        exact pp.stay (fun i o hi => (h.ok i o hi).1) (fun b hb => hf.block b (pp.lt b hb) (pp.dj i o hi hm b hb)) hj

/-- A new part. -/
theorem Mem.add (h : Mem w0 M L w) (hf : Fr no w w') (hh : o.holds w') (hp : ∀ b, o.fp b → w.heap.size ≤ b ∧ b < w'.heap.size) (hq : o.isPub = false := by rfl) : Mem w0 M (o :: L) w' := by
  have h' := h.keep hf
  have hsz0 := h.fr.size
  refine ⟨h'.fr, fun i p hi => ?_, ?_, ?_⟩
  · cases i with
    | zero => obtain rfl : o = p := by simpa using hi
              exact ⟨hh, fun b hb => (hp b hb).2, fun _ b hb => .inl (by have := (hp b hb).1; omega)⟩
    | succ i => exact h'.ok i p (by simpa using hi)
  · intro i j p q hi hj hij hm b hb hb'
    cases i with
    | zero =>
      obtain rfl : o = p := by simpa using hi
      cases j with
      | zero => exact hij rfl
      | succ j => have := (h.ok j q (by simpa using hj)).2.1 b hb'; have := (hp b hb).1; omega
    | succ i =>
      cases j with
      | zero => obtain rfl : o = q := by simpa using hj
                have := (h.ok i p (by simpa using hi)).2.1 b hb; have := (hp b hb').1; omega
      | succ j => exact h.dj i j p q (by simpa using hi) (by simpa using hj) (by omega) hm b hb hb'
  · obtain ⟨Pb, pp⟩ := h.pb
    refine ⟨Pb, pp.sub, fun b hb => Nat.lt_of_lt_of_le (pp.lt b hb) hf.size, fun i p hi hm b hb hb' => ?_, fun i F hi => ?_⟩
    · cases i with
      | zero =>
        obtain rfl : o = p := by simpa using hi
        have := pp.lt b hb; have := (hp b hb').1; omega
      | succ i => exact pp.dj i p (by simpa using hi) hm b hb hb'
    · cases i with
      | zero => exact absurd (by simpa using hi) (Own.not_pub hq F)
      | succ i => exact pp.stay (fun i o hi => (h.ok i o hi).1) (fun b hb => hf.block b (pp.lt b hb) id) (by simpa using hi)

/-- A part that is said otherwise (weaker, or not to be written any more), of the same blocks or fewer. -/
theorem Mem.wk (h : Mem w0 M L w) {i : Nat} (hi : L[i]? = some o) (hh : o'.holds w) (hp : ∀ b, o'.fp b → o.fp b) (hm : o'.mut = true → o.mut = true) (hq : o'.isPub = false := by rfl) : Mem w0 M (L.set i o') w := by
  have hil : i < L.length := (List.getElem?_eq_some_iff.1 hi).1
  refine ⟨h.fr, fun j p hj => ?_, ?_, ?_⟩
  · rw [List.getElem?_set] at hj
    by_cases e : i = j
    · rw [if_pos e, if_pos hil] at hj
      obtain rfl : o' = p := by simpa using hj
      obtain ⟨_, h2, h3⟩ := h.ok i o hi
      exact ⟨hh, fun b hb => h2 b (hp b hb), fun hm' b hb => h3 (hm hm') b (hp b hb)⟩
    · rw [if_neg e] at hj
      exact h.ok j p hj
  · intro j k p q hj hk hjk hmm b hb hb'
    rw [List.getElem?_set] at hj hk
    by_cases ej : i = j
    · rw [if_pos ej, if_pos hil] at hj
      obtain rfl : o' = p := by simpa using hj
      rw [if_neg (by omega)] at hk
      exact h.dj i k o q hi hk (by omega) (hmm.imp hm id) b (hp b hb) hb'
    · rw [if_neg ej] at hj
      by_cases ek : i = k
      · rw [if_pos ek, if_pos hil] at hk
        obtain rfl : o' = q := by simpa using hk
        exact h.dj j i p o hj hi (Ne.symm ej) (hmm.imp id hm) b hb (hp b hb')
      · rw [if_neg ek] at hk
        exact h.dj j k p q hj hk hjk hmm b hb hb'
  · obtain ⟨Pb, pp⟩ := h.pb
    refine ⟨Pb, pp.sub, pp.lt, fun j p hj hmp b hb hb' => ?_, fun j F hj => ?_⟩
    · rw [List.getElem?_set] at hj
      by_cases e : i = j
      · rw [if_pos e, if_pos hil] at hj
        obtain rfl : o' = p := by simpa using hj
        exact pp.dj i o hi (hm hmp) b hb (hp b hb')
      · rw [if_neg e] at hj
        exact pp.dj j p hj hmp b hb hb'
    · rw [List.getElem?_set] at hj
      by_cases e : i = j
      · rw [if_pos e, if_pos hil] at hj
        exact absurd (by simpa using hj) (Own.not_pub hq F)
      · rw [if_neg e] at hj
        exact pp.at_ j F hj

/-- Some of the parts, in another order. -/
theorem Mem.sel (h : Mem w0 M L w) (is : List Nat) (hn : is.Nodup) (he : L'.map some = is.map (fun i => L[i]?)) : Mem w0 M L' w := by
  have key : ∀ (j : Nat) (o : Own), L'[j]? = some o → ∃ i : Nat, is[j]? = some i ∧ L[i]? = some o := by
    intro j o hj
    have h1 : (L'.map some)[j]? = some (some o) := by simp [hj]
    rw [he, List.getElem?_map] at h1
    cases hi : is[j]? with
    | none => simp [hi] at h1
    | some i => exact ⟨i, rfl, by simpa [hi] using h1⟩
  refine ⟨h.fr, fun j o hj => ?_, fun j k o o' hj hk hjk hm => ?_, ?_⟩
  · obtain ⟨i, _, hi⟩ := key j o hj
    exact h.ok i o hi
  · obtain ⟨i, h1, hi⟩ := key j o hj
    obtain ⟨i', h2, hi'⟩ := key k o' hk
    refine h.dj i i' o o' hi hi' (fun e => hjk ?_) hm
    subst e
    obtain ⟨hj1, hj2⟩ := List.getElem?_eq_some_iff.1 h1
    obtain ⟨hk1, hk2⟩ := List.getElem?_eq_some_iff.1 h2
    rcases Nat.lt_trichotomy j k with hlt | rfl | hlt
    · exact absurd (hj2.trans hk2.symm) (List.pairwise_iff_getElem.1 hn j k hj1 hk1 hlt)
    · rfl
    · exact absurd (hk2.trans hj2.symm) (List.pairwise_iff_getElem.1 hn k j hk1 hj1 hlt)
  · obtain ⟨Pb, pp⟩ := h.pb
    exact ⟨Pb, pp.sub, pp.lt, fun j o hj => by obtain ⟨i, _, hi⟩ := key j o hj; exact pp.dj i o hi, fun j F hj => by obtain ⟨i, _, hi⟩ := key j _ hj; exact pp.at_ i F hi⟩

/-- What follows of what was laid down for good, beside it. -/
theorem Mem.note (h : Mem w0 M L w) {F : (Nat → Prop) → World → Prop} (hl : Loc F) (hF : ∀ Pb, Pubs w0 M L w Pb → F Pb w) : Mem w0 M (.pub F :: L) w := by
  refine ⟨h.fr, fun i p hi => ?_, ?_, ?_⟩
  · cases i with
    | zero => obtain rfl : Own.pub F = p := by simpa using hi
              exact ⟨hl, fun b hb => hb.elim, fun hm => by cases hm⟩
    | succ i => exact h.ok i p (by simpa using hi)
  · intro i j p q hi hj hij hm b hb hb'
    cases i with
    | zero =>
      obtain rfl : Own.pub F = p := by simpa using hi
      exact hb
    | succ i =>
      cases j with
      | zero => obtain rfl : Own.pub F = q := by simpa using hj
                exact hb'
      | succ j => exact h.dj i j p q (by simpa using hi) (by simpa using hj) (by omega) hm b hb hb'
  · obtain ⟨Pb, pp⟩ := h.pb
    refine ⟨Pb, pp.sub, pp.lt, fun i p hi hm b hb hb' => ?_, fun i G hi => ?_⟩
    · cases i with
      | zero => obtain rfl : Own.pub F = p := by simpa using hi
                cases hm
      | succ i => exact pp.dj i p (by simpa using hi) hm b hb hb'
    · cases i with
      | zero => obtain rfl : F = G := by simpa using hi
                exact hF Pb pp
      | succ i => exact pp.at_ i G (by simpa using hi)
/-- Something more is laid down for good: blocks that came just now. -/
theorem Mem.lay (h : Mem w0 M L w) {F : (Nat → Prop) → World → Prop} (hl : Loc F) (hf : Fr no w w') (hF : ∀ Pb, Pubs w0 M L w Pb → ∃ Pb', (∀ b, Pb' b → (Pb b ∨ w.heap.size ≤ b) ∧ b < w'.heap.size) ∧ F Pb' w') : Mem w0 M (.pub F :: L) w' := by
  have h' := h.keep hf
  have hsz0 := h.fr.size
  refine ⟨h'.fr, fun i p hi => ?_, ?_, ?_⟩
  · cases i with
    | zero => obtain rfl : Own.pub F = p := by simpa using hi
              exact ⟨hl, fun b hb => hb.elim, fun hm => by cases hm⟩
    | succ i => exact h'.ok i p (by simpa using hi)
  · intro i j p q hi hj hij hm b hb hb'
    cases i with
    | zero =>
      obtain rfl : Own.pub F = p := by simpa using hi
      exact hb
    | succ i =>
      cases j with
      | zero => obtain rfl : Own.pub F = q := by simpa using hj
                exact hb'
      | succ j => exact h.dj i j p q (by simpa using hi) (by simpa using hj) (by omega) hm b hb hb'
  · obtain ⟨Pb, pp⟩ := h.pb
    obtain ⟨Pb', hs, hF'⟩ := hF Pb pp
    refine ⟨fun b => Pb b ∨ Pb' b, ?_, ?_, ?_, ?_⟩
    · rintro b (hb | hb)
      · exact pp.sub b hb
      · rcases (hs b hb).1 with h1 | h1
        · exact pp.sub b h1
        · right; omega
    · rintro b (hb | hb)
      · exact Nat.lt_of_lt_of_le (pp.lt b hb) hf.size
      · exact (hs b hb).2
    · intro i p hi hm b hb hb'
      cases i with
      | zero => obtain rfl : Own.pub F = p := by simpa using hi
                cases hm
      | succ i =>
        have hi' : L[i]? = some p := by simpa using hi
        rcases hb with hb | hb
        · exact pp.dj i p hi' hm b hb hb'
        · rcases (hs b hb).1 with h1 | h1
          · exact pp.dj i p hi' hm b h1 hb'
          · have := (h.ok i p hi').2.1 b hb'; omega
    · intro i G hi
      cases i with
      | zero => obtain rfl : F = G := by simpa using hi
                exact hl Pb' _ w' w' (fun b hb => .inr hb) (fun _ _ => rfl) hF'
      | succ i =>
        have hi' : L[i]? = some (.pub G) := by simpa using hi
        exact ((h.ok i _ hi').1 : Loc G) Pb _ w w' (fun b hb => .inl hb) (fun b hb => hf.block b (pp.lt b hb) id) (pp.at_ i G hi')
/-- A part of the call's own is laid down for good. -/
theorem Mem.seal (h : Mem w0 M L w) {i : Nat} (hi : L[i]? = some o) (hm : o.mut = true) (ho : ∀ b, o.fp b → w0.heap.size ≤ b ∨ M.p b) {F : (Nat → Prop) → World → Prop} (hl : Loc F) (hF : ∀ Pb, Pubs w0 M L w Pb → F (fun b => Pb b ∨ o.fp b) w) : Mem w0 M (L.set i (.pub F)) w := by
  have hil : i < L.length := (List.getElem?_eq_some_iff.1 hi).1
  refine ⟨h.fr, fun j p hj => ?_, ?_, ?_⟩
  · rw [List.getElem?_set] at hj
    by_cases e : i = j
    · rw [if_pos e, if_pos hil] at hj
      obtain rfl : Own.pub F = p := by simpa using hj
      exact ⟨hl, fun b hb => hb.elim, fun hm => by cases hm⟩
    · rw [if_neg e] at hj
      exact h.ok j p hj
  · intro j k p q hj hk hjk hmm b hb hb'
    rw [List.getElem?_set] at hj hk
    by_cases ej : i = j
    · rw [if_pos ej, if_pos hil] at hj
      obtain rfl : Own.pub F = p := by simpa using hj
      exact hb
    · rw [if_neg ej] at hj
      by_cases ek : i = k
      · rw [if_pos ek, if_pos hil] at hk
        obtain rfl : Own.pub F = q := by simpa using hk
        exact hb'
      · rw [if_neg ek] at hk
        exact h.dj j k p q hj hk hjk hmm b hb hb'
  · obtain ⟨Pb, pp⟩ := h.pb
    refine ⟨fun b => Pb b ∨ o.fp b, ?_, ?_, ?_, ?_⟩
    · rintro b (hb | hb)
      · exact pp.sub b hb
      · exact (ho b hb).symm
    · rintro b (hb | hb)
      · exact pp.lt b hb
      · exact (h.ok i o hi).2.1 b hb
    · intro j p hj hmp b hb hb'
      rw [List.getElem?_set] at hj
      by_cases e : i = j
      · rw [if_pos e, if_pos hil] at hj
        obtain rfl : Own.pub F = p := by simpa using hj
        exact hb'
      · rw [if_neg e] at hj
        rcases hb with hb | hb
        · exact pp.dj j p hj hmp b hb hb'
        · exact h.dj i j o p hi hj e (.inl hm) b hb hb'
    · intro j G hj
      rw [List.getElem?_set] at hj
      by_cases e : i = j
      · rw [if_pos e, if_pos hil] at hj
        obtain rfl : F = G := by simpa using hj
        exact hF Pb pp
      · rw [if_neg e] at hj
        exact ((h.ok j _ hj).1 : Loc G) Pb _ w w (fun b hb => .inl hb) (fun _ _ => rfl) (pp.at_ j G hj)

theorem Mem.get (h : Mem w0 M L w) {i : Nat} (hi : L[i]? = some o) : o.holds w := (h.ok i o hi).1
theorem Mem.blk (h : Mem w0 M L w) {i b : Nat} {cs : List Value} {T : TypeId} (hi : L[i]? = some (.blk b cs T)) : w.heap[b]? = some (.cells cs.toArray T (0, 0)) := h.get hi
theorem Mem.row (h : Mem w0 M L w) {i k n : Nat} {v : Value} {e : TypeId} {xs : List Value} (hi : L[i]? = some (.row v e k n xs)) : w.ownsRow 0 e k v n xs := h.get hi
theorem Mem.map (h : Mem w0 M L w) {i b n : Nat} {es : List MapEntry} (hi : L[i]? = some (.map b es n)) : w.heap[b]? = some (.map es.toArray n) := h.get hi
theorem Mem.dat (h : Mem w0 M L w) {i : Nat} {S : Nat → Prop} {F : World → Prop} (hi : L[i]? = some (.dat S F)) : F w := (h.get hi).1
/-- what was laid down for good, on the blocks that are there -/
theorem Mem.pubAt (h : Mem w0 M L w) {i : Nat} {F : (Nat → Prop) → World → Prop} (hi : L[i]? = some (.pub F)) : F (fun b => b < w.heap.size) w := by
  obtain ⟨Pb, pp⟩ := h.pb
  exact ((h.ok i _ hi).1 : Loc F) Pb _ w w pp.lt (fun _ _ => rfl) (pp.at_ i F hi)

theorem Mem.new (h : Mem w0 M L w) (cs : List Value) (T : TypeId) : Mem w0 M (.blk w.heap.size cs T :: L) (w.alloc (.cells cs.toArray T)) :=
  h.add (Fr.alloc _ _ _) (heap_alloc_new w _) (fun b (hb : b = _) => by subst hb; simp)
theorem Mem.drew (h : Mem w0 M L w) : Mem w0 M L w.drew := h.keep (Fr.drew _ _)
theorem Mem.set (h : Mem w0 M L w) {i b j : Nat} {cs : List Value} {T : TypeId} (hi : L[i]? = some (.blk b cs T)) (v : Value) : Mem w0 M (L.set i (.blk b (cs.set j v) T)) (w.setCell ⟨b, j, none⟩ v) := by
  refine h.upd hi rfl (Fr.setCell w ⟨b, j, none⟩ v) ?_ (fun b' hb' => ⟨.inl hb', ?_⟩)
  · have := heap_setCell_same w b j cs.toArray T v (h.blk hi)
    show (w.setCell ⟨b, j, none⟩ v).heap[b]? = some (.cells (cs.set j v).toArray T (0, 0))
    simpa using this
  · have := (h.ok i _ hi).2.1 b' hb'
    simpa using this
end


/-! ## Judgements: S is what is known of memory -/

/-- code -/
def WC (P : Program) (N : Nat) (D : List Deferred) (c : Code) (Q : Exit → Act → World → Prop) (E : Env) (S : World → Prop) : Prop := ∀ w, S w → ∀ a, Has N D a E → c.wp P Q a w
/-- a list of operations -/
def WL (P : Program) (N : Nat) (D : List Deferred) (ops : Array Oper) (Q : Exit → Act → World → Prop) (l : List Oper) (E : Env) (S : World → Prop) : Prop := ∀ w, S w → ∀ a, Has N D a E → wpList P ops Q l a w
/-- a list of operations of a region that draws its order, in the text's order, each of which hands back one value in every world of S -/
def WQ (P : Program) (N : Nat) (D : List Deferred) (ops : Array Oper) (K : Act → World → Prop) (l : List Oper) (E : Env) (S : World → Prop) : Prop :=
  ∀ a, Has N D a E → wpQuiet P ops S (fun a' => ∀ w', S w' → K a' w') l a
/-- an end -/
def WE (N : Nat) (D : List Deferred) (Q : Exit → Act → World → Prop) (e : Exit) (E : Env) (S : World → Prop) : Prop := ∀ w, S w → ∀ a, Has N D a E → Q e a w

section
variable {P : Program} {N : Nat} {D : List Deferred} {E E' : Env} {S S' : World → Prop} {Q : Exit → Act → World → Prop} {K : Act → World → Prop}

theorem WC.use {c : Code} (h : WC P N D c Q E S) {w : World} (hw : S w) {a : Act} (ha : Has N D a E) : c.wp P Q a w := h w hw a ha
theorem WC.weak {c : Code} (h : WC P N D c Q E' S') (hs : subB E E') (hS : ∀ w, S w → S' w) : WC P N D c Q E S := fun w hw a ha => h w (hS w hw) a (ha.less hs.all)
theorem WL.weak {ops : Array Oper} {l : List Oper} (h : WL P N D ops Q l E' S') (hs : subB E E') (hS : ∀ w, S w → S' w) : WL P N D ops Q l E S := fun w hw a ha => h w (hS w hw) a (ha.less hs.all)
theorem WE.weak {e : Exit} (h : WE N D Q e E' S') (hs : subB E E') (hS : ∀ w, S w → S' w) : WE N D Q e E S := fun w hw a ha => h w (hS w hw) a (ha.less hs.all)

/-! ## Code -/

/-- One behind the other, going on in place. -/
theorem c_seq {x y : Code} (h : ∀ K : Act → World → Prop, (∀ E S, WC P N D y Q E S → ∀ w, S w → ∀ a, Has N D a E → K a w) → WC P N D x (Exit.then K Q) E S) : WC P N D (.seq x y) Q E S :=
  fun w hw a ha => wp_seq (h (fun a w => y.wp P Q a w) (fun _ _ h' w' hw' a' ha' => h' w' hw' a' ha') w hw a ha)
/-- Two behind the first, the last one's way known ahead. -/
theorem c_seq2 {x y z : Code} (h : ∀ K2 : Act → World → Prop, (∀ E S, WC P N D z Q E S → ∀ w, S w → ∀ a, Has N D a E → K2 a w) → ∀ K1 : Act → World → Prop, (∀ E S, WC P N D y (Exit.then K2 Q) E S → ∀ w, S w → ∀ a, Has N D a E → K1 a w) → WC P N D x (Exit.then K1 Q) E S) : WC P N D (.seq x (.seq y z)) Q E S :=
  fun w hw a ha => wp_seq (h (fun a w => z.wp P Q a w) (fun _ _ h' w' hw' a' ha' => h' w' hw' a' ha') (fun a w => (Code.seq y z).wp P Q a w) (fun _ _ h' w' hw' a' ha' => wp_seq (h' w' hw' a' ha')) w hw a ha)
/-- One behind the other, what holds between them laid down. -/
theorem c_cut {x y : Code} (E' : Env) (S' : World → Prop) (h : ∀ K : Act → World → Prop, (∀ w, S' w → ∀ a, Has N D a E' → K a w) → WC P N D x (Exit.then K Q) E S) (h' : WC P N D y Q E' S') : WC P N D (.seq x y) Q E S :=
  fun w hw a ha => wp_seq (h (fun a w => y.wp P Q a w) (fun w' hw' a' ha' => h' w' hw' a' ha') w hw a ha)
theorem c_region {id : Nat} {l : List Oper} (h : WL P N D l.toArray Q l E S) : WC P N D (.region id l.toArray false) Q E S := fun w hw a ha => wp_region_lit (h w hw a ha)
theorem c_quiet {id : Nat} {l : List Oper} (hm : P.follows .mixedOrders = true) (hB : Region.lexB .any l.toArray = true) (hd : ∀ w, S w → S w.drew) (h : WQ P N D l.toArray (Q .normal) l E S) : WC P N D (.region id l.toArray true) Q E S :=
  fun w hw a ha => wp_region_quiet (C := S) hm hB (hd w hw) (by simpa using h a ha)
theorem c_block {id : Nat} {c : Code} (h : WC P N D c (Exit.inBlock id Q) E S) : WC P N D (.block id c) Q E S := fun w hw a ha => wp_block (h w hw a ha)
theorem c_ret (h : WE N D Q .ret E S) : WC P N D .ret Q E S := fun w hw a ha => wp_ret (h w hw a ha)
theorem c_skip (h : WE N D Q .normal E S) : WC P N D .skip Q E S := fun w hw a ha => wp_skip (h w hw a ha)
theorem c_exit {id : Nat} (h : WE N D Q (.exit id) E S) : WC P N D (.exit id) Q E S := fun w hw a ha => wp_exit (h w hw a ha)
/-- a test: both ways -/
theorem c_cond {c : Operand} {x y : Code} {p : Prop} [Decidable p] (hc : ev E c = some (.bool (decide p))) (ht : p → WC P N D x Q E S) (hf : ¬ p → WC P N D y Q E S) : WC P N D (.cond c x y) Q E S :=
  fun w hw a ha => wp_cond_split (ha.eval hc) (fun h => ht (of_decide_eq_true h) w hw a ha) (fun h => hf (of_decide_eq_false h) w hw a ha)
theorem c_condb {c : Operand} {x y : Code} {b : Bool} (hc : ev E c = some (.bool b)) (ht : b = true → WC P N D x Q E S) (hf : b = false → WC P N D y Q E S) : WC P N D (.cond c x y) Q E S :=
  fun w hw a ha => wp_cond_split (ha.eval hc) (fun h => ht h w hw a ha) (fun h => hf h w hw a ha)
theorem c_true {c : Operand} {x y : Code} {b : Bool} (hc : ev E c = some (.bool b)) (hb : b = true) (h : WC P N D x Q E S) : WC P N D (.cond c x y) Q E S := by
  subst hb; exact fun w hw a ha => wp_cond_true (ha.eval hc) (h w hw a ha)
theorem c_false {c : Operand} {x y : Code} {b : Bool} (hc : ev E c = some (.bool b)) (hb : b = false) (h : WC P N D y Q E S) : WC P N D (.cond c x y) Q E S := by
  subst hb; exact fun w hw a ha => wp_cond_false (ha.eval hc) (h w hw a ha)

/-- A loop: 's' is what the rounds go over, 'env s' the slots, 'I s' what holds at a round's head. -/
theorem c_loop {σ : Type} {c : Code} (env : σ → Env) (I : σ → World → Prop) (μ : σ → Nat) (s0 : σ) (he : subB E (env s0)) (h0 : ∀ w, S w → I s0 w)
    (round : ∀ s, WC P N D c (Exit.then (fun a' w' => ∃ s', Has N D a' (env s') ∧ I s' w' ∧ μ s' < μ s) Q) (env s) (I s)) : WC P N D (.loop c) Q E S := by
  intro w hw a ha b k cs
  have key : ∀ n s a w, μ s = n → Has N D a (env s) → I s w →
      ∃ e a' w', Q e a' w' ∧ Arrives P (lone (b.at a (.code c :: .inLoop c :: k)) cs w) b k cs e a' w' := by
    intro n
    induction n using Nat.strongRecOn with
    | _ n ih =>
      intro s a w hn ha hI
      obtain ⟨e, a₁, w₁, hq, harr⟩ := round s w hI a ha b (.inLoop c :: k) cs
      cases e with
      | normal =>
        obtain ⟨s', ha', hI', hlt⟩ := hq
        obtain ⟨e₂, a₂, w₂, hq₂, harr₂⟩ := ih (μ s') (hn ▸ hlt) s' a₁ w₁ rfl ha' hI'
        exact ⟨e₂, a₂, w₂, hq₂, .of_steps (Steps.trans harr (.one step_inLoop)) harr₂⟩
      | exit id => exact ⟨_, a₁, w₁, hq, .pass (x := .inLoop c) rfl (fun _ _ => .inl (by simp)) harr⟩
      | goto l => exact ⟨_, a₁, w₁, hq, .pass (x := .inLoop c) rfl (fun _ _ => .inl (by simp)) harr⟩
      | ret => exact ⟨_, a₁, w₁, hq, .pass (x := .inLoop c) rfl (fun _ _ => .inl (by simp)) harr⟩
      | panic ch => exact ⟨_, a₁, w₁, hq, .pass (x := .inLoop c) rfl (fun _ _ => .inl (by simp)) harr⟩
      | outgrown => exact ⟨_, a₁, w₁, hq, .pass (x := .inLoop c) rfl (fun _ _ => .inl (by simp)) harr⟩
  obtain ⟨e, a', w', hq, harr⟩ := key _ s0 a w rfl (ha.less he.all) (h0 w hw)
  exact ⟨e, a', w', hq, .of_steps (.one step_loop) harr⟩

/-! ## Ends -/

theorem e_go {y : Code} (hK : ∀ E S, WC P N D y Q E S → ∀ w, S w → ∀ a, Has N D a E → K a w) (h : WC P N D y Q E S) : WE N D (Exit.then K Q) .normal E S := fun w hw a ha => hK E S h w hw a ha
/-- at a cut -/
theorem e_cut (hK : ∀ w, S' w → ∀ a, Has N D a E' → K a w) (he : subB E E') (hS : ∀ w, S w → S' w) : WE N D (Exit.then K Q) .normal E S := fun w hw a ha => hK w (hS w hw) a (ha.less he.all)
/-- at a round's end -/
theorem e_round {σ : Type} {env : σ → Env} {I : σ → World → Prop} {μ : σ → Nat} {s : σ} (s' : σ) (he : subB E (env s')) (hI : ∀ w, S w → I s' w) (hμ : μ s' < μ s) :
    WE N D (Exit.then (fun a' w' => ∃ s', Has N D a' (env s') ∧ I s' w' ∧ μ s' < μ s) Q) .normal E S := fun w hw _ ha => ⟨s', ha.less he.all, hI w hw, hμ⟩
theorem e_then_x {id : Nat} (h : WE N D Q (.exit id) E S) : WE N D (Exit.then K Q) (.exit id) E S := h
theorem e_then_r (h : WE N D Q .ret E S) : WE N D (Exit.then K Q) .ret E S := h
theorem e_in_n {id : Nat} (h : WE N D Q .normal E S) : WE N D (Exit.inBlock id Q) .normal E S := h
theorem e_in_r {id : Nat} (h : WE N D Q .ret E S) : WE N D (Exit.inBlock id Q) .ret E S := h
theorem e_in_hit {id : Nat} (h : WE N D Q .normal E S) : WE N D (Exit.inBlock id Q) (.exit id) E S := fun w hw a ha => by
  show (if id = id then Q .normal a w else Q (.exit id) a w)
  rw [if_pos rfl]; exact h w hw a ha
theorem e_in_miss {id id' : Nat} (hne : Nat.beq id' id = false) (h : WE N D Q (.exit id') E S) : WE N D (Exit.inBlock id Q) (.exit id') E S := fun w hw a ha => by
  show (if id' = id then Q .normal a w else Q (.exit id') a w)
  rw [if_neg (Nat.ne_of_beq_eq_false hne)]; exact h w hw a ha

/-! ## Operations -/

/-- The operation runs, and yields v in the world that it got. -/
def Runs (P : Program) (N : Nat) (D : List Deferred) (E : Env) (S : World → Prop) (op : Op) (ty : TypeId) (v : Value) : Prop :=
  ∀ o : Oper, o.op = op → o.type = ty → ∀ a w, Has N D a E → S w → (execOp a.eval o).run P w = .ok (.value v) w

/-- The guard says that it is wanted, or not. -/
def Want (N : Nat) (D : List Deferred) (ops : Array Oper) (E : Env) (g : Option (Nat × Bool)) (b : Bool) : Prop := ∀ o : Oper, o.guard = g → ∀ a, Has N D a E → Region.wanted o (yielded ops a.tmps) = b
theorem wn {ops : Array Oper} : Want N D ops E none true := fun o ho a _ => by simp [Region.wanted, ho]
theorem wg {ops : Array Oper} {j d : Nat} {want b r : Bool} (hj : (ops[j]?).bind (·.dst) = some d) (hl : look E d = some (.bool b)) (hr : (b == want) = r) : Want N D ops E (some (j, want)) r := fun o ho a ha => by
  have h1 := ha.h d _ hl
  simp only [Region.wanted, ho, yielded, hj, Option.bind_some, h1]
  rw [← hr]; cases b <;> cases want <;> rfl

variable {ops : Array Oper} {rest : List Oper} {d : Nat} {op : Op} {ty : TypeId} {pos : String} {aft : Array Edge} {g : Option (Nat × Bool)} {v : Value}

theorem l_nil (h : WE N D Q .normal E S) : WL P N D ops Q [] E S := h
theorem l_skip (hw : Want N D ops E g false) (hd : Nat.blt d N = true) (h : WL P N D ops Q rest ((d, undef) :: E) S) : WL P N D ops Q (⟨some d, op, ty, pos, aft, g⟩ :: rest) E S := fun w hS a ha => by
  unfold wpList
  rw [if_neg (by rw [hw _ rfl a ha]; exact Bool.false_ne_true)]
  exact h w hS _ (ha.put _ hd)
theorem l_val (hw : Want N D ops E g true) (hr : Runs P N D E S op ty v) (hd : Nat.blt d N = true) (h : WL P N D ops Q rest ((d, v) :: E) S) : WL P N D ops Q (⟨some d, op, ty, pos, aft, g⟩ :: rest) E S := fun w hS a ha => by
  unfold wpList
  rw [if_pos (hw _ rfl a ha)]
  left
  unfold Oper.wp
  rw [hr _ rfl rfl a w ha hS]
  exact h w hS _ (ha.put _ hd)
/-- a test on a slot that holds a Bool -/
theorem l_case {t : Nat} {p : Prop} [Decidable p] {l : List Oper} (hl : look E t = some (.bool (decide p))) (h1 : p → WL P N D ops Q l ((t, .bool true) :: E) S) (h2 : ¬ p → WL P N D ops Q l ((t, .bool false) :: E) S) : WL P N D ops Q l E S := fun w hS a ha => by
  have h0 := ha.h t _ hl
  by_cases hp : p
  · refine h1 hp w hS a ⟨ha.d, ha.n, fun s u hu => ?_⟩
    rw [look_cons] at hu
    by_cases e : t = s
    · rw [if_pos e] at hu; rw [← e, h0, decide_eq_true hp]; simpa using hu
    · rw [if_neg e] at hu; exact ha.h s u hu
  · refine h2 hp w hS a ⟨ha.d, ha.n, fun s u hu => ?_⟩
    rw [look_cons] at hu
    by_cases e : t = s
    · rw [if_pos e] at hu; rw [← e, h0, decide_eq_false hp]; simpa using hu
    · rw [if_neg e] at hu; exact ha.h s u hu

theorem q_nil (h : WE N D (fun _ => K) .normal E S) : WQ P N D ops K [] E S := fun a ha => wpQuiet_nil (fun w' hw' => h w' hw' a ha)
theorem q_skip (hw : Want N D ops E g false) (hd : Nat.blt d N = true) (h : WQ P N D ops K rest ((d, undef) :: E) S) : WQ P N D ops K (⟨some d, op, ty, pos, aft, g⟩ :: rest) E S := fun a ha => by
  refine wpQuiet_step fun K' hK => ?_
  rw [if_neg (by rw [hw _ rfl a ha]; exact Bool.false_ne_true)]
  exact hK _ (h _ (ha.put _ hd))
theorem q_val (hw : Want N D ops E g true) (hr : Runs P N D E S op ty v) (hd : Nat.blt d N = true) (h : WQ P N D ops K rest ((d, v) :: E) S) : WQ P N D ops K (⟨some d, op, ty, pos, aft, g⟩ :: rest) E S := fun a ha => by
  refine wpQuiet_step fun K' hK => ?_
  rw [if_pos (hw _ rfl a ha)]
  refine ⟨v, fun w hw => ?_, hK _ (h _ (ha.put _ hd))⟩
  unfold Oper.quietAt
  rw [hr _ rfl rfl a w ha hw]
  exact ⟨rfl, rfl⟩
theorem q_case {t : Nat} {p : Prop} [Decidable p] {l : List Oper} (hl : look E t = some (.bool (decide p))) (h1 : p → WQ P N D ops K l ((t, .bool true) :: E) S) (h2 : ¬ p → WQ P N D ops K l ((t, .bool false) :: E) S) : WQ P N D ops K l E S := fun a ha => by
  have h0 := ha.h t _ hl
  by_cases hp : p
  · refine h1 hp a ⟨ha.d, ha.n, fun s u hu => ?_⟩
    rw [look_cons] at hu
    by_cases e : t = s
    · rw [if_pos e] at hu; rw [← e, h0, decide_eq_true hp]; simpa using hu
    · rw [if_neg e] at hu; exact ha.h s u hu
  · refine h2 hp a ⟨ha.d, ha.n, fun s u hu => ?_⟩
    rw [look_cons] at hu
    by_cases e : t = s
    · rw [if_pos e] at hu; rw [← e, h0, decide_eq_false hp]; simpa using hu
    · rw [if_neg e] at hu; exact ha.h s u hu

end

end Ex
end Go.Proofs.YtffpglgboaigfaaDoor
