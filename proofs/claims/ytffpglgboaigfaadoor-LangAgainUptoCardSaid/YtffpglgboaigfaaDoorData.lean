/-
  How Go's data read: slices of plain structs as lists; the structs themselves.
-/
import Derived.Test.YtffpglgboaigfaaDoorTail
namespace Go.Proofs.YtffpglgboaigfaaDoor

structure Fault where (err at_ : Int) deriving DecidableEq
structure Sample where (time value : Int) deriving DecidableEq
structure Sum where (count total min max first last rise : Int) deriving DecidableEq
structure Bucket where (at_ : Int) (sum : Sum) deriving DecidableEq
structure Label where (key val : ByteArray) deriving DecidableEq
structure Match where (kind : Int) (key val : ByteArray) deriving DecidableEq
structure Part where (tier frm to : Int) deriving DecidableEq
structure Pair2 where (fst snd : ByteArray) deriving DecidableEq

namespace Ex

def i64 (n : Int) : Value := .int .i64 n
@[reducible] def faultE (f : Fault) : List Value := [.int .i64 f.err, .int .i64 f.at_]
@[reducible] def sampleE (s : Sample) : List Value := [.int .i64 s.time, .int .i64 s.value]
@[reducible] def sumE (s : Sum) : List Value := [.int .i64 s.count, .int .i64 s.total, .int .i64 s.min, .int .i64 s.max, .int .i64 s.first, .int .i64 s.last, .int .i64 s.rise]
@[reducible] def bucketE (b : Bucket) : List Value := [.int .i64 b.at_, .int .i64 b.sum.count, .int .i64 b.sum.total, .int .i64 b.sum.min, .int .i64 b.sum.max, .int .i64 b.sum.first, .int .i64 b.sum.last, .int .i64 b.sum.rise]
@[reducible] def labelE (l : Label) : List Value := [.string l.key, .string l.val]
@[reducible] def matchE (m : Match) : List Value := [.int .i64 m.kind, .string m.key, .string m.val]
@[reducible] def partE (p : Part) : List Value := [.int .i64 p.tier, .int .i64 p.frm, .int .i64 p.to]
@[reducible] def pair2E (p : Pair2) : List Value := [.string p.fst, .string p.snd]
@[reducible] def strE (s : ByteArray) : List Value := [.string s]
@[reducible] def intE (n : Int) : List Value := [.int .i64 n]
@[reducible] def byteE (b : UInt8) : List Value := [.int .u8 b.toNat]

/-- a slice that reads as a list of plain things, its array in a block of Sb -/
def FlatSl {α : Type} (Sb : Nat → Prop) (k : Nat) (enc : α → List Value) (v : Value) (l : List α) (w : World) : Prop :=
  ∃ A c, v = .slice A l.length c ∧ l.length ≤ c ∧ c ≤ maxLen ∧ (l ≠ [] → ∃ ad, A = some ad ∧ Sb ad.block ∧
    ∀ (i : Nat) (x : α), l[i]? = some x → ∀ (j : Nat) (u : Value), (enc x)[j]? = some u → w.cell? ((ad.add (i * k)).add j) = some u)

section
variable {α : Type} {Sb Sb' : Nat → Prop} {k : Nat} {enc : α → List Value} {v : Value} {l : List α} {w w' w0 : World} {A : Option Addr} {c len : Nat} {ad : Addr} {M : Fp} {L : List Own}

theorem FlatSl.keep (h : FlatSl Sb k enc v l w) (hs : ∀ b, Sb b → w'.heap[b]? = w.heap[b]?) : FlatSl Sb k enc v l w' := by
  obtain ⟨A, c, h1, h2, h3, h4⟩ := h
  refine ⟨A, c, h1, h2, h3, fun hne => ?_⟩
  obtain ⟨ad, e, hb, hc⟩ := h4 hne
  exact ⟨ad, e, hb, fun i x hi j u hu => (World.cell?_of_block (by rw [add_block, add_block]; exact hs _ hb)).trans (hc i x hi j u hu)⟩
theorem FlatSl.mono (h : FlatSl Sb k enc v l w) (hs : ∀ b, Sb b → Sb' b) : FlatSl Sb' k enc v l w := by
  obtain ⟨A, c, h1, h2, h3, h4⟩ := h
  exact ⟨A, c, h1, h2, h3, fun hne => by obtain ⟨ad, e, hb, hc⟩ := h4 hne; exact ⟨ad, e, hs _ hb, hc⟩⟩
theorem FlatSl.nil_ (Sb : Nat → Prop) (k : Nat) (enc : α → List Value) (w : World) : FlatSl Sb k enc (.slice none 0 0) [] w := ⟨none, 0, rfl, Nat.le_refl _, Nat.zero_le _, fun h => absurd rfl h⟩
theorem FlatSl.form (h : FlatSl Sb k enc v l w) : ∃ A c, v = .slice A l.length c ∧ l.length ≤ c ∧ c ≤ 9223372036854775807 ∧ (l ≠ [] → ∃ ad, A = some ad) := by
  obtain ⟨A, c, h1, h2, h3, h4⟩ := h
  exact ⟨A, c, h1, h2, by simpa [maxLen] using h3, fun hne => by obtain ⟨ad, e, _⟩ := h4 hne; exact ⟨ad, e⟩⟩
theorem FlatSl.cell (h : FlatSl Sb k enc (.slice A len c) l w) (hA : A = some ad) {i j : Nat} {x : α} {u : Value} (hi : l[i]? = some x) (hj : (enc x)[j]? = some u) : w.cell? ((ad.add (i * k)).add j) = some u := by
  obtain ⟨A', c', h1, _, _, h4⟩ := h
  injection h1 with e1 _ _
  subst e1
  obtain ⟨ad', e, _, hc⟩ := h4 (by rintro rfl; simp at hi)
  obtain rfl : ad = ad' := Option.some.inj (hA.symm.trans e)
  exact hc i x hi j u hj
theorem FlatSl.loc (k : Nat) (enc : α → List Value) (v : Value) (l : List α) : Loc (fun S => FlatSl S k enc v l) := fun _ _ _ _ hs hk h => (h.keep hk).mono hs
theorem FlatSl.local_ (w w' : World) (hs : ∀ b, Sb b → w'.heap[b]? = w.heap[b]?) (h : FlatSl Sb k enc v l w) : FlatSl Sb k enc v l w' := h.keep hs

theorem ne_nil {i : Nat} (h : i < l.length) : l ≠ [] := by rintro rfl; simp at h

/-- a part of memory that reads so -/
def slO (Sb : Nat → Prop) (k : Nat) (enc : α → List Value) (v : Value) (l : List α) : Own := .dat Sb (FlatSl Sb k enc v l)
/-- .. that was laid down for good -/
def slP (k : Nat) (enc : α → List Value) (v : Value) (l : List α) : Own := .pub (fun S => FlatSl S k enc v l)
theorem slO.holds_ (h : FlatSl Sb k enc v l w) : (slO Sb k enc v l).holds w := ⟨h, fun _ _ hs hf => hf.keep hs⟩

/-- what a call is handed: all of it there already, none of it to be written -/
theorem Mem.args {w : World} {P0 : Nat → Prop} (hP : ∀ b, P0 b → b < w.heap.size) (h : ∀ (i : Nat) (o : Own), L[i]? = some o → o.mut = false ∧ o.holds w ∧ (∀ b, o.fp b → b < w.heap.size) ∧ ∀ F, o = .pub F → F P0 w) : Mem w ⟨no, P0⟩ L w :=
  ⟨Fr.refl _ _, fun i o hi => ⟨(h i o hi).2.1, (h i o hi).2.2.1, fun hm => (by rw [(h i o hi).1] at hm; cases hm)⟩, fun i j o o' hi hj _ hm => (by rw [(h i o hi).1, (h j o' hj).1] at hm; rcases hm with hm | hm <;> cases hm),
    P0, fun _ hb => .inl hb, hP, fun i o hi hm => (by rw [(h i o hi).1] at hm; cases hm), fun i F hi => (h i _ hi).2.2.2 F rfl⟩
theorem Mem.args_nil (w : World) : Mem w no [] w := Mem.start w no
abbrev In (w : World) : Nat → Prop := fun b => b < w.heap.size
theorem Mem.sl {w : World} {Sb : Nat → Prop} (h : Mem w0 M L w) (i : Nat) (hL : L[i]? = some (slO Sb k enc v l)) : FlatSl (In w) k enc v l w := (h.dat hL).mono (h.ok i _ hL).2.1

theorem Mem.slp {w : World} (h : Mem w0 M L w) (i : Nat) (hL : L[i]? = some (slP k enc v l)) : FlatSl (In w) k enc v l w := h.pubAt hL
theorem Pubs.sl {w : World} {Pb : Nat → Prop} (h : Pubs w0 M L w Pb) (i : Nat) (hL : L[i]? = some (slP k enc v l)) : FlatSl Pb k enc v l w := h.at_ i _ hL

variable {P : Program} {N : Nat} {D : List Deferred} {E : Env} {x : Operand} {T ty : TypeId} {u : Value}
/-- a field of an element -/
theorem r_el (q : Nat) {i j : Nat} {e : α} (hx : ev E x = some (.pointer (some ((ad.add (i * k)).add j)))) (hL : L[q]? = some (slO Sb k enc (.slice A len c) l)) (hA : A = some ad) (hi : l[i]? = some e) (hj : (enc e)[j]? = some u) (hf : flatT P T = true) : Runs P N D E (Mem w0 M L) (.load T x) ty u :=
  r_load1 hx hf fun _ h => (h.dat hL).cell hA hi hj
/-- an element, or a struct in it -/
theorem r_eln (q : Nat) {i j k1 by1 : Nat} {z1 : Value} {e : α} (vs : List Value) (hx : ev E x = some (.pointer (some ((ad.add (i * k)).add j)))) (hL : L[q]? = some (slO Sb k enc (.slice A len c) l)) (hA : A = some ad) (hi : l[i]? = some e) (hv : ((enc e).drop j).take k1 = vs) (hl : vs.length = k1) (hg : aggT P T = true) (hs : Inf P T k1 by1 z1) :
    Runs P N D E (Mem w0 M L) (.load T x) ty (.agg vs.toArray) :=
  r_loadn vs hx hg hs hl fun _ h p u hu => by
    rw [add_add, add_add, ← add_add]
    rw [← hv, List.getElem?_take] at hu
    split at hu
    · exact (h.dat hL).cell hA hi (by simpa using hu)
    · cases hu
theorem r_pl (q : Nat) {i j : Nat} {e : α} (hx : ev E x = some (.pointer (some ((ad.add (i * k)).add j)))) (hL : L[q]? = some (slP k enc (.slice A len c) l)) (hA : A = some ad) (hi : l[i]? = some e) (hj : (enc e)[j]? = some u) (hf : flatT P T = true) : Runs P N D E (Mem w0 M L) (.load T x) ty u :=
  r_load1 hx hf fun _ h => (h.slp q hL).cell hA hi hj
theorem r_pln (q : Nat) {i j k1 by1 : Nat} {z1 : Value} {e : α} (vs : List Value) (hx : ev E x = some (.pointer (some ((ad.add (i * k)).add j)))) (hL : L[q]? = some (slP k enc (.slice A len c) l)) (hA : A = some ad) (hi : l[i]? = some e) (hv : ((enc e).drop j).take k1 = vs) (hl : vs.length = k1) (hg : aggT P T = true) (hs : Inf P T k1 by1 z1) :
    Runs P N D E (Mem w0 M L) (.load T x) ty (.agg vs.toArray) :=
  r_loadn vs hx hg hs hl fun _ h p u hu => by
    rw [add_add, add_add, ← add_add]
    rw [← hv, List.getElem?_take] at hu
    split at hu
    · exact (h.slp q hL).cell hA hi (by simpa using hu)
    · cases hu
end

end Ex
end Go.Proofs.YtffpglgboaigfaaDoor
