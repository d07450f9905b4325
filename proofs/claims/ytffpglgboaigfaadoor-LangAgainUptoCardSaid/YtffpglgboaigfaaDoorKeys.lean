/-
  A map of one's own whose keys are texts, each held: looked up, and given one more.
-/
import Derived.Test.YtffpglgboaigfaaDoorGive
namespace Go.Proofs.YtffpglgboaigfaaDoor
namespace Ex
open Go.ChangeMaps
def entsB : Nat → List ByteArray → List MapEntry
  | _, [] => []
  | i, k :: r => ⟨.string k, .bool true, i⟩ :: entsB (i + 1) r
theorem entsB_snoc (a : ByteArray) : ∀ (D : List ByteArray) (i : Nat), entsB i (D ++ [a]) = entsB i D ++ [⟨.string a, .bool true, i + D.length⟩]
  | [], i => by simp [entsB]
  | y :: D, i => by simp [entsB, entsB_snoc a D (i + 1)]; omega
theorem entsB_at : ∀ (D : List ByteArray) (i q : Nat) (a : ByteArray), D[q]? = some a → (entsB i D)[q]? = some ⟨.string a, .bool true, i + q⟩
  | [], _, _, _, h => by simp at h
  | y :: D, i, 0, a, h => by
    obtain rfl : y = a := by simpa using h
    simp [entsB]
  | y :: D, i, q + 1, a, h => by
    have := entsB_at D (i + 1) q a (by simpa using h)
    simp only [entsB, List.getElem?_cons_succ, this]; congr 2; omega
section
variable {P : Program} {kt et t : TypeId}
theorem findB (K : KeyT P kt .string Value.string) (a : ByteArray) : ∀ (D : List ByteArray) (i j : Nat), (Instr.findNow .string (.string a) (entsB i D) j = some none ∧ a ∉ D) ∨ ∃ q, D[q]? = some a ∧ Instr.findNow .string (.string a) (entsB i D) j = some (some (j + q, .bool true))
  | [], i, j => .inl ⟨rfl, by simp⟩
  | y :: D, i, j => by
    by_cases e : a = y
    · exact .inr ⟨0, by simp [e], by simp [entsB, Instr.findNow, K.same, e]⟩
    · have h : Instr.findNow .string (.string a) (entsB i (y :: D)) j = Instr.findNow .string (.string a) (entsB (i + 1) D) (j + 1) := by simp [entsB, Instr.findNow, K.same, e]
      rw [h]
      rcases findB K a D (i + 1) (j + 1) with ⟨h1, h2⟩ | ⟨q, h1, h2⟩
      · exact .inl ⟨h1, by simp [e, h2]⟩
      · exact .inr ⟨q + 1, by simpa using h1, by rw [h2]; simp; omega⟩
variable {N n : Nat} {D : List Deferred} {E : Env} {S S0 : World → Prop} {Q : Exit → Act → World → Prop} {ops : Array Oper} {w0 : World} {M : Fp} {L : List Own}
  {rest : List Oper} {d : Nat} {ty : TypeId} {pos : String} {aft : Array Edge} {g : Option (Nat × Bool)} {x y m z : Operand} {b : Nat}
def hasK (ks : List ByteArray) (a : ByteArray) : Bool := ks.any fun k => decide (k = a)
theorem hasK_iff {ks : List ByteArray} {a : ByteArray} : hasK ks a = true ↔ a ∈ ks := by
  unfold hasK; rw [List.any_eq_true]
  exact ⟨fun ⟨k, hk, e⟩ => of_decide_eq_true e ▸ hk, fun h => ⟨a, h, decide_eq_true rfl⟩⟩
theorem r_lookupB (q : Nat) (K : KeyT P kt .string Value.string) {ks : List ByteArray} {by1 : Nat} {a : ByteArray} (hL : L[q]? = some (.map b (entsB 0 ks) ks.length)) (hx : ev E x = some (.map (some b))) (hy : ev E y = some (.string a)) (hu : P.underlying t = some (.map kt et)) (hz : Inf P et 1 by1 (.bool false)) :
    Runs P N D E (Mem w0 M L) (.lookup t x y false) ty (.bool (hasK ks a)) := fun o ho hty ac w ha hS => by
  unfold execOp; rw [ho]
  rcases findB K a ks 0 0 with ⟨h1, h2⟩ | ⟨p, h1, h2⟩
  · have h3 : hasK ks a = false := by rw [Bool.eq_false_iff]; exact fun h => h2 (hasK_iff.1 h)
    simp [ha.eval hx, ha.eval hy, Instr.lookup, run_underlying hu, MapKept.run_getObj_map (hS.map hL), K.chk, Instr.findKey, run_underlying K.und, h1, h3, run_zeroValue' hz]
  · have h3 : hasK ks a = true := hasK_iff.2 (List.mem_of_getElem? h1)
    simp [ha.eval hx, ha.eval hy, Instr.lookup, run_underlying hu, MapKept.run_getObj_map (hS.map hL), K.chk, Instr.findKey, run_underlying K.und, h2, h3]
theorem l_updB (q : Nat) (K : KeyT P kt .string Value.string) (ks ks' : List ByteArray) (a : ByteArray) (hk' : (a ∈ ks ∧ ks' = ks) ∨ (a ∉ ks ∧ ks' = ks ++ [a])) (hw : Want N D ops E g true) (hL : L[q]? = some (.map b (entsB 0 ks) ks.length)) (hm : ev E m = some (.map (some b))) (hk : ev E x = some (.string a)) (hv : ev E y = some (.bool true)) (hu : P.underlying t = some (.map kt et))
    (h : WL P N D ops Q rest E (Mem w0 M (L.set q (.map b (entsB 0 ks') ks'.length)))) : WL P N D ops Q (⟨none, .mapUpdate t m x y, ty, pos, aft, g⟩ :: rest) E (Mem w0 M L) := by
  refine l_act hw (fun o ho _ ac w ha hS => ?_) h
  have hb := hS.map hL
  have hrun : (Instr.mapUpdate t (.map (some b)) (.string a) (.bool true)).run P w = .ok () (Go.ChangeMaps.setBlock w b (.map (entsB 0 ks').toArray ks'.length)) := by
    rcases hk' with ⟨h1, rfl⟩ | ⟨h1, rfl⟩
    · rcases findB K a ks' 0 0 with ⟨_, h2⟩ | ⟨p, h2, h3⟩
      · exact absurd h1 h2
      · have h4 := entsB_at ks' 0 p a h2
        have h5 : (entsB 0 ks').toArray[p]? = some ⟨.string a, .bool true, 0 + p⟩ := by simpa using h4
        have h6 : ((entsB 0 ks').toArray.modify p fun e => { e with key := .string a, val := .bool true }) = (entsB 0 ks').toArray := by
          apply Array.ext_getElem?
          intro j
          rw [Array.getElem?_modify]
          split
          · rename_i hj; subst hj; rw [h5]; rfl
          · rfl
        simp only [Instr.mapUpdate, Sem.run_bind, run_underlying hu, Result.andThen_ok, MapKept.run_getObj_map hb, K.chk, Instr.findKey, run_underlying K.und, h3, Sem.run_pure, Nat.zero_add]
        have h7 : (((entsB 0 ks').toArray[p]?).map (·.key)).getD (.string a) = .string a := by rw [h5]; rfl
        have h8 : (Instr.keyThatStays (.string a) (.string a)).run P w = .ok (.string a) w := by
          have h9 : (a == a) = true := (MapKept.bytes_beq a a).2 rfl
          simp [Instr.keyThatStays, Instr.sameBits, h9]
        rw [h7, h8]
        simp only [Result.andThen_ok, h6, MapKept.run_setObj_map _ hb]
        rfl
    · rcases findB K a ks 0 0 with ⟨h2, _⟩ | ⟨p, h2, _⟩
      · simp only [Instr.mapUpdate, Sem.run_bind, run_underlying hu, Result.andThen_ok, MapKept.run_getObj_map hb, K.chk, Instr.findKey, run_underlying K.und, h2, Sem.run_pure, MapKept.run_setObj_map _ hb]
        simp [Go.ChangeMaps.setBlock, entsB_snoc]
      · exact absurd (List.mem_of_getElem? h2) h1
  refine ⟨_, by unfold execOp; rw [ho]; simp only [ha.eval hm, ha.eval hk, ha.eval hv]; simp [hrun]; rfl, ?_⟩
  have hlt : b < w.heap.size := (Array.getElem?_eq_some_iff.1 hb).1
  exact hS.upd (o' := .map b (entsB 0 ks') ks'.length) hL rfl ⟨rfl, rfl, rfl, by simp [Go.ChangeMaps.setBlock], fun k _ hk => by
      simp only [Go.ChangeMaps.setBlock]
      rw [Array.getElem?_setIfInBounds_ne (fun e => hk e.symm)]⟩ (by
      show (Go.ChangeMaps.setBlock w b _).heap[b]? = _
      simp [Go.ChangeMaps.setBlock, hlt]) (fun b' hb' => ⟨.inl hb', by
      have e : b' = b := hb'
      subst e; simpa [Go.ChangeMaps.setBlock] using hlt⟩)
end
section
variable {P : Program} {N n : Nat} {D : List Deferred} {E : Env} {w0 : World} {M : Fp} {L : List Own} {ty T : TypeId} {x : Operand}
theorem r_celn (q : Nat) {ad : Addr} {j k1 by1 : Nat} {z1 : Value} {cs : List Value} (vs : List Value) (hx : ev E x = some (.pointer (some ((ad.add 0).add j)))) (hL : L[q]? = some (celP ad cs)) (hv : (cs.drop j).take k1 = vs) (hl : vs.length = k1) (hg : aggT P T = true) (hs : Inf P T k1 by1 z1) :
    Runs P N D E (Mem w0 M L) (.load T x) ty (.agg vs.toArray) :=
  r_loadn vs hx hg hs hl fun _ h p u hu => by
    have e : ((ad.add 0).add j).add p = ad.add (j + p) := by rw [add_add, add_add]; congr 1; omega
    rw [e]
    rw [← hv, List.getElem?_take] at hu
    split at hu
    · exact (h.pubAt hL).2 (j + p) u (by simpa using hu)
    · cases hu
end
end Ex
end Go.Proofs.YtffpglgboaigfaaDoor
