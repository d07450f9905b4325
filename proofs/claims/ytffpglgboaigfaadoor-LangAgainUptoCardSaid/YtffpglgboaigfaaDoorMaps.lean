/-
  Operations of a region that come up in any order, one law for all orders; map literals, and what is looked up in them.
-/
import Derived.Test.YtffpglgboaigfaaDoorNodes
import Derived.MapKept
import Derived.ChangeMaps4
import Derived.Lib.ConvBytes
import Derived.Laws.IdiomStrings
namespace Go.Proofs.YtffpglgboaigfaaDoor
namespace Ex
open Go.ChangeMaps

theorem mk_size (n : Nat) : ∀ is : List Nat, (mk n is).size = n
  | [] => by simp [mk]
  | i :: is => by simp [mk, mk_size n is]
theorem mk_at (n j : Nat) : ∀ is : List Nat, (mk n is)[j]? = if j < n then some (decide (j ∈ is)) else none
  | [] => by
    simp only [mk, Array.getElem?_replicate]; split <;> simp
  | i :: is => by
    simp only [mk, Array.getElem?_setIfInBounds, mk_size, mk_at n j is]
    by_cases h : i = j
    · subst h
      by_cases h2 : i < n <;> simp [h2]
    · rw [if_neg h]
      by_cases h2 : j < n
      · rw [if_pos h2, if_pos h2]
        have : (j ∈ i :: is) ↔ j ∈ is := by simp [Ne.symm h]
        simp [this]
      · rw [if_neg h2, if_neg h2]
theorem mk_getD (n j : Nat) (d : Bool) (is : List Nat) : (mk n is).getD j d = if j < n then decide (j ∈ is) else d := by
  rw [Array.getD_eq_getD_getElem?, mk_at]; split <;> rfl
theorem mk_congr {n : Nat} {is is' : List Nat} (h : ∀ j, j ∈ is ↔ j ∈ is') : mk n is = mk n is' := by
  apply Array.ext_getElem?
  intro j
  rw [mk_at, mk_at]
  simp [h j]

section
variable {P : Program} {N n : Nat} {D : List Deferred} {E : Env} {S S0 : World → Prop} {Q : Exit → Act → World → Prop} {ops : Array Oper} {f F : Nat} {is : List Nat} {X : Type}

/-- The operations in R may come up in any order now, and all others wait for all of R, or for others still. -/
def starB (ops : Array Oper) (n : Nat) (is R : List Nat) : Bool :=
  (List.range n).all (fun j => is.contains j || R.contains j || match ops[j]? with
    | none => true
    | some o => o.after.toList.any (fun e => Region.binds .any e && !is.contains e.on && !R.contains e.on) || R.all (fun r => o.after.toList.any (fun e => Region.binds .any e && Nat.beq e.on r))) &&
  R.all (fun r => Nat.blt r n && !is.contains r && match ops[r]? with
    | none => false
    | some o => o.after.toList.all (fun e => !Region.binds .any e || (is.contains e.on && Nat.blt e.on n)))

theorem fst_inj : ∀ {T : List (Nat × X)}, (T.map (·.1)).Nodup → ∀ {x y : Nat × X}, y ∈ T → x ∈ T → y.1 = x.1 → y = x
  | [], _, _, _, h, _, _ => by cases h
  | z :: T, hp, x, y, hy, hx, e => by
    rw [List.map_cons, List.nodup_cons] at hp
    rcases List.mem_cons.1 hy with rfl | hy'
    · rcases List.mem_cons.1 hx with rfl | hx'
      · rfl
      · exact absurd (List.mem_map.2 ⟨x, hx', e.symm⟩) hp.1
    · rcases List.mem_cons.1 hx with rfl | hx'
      · exact absurd (List.mem_map.2 ⟨y, hy', e⟩) hp.1
      · exact fst_inj hp.2 hy' hx' e
theorem n_star (T : List (Nat × X)) (I : List (Nat × X) → World → Prop) (hsz : ops.size = n) (hB : starB ops n is (T.map (·.1)) = true) (hnd : (T.map (·.1)).Nodup) (hF : F = f + T.length) (h0 : ∀ w, S w → I [] w) (hS0 : ∀ Dn w, I Dn w → S0 w)
    (step : ∀ (Dn : List (Nat × X)) (x : Nat × X), x ∈ T → (∀ y ∈ Dn, y ∈ T ∧ y.1 ≠ x.1) → ∀ w, I Dn w → ∀ a, Has N D a E → wpOp P ops (NQ Q) x.1 (fun a' w' => Has N D a' E ∧ I (Dn ++ [x]) w') a w)
    (h : ∀ Dn : List (Nat × X), (∀ x, x ∈ Dn ↔ x ∈ T) → WN P N D ops n Q S0 f (T.map (·.1) ++ is) E (I Dn)) : WN P N D ops n Q S0 F is E S := by
  simp only [starB, Bool.and_eq_true, List.all_eq_true, List.mem_range] at hB
  obtain ⟨hB1, hB2⟩ := hB
  have hR : ∀ r ∈ T.map (·.1), r < n ∧ r ∉ is ∧ ∃ o, ops[r]? = some o ∧ ∀ e ∈ o.after, Region.binds .any e = true → e.on ∈ is ∧ e.on < n := by
    intro r hr
    have := hB2 r hr
    cases ho : ops[r]? with
    | none => rw [ho] at this; simp at this
    | some o =>
      rw [ho] at this
      simp only [Bool.and_eq_true, Nat.blt_eq, Bool.not_eq_true', List.contains_eq_mem, decide_eq_false_iff_not, List.all_eq_true, Array.mem_toList_iff, Bool.or_eq_true, decide_eq_true_eq] at this
      refine ⟨this.1.1, this.1.2, o, rfl, fun e he hb => ?_⟩
      rcases this.2 e he with h1 | h1
      · rw [hb] at h1; cases h1
      · exact h1
  have key : ∀ (m : Nat) (Dn : List (Nat × X)) (rm : List Nat) (a : Act) (w : World), rm.length = m → rm.Nodup → (∀ x ∈ T, x ∈ Dn ∨ x.1 ∈ rm) → (∀ x ∈ Dn, x ∈ T ∧ x.1 ∉ rm) → (∀ r ∈ rm, ∃ x ∈ T, x.1 = r) → Has N D a E → I Dn w →
      Go.wpAnyH P .any ops (NQ Q) S0 (f + m) (mk n (Dn.map (·.1) ++ is)) a w := by
    intro m
    induction m with
    | zero =>
      intro Dn rm a w hl _ hT hD _ ha hI
      obtain rfl : rm = [] := List.eq_nil_of_length_eq_zero hl
      have hmem : ∀ x, x ∈ Dn ↔ x ∈ T := fun x => ⟨fun hx => (hD x hx).1, fun hx => (hT x hx).resolve_right (by simp)⟩
      rw [mk_congr (is' := T.map (·.1) ++ is) (fun j => by simp only [List.mem_append, List.mem_map]; simp only [hmem])]
      exact h Dn hmem w hI a ha
    | succ m ih =>
      intro Dn rm a w hl hnd' hT hD hrm ha hI
      have hlist : ∀ (j : Nat) (d : Bool), (mk n (Dn.map (·.1) ++ is)).getD j d = if j < n then decide (j ∈ Dn.map (·.1) ++ is) else d := fun j d => mk_getD ..
      have hready : ∀ i, i ∈ Region.ready .any ops (mk n (Dn.map (·.1) ++ is)) → i ∈ rm := by
        intro i hi
        obtain ⟨h1, o, ho, hall⟩ := mem_ready.1 hi
        have hin : i < n := by rw [← hsz]; exact (Array.getElem?_eq_some_iff.1 ho).1
        rw [hlist, if_pos hin, decide_eq_false_iff_not, List.mem_append, not_or] at h1
        have hdep : ∀ e ∈ o.after, Region.binds .any e = true → e.on ∈ Dn.map (·.1) ++ is := fun e he hb => by
          have := hall e he hb
          rw [hlist] at this
          split at this
          · simpa using this
          · cases this
        have hDT : ∀ r, r ∈ Dn.map (·.1) → r ∈ T.map (·.1) ∧ r ∉ rm := fun r hr => by
          obtain ⟨x, hx, rfl⟩ := List.mem_map.1 hr
          exact ⟨List.mem_map.2 ⟨x, (hD x hx).1, rfl⟩, (hD x hx).2⟩
        have hiR : i ∈ T.map (·.1) := by
          have hb := hB1 i hin
          rw [ho] at hb
          simp only [Bool.or_eq_true, List.contains_eq_mem, decide_eq_true_eq, List.any_eq_true, Array.mem_toList_iff, Bool.and_eq_true, Bool.not_eq_true', decide_eq_false_iff_not, List.all_eq_true] at hb
          rcases hb with (hb | hb) | hb
          · exact absurd hb h1.2
          · exact hb
          · exfalso
            rcases hb with ⟨e, he, ⟨hb1, hb2⟩, hb3⟩ | hb
            · rcases List.mem_append.1 (hdep e he hb1) with h3 | h3
              · exact hb3 (hDT _ h3).1
              · exact hb2 h3
            · obtain ⟨r, hr⟩ : ∃ r, r ∈ rm := by
                cases rm with
                | nil => simp at hl
                | cons r _ => exact ⟨r, List.mem_cons_self ..⟩
              obtain ⟨x, hx, rfl⟩ := hrm r hr
              have hxT : x.1 ∈ T.map (·.1) := List.mem_map.2 ⟨x, hx, rfl⟩
              obtain ⟨e, he, hb1, hb2⟩ := hb x.1 hxT
              have e2 := Nat.eq_of_beq_eq_true hb2
              rcases List.mem_append.1 (hdep e he hb1) with h3 | h3
              · rw [e2] at h3; exact (hDT _ h3).2 hr
              · rw [e2] at h3; exact (hR _ hxT).2.1 h3
        obtain ⟨x, hx, rfl⟩ := List.mem_map.1 hiR
        rcases hT x hx with h3 | h3
        · exact absurd (List.mem_map.2 ⟨x, h3, rfl⟩) h1.1
        · exact h3
      have hne : Region.ready .any ops (mk n (Dn.map (·.1) ++ is)) ≠ [] := by
        obtain ⟨r, hr⟩ : ∃ r, r ∈ rm := by
          cases rm with
          | nil => simp at hl
          | cons r _ => exact ⟨r, List.mem_cons_self ..⟩
        obtain ⟨x, hx, rfl⟩ := hrm r hr
        obtain ⟨g1, g2, o, ho, g3⟩ := hR x.1 (List.mem_map.2 ⟨x, hx, rfl⟩)
        have : x.1 ∈ Region.ready .any ops (mk n (Dn.map (·.1) ++ is)) := mem_ready.2 ⟨by
          rw [hlist, if_pos g1, decide_eq_false_iff_not, List.mem_append, not_or]
          refine ⟨fun h3 => ?_, g2⟩
          obtain ⟨y, hy, he⟩ := List.mem_map.1 h3
          exact (hD y hy).2 (he ▸ hr), o, ho, fun e he hb => by
          rw [hlist, if_pos (g3 e he hb).2]
          simp [(g3 e he hb).1]⟩
        intro h0; rw [h0] at this; cases this
      refine ⟨fun h0 => absurd h0 hne, fun i hi => ?_⟩
      have hir := hready i hi
      obtain ⟨x, hx, rfl⟩ := hrm i hir
      refine wpOp_mono (fun a' w' ⟨ha', hI'⟩ => ?_) (step Dn x hx (fun y hy => ⟨(hD y hy).1, fun e => (hD y hy).2 (e ▸ hir)⟩) w hI a ha)
      refine ⟨hS0 _ _ hI', ?_⟩
      have := ih (Dn ++ [x]) (rm.erase x.1) a' w' (by rw [List.length_erase_of_mem hir, hl]; rfl) (hnd'.erase _) (fun y hy => ?_) (fun y hy => ?_) (fun r hr => hrm r (List.mem_of_mem_erase hr)) ha' hI'
      · have e : (mk n (Dn.map (·.1) ++ is)).setIfInBounds x.1 true = mk n (x.1 :: (Dn.map (·.1) ++ is)) := rfl
        show Go.wpAnyH P .any ops (NQ Q) S0 (f + m) ((mk n (Dn.map (·.1) ++ is)).setIfInBounds x.1 true) a' w'
        rw [e, mk_congr (is' := (Dn ++ [x]).map (·.1) ++ is) (fun j => by simp only [List.map_append, List.map_cons, List.map_nil, List.mem_append, List.mem_cons, List.not_mem_nil, or_false]; rw [← or_assoc, or_comm (a := j = x.1), or_assoc])]
        exact this
      · rcases hT y hy with h3 | h3
        · exact .inl (List.mem_append_left _ h3)
        · by_cases e : y.1 = x.1
          · left
            have : y = x := fst_inj hnd hy hx e
            subst this; simp
          · exact .inr ((List.Nodup.mem_erase_iff hnd').2 ⟨e, h3⟩)
      · rcases List.mem_append.1 hy with h3 | h3
        · exact ⟨(hD y h3).1, fun h4 => (hD y h3).2 (List.mem_of_mem_erase h4)⟩
        · obtain rfl : y = x := by simpa using h3
          exact ⟨hx, fun h4 => ((List.Nodup.mem_erase_iff hnd').1 h4).1 rfl⟩
  intro w hS a ha
  rw [hF]
  have := key T.length [] (T.map (·.1)) a w (by simp) hnd (fun x hx => .inr (List.mem_map.2 ⟨x, hx, rfl⟩)) (by simp) (fun r hr => by obtain ⟨x, hx, rfl⟩ := List.mem_map.1 hr; exact ⟨x, hx, rfl⟩) ha (h0 w hS)
  simpa using this
end

/-! ## Map literals -/
set_option linter.unusedSectionVars false
theorem nd {α : Type} {l' : List α} (l : List α) (h : l' = l) (hn : l.Nodup) : l'.Nodup := h ▸ hn
/-- a type of keys that are held against each other at once -/
structure KeyT (P : Program) (kt : TypeId) (kd : TypeDesc) {α : Type} [DecidableEq α] (ek : α → Value) : Prop where
  und : P.underlying kt = some kd
  same : ∀ a b, Instr.sameNow kd (ek a) (ek b) = some (decide (a = b))
  chk : ∀ e a w, (Instr.checkKey e 10000 kt (ek a)).run P w = .ok () w
def ents {α : Type} (ek : α → Value) : Nat → List (Nat × α × Int) → List MapEntry
  | _, [] => []
  | i, x :: r => ⟨ek x.2.1, .int .i64 x.2.2, i⟩ :: ents ek (i + 1) r
section
variable {α : Type} [DecidableEq α] {ek : α → Value} {P : Program} {kt et t : TypeId} {kd : TypeDesc}
theorem KeyT.str {kt : TypeId} (h : P.underlying kt = some .string) : KeyT P kt .string Value.string := ⟨h, fun a b => by
  have : (a == b) = decide (a = b) := by
    have h := MapKept.bytes_beq a b
    by_cases e : a = b
    · rw [h.2 e, decide_eq_true e]
    · have : (a == b) = false := by
        cases hb : a == b with
        | false => rfl
        | true => exact absurd (h.1 hb) e
      simp [this, e]
  simp [Instr.sameNow, this], fun e a w => by unfold Instr.checkKey; simp [run_underlying h]⟩
theorem KeyT.int {kt : TypeId} (h : P.underlying kt = some (.int .i64)) : KeyT P kt (.int .i64) (Value.int .i64) := ⟨h, fun a b => by
  simp [Instr.sameNow, ibeq], fun e a w => by unfold Instr.checkKey; simp [run_underlying h]⟩
theorem ents_snoc (x : Nat × α × Int) : ∀ (D : List (Nat × α × Int)) (i : Nat), ents ek i (D ++ [x]) = ents ek i D ++ [⟨ek x.2.1, .int .i64 x.2.2, i + D.length⟩]
  | [], i => by simp [ents]
  | y :: D, i => by simp [ents, ents_snoc x D (i + 1)]; omega
theorem findNow_ents (K : KeyT P kt kd ek) (a : α) : ∀ (D : List (Nat × α × Int)) (i j : Nat), (Instr.findNow kd (ek a) (ents ek i D) j = some none ∧ ∀ x ∈ D, x.2.1 ≠ a) ∨ ∃ q x, x ∈ D ∧ x.2.1 = a ∧ Instr.findNow kd (ek a) (ents ek i D) j = some (some (q, .int .i64 x.2.2))
  | [], i, j => .inl ⟨rfl, by simp⟩
  | y :: D, i, j => by
    by_cases e : a = y.2.1
    · exact .inr ⟨j, y, List.mem_cons_self .., e.symm, by simp [ents, Instr.findNow, K.same, e]⟩
    · have h : Instr.findNow kd (ek a) (ents ek i (y :: D)) j = Instr.findNow kd (ek a) (ents ek (i + 1) D) (j + 1) := by simp [ents, Instr.findNow, K.same, e]
      rw [h]
      rcases findNow_ents K a D (i + 1) (j + 1) with ⟨h1, h2⟩ | ⟨q, x, hx, h1, h2⟩
      · exact .inl ⟨h1, fun x hx => by
          rcases List.mem_cons.1 hx with rfl | hx
          · exact fun h => e h.symm
          · exact h2 x hx⟩
      · exact .inr ⟨q, x, List.mem_cons_of_mem _ hx, h1, h2⟩
theorem key_inj : ∀ {T : List (Nat × α × Int)}, (T.map (·.2.1)).Nodup → ∀ {x y : Nat × α × Int}, y ∈ T → x ∈ T → y.2.1 = x.2.1 → y = x
  | [], _, _, _, h, _, _ => by cases h
  | z :: T, hp, x, y, hy, hx, e => by
    rw [List.map_cons, List.nodup_cons] at hp
    rcases List.mem_cons.1 hy with rfl | hy'
    · rcases List.mem_cons.1 hx with rfl | hx'
      · rfl
      · exact absurd (List.mem_map.2 ⟨x, hx', e.symm⟩) hp.1
    · rcases List.mem_cons.1 hx with rfl | hx'
      · exact absurd (List.mem_map.2 ⟨y, hy', e⟩) hp.1
      · exact key_inj hp.2 hy' hx' e
/-- what a literal's pairs say of a key -/
def assoc : List (Nat × α × Int) → α → Option Int
  | [], _ => none
  | x :: r, a => if a = x.2.1 then some x.2.2 else assoc r a
theorem assoc_none (a : α) : ∀ (T : List (Nat × α × Int)), (∀ x ∈ T, x.2.1 ≠ a) → assoc T a = none
  | [], _ => rfl
  | y :: T, h => by
    rw [assoc, if_neg (fun e => h y (List.mem_cons_self ..) e.symm)]
    exact assoc_none a T fun x hx => h x (List.mem_cons_of_mem _ hx)
theorem assoc_some : ∀ (T : List (Nat × α × Int)), (T.map (·.2.1)).Nodup → ∀ x ∈ T, assoc T x.2.1 = some x.2.2
  | [], _, x, hx => by cases hx
  | y :: T, hn, x, hx => by
    rw [List.map_cons, List.nodup_cons] at hn
    rw [assoc]
    rcases List.mem_cons.1 hx with rfl | hx
    · rw [if_pos rfl]
    · rw [if_neg (fun e => hn.1 (List.mem_map.2 ⟨x, hx, e⟩))]
      exact assoc_some T hn.2 x hx
theorem find_assoc (K : KeyT P kt kd ek) {T D : List (Nat × α × Int)} (hn : (T.map (·.2.1)).Nodup) (hD : ∀ x, x ∈ D ↔ x ∈ T) (a : α) : (Instr.findNow kd (ek a) (ents ek 0 D) 0 = some none ∧ assoc T a = none) ∨ ∃ q v, Instr.findNow kd (ek a) (ents ek 0 D) 0 = some (some (q, .int .i64 v)) ∧ assoc T a = some v := by
  rcases findNow_ents K a D 0 0 with ⟨h1, h2⟩ | ⟨q, x, hx, rfl, h2⟩
  · exact .inl ⟨h1, assoc_none a T fun x hx => h2 x ((hD x).2 hx)⟩
  · exact .inr ⟨q, _, h2, assoc_some T hn x ((hD x).1 hx)⟩

section
variable {N n : Nat} {D : List Deferred} {E : Env} {S S0 : World → Prop} {Q : Exit → Act → World → Prop} {ops : Array Oper} {f F : Nat} {is : List Nat} {w0 : World} {M : Fp} {L : List Own}
  {rest : List Oper} {d : Nat} {op : Op} {ty : TypeId} {pos : String} {aft : Array Edge} {g : Option (Nat × Bool)} {v u : Value} {x y m : Operand} {b : Nat}

theorem l_makeMap (hw : Want N D ops E g true) (hd : Nat.blt d N = true) (h : ∀ b, WL P N D ops Q rest ((d, .map (some b)) :: E) (Mem w0 M (.map b [] 0 :: L))) : WL P N D ops Q (⟨some d, .makeMap t none, ty, pos, aft, g⟩ :: rest) E (Mem w0 M L) :=
  l_genS hw hd fun o ho hty a w ha hS => ⟨.map (some w.heap.size), w.alloc (.map #[] 0), by unfold execOp; rw [ho]; simp [Instr.makeMap], _, hS.add (o := .map w.heap.size [] 0) (Fr.alloc _ _ _) (by exact heap_alloc_new w _) (fun b (hb : b = w.heap.size) => by subst hb; simp), h w.heap.size⟩

/-- the operation that lays one pair -/
def insAt (ops : Array Oper) (t : TypeId) (m : Operand) (E : Env) (ek : α → Value) (x : Nat × α × Int) : Prop :=
  ∃ (k v : Operand) (ty : TypeId) (pos : String) (aft : Array Edge), ops[x.1]? = some ⟨none, .insert t m k v, ty, pos, aft, none⟩ ∧ ev E k = some (ek x.2.1) ∧ ev E v = some (.int .i64 x.2.2)
def insAll (ops : Array Oper) (t : TypeId) (m : Operand) (E : Env) (ek : α → Value) : List (Nat × α × Int) → Prop
  | [] => True
  | x :: r => insAt ops t m E ek x ∧ insAll ops t m E ek r
theorem im {i : Nat} {kk : α} {vv : Int} {k v : Operand} (h : ops[i]? = some ⟨none, .insert t m k v, ty, pos, aft, none⟩) (hk : ev E k = some (ek kk)) (hv : ev E v = some (.int .i64 vv)) : insAt ops t m E ek (i, kk, vv) := ⟨k, v, ty, pos, aft, h, hk, hv⟩
theorem insAll.at : ∀ {T : List (Nat × α × Int)}, insAll ops t m E ek T → ∀ x ∈ T, insAt ops t m E ek x
  | [], _, x, hx => by cases hx
  | y :: T, h, x, hx => by
    rcases List.mem_cons.1 hx with rfl | hx
    · exact h.1
    · exact insAll.at h.2 x hx
theorem n_lit (q : Nat) (K : KeyT P kt kd ek) (T : List (Nat × α × Int)) (hL : L[q]? = some (.map b [] 0)) (hm : ev E m = some (.map (some b))) (hu : P.underlying t = some (.map kt et)) (hsz : ops.size = n) (hB : starB ops n is (T.map (·.1)) = true) (hnd : (T.map (·.1)).Nodup) (hkd : (T.map (·.2.1)).Nodup) (hF : F = f + T.length)
    (hI : insAll ops t m E ek T) (hS0 : ∀ es c w, Mem w0 M (L.set q (.map b es c)) w → S0 w)
    (h : ∀ Dn : List (Nat × α × Int), (∀ x, x ∈ Dn ↔ x ∈ T) → WN P N D ops n Q S0 f (T.map (·.1) ++ is) E (Mem w0 M (L.set q (.map b (ents ek 0 Dn) Dn.length)))) : WN P N D ops n Q S0 F is E (Mem w0 M L) := by
  have hq : q < L.length := (List.getElem?_eq_some_iff.1 hL).1
  refine n_star T (fun Dn w => Mem w0 M (L.set q (.map b (ents ek 0 Dn) Dn.length)) w) hsz hB hnd hF (fun w hw => ?_) (fun Dn w hw => hS0 _ _ w hw) (fun Dn x hx hDn w hI' a ha => ?_) h
  · have e : L.set q (.map b (ents ek 0 ([] : List (Nat × α × Int))) 0) = L := by
      apply List.ext_getElem?
      intro i
      rw [List.getElem?_set]
      split
      · rename_i e; subst e; simpa [ents] using hL.symm
      · rfl
    show Mem w0 M (L.set q (.map b (ents ek 0 ([] : List (Nat × α × Int))) 0)) w
    rw [e]; exact hw
  · obtain ⟨k, v, ty, pos, aft, ho, hk, hv⟩ := hI.at x hx
    have hne : ∀ y ∈ Dn, y.2.1 ≠ x.2.1 := fun y hy e => (hDn y hy).2 (by rw [key_inj hkd (hDn y hy).1 hx e])
    have hget : (L.set q (.map b (ents ek 0 Dn) Dn.length))[q]? = some (.map b (ents ek 0 Dn) Dn.length) := by rw [List.getElem?_set_self hq]
    have hb := hI'.map hget
    have hf : Instr.findNow kd (ek x.2.1) (ents ek 0 Dn) 0 = some none := by
      rcases findNow_ents K x.2.1 Dn 0 0 with ⟨h1, _⟩ | ⟨_, y, hy, e, _⟩
      · exact h1
      · exact absurd e (hne y hy)
    have hrun : (Instr.mapUpdate t (.map (some b)) (ek x.2.1) (.int .i64 x.2.2)).run P w = .ok () (setBlock w b (.map (ents ek 0 (Dn ++ [x])).toArray (Dn ++ [x]).length)) := by
      simp only [Instr.mapUpdate, Sem.run_bind, run_underlying hu, Result.andThen_ok, MapKept.run_getObj_map hb, K.chk, Instr.findKey, run_underlying K.und, hf, Sem.run_pure, MapKept.run_setObj_map _ hb]
      simp [setBlock, ents_snoc]
    unfold wpOp
    simp only [ho]
    have hwn : Region.wanted (⟨none, .insert t m k v, ty, pos, aft, none⟩ : Oper) (yielded ops a.tmps) = true := rfl
    rw [if_pos hwn]
    left
    unfold Oper.wp
    have hex : (execOp a.eval (⟨none, .insert t m k v, ty, pos, aft, none⟩ : Oper)).run P w = .ok .skip (setBlock w b (.map (ents ek 0 (Dn ++ [x])).toArray (Dn ++ [x]).length)) := by
      unfold execOp
      simp [ha.eval hm, ha.eval hk, ha.eval hv, hrun]
    rw [hex]
    refine ⟨ha, ?_⟩
    have := hI'.upd (w' := setBlock w b (.map (ents ek 0 (Dn ++ [x])).toArray (Dn ++ [x]).length)) (o' := .map b (ents ek 0 (Dn ++ [x])) (Dn ++ [x]).length) hget rfl ⟨rfl, rfl, rfl, by simp [setBlock], fun k _ hk => by
        simp only [setBlock]
        rw [Array.getElem?_setIfInBounds_ne (fun e => hk e.symm)]⟩ (by
        show (setBlock w b _).heap[b]? = _
        have hlt : b < w.heap.size := (Array.getElem?_eq_some_iff.1 hb).1
        simp [setBlock, hlt]) (fun b' hb' => ⟨.inl hb', by
        have hlt : b < w.heap.size := (Array.getElem?_eq_some_iff.1 hb).1
        have e : b' = b := hb'
        subst e; simpa [setBlock] using hlt⟩)
    simpa [List.set_set] using this
/-- what is looked up in a literal -/
theorem r_lookup (q : Nat) (K : KeyT P kt kd ek) {T Dn : List (Nat × α × Int)} {by1 c : Nat} {a : α} (hD : ∀ x, x ∈ Dn ↔ x ∈ T) (hkd : (T.map (·.2.1)).Nodup) (hL : L[q]? = some (.map b (ents ek 0 Dn) c)) (hx : ev E x = some (.map (some b))) (hy : ev E y = some (ek a)) (hu : P.underlying t = some (.map kt et)) (hz : Inf P et 1 by1 (.int .i64 0)) :
    Runs P N D E (Mem w0 M L) (.lookup t x y false) ty (.int .i64 ((assoc T a).getD 0)) := fun o ho _ ac w ha hS => by
  unfold execOp; rw [ho]
  rcases find_assoc K hkd hD a with ⟨h1, h2⟩ | ⟨p, v, h1, h2⟩
  · simp [ha.eval hx, ha.eval hy, Instr.lookup, run_underlying hu, MapKept.run_getObj_map (hS.map hL), K.chk, Instr.findKey, run_underlying K.und, h1, h2, run_zeroValue' hz]
  · simp [ha.eval hx, ha.eval hy, Instr.lookup, run_underlying hu, MapKept.run_getObj_map (hS.map hL), K.chk, Instr.findKey, run_underlying K.und, h1, h2]
theorem r_lookup2 (q : Nat) (K : KeyT P kt kd ek) {T Dn : List (Nat × α × Int)} {by1 c : Nat} {a : α} (hD : ∀ x, x ∈ Dn ↔ x ∈ T) (hkd : (T.map (·.2.1)).Nodup) (hL : L[q]? = some (.map b (ents ek 0 Dn) c)) (hx : ev E x = some (.map (some b))) (hy : ev E y = some (ek a)) (hu : P.underlying t = some (.map kt et)) (hz : Inf P et 1 by1 (.int .i64 0)) :
    Runs P N D E (Mem w0 M L) (.lookup t x y true) ty (.tuple [.int .i64 ((assoc T a).getD 0), .bool (assoc T a).isSome].toArray) := fun o ho _ ac w ha hS => by
  unfold execOp; rw [ho]
  rcases find_assoc K hkd hD a with ⟨h1, h2⟩ | ⟨p, v, h1, h2⟩
  · simp [ha.eval hx, ha.eval hy, Instr.lookup, run_underlying hu, MapKept.run_getObj_map (hS.map hL), K.chk, Instr.findKey, run_underlying K.und, h1, h2, run_zeroValue' hz]
  · simp [ha.eval hx, ha.eval hy, Instr.lookup, run_underlying hu, MapKept.run_getObj_map (hS.map hL), K.chk, Instr.findKey, run_underlying K.und, h1, h2]
end
end

/-! ## Arrays, bytes -/
set_option linter.unusedSimpArgs false
section
variable {P : Program} {N : Nat} {D : List Deferred} {E : Env} {S : World → Prop} {Q : Exit → Act → World → Prop} {w0 : World} {M : Fp} {L : List Own}
  {ops : Array Oper} {rest : List Oper} {d : Nat} {ty T T' : TypeId} {pos : String} {aft : Array Edge} {g : Option (Nat × Bool)} {v u : Value} {x y : Operand}
theorem r_buildA {n e k by1 k2 by2 : Nat} {z : Value} {parts : Array (Nat × Operand)} {ps : List (Nat × Value)} {zs : List Value} (cs : List Value) (hu : P.underlying T = some (.array n e)) (hi : Inf P T k2 by2 (.agg zs.toArray)) (hs : Inf P e k by1 z) (he : evp E parts.toList = some ps) (hf : dense k 0 ps = some cs) (hl : zs.length = ps.length * k) :
    Runs P N D E S (.build T parts) ty (.agg cs.toArray) := fun o ho _ a w ha _ => by
  unfold execOp; rw [ho]
  have h1 : (parts.map fun (i, x) => (i, a.eval x)).toList = ps := by rw [Array.toList_map]; exact evp_map ha he
  have h2 : P.built T ps = some cs.toArray := by
    obtain ⟨i, e1, e2, e3, _⟩ := hi.get
    obtain ⟨j, f1, f2, f3, _⟩ := hs.get
    unfold Program.built
    simp only [e1, hu, e2, f1, f3]
    have := dense_fill ps 0 cs [] zs hf (by simp) hl
    simpa [Value.cells] using this
  simp only [Sem.run_bind, run_build w T _ _ (by rw [h1]; exact h2), Result.andThen_ok, Sem.run_pure]
/-- an element of an array of the call's own -/
theorem r_ib {b o i n e k by1 : Nat} {z : Value} {kd : IntKind} {m : Int} (hx : ev E x = some (.pointer (some ⟨b, o, none⟩))) (hy : ev E y = some (.int kd m)) (hm : m = (i : Int)) (hi : i < n) (hu : P.underlying T = some (.array n e)) (hs : Inf P e k by1 z) :
    Runs P N D E S (.indexAddr T x y) ty (.pointer (some ⟨b, o + i * k, none⟩)) := fun p hp _ a w ha _ => by
  unfold execOp; rw [hp]; subst hm
  simp [ha.eval hx, ha.eval hy, Instr.indexAt, asIntOf, run_underlying hu, hi, run_sizeOf' hs, Instr.sureAddr, add_lit]
/-- a string's bytes, laid down -/
theorem l_strBytes {s : ByteArray} {e : TypeId} {td : TypeDesc} (hw : Want N D ops E g true) (hx : ev E x = some (.string s)) (hs : P.underlying T = some td) (hd : P.underlying T' = some (.slice e)) (he : P.underlying e = some (.int .u8)) (hsz : s.size ≤ 9223372036854775807) (hN : Nat.blt d N = true)
    (h : ∀ b c, s.data.toList.length ≤ c → c ≤ 9223372036854775807 → WL P N D ops Q rest ((d, .slice (some ⟨b, 0, none⟩) s.data.toList.length c) :: E) (Mem w0 M (slP 1 byteE (.slice (some ⟨b, 0, none⟩) s.data.toList.length c) s.data.toList :: L))) :
    WL P N D ops Q (⟨some d, .convert T T' x, ty, pos, aft, g⟩ :: rest) E (Mem w0 M L) := by
  refine l_genS hw hN fun o ho hty a w ha hS => ?_
  have hrun := Go.Lib.run_convert_string_bytes (P := P) w T T' e s hs hd he
  have hlen : s.data.toList.length = s.size := by simp
  have hge : s.size ≤ grownCap w s.size 0 e := by have := grownCap_ge w s.size 0 e; omega
  have hcm := grownCap_le_maxLen w s.size 0 e (by simpa [maxLen] using hsz)
  refine ⟨.slice (some ⟨w.heap.size, 0, none⟩) s.size (grownCap w s.size 0 e), Go.Lib.bytesWorld w e s, by unfold execOp; rw [ho]; simp [ha.eval hx, hrun], _, ?_, by have := h w.heap.size (grownCap w s.size 0 e) (by rw [hlen]; exact hge) (by simpa [maxLen] using hcm); rwa [hlen] at this⟩
  have hm : ∀ (a : Array Obj) (x : Obj) (f : Obj → Obj), (a.push x).modify a.size f = a.push (f x) := by
    intro a x f
    apply Array.ext
    · simp
    · intro i h1 h2
      simp only [Array.getElem_modify, Array.getElem_push]
      by_cases h : a.size = i
      · subst h; simp
      · have hi : i < a.size := by simp at h1; omega
        simp [h, hi]
  have hfr : Go.Lib.bytesWorld w e s = w.drew.alloc (.cells (Go.Lib.bytesCells w e s) e ((Go.Lib.bytesCells w e s).size, (Go.Lib.bytesCells w e s).size + 1)) := by
    unfold Go.Lib.bytesWorld World.freeze
    rw [if_neg (by decide)]
    show ({ w.drew.alloc (.cells (Go.Lib.bytesCells w e s) e) with heap := (w.heap.push (.cells (Go.Lib.bytesCells w e s) e)).modify w.heap.size _ } : World) = _
    rw [hm]
    rfl
  rw [hfr]
  have hrow : (w.drew.alloc (.cells (Go.Lib.bytesCells w e s) e ((Go.Lib.bytesCells w e s).size, (Go.Lib.bytesCells w e s).size + 1))).heap[w.heap.size]? = some (.cells (Go.Lib.bytesCells w e s) e ((Go.Lib.bytesCells w e s).size, (Go.Lib.bytesCells w e s).size + 1)) := heap_alloc_new w.drew _
  have hf : Fr no w (w.drew.alloc (.cells (Go.Lib.bytesCells w e s) e ((Go.Lib.bytesCells w e s).size, (Go.Lib.bytesCells w e s).size + 1))) := (Fr.drew no w).trans (Fr.alloc no w.drew _) (fun _ _ h => h)
  have := hS.lay (F := fun S => FlatSl S 1 byteE (.slice (some ⟨w.heap.size, 0, none⟩) s.data.toList.length (grownCap w s.size 0 e)) s.data.toList) (FlatSl.loc _ _ _ _) hf (fun Pb _ => ⟨(· = w.heap.size), fun b hb => by
      have hb' : b = w.heap.size := hb
      subst hb'
      exact ⟨.inr (Nat.le_refl _), (Array.getElem?_eq_some_iff.1 hrow).1⟩, ⟨some ⟨w.heap.size, 0, none⟩, grownCap w s.size 0 e, rfl, by rw [hlen]; exact hge, hcm, fun _ => ⟨⟨w.heap.size, 0, none⟩, rfl, rfl, fun i c hi j u hu => ?_⟩⟩⟩)
  · rw [hlen] at this; exact this
  · have hil : i < s.size := by have := (List.getElem?_eq_some_iff.1 hi).1; simpa using this
    cases j with
    | succ j => simp at hu
    | zero =>
      have hu' : u = .int .u8 c.toNat := by simpa using hu.symm
      subst hu'
      rw [add_add, add_lit, cell_of_row _ _ _ _ _ _ hrow]
      have h2 : s.data[i]? = some c := by simpa using hi
      unfold Go.Lib.bytesCells
      rw [Array.getElem?_append_left (by simpa using hil)]
      simp [h2]
/-- bytes as a string -/
theorem r_bytesStr {A : Option Addr} {l : List UInt8} {c : Nat} {e : TypeId} (hx : ev E x = some (.slice A l.length c)) (hs : P.underlying T = some (.slice e)) (he : P.underlying e = some (.int .u8)) (hd : P.underlying T' = some .string) (hc : ∀ w, S w → FlatSl (In w) 1 byteE (.slice A l.length c) l w) :
    Runs P N D E S (.convert T T' x) ty (.string ⟨l.toArray⟩) := fun o ho _ a w ha hS => by
  unfold execOp; rw [ho]
  by_cases hl : l = []
  · subst hl
    have := run_convert_bytes_string (P := P) w T T' e A 0 c hs he hd
    cases A with
    | none => simp [ha.eval hx, this, Conv.bytesToString]; rfl
    | some ad => simp [ha.eval hx, this, Conv.bytesToString, run_loadCells_list w ad [] (by simp)]; rfl
  · obtain ⟨A', c', e1, _, _, h4⟩ := hc w hS
    injection e1 with e1 _ _
    subst e1
    obtain ⟨ad, rfl, _, hcell⟩ := h4 hl
    have := run_convert_bytes_back (P := P) w T T' e ad c l hs he hd (fun j hj => by
      have := hcell j l[j] (List.getElem?_eq_getElem hj) 0 (.int .u8 l[j].toNat) rfl
      rwa [add_add, Nat.mul_one, Nat.add_zero] at this)
    simp [ha.eval hx, this]
end

end Ex
end Go.Proofs.YtffpglgboaigfaaDoor
