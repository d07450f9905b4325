/-
  Calls of a region that come up in any order, each of which makes a row of its own.
-/
import Derived.Test.YtffpglgboaigfaaDoorShelf
namespace Go.Proofs.YtffpglgboaigfaaDoor
structure ShAct where (kind : Int) (sample : Sample) (tier to : Int) deriving DecidableEq
namespace Ex
@[reducible] def actE (a : ShAct) : List Value := [.int .i64 a.kind, .int .i64 a.sample.time, .int .i64 a.sample.value, .int .i64 a.tier, .int .i64 a.to]
theorem encAct : Enc actE 5 := .of (fun _ => rfl) (fun _ => rfl) rfl
/-- what an operation waits for -/
def bdeps (ops : Array Oper) (i : Nat) : List Nat := match ops[i]? with
  | none => []
  | some o => (o.after.toList.filter (Region.binds .any)).map (·.on)
def up1 (ops : Array Oper) (R S : List Nat) : List Nat := S ++ (((S.filter R.contains).flatMap (bdeps ops)).filter (fun e => !S.contains e)).eraseDups
def upN (ops : Array Oper) (R : List Nat) : Nat → List Nat → List Nat
  | 0, S => S
  | k + 1, S => upN ops R k (up1 ops R S)
/-- The operations in R may come up now, each behind those of R that it waits for; all others wait for all of R, or for others still. -/
def dagB (ops : Array Oper) (n : Nat) (is R : List Nat) : Bool :=
  (List.range n).all (fun j => is.contains j || R.contains j || (bdeps ops j).any (fun e => !is.contains e && !R.contains e) || R.all (fun r => (upN ops R R.length (bdeps ops j)).contains r)) &&
  R.all (fun r => Nat.blt r n && !is.contains r && (ops[r]?).isSome && (bdeps ops r).all (fun e => (is.contains e || (R.contains e && Nat.blt e r)) && Nat.blt e n))
section
variable {P : Program} {N n : Nat} {D : List Deferred} {E : Env} {S S0 : World → Prop} {Q : Exit → Act → World → Prop} {ops : Array Oper} {f F : Nat} {is : List Nat} {X : Type}
theorem upN_sub {R : List Nat} {Z : Nat → Prop} (hd : ∀ r ∈ R, Z r → ∀ e ∈ bdeps ops r, Z e) : ∀ (k : Nat) (S : List Nat), (∀ e ∈ S, Z e) → ∀ e ∈ upN ops R k S, Z e
  | 0, _, h => h
  | k + 1, S, h => upN_sub hd k _ fun e he => by
    rcases List.mem_append.1 he with h1 | h1
    · exact h e h1
    · rw [List.mem_eraseDups] at h1
      obtain ⟨r, hr, h2⟩ := List.mem_flatMap.1 (List.mem_filter.1 h1).1
      obtain ⟨h3, h4⟩ := List.mem_filter.1 hr
      exact hd r (by simpa using h4) (h r h3) e h2
theorem mem_bdeps {i : Nat} {o : Oper} (ho : ops[i]? = some o) {j : Nat} : j ∈ bdeps ops i ↔ ∃ e ∈ o.after, Region.binds .any e = true ∧ e.on = j := by
  unfold bdeps; rw [ho]
  simp only [List.mem_map, List.mem_filter, Array.mem_toList_iff, and_assoc]
theorem least_mem : ∀ (l : List Nat), l ≠ [] → ∃ r ∈ l, ∀ x ∈ l, r ≤ x
  | [], h => absurd rfl h
  | [x], _ => ⟨x, by simp, by simp⟩
  | x :: y :: l, _ => by
    obtain ⟨r, hr, h⟩ := least_mem (y :: l) (by simp)
    by_cases hx : x ≤ r
    · refine ⟨x, by simp, fun z hz => ?_⟩
      rcases List.mem_cons.1 hz with rfl | hz
      · omega
      · have := h z hz; omega
    · refine ⟨r, List.mem_cons_of_mem _ hr, fun z hz => ?_⟩
      rcases List.mem_cons.1 hz with rfl | hz
      · omega
      · exact h z hz
theorem n_dag (T : List (Nat × X)) (J : List (Nat × X) → Act → World → Prop) (hsz : ops.size = n) (hB : dagB ops n is (T.map (·.1)) = true) (hnd : (T.map (·.1)).Nodup) (hF : F = f + T.length) (h0 : ∀ w, S w → ∀ a, Has N D a E → J [] a w) (hS0 : ∀ Dn a w, J Dn a w → S0 w)
    (step : ∀ (Dn : List (Nat × X)) (x : Nat × X), x ∈ T → (∀ y ∈ Dn, y ∈ T ∧ y.1 ≠ x.1) → (∀ e ∈ bdeps ops x.1, e ∈ T.map (·.1) → e ∈ Dn.map (·.1)) → ∀ w a, J Dn a w → wpOp P ops (NQ Q) x.1 (fun a' w' => J (Dn ++ [x]) a' w') a w)
    (h : ∀ Dn : List (Nat × X), (∀ x, x ∈ Dn ↔ x ∈ T) → ∀ a w, J Dn a w → Go.wpAnyH P .any ops (NQ Q) S0 f (mk n (T.map (·.1) ++ is)) a w) : WN P N D ops n Q S0 F is E S := by
  simp only [dagB, Bool.and_eq_true, List.all_eq_true, List.mem_range] at hB
  obtain ⟨hB1, hB2⟩ := hB
  have hR : ∀ r ∈ T.map (·.1), r < n ∧ r ∉ is ∧ ∃ o, ops[r]? = some o ∧ ∀ e ∈ bdeps ops r, (e ∈ is ∨ (e ∈ T.map (·.1) ∧ e < r)) ∧ e < n := by
    intro r hr
    have := hB2 r hr
    simp only [Bool.and_eq_true, Nat.blt_eq, Bool.not_eq_true', List.contains_eq_mem, decide_eq_false_iff_not, Bool.or_eq_true, decide_eq_true_eq, Option.isSome_iff_exists] at this
    exact ⟨this.1.1.1, this.1.1.2, this.1.2.elim fun o ho => ⟨o, ho, fun e he => this.2 e he⟩⟩
  have key : ∀ (m : Nat) (Dn : List (Nat × X)) (rm : List Nat) (a : Act) (w : World), rm.length = m → rm.Nodup → (∀ x ∈ T, x ∈ Dn ∨ x.1 ∈ rm) → (∀ x ∈ Dn, x ∈ T ∧ x.1 ∉ rm) → (∀ r ∈ rm, ∃ x ∈ T, x.1 = r) → (∀ r ∈ Dn.map (·.1), ∀ e ∈ bdeps ops r, e ∈ T.map (·.1) → e ∈ Dn.map (·.1)) → J Dn a w →
      Go.wpAnyH P .any ops (NQ Q) S0 (f + m) (mk n (Dn.map (·.1) ++ is)) a w := by
    intro m
    induction m with
    | zero =>
      intro Dn rm a w hl _ hT hD _ _ hI
      obtain rfl : rm = [] := List.eq_nil_of_length_eq_zero hl
      have hmem : ∀ x, x ∈ Dn ↔ x ∈ T := fun x => ⟨fun hx => (hD x hx).1, fun hx => (hT x hx).resolve_right (by simp)⟩
      rw [mk_congr (is' := T.map (·.1) ++ is) (fun j => by simp only [List.mem_append, List.mem_map]; simp only [hmem])]
      exact h Dn hmem a w hI
    | succ m ih =>
      intro Dn rm a w hl hnd' hT hD hrm hdc hI
      have hlist : ∀ (j : Nat) (d : Bool), (mk n (Dn.map (·.1) ++ is)).getD j d = if j < n then decide (j ∈ Dn.map (·.1) ++ is) else d := fun j d => mk_getD ..
      have hDT : ∀ r, r ∈ Dn.map (·.1) → r ∈ T.map (·.1) ∧ r ∉ rm := fun r hr => by
        obtain ⟨x, hx, rfl⟩ := List.mem_map.1 hr
        exact ⟨List.mem_map.2 ⟨x, (hD x hx).1, rfl⟩, (hD x hx).2⟩
      have hTD : ∀ r, r ∈ T.map (·.1) → r ∉ rm → r ∈ Dn.map (·.1) := fun r hr hn => by
        obtain ⟨x, hx, rfl⟩ := List.mem_map.1 hr
        exact List.mem_map.2 ⟨x, (hT x hx).resolve_right hn, rfl⟩
      have hne0 : rm ≠ [] := fun e => by rw [e] at hl; cases hl
      have hready : ∀ i, i ∈ Region.ready .any ops (mk n (Dn.map (·.1) ++ is)) → i ∈ rm ∧ ∀ e ∈ bdeps ops i, e ∈ Dn.map (·.1) ++ is := by
        intro i hi
        obtain ⟨h1, o, ho, hall⟩ := mem_ready.1 hi
        have hin : i < n := by rw [← hsz]; exact (Array.getElem?_eq_some_iff.1 ho).1
        rw [hlist, if_pos hin, decide_eq_false_iff_not, List.mem_append, not_or] at h1
        have hdep : ∀ e ∈ bdeps ops i, e ∈ Dn.map (·.1) ++ is := fun j hj => by
          obtain ⟨e, he, hb, rfl⟩ := (mem_bdeps ho).1 hj
          have := hall e he hb
          rw [hlist] at this
          split at this
          · simpa using this
          · cases this
        refine ⟨?_, hdep⟩
        have hiR : i ∈ T.map (·.1) := by
          have hb := hB1 i hin
          simp only [Bool.or_eq_true, List.contains_eq_mem, decide_eq_true_eq, List.any_eq_true, Bool.and_eq_true, Bool.not_eq_true', decide_eq_false_iff_not, List.all_eq_true] at hb
          rcases hb with ((hb | hb) | hb) | hb
          · exact absurd hb h1.2
          · exact hb
          · exfalso
            obtain ⟨e, he, hb1, hb2⟩ := hb
            rcases List.mem_append.1 (hdep e he) with h3 | h3
            · exact hb2 (hDT _ h3).1
            · exact hb1 h3
          · exfalso
            obtain ⟨r, hr, _⟩ := least_mem rm hne0
            obtain ⟨x, hx, rfl⟩ := hrm r hr
            have hxT : x.1 ∈ T.map (·.1) := List.mem_map.2 ⟨x, hx, rfl⟩
            have := upN_sub (ops := ops) (R := T.map (·.1)) (Z := fun e => e ∈ Dn.map (·.1) ++ is) (fun r hrR hz e he => by
              rcases List.mem_append.1 hz with h3 | h3
              · obtain ⟨_, _, o', _, g3⟩ := hR r hrR
                rcases (g3 e he).1 with h4 | h4
                · exact List.mem_append_right _ h4
                · exact List.mem_append_left _ (hdc r h3 e he h4.1)
              · exact absurd h3 (hR r hrR).2.1) _ _ hdep x.1 (hb x.1 hxT)
            rcases List.mem_append.1 this with h3 | h3
            · exact (hDT _ h3).2 hr
            · exact (hR _ hxT).2.1 h3
        exact Classical.byContradiction fun hn => h1.1 (hTD i hiR hn)
      have hne : Region.ready .any ops (mk n (Dn.map (·.1) ++ is)) ≠ [] := by
        obtain ⟨r, hr, hmin⟩ := least_mem rm hne0
        obtain ⟨x, hx, rfl⟩ := hrm r hr
        obtain ⟨g1, g2, o, ho, g3⟩ := hR x.1 (List.mem_map.2 ⟨x, hx, rfl⟩)
        have : x.1 ∈ Region.ready .any ops (mk n (Dn.map (·.1) ++ is)) := mem_ready.2 ⟨by
          rw [hlist, if_pos g1, decide_eq_false_iff_not, List.mem_append, not_or]
          exact ⟨fun h3 => (hDT _ h3).2 hr, g2⟩, o, ho, fun e he hb => by
          have hd := g3 e.on ((mem_bdeps ho).2 ⟨e, he, hb, rfl⟩)
          rw [hlist, if_pos hd.2, decide_eq_true_eq, List.mem_append]
          rcases hd.1 with h4 | h4
          · exact .inr h4
          · exact .inl (hTD _ h4.1 fun h5 => by have := hmin _ h5; omega)⟩
        intro h0; rw [h0] at this; cases this
      refine ⟨fun h0 => absurd h0 hne, fun i hi => ?_⟩
      obtain ⟨hir, hid⟩ := hready i hi
      obtain ⟨x, hx, rfl⟩ := hrm i hir
      have hxd : ∀ e ∈ bdeps ops x.1, e ∈ T.map (·.1) → e ∈ Dn.map (·.1) := fun e he heT => by
        rcases List.mem_append.1 (hid e he) with h3 | h3
        · exact h3
        · exact absurd h3 (hR e heT).2.1
      refine wpOp_mono (fun a' w' hI' => ?_) (step Dn x hx (fun y hy => ⟨(hD y hy).1, fun e => (hD y hy).2 (e ▸ hir)⟩) hxd w a hI)
      refine ⟨hS0 _ _ _ hI', ?_⟩
      have := ih (Dn ++ [x]) (rm.erase x.1) a' w' (by rw [List.length_erase_of_mem hir, hl]; rfl) (hnd'.erase _) (fun y hy => ?_) (fun y hy => ?_) (fun r hr => hrm r (List.mem_of_mem_erase hr)) (fun r hr e he heT => ?_) hI'
      · show Go.wpAnyH P .any ops (NQ Q) S0 (f + m) ((mk n (Dn.map (·.1) ++ is)).setIfInBounds x.1 true) a' w'
        have e : (mk n (Dn.map (·.1) ++ is)).setIfInBounds x.1 true = mk n (x.1 :: (Dn.map (·.1) ++ is)) := rfl
        rw [e, mk_congr (is' := (Dn ++ [x]).map (·.1) ++ is) (fun j => by simp only [List.map_append, List.map_cons, List.map_nil, List.mem_append, List.mem_cons, List.not_mem_nil, or_false]; rw [← or_assoc, or_comm (a := j = x.1), or_assoc])]
        exact this
      · rcases hT y hy with h3 | h3
        · exact .inl (List.mem_append_left _ h3)
        · by_cases e : y.1 = x.1
          · left
            have : y = x := fst_inj hnd hy hx e
            subst this; simp
          · exact .inr ((List.Nodup.mem_erase_iff hnd').2 ⟨e, h3⟩)
      · rcases List.mem_append.1 hy with h3 | h3
        · exact ⟨(hD y h3).1, fun h4 => (hD y h3).2 (List.mem_of_mem_erase h4)⟩
        · obtain rfl : y = x := by simpa using h3
          exact ⟨hx, fun h4 => ((List.Nodup.mem_erase_iff hnd').1 h4).1 rfl⟩
      · rw [List.map_append] at hr ⊢
        rcases List.mem_append.1 hr with h3 | h3
        · exact List.mem_append_left _ (hdc r h3 e he heT)
        · obtain rfl : r = x.1 := by simpa using h3
          exact List.mem_append_left _ (hxd e he heT)
  intro w hS a ha
  rw [hF]
  have := key T.length [] (T.map (·.1)) a w (by simp) hnd (fun x hx => .inr (List.mem_map.2 ⟨x, hx, rfl⟩)) (by simp) (fun r hr => by obtain ⟨x, hx, rfl⟩ := List.mem_map.1 hr; exact ⟨x, hx, rfl⟩) (by simp) (h0 w hS a ha)
  simpa using this
end

/-- what an operation does: a value that is known, or a row that a call makes -/
inductive Job where
  | val (d : Nat) (v : Value)
  | row (d e k n : Nat) (xs : List Value)
def Job.d : Job → Nat
  | .val d _ => d
  | .row d .. => d
def Job.is (u : Value) : Job → Value
  | .val _ v => v
  | .row .. => u
def Job.own (u : Value) : Job → List Own
  | .val .. => []
  | .row _ e k n xs => [.row u e k n xs]
section
variable {P : Program} {N n : Nat} {D : List Deferred} {E : Env} {S0 : World → Prop} {Q : Exit → Act → World → Prop} {w0 : World} {M : Fp} {L : List Own} {ops : Array Oper} {f F : Nat} {is : List Nat} {T : List (Nat × Job)}
theorem nodup_inj {α β : Type} {g : α → β} : ∀ {T : List α}, (T.map g).Nodup → ∀ {x y : α}, y ∈ T → x ∈ T → g y = g x → y = x
  | [], _, _, _, h, _, _ => by cases h
  | z :: T, hp, x, y, hy, hx, e => by
    rw [List.map_cons, List.nodup_cons] at hp
    rcases List.mem_cons.1 hy with rfl | hy'
    · rcases List.mem_cons.1 hx with rfl | hx'
      · rfl
      · exact absurd (List.mem_map.2 ⟨x, hx', e.symm⟩) hp.1
    · rcases List.mem_cons.1 hx with rfl | hx'
      · exact absurd (List.mem_map.2 ⟨y, hy', e⟩) hp.1
      · exact nodup_inj hp.2 hy' hx' e
theorem nodup_of_map {α β : Type} {g : α → β} {T : List α} (h : (T.map g).Nodup) : T.Nodup := by
  induction T with
  | nil => simp
  | cons x T ih =>
    rw [List.map_cons, List.nodup_cons] at h
    exact List.nodup_cons.2 ⟨fun hx => h.1 (List.mem_map_of_mem hx), ih h.2⟩
/-- A list of parts in another order. -/
theorem Mem.swap {w : World} (A : List Own) {x y : Own} (h : Mem w0 M (A ++ x :: y :: L) w) : Mem w0 M (A ++ y :: x :: L) w :=
  h.emb (fun i => if i = A.length then A.length + 1 else if i = A.length + 1 then A.length else i) (fun i j e => by split at e <;> split at e <;> (try split at e) <;> (try split at e) <;> omega) fun j o hj => by
    by_cases h1 : j = A.length
    · rw [if_pos h1]; subst h1
      rw [List.getElem?_append_right (by omega)] at hj ⊢
      simp at hj ⊢; exact hj
    · rw [if_neg h1]
      by_cases h2 : j = A.length + 1
      · rw [if_pos h2]; subst h2
        rw [List.getElem?_append_right (by omega)] at hj ⊢
        simp at hj ⊢; exact hj
      · rw [if_neg h2]
        rcases Nat.lt_or_ge j A.length with h3 | h3
        · rw [List.getElem?_append_left h3] at hj ⊢; exact hj
        · rw [List.getElem?_append_right h3] at hj ⊢
          obtain ⟨k, hk⟩ : ∃ k, j - A.length = k + 2 := ⟨j - A.length - 2, by omega⟩
          rw [hk] at hj ⊢
          simpa using hj
theorem Mem.perm {w : World} {B C : List Own} (hp : B.Perm C) : ∀ (A : List Own), Mem w0 M (A ++ B) w → Mem w0 M (A ++ C) w := by
  induction hp with
  | nil => exact fun _ h => h
  | cons x _ ih => intro A h; have := ih (A ++ [x]) (by simpa using h); simpa using this
  | swap x y l => exact fun A h => h.swap A
  | trans _ _ ih1 ih2 => exact fun A h => ih2 A (ih1 A h)
theorem Mem.tail {w : World} {A : List Own} (h : Mem w0 M (A ++ L) w) : Mem w0 M L w :=
  h.emb (fun i => A.length + i) (fun i j e => by omega) fun j o hj => by rw [List.getElem?_append_right (by omega)]; simpa using hj

theorem Has.same {a : Act} (h : Has N D a E) {d : Nat} (hd : look E d = none) (v : Value) : Has N D (a.put (some d) v) E := by
  refine ⟨h.d, by simp [Act.put, h.n], fun t u hu => ?_⟩
  have hne : d ≠ t := fun e => by subst e; rw [hd] at hu; cases hu
  simp only [Act.put]
  rw [Array.getElem?_setIfInBounds_ne hne]
  exact h.h t u hu
theorem Has.all {a : Act} : ∀ {E1 : Env}, Has N D a E → (∀ p ∈ E1, a.tmps[p.1]? = some p.2) → Has N D a (E1 ++ E)
  | [], h, _ => h
  | p :: r, h, h1 => by
    have ih := Has.all (E1 := r) h fun q hq => h1 q (List.mem_cons_of_mem _ hq)
    refine ⟨ih.d, ih.n, fun t v hv => ?_⟩
    rw [List.cons_append, look_cons] at hv
    by_cases e : p.1 = t
    · rw [if_pos e] at hv; rw [← e, h1 p (List.mem_cons_self ..)]; exact hv
    · rw [if_neg e] at hv; exact ih.h t v hv

/-- values of T that operation i waits for -/
def preOk (ops : Array Oper) (T : List (Nat × Job)) (i : Nat) : List (Nat × Nat × Value) → Prop
  | [] => True
  | y :: r => (∃ j : Nat, T[j]? = some (y.1, .val y.2.1 y.2.2)) ∧ (bdeps ops i).contains y.1 = true ∧ preOk ops T i r
def envP (pre : List (Nat × Nat × Value)) : Env := pre.map (·.2)
def jobAt (P : Program) (N : Nat) (D : List Deferred) (ops : Array Oper) (E : Env) (w0 : World) (M : Fp) (L : List Own) (T : List (Nat × Job)) (x : Nat × Job) : Prop :=
  look E x.2.d = none ∧ Nat.blt x.2.d N = true ∧ ∃ pre, preOk ops T x.1 pre ∧ match x.2 with
  | .val d v => ∃ op ty pos aft, ops[x.1]? = some ⟨some d, op, ty, pos, aft, none⟩ ∧ Runs P N D (envP pre ++ E) (Mem w0 M L) op ty v
  | .row d e k n xs => ∃ c args ts vs ty pos aft, ops[x.1]? = some ⟨some d, .call { callee := .value (.func c), args := args, argTypes := ts }, ty, pos, aft, none⟩ ∧ evs (envP pre ++ E) args.toList = some vs ∧ (∀ vs w, (callFunc c vs).run P w = .ok (.enter c vs) w) ∧
    ∀ w, Mem w0 M L w → Calls P c vs.toArray w (RetRow w e k n xs)
def jobAll (P : Program) (N : Nat) (D : List Deferred) (ops : Array Oper) (E : Env) (w0 : World) (M : Fp) (L : List Own) (T : List (Nat × Job)) : List (Nat × Job) → Prop
  | [] => True
  | x :: r => jobAt P N D ops E w0 M L T x ∧ jobAll P N D ops E w0 M L T r
theorem jv_ {i d : Nat} {v : Value} {op : Op} {ty : TypeId} {pos : String} {aft : Array Edge} (pre : List (Nat × Nat × Value)) (hp : preOk ops T i pre) (hl : look E d = none) (hd : Nat.blt d N = true) (h : ops[i]? = some ⟨some d, op, ty, pos, aft, none⟩) (hr : Runs P N D (envP pre ++ E) (Mem w0 M L) op ty v) : jobAt P N D ops E w0 M L T (i, .val d v) :=
  ⟨hl, hd, pre, hp, op, ty, pos, aft, h, hr⟩
theorem jr_ {i c d e k n : Nat} {xs : List Value} {args : Array Operand} {ts : Array TypeId} {vs : List Value} {ty : TypeId} {pos : String} {aft : Array Edge} (pre : List (Nat × Nat × Value)) (hp : preOk ops T i pre) (hl : look E d = none) (hd : Nat.blt d N = true) (h : ops[i]? = some ⟨some d, .call { callee := .value (.func c), args := args, argTypes := ts }, ty, pos, aft, none⟩) (ha : evs (envP pre ++ E) args.toList = some vs) (hcall : ∀ vs w, (callFunc c vs).run P w = .ok (.enter c vs) w)
    (hc : ∀ w, Mem w0 M L w → Calls P c vs.toArray w (RetRow w e k n xs)) : jobAt P N D ops E w0 M L T (i, .row d e k n xs) := ⟨hl, hd, pre, hp, c, args, ts, vs, ty, pos, aft, h, ha, hcall, hc⟩
theorem jobAll.at : ∀ {T' : List (Nat × Job)}, jobAll P N D ops E w0 M L T T' → ∀ x ∈ T', jobAt P N D ops E w0 M L T x
  | [], _, x, hx => by cases hx
  | y :: T', h, x, hx => by
    rcases List.mem_cons.1 hx with rfl | hx
    · exact h.1
    · exact jobAll.at h.2 x hx
theorem n_mix (T : List (Nat × Job)) (hsz : ops.size = n) (hB : dagB ops n is (T.map (·.1)) = true) (hnd : (T.map (·.1)).Nodup) (hdd : (T.map (·.2.d)).Nodup) (hF : F = f + T.length)
    (hI : jobAll P N D ops E w0 M L T T) (hS0 : ∀ w, Mem w0 M L w → S0 w)
    (h : ∀ val : Nat → Value, WN P N D ops n Q S0 f (T.map (·.1) ++ is) (T.map (fun x => (x.2.d, x.2.is (val x.1))) ++ E) (Mem w0 M (T.flatMap (fun x => x.2.own (val x.1)) ++ L))) : WN P N D ops n Q S0 F is E (Mem w0 M L) := by
  refine n_dag T (fun Dn a w => Dn.Nodup ∧ ∃ val : Nat → Value, Has N D a E ∧ (∀ x ∈ Dn, a.tmps[x.2.d]? = some (x.2.is (val x.1))) ∧ Mem w0 M (Dn.flatMap (fun x => x.2.own (val x.1)) ++ L) w) hsz hB hnd hF (fun w hw a ha => ⟨by simp, fun _ => undef, ha, by simp, hw⟩) (fun Dn a w hw => by obtain ⟨_, val, _, _, hm⟩ := hw; exact hS0 w hm.tail) (fun Dn x hx hDn hdep w a hJ => ?_) fun Dn hDn a w hJ => ?_
  · obtain ⟨hdn, val, ha, hv, hm⟩ := hJ
    obtain ⟨hl, hd, pre, hpre, hjob⟩ := hI.at x hx
    have hd' : x.2.d < N := by simpa [Nat.blt_eq] using hd
    have hxn : x ∉ Dn := fun h1 => (hDn x h1).2 rfl
    have hdne : ∀ y ∈ Dn, y.2.d ≠ x.2.d := fun y hy e => by
      have := nodup_inj hdd (hDn y hy).1 hx e
      exact (hDn y hy).2 (by rw [this])
    have hnd2 : (Dn ++ [x]).Nodup := List.nodup_append.2 ⟨hdn, by simp, fun y hy z hz => by
      obtain rfl : z = x := by simpa using hz
      exact fun e => hxn (e ▸ hy)⟩
    have hap : Has N D a (envP pre ++ E) := by
      refine ha.all fun p hp => ?_
      have key : ∀ l, preOk ops T x.1 l → ∀ y ∈ l, a.tmps[y.2.1]? = some y.2.2 := by
        intro l
        induction l with
        | nil => intro _ y hy; cases hy
        | cons z r ih =>
          intro hz y hy
          rcases List.mem_cons.1 hy with rfl | hy
          · obtain ⟨⟨j, hj⟩, hc, _⟩ := hz
            have hyT : (y.1, Job.val y.2.1 y.2.2) ∈ T := List.mem_of_getElem? hj
            have h3 := hdep y.1 (by simpa using hc) (List.mem_map.2 ⟨_, hyT, rfl⟩)
            obtain ⟨q, hq, hqe⟩ := List.mem_map.1 h3
            have : q = (y.1, Job.val y.2.1 y.2.2) := nodup_inj hnd (hDn q hq).1 hyT hqe
            subst this
            exact hv _ hq
          · exact ih hz.2.2 y hy
      obtain ⟨y, hy, rfl⟩ := List.mem_map.1 hp
      exact key pre hpre y hy
    have fin : ∀ (u : Value) (w' : World), Mem w0 M (x.2.own u ++ (Dn.flatMap (fun y => y.2.own (val y.1)) ++ L)) w' → (Dn ++ [x]).Nodup ∧ ∃ val : Nat → Value, Has N D (a.put (some x.2.d) (x.2.is u)) E ∧ (∀ y ∈ Dn ++ [x], (a.put (some x.2.d) (x.2.is u)).tmps[y.2.d]? = some (y.2.is (val y.1))) ∧ Mem w0 M ((Dn ++ [x]).flatMap (fun y => y.2.own (val y.1)) ++ L) w' := fun u w' h2 => by
      refine ⟨hnd2, fun i => if i = x.1 then u else val i, ha.same hl _, fun y hy => ?_, ?_⟩
      · show _ = some (y.2.is (if y.1 = x.1 then u else val y.1))
        rcases List.mem_append.1 hy with h1 | h1
        · rw [if_neg (hDn y h1).2]
          simp only [Act.put]
          rw [Array.getElem?_setIfInBounds_ne (fun e => hdne y h1 e.symm)]
          exact hv y h1
        · obtain rfl : y = x := by simpa using h1
          rw [if_pos rfl]
          simp only [Act.put]
          rw [Array.getElem?_setIfInBounds_self_of_lt (by rw [ha.n]; exact hd')]
      · have e1 : (Dn ++ [x]).flatMap (fun y => y.2.own (if y.1 = x.1 then u else val y.1)) = Dn.flatMap (fun y => y.2.own (val y.1)) ++ x.2.own u := by
          rw [List.flatMap_append]
          congr 1
          · rw [List.flatMap_def, List.flatMap_def]
            congr 1
            exact List.map_congr_left fun y hy => by rw [if_neg (hDn y hy).2]
          · simp
        rw [e1]
        refine Mem.perm (B := x.2.own u ++ (Dn.flatMap (fun y => y.2.own (val y.1)) ++ L)) ?_ [] (by simpa using h2)
        rw [← List.append_assoc]
        exact List.Perm.append_right L List.perm_append_comm
    unfold wpOp
    match hxx : x.2, hjob with
    | .val d v, hjob =>
      obtain ⟨op, ty, pos, aft, ho, hr⟩ := hjob
      simp only [ho]
      have hwn : Region.wanted (⟨some d, op, ty, pos, aft, none⟩ : Oper) (yielded ops a.tmps) = true := rfl
      rw [if_pos hwn]
      left
      unfold Oper.wp
      rw [hr _ rfl rfl a w hap hm.tail]
      have := fin undef w (by rw [hxx]; exact hm)
      rw [hxx] at this
      exact this
    | .row d e k n' xs, hjob =>
      obtain ⟨c, args, ts, vs, ty, pos, aft, ho, hargs, hcall, hc⟩ := hjob
      simp only [ho]
      have hwn : Region.wanted (⟨some d, .call { callee := .value (.func c), args := args, argTypes := ts }, ty, pos, aft, none⟩ : Oper) (yielded ops a.tmps) = true := rfl
      rw [if_pos hwn]
      left
      unfold Oper.wp
      rw [run_call hap (by rfl) hargs hcall rfl, Oper.upon_enter, Array.append_empty]
      refine (hc w hm.tail).mono ?_
      rintro e' w' ⟨v, rfl, hf, hr⟩
      have := fin v w' (by rw [hxx]; exact hm.addRow hf hr)
      rw [hxx] at this
      exact this
  · obtain ⟨hdn, val, ha, hv, hm⟩ := hJ
    have hp : Dn.Perm T := (List.perm_ext_iff_of_nodup hdn (nodup_of_map hnd)).2 hDn
    refine h val w (Mem.perm (B := Dn.flatMap (fun x => x.2.own (val x.1)) ++ L) (List.Perm.append_right L (hp.flatMap_right _)) [] hm) a (ha.all fun p hp' => ?_)
    obtain ⟨x, hx, rfl⟩ := List.mem_map.1 hp'
    exact hv x ((hDn x).2 hx)
theorem n_weak {S S' : World → Prop} {E' : Env} (hs : subB E E') (hS : ∀ w, S w → S' w) (h : WN P N D ops n Q S0 f is E' S') : WN P N D ops n Q S0 f is E S := fun w hw a ha => h w (hS w hw) a (ha.less hs.all)
theorem n_open {α : Type} {enc : α → List Value} {e k : Nat} {v : Value} {l : List α} (i : Nat) (hL : L[i]? = some (Row v e k enc l)) (h : ∀ A c, v = .slice A l.length c → l.length ≤ c → c ≤ 9223372036854775807 → (l ≠ [] → ∃ ad, A = some ad) → WN P N D ops n Q S0 f is E (Mem w0 M L)) : WN P N D ops n Q S0 f is E (Mem w0 M L) :=
  fun w hS => by obtain ⟨A, c, h1, h2, h3, h4⟩ := row_form' (hS.row hL); exact h A c h1 h2 h3 h4 w hS
end
/-! ## A loop, round by round -/
/-- at a round's head -/
def WLp (P : Program) (N : Nat) (D : List Deferred) (c : Code) (Q : Exit → Act → World → Prop) (E : Env) (S : World → Prop) : Prop :=
  ∀ w, S w → ∀ a, Has N D a E → ∀ b k cs, ∃ e a' w', Q e a' w' ∧ Arrives P (lone (b.at a (.code c :: .inLoop c :: k)) cs w) b k cs e a' w'
section
variable {P : Program} {N : Nat} {D : List Deferred} {E : Env} {S : World → Prop} {Q : Exit → Act → World → Prop} {K : Act → World → Prop} {c : Code}
theorem c_enter (h : WLp P N D c Q E S) : WC P N D (.loop c) Q E S := fun w hw a ha b k cs => by
  obtain ⟨e', a', w', hq', harr'⟩ := h w hw a ha b k cs
  exact ⟨e', a', w', hq', .of_steps (.one step_loop) harr'⟩
theorem c_round (h : ∀ K : Act → World → Prop, (∀ E S, WLp P N D c Q E S → ∀ w, S w → ∀ a, Has N D a E → K a w) → WC P N D c (Exit.then K Q) E S) : WLp P N D c Q E S := by
  intro w hw a ha b k cs
  obtain ⟨e, a₁, w₁, hq, harr⟩ := h (fun a w => ∀ b k cs, ∃ e a' w', Q e a' w' ∧ Arrives P (lone (b.at a (.code c :: .inLoop c :: k)) cs w) b k cs e a' w') (fun _ _ h' w' hw' a' ha' => h' w' hw' a' ha') w hw a ha b (.inLoop c :: k) cs
  cases e with
  | normal =>
    obtain ⟨e₂, a₂, w₂, hq₂, harr₂⟩ := (show ∀ b k cs, ∃ e a' w', Q e a' w' ∧ Arrives P (lone (b.at a₁ (.code c :: .inLoop c :: k)) cs w₁) b k cs e a' w' from hq) b k cs
    exact ⟨e₂, a₂, w₂, hq₂, .of_steps (Steps.trans harr (.one step_inLoop)) harr₂⟩
  | exit id => exact ⟨_, a₁, w₁, hq, .pass (x := .inLoop c) rfl (fun _ _ => .inl (by simp)) harr⟩
  | goto l => exact ⟨_, a₁, w₁, hq, .pass (x := .inLoop c) rfl (fun _ _ => .inl (by simp)) harr⟩
  | ret => exact ⟨_, a₁, w₁, hq, .pass (x := .inLoop c) rfl (fun _ _ => .inl (by simp)) harr⟩
  | panic ch => exact ⟨_, a₁, w₁, hq, .pass (x := .inLoop c) rfl (fun _ _ => .inl (by simp)) harr⟩
  | outgrown => exact ⟨_, a₁, w₁, hq, .pass (x := .inLoop c) rfl (fun _ _ => .inl (by simp)) harr⟩
theorem e_goL (hK : ∀ E S, WLp P N D c Q E S → ∀ w, S w → ∀ a, Has N D a E → K a w) (h : WLp P N D c Q E S) : WE N D (Exit.then K Q) .normal E S := fun w hw a ha => hK E S h w hw a ha
end

/-! ## Rows whose elements hold slices: the cells as they lie -/
structure SlV where (A : Option Addr) (n c : Nat)
structure ShelfV where (s0 s1 s2 s3 : SlV) (i0 i1 i2 i3 i4 : Int)
@[reducible] def shelfVE (s : ShelfV) : List Value := [.slice s.s0.A s.s0.n s.s0.c, .slice s.s1.A s.s1.n s.s1.c, .slice s.s2.A s.s2.n s.s2.c, .slice s.s3.A s.s3.n s.s3.c, .int .i64 s.i0, .int .i64 s.i1, .int .i64 s.i2, .int .i64 s.i3, .int .i64 s.i4]
theorem encShelfV : Enc shelfVE 9 := .of (fun _ => rfl) (fun _ => rfl) rfl

/-! ## A shelf and samples, handed back together -/
section
variable {P : Program} {N : Nat} {D : List Deferred} {E : Env} {Q : Exit → Act → World → Prop} {w0 w w' : World} {M : Fp} {L : List Own} {ops : Array Oper} {rest : List Oper} {d : Nat} {ty : TypeId} {pos : String} {aft : Array Edge} {g : Option (Nat × Bool)} {u v : Value}
def ShLAt (S : Nat → Prop) (v : Value) (s : Shelf) (l : List Sample) (w : World) : Prop := ∃ a r, v = .tuple (List.toArray [a, r]) ∧ ShelfAt S a s w ∧ FlatSl S 2 sampleE r l w
theorem ShLAt.loc (v : Value) (s : Shelf) (l : List Sample) : Loc (fun S => ShLAt S v s l) := fun S S' u u' hs hk ⟨a, r, e, h1, h2⟩ => ⟨a, r, e, ShelfAt.loc a s S S' u u' hs hk h1, FlatSl.loc _ _ _ _ S S' u u' hs hk h2⟩
def RetShL (w : World) (P0 : Nat → Prop) (s : Shelf) (l : List Sample) : Ending → World → Prop := RetP w P0 (fun u => u) (fun u Pb w => ShLAt Pb u s l w)
theorem l_callShL {f : Nat} {args : Array Operand} {ts : Array TypeId} {vs : List Value} (s : Shelf) (l : List Sample) (hw : Want N D ops E g true) (hargs : evs E args.toList = some vs)
    (hcall : ∀ vs w, (callFunc f vs).run P w = .ok (.enter f vs) w) (hd : Nat.blt d N = true)
    (hc : ∀ w Pb, Mem w0 M L w → Pubs w0 M L w Pb → Calls P f vs.toArray w (RetShL w Pb s l))
    (h : ∀ A0 c0 A1 c1 A2 c2 A3 c3 A4 c4,
      s.series.length ≤ c0 ∧ c0 ≤ 9223372036854775807 ∧ s.raw.length ≤ c1 ∧ c1 ≤ 9223372036854775807 ∧ s.fine.length ≤ c2 ∧ c2 ≤ 9223372036854775807 ∧ s.coarse.length ≤ c3 ∧ c3 ≤ 9223372036854775807 ∧ l.length ≤ c4 ∧ c4 ≤ 9223372036854775807 →
      (s.series ≠ [] → ∃ ad, A0 = some ad) → (s.raw ≠ [] → ∃ ad, A1 = some ad) → (s.fine ≠ [] → ∃ ad, A2 = some ad) → (s.coarse ≠ [] → ∃ ad, A3 = some ad) → (l ≠ [] → ∃ ad, A4 = some ad) →
      WL P N D ops Q rest ((d, .tuple (List.toArray [.agg (shelfC (.slice A0 s.series.length c0) (.slice A1 s.raw.length c1) (.slice A2 s.fine.length c2) (.slice A3 s.coarse.length c3) s).toArray, .slice A4 l.length c4])) :: E) (Mem w0 M (slP 2 labelE (.slice A0 s.series.length c0) s.series :: slP 2 sampleE (.slice A1 s.raw.length c1) s.raw :: slP 8 bucketE (.slice A2 s.fine.length c2) s.fine :: slP 8 bucketE (.slice A3 s.coarse.length c3) s.coarse :: slP 2 sampleE (.slice A4 l.length c4) l :: L))) :
    WL P N D ops Q (⟨some d, .call { callee := .value (.func f), args := args, argTypes := ts }, ty, pos, aft, g⟩ :: rest) E (Mem w0 M L) :=
  l_callP (fun u => u) _ (fun u => ShLAt.loc u s l) hw hargs hcall hd hc fun u w hS a ha => by
    obtain ⟨Pb, pp⟩ := hS.pb
    obtain ⟨b, r, rfl, ⟨v0, v1, v2, v3, rfl, h0, h1, h2, h3⟩, h4⟩ := pp.at_ 0 _ rfl
    obtain ⟨A0, c0, rfl, a0, b0, d0⟩ := h0.form
    obtain ⟨A1, c1, rfl, a1, b1, d1⟩ := h1.form
    obtain ⟨A2, c2, rfl, a2, b2, d2⟩ := h2.form
    obtain ⟨A3, c3, rfl, a3, b3, d3⟩ := h3.form
    obtain ⟨A4, c4, rfl, a4, b4, d4⟩ := h4.form
    have key : ∀ {Pb : Nat → Prop}, ShLAt Pb (.tuple (List.toArray [.agg (shelfC (.slice A0 s.series.length c0) (.slice A1 s.raw.length c1) (.slice A2 s.fine.length c2) (.slice A3 s.coarse.length c3) s).toArray, .slice A4 l.length c4])) s l w →
        (FlatSl Pb 2 labelE (.slice A0 s.series.length c0) s.series w ∧ FlatSl Pb 2 sampleE (.slice A1 s.raw.length c1) s.raw w ∧ FlatSl Pb 8 bucketE (.slice A2 s.fine.length c2) s.fine w ∧ FlatSl Pb 8 bucketE (.slice A3 s.coarse.length c3) s.coarse w) ∧ FlatSl Pb 2 sampleE (.slice A4 l.length c4) l w := by
      rintro Pb ⟨a', r', e, k1, k2⟩
      have e' : a' = .agg (shelfC (.slice A0 s.series.length c0) (.slice A1 s.raw.length c1) (.slice A2 s.fine.length c2) (.slice A3 s.coarse.length c3) s).toArray ∧ r' = .slice A4 l.length c4 := by
        injection e with e
        have := congrArg Array.toList e
        simp at this
        exact ⟨this.1.symm, this.2.symm⟩
      obtain ⟨rfl, rfl⟩ := e'
      exact ⟨ShelfAt.open k1, k2⟩
    refine h A0 c0 A1 c1 A2 c2 A3 c3 A4 c4 ⟨a0, b0, a1, b1, a2, b2, a3, b3, a4, b4⟩ d0 d1 d2 d3 d4 w ?_ a ha
    have n4 := hS.note (F := fun S => FlatSl S 2 sampleE (.slice A4 l.length c4) l) (FlatSl.loc _ _ _ _) fun Pb pp => (key (pp.at_ 0 _ rfl)).2
    have n3 := n4.note (F := fun S => FlatSl S 8 bucketE (.slice A3 s.coarse.length c3) s.coarse) (FlatSl.loc _ _ _ _) fun Pb pp => (key (pp.at_ 1 _ rfl)).1.2.2.2
    have n2 := n3.note (F := fun S => FlatSl S 8 bucketE (.slice A2 s.fine.length c2) s.fine) (FlatSl.loc _ _ _ _) fun Pb pp => (key (pp.at_ 2 _ rfl)).1.2.2.1
    have n1 := n2.note (F := fun S => FlatSl S 2 sampleE (.slice A1 s.raw.length c1) s.raw) (FlatSl.loc _ _ _ _) fun Pb pp => (key (pp.at_ 3 _ rfl)).1.2.1
    have n0 := n1.note (F := fun S => FlatSl S 2 labelE (.slice A0 s.series.length c0) s.series) (FlatSl.loc _ _ _ _) fun Pb pp => (key (pp.at_ 4 _ rfl)).1.1
    exact n0.emb (fun j => if j < 5 then j else j + 1) (fun i j e => by split at e <;> split at e <;> omega) fun j o hj => by
      match j, hj with
      | 0, hj => exact hj
      | 1, hj => exact hj
      | 2, hj => exact hj
      | 3, hj => exact hj
      | 4, hj => exact hj
      | j + 5, hj =>
        rw [if_neg (by omega)]
        simpa using hj
theorem Mem.retShL {w1 : World} {P0 : Nat → Prop} {v0 v1 v2 v3 r : Value} {s s' : Shelf} {l l' : List Sample} (h : Mem w ⟨no, P0⟩ L w1) (hv : v = .tuple (List.toArray [.agg (shelfC v0 v1 v2 v3 s').toArray, r])) (hs : s' = s) (hl : l' = l)
    (h0 : ∀ Pb, Pubs w ⟨no, P0⟩ L w1 Pb → FlatSl Pb 2 labelE v0 s'.series w1) (h1 : ∀ Pb, Pubs w ⟨no, P0⟩ L w1 Pb → FlatSl Pb 2 sampleE v1 s'.raw w1)
    (h2 : ∀ Pb, Pubs w ⟨no, P0⟩ L w1 Pb → FlatSl Pb 8 bucketE v2 s'.fine w1) (h3 : ∀ Pb, Pubs w ⟨no, P0⟩ L w1 Pb → FlatSl Pb 8 bucketE v3 s'.coarse w1) (h4 : ∀ Pb, Pubs w ⟨no, P0⟩ L w1 Pb → FlatSl Pb 2 sampleE r l' w1) : RetShL w P0 s l (.returned v) w1 :=
  h.retP (fun u => u) _ v rfl fun Pb pp => hs ▸ hl ▸ ⟨_, r, hv, ⟨v0, v1, v2, v3, rfl, h0 Pb pp, h1 Pb pp, h2 Pb pp, h3 Pb pp⟩, h4 Pb pp⟩
end
end Ex
end Go.Proofs.YtffpglgboaigfaaDoor
