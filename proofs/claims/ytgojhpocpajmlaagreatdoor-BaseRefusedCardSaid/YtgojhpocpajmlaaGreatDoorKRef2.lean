/- Laws and walks for the proof of BaseRefused, packed by program; each theorem bears its own conditions. -/
import Derived.Laws.Cover3
import Derived.Test.YtgojhpocpajmlaaGreatDoorKRef1
namespace Go.Proofs.YtgojhpocpajmlaaGreatDoor
section
namespace Roll
def badB (b:Bucket) (st:Int):Prop:=b.at_ < 0∨1000000 < b.at_∨Int.tmod b.at_ st≠0∨b.sum.count < 1∨st < b.sum.count
instance (b:Bucket) (st:Int):Decidable (badB b st):=by unfold badB; infer_instance
def behind (prev : Option Bucket) (b : Bucket) : Bool := match prev with
  | some p=>decide (b.at_≤p.at_)
  | none=>false
def wrongFrom (st : Int) : Nat → Option Bucket → List Bucket → Fault
  | _,_,[]=>⟨0,0⟩
  | k,prev,b::r=>if badB b st then ⟨3,k⟩ else if behind prev b then ⟨2,k⟩ else wrongFrom st (k + 1) (some b) r
def wrong (l:List Bucket) (tier:Int):Fault:=if step tier=0 then ⟨1,0⟩ else if 500 < l.length then ⟨5,0⟩ else wrongFrom (step tier) 0 none l
def prevOf (l:List Bucket) (k:Nat):Option Bucket:=if k=0 then none else l[k - 1]?
theorem wrong_start (l:List Bucket) (st:Int):wrongFrom st 0 none l=wrongFrom st 0 (prevOf l 0) (l.drop 0):=by simp [prevOf]
theorem wrong_step {l : List Bucket} {st : Int} {k : Nat} {s : Bucket} (h : l[k]? = some s) : wrongFrom st k (prevOf l k) (l.drop k) = if badB s st then ⟨3, k⟩ else if behind (prevOf l k) s then ⟨2, k⟩ else wrongFrom st (k + 1) (prevOf l (k + 1)) (l.drop (k + 1)) := by
  obtain ⟨hk,e⟩:=List.getElem?_eq_some_iff.1 h
  rw [List.drop_eq_getElem_cons hk,e]
  have:prevOf l (k + 1)=some s:=by unfold prevOf; rw [if_neg (by omega)]; simpa using h
  rw [this]; rfl
theorem wrong_end {l : List Bucket} {st : Int} {k : Nat} {p : Option Bucket} (h : l.length ≤ k) : wrongFrom st k p (l.drop k) = ⟨0, 0⟩ := by
  rw [List.drop_of_length_le h]; rfl
theorem from_ok (st : Int) : ∀ (l : List Bucket) (k : Nat) (p : Option Bucket), (∀ x ∈ l, ¬ badB x st) → l.Pairwise (fun x y => x.at_ < y.at_) → (∀ q, p = some q → ∀ x ∈ l, q.at_ < x.at_) → wrongFrom st k p l = ⟨0, 0⟩
  | [],_,_,_,_,_=>rfl
  | s :: r, k, p, h1, h2, h3 => by
    unfold wrongFrom
    rw [if_neg (h1 s (by simp))]
    have hb : ¬ (behind p s = true) := by
      cases p with
      | none=>simp [behind]
      | some q=>have:=h3 q rfl s (by simp); simp [behind]; omega
    rw [if_neg hb]
    have hp:=List.pairwise_cons.1 h2
    exact from_ok st r (k + 1) (some s) (fun x hx=>h1 x (by simp [hx])) hp.2 (by rintro q ⟨⟩ x hx; exact hp.1 x hx)
def inT (l:List Sample) (a b:Int):List Sample:=l.filter fun s=>decide (a≤s.time∧s.time < b)
theorem inT_succ {l : List Sample} {a b : Int} {k : Nat} {x : Sample} (h : l[k]? = some x) : inT (l.take (k + 1)) a b = if a ≤ x.time ∧ x.time < b then inT (l.take k) a b ++ [x] else inT (l.take k) a b := by
  unfold inT
  rw [List.take_add_one,h,List.filter_append]
  simp only [Option.toList_some,List.filter_cons,List.filter_nil,decide_eq_true_eq]
  split <;> simp
theorem inT_len (l:List Sample) (a b:Int):(inT l a b).length≤l.length:=List.length_filter_le ..
theorem of_snoc' (l : List Bucket) (b : Bucket) (f t : Int) : of (l ++ [b]) f t = if f ≤ b.at_ ∧ b.at_ < t then Agg.join (of l f t) b.sum else of l f t := by
  unfold of; simp
theorem of_count {l : List Bucket} {n : Int} (h : Counts l n) (hn : n ≤ 1000000000) (f t : Int) : 0 ≤ (of l f t).count ∧ (of l f t).count ≤ n := by
  induction l using List.reverseRecOn' generalizing n with
  | nil=>have:=h.nonneg; simp [of,Sum.zero]; omega
  | snoc l b ih =>
    have h1:=h.pos b (by simp)
    have h2:=ih h.init (by omega)
    rw [of_snoc']
    split
    · rw [Agg.join_count h2.1 (by omega) (by omega)]; omega
    · omega
end Roll
end
section
namespace Roll
section
variable {α:Type} (t:α→Int) (s:α→Sum) (st:Int)
def gf (l:List α):List Bucket:=l.foldl (fun b x=>add b (t x) st (s x)) []
def gsum (l:List α):Sum:=l.foldl (fun a x=>Agg.join a (s x)) Sum.zero
structure Rises (l : List α) : Prop where
  rng:∀ x ∈ l,0≤t x∧t x≤1000000
  inc:l.Pairwise (fun x y=>t x < t y)
variable {t s st} {l:List α} {a:Int} {i j:Nat}
theorem fold_last : ∀ (seg : List α) (s0 : Sum) (out : List Bucket), (∀ x ∈ seg, at' (t x) st = a) →
    seg.foldl (fun b x=>add b (t x) st (s x)) (out++[⟨a,s0⟩])=out++[⟨a,seg.foldl (fun u x=>Agg.join u (s x)) s0⟩]
  | [],_,_,_=>rfl
  | x :: seg, s0, out, h => by
    simp only [List.foldl_cons]
    rw [add_snoc,if_pos (h x (List.mem_cons_self ..)).symm]
    exact fold_last seg _ out fun y hy=>h y (List.mem_cons_of_mem _ hy)
theorem fold_new {seg : List α} {out : List Bucket} (hne : seg ≠ []) (h : ∀ x ∈ seg, at' (t x) st = a) (hb : ∀ b, out.getLast? = some b → b.at_ ≠ a) :
    seg.foldl (fun b x=>add b (t x) st (s x)) out=out++[⟨a,gsum s seg⟩]:=by
  cases seg with
  | nil=>exact absurd rfl hne
  | cons x seg =>
    have hx:=h x (List.mem_cons_self ..)
    have e : add out (t x) st (s x) = out ++ [⟨a, s x⟩] := by
      unfold add
      split
      · rename_i b hl
        rw [if_neg (by rw [hx]; exact hb b hl),hx]
      · rw [hx]
    simp only [List.foldl_cons]
    rw [e,fold_last seg _ out fun y hy=>h y (List.mem_cons_of_mem _ hy)]
    have e0:Agg.join Sum.zero (s x)=s x:=Agg.none_join _
    simp only [gsum,List.foldl_cons,e0]
theorem gf_group (hij : i < j) (hj : j ≤ l.length) (h : ∀ x ∈ (l.take j).drop i, at' (t x) st = a) (hb : ∀ b, (gf t s st (l.take i)).getLast? = some b → b.at_ ≠ a) :
    gf t s st (l.take j)=gf t s st (l.take i)++[⟨a,gsum s ((l.take j).drop i)⟩]:=by
  have e : l.take j = l.take i ++ (l.take j).drop i := by
    have:=List.take_append_drop i (l.take j)
    rw [List.take_take,Nat.min_eq_left (by omega)] at this
    exact this.symm
  have hne : (l.take j).drop i ≠ [] := by
    intro h0
    have:=congrArg List.length h0
    simp at this; omega
  conv=>lhs; rw [e]
  unfold gf
  rw [List.foldl_append]
  exact fold_new hne h hb
structure Grp (t : α → Int) (st : Int) (l : List α) (a : Int) (i j : Nat) : Prop where
  le:i≤j
  len:j≤l.length
  all:∀ x ∈ (l.take j).drop i,a≤t x∧t x < a + st
theorem Grp.start (h:i≤l.length):Grp t st l a i i:=⟨Nat.le_refl _,h,fun x hx=>by rw [List.drop_of_length_le (by simp; omega)] at hx; cases hx⟩
theorem Rises.le (h : Rises t l) {x y : α} (hi : l[i]? = some y) (hj : l[j]? = some x) (hij : i ≤ j) : t y ≤ t x := by
  rcases Nat.lt_or_ge i j with hlt | hge
  · obtain ⟨h1,rfl⟩:=List.getElem?_eq_some_iff.1 hi
    obtain ⟨h2,rfl⟩:=List.getElem?_eq_some_iff.1 hj
    have:=List.pairwise_iff_getElem.1 h.inc i j h1 h2 hlt
    omega
  · obtain rfl:i=j:=by omega
    rw [hi] at hj; cases hj; omega
theorem seg_succ {x : α} (hij : i ≤ j) (hx : l[j]? = some x) : (l.take (j + 1)).drop i = (l.take j).drop i ++ [x] := by
  have hj:j < l.length:=(List.getElem?_eq_some_iff.1 hx).1
  rw [List.take_add_one,hx,List.drop_append_of_le_length (by simp; omega)]; rfl
theorem Grp.step {x y : α} (g : Grp t st l a i j) (hr : Rises t l) (hi : l[i]? = some y) (ha : a ≤ t y) (hx : l[j]? = some x) (h : t x < a + st) : Grp t st l a i (j + 1) := by
  have hj:j < l.length:=(List.getElem?_eq_some_iff.1 hx).1
  have hle:=hr.le hi hx g.le
  refine ⟨by have:=g.le; omega,by omega,fun z hz=>?_⟩
  rw [seg_succ g.le hx] at hz
  rcases List.mem_append.1 hz with h1 | h1
  · exact g.all z h1
  · obtain rfl:z=x:=by simpa using h1
    omega
theorem at_of {n : Int} (hst : st = 10 ∨ st = 60) (h0 : 0 ≤ n ∧ n ≤ 1000000) {q : Int} (h1 : q * st ≤ n) (h2 : n < q * st + st) : at' n st = q * st := by
  unfold at'
  rw [Int.tmod_eq_emod_of_nonneg h0.1]
  rcases hst with rfl | rfl <;> (rw [wr_id (by omega) (by omega)]; omega)
theorem at_le {n : Int} (hst : st = 10 ∨ st = 60) (h0 : 0 ≤ n ∧ n ≤ 1000000) : at' n st ≤ n ∧ n < at' n st + st := by
  unfold at'
  rw [Int.tmod_eq_emod_of_nonneg h0.1]
  rcases hst with rfl | rfl <;> (rw [wr_id (by omega) (by omega)]; omega)
def Whole (t:α→Int) (s:α→Sum) (st:Int) (l:List α) (i:Nat):Prop:=∀ b,(gf t s st (l.take i)).getLast?=some b→∀ x,l[i]?=some x→b.at_≠at' (t x) st
theorem Whole.start:Whole t s st l 0:=fun b h=>by simp [gf] at h
theorem Grp.done {y : α} (hst : st = 10 ∨ st = 60) (hr : Rises t l) (hi : l[i]? = some y) (hw : Whole t s st l i) (g : Grp t st l (t y / st * st) i j) (hex : l.length ≤ j ∨ ∃ x, l[j]? = some x ∧ t y / st * st + st ≤ t x) :
    i < j∧gf t s st (l.take j)=gf t s st (l.take i)++[⟨t y / st * st,gsum s ((l.take j).drop i)⟩]∧Whole t s st l j:=by
  have hil:i < l.length:=(List.getElem?_eq_some_iff.1 hi).1
  have hy:=hr.rng y (List.mem_of_getElem? hi)
  have hq:t y / st * st≤t y∧t y < t y / st * st + st:=by rcases hst with rfl | rfl <;> omega
  have hij : i < j := by
    rcases Nat.lt_or_ge i j with h | h
    · exact h
    · have:=g.le
      obtain rfl:i=j:=by omega
      rcases hex with h1 | ⟨x,hx,h1⟩
      · omega
      · rw [hi] at hx; cases hx; omega
  have hay:=at_of hst hy hq.1 hq.2
  have e := gf_group (t := t) (s := s) (st := st) (a := t y / st * st) hij g.len (fun x hx => by
      have h1:=g.all x hx
      have h2:=hr.rng x (List.mem_of_mem_take (List.mem_of_mem_drop hx))
      exact at_of hst h2 h1.1 h1.2) (fun b hb=>by rw [← hay]; exact hw b hb y hi)
  refine ⟨hij,e,fun b hb x hx=>?_⟩
  rw [e,List.getLast?_append] at hb
  have hb':b=⟨t y / st * st,gsum s ((l.take j).drop i)⟩:=by simpa using hb.symm
  subst hb'
  rcases hex with h1 | ⟨z,hz,h1⟩
  · have:=(List.getElem?_eq_some_iff.1 hx).1; omega
  · rw [hx] at hz; cases hz
    have h2:=at_le hst (hr.rng x (List.mem_of_getElem? hx))
    intro h3
    simp only at h3
    omega
end
theorem rises_of {l:List Sample} (h:Codec.Right l):Rises Sample.time l:=⟨fun x hx=>⟨(h.rng x hx).1,(h.rng x hx).2.1⟩,h.inc⟩
theorem from_right (st : Int) : ∀ (l : List Bucket) (k : Nat) (p : Option Bucket), (wrongFrom st k p l).err = 0 →
    (∀ x ∈ l,¬ badB x st)∧l.Pairwise (fun x y=>x.at_ < y.at_)∧(∀ q,p=some q→∀ x ∈ l,q.at_ < x.at_)
  | [],_,_,_=>⟨by simp,by simp,by simp⟩
  | s :: r, k, p, h => by
    unfold wrongFrom at h
    split at h
    · simp at h
    · rename_i hb
      split at h
      · simp at h
      · rename_i hn
        obtain ⟨h1,h2,h3⟩:=from_right st r (k + 1) (some s) h
        have h4:=h3 s rfl
        refine ⟨?_,List.pairwise_cons.2 ⟨h4,h2⟩,?_⟩
        · intro x hx
          rcases List.mem_cons.1 hx with rfl | hx
          · exact hb
          · exact h1 x hx
        · rintro q rfl x hx
          have h5:q.at_ < s.at_:=by simpa [behind] using hn
          rcases List.mem_cons.1 hx with rfl | hx
          · exact h5
          · have:=h4 x hx; omega
structure RightB (l : List Bucket) (st : Int) : Prop where
  len:l.length≤500
  ok:∀ x ∈ l,¬ badB x st
  inc:l.Pairwise (fun x y=>x.at_ < y.at_)
theorem rightB_of {l : List Bucket} {tier : Int} (h : (wrong l tier).err = 0) : RightB l (step tier) ∧ step tier ≠ 0 := by
  unfold wrong at h
  split at h
  · simp at h
  · rename_i hs
    split at h
    · simp at h
    · obtain ⟨h1,h2,_⟩:=from_right _ l 0 none h
      exact ⟨⟨by omega,h1,h2⟩,hs⟩
theorem RightB.rises {l:List Bucket} {st:Int} (h:RightB l st):Rises Bucket.at_ l:=⟨fun x hx=>by have:=h.ok x hx; unfold badB at this; omega,h.inc⟩
theorem badB_iff {b : Bucket} {st : Int} (hst : st = 10 ∨ st = 60) : badB b st ↔ b.at_ < 0 ∨ 1000000 < b.at_ ∨ b.at_ / st * st ≠ b.at_ ∨ b.sum.count < 1 ∨ st < b.sum.count := by
  unfold badB
  by_cases h0:b.at_ < 0
  · simp [h0]
  · rw [Int.tmod_eq_emod_of_nonneg (by omega)]
    rcases hst with rfl | rfl <;> omega
end Roll
end
section
open Tryz
open Ex
set_option linter.unusedVariables false
set_option linter.unusedSimpArgs false
theorem jM (tier : Int) (w : World)   :
    Calls prog 93 #[iV tier] w (Ret w (iV (Roll.step tier))):=by
 refine fstart (N:=8) (vals:=[iV tier]) (S:=Mem w no []) func93 rfl rfl rfl (Mem.ofDats dn) (zG fun _ hK1=>zP rfl (zD hK1 (zS fun _ hK2=>zG fun _ hK3=>zE rfl (zD hK3 (zk (zG fun _ hK4=>zB (yf rfl rfl) (zP rfl ?_)))))))
 refine zD hK4 (zZ rfl (fun h1=>?_) (fun h1=>?_))
 · refine zG fun _ hK5=>zP rfl (zD hK5 (zX (yA (zK (zY (.inl rfl) results93 (zR rfl) fun w1 hM=>?_)))))
   exact zn (by simp [Roll.step,h1]) hM
 refine zG fun _ hK6=>zB (yf rfl rfl) (zP rfl (zD hK6 (zZ rfl (fun h2=>?_) (fun h2=>?_))))
 · refine zG fun _ hK7=>zP rfl (zD hK7 (zX (yA (zK (zY (.inl rfl) results93 (zR rfl) fun w1 hM=>?_)))))
   exact zn (by simp [Roll.step,h1,h2]) hM
 refine yU (zm (zy hK2 (zG fun _ hK8=>zP rfl (zD hK8 (zX (zY (.inl rfl) results93 (zR rfl) fun w1 hM=>?_))))))
 exact zn (by simp [Roll.step,h1,h2]) hM
theorem c_add (lv : Value) (l : List Bucket) (time : Int) (step : Int) (s : Sum) (w : World) (hl : w.ownsRow 0 163 8 lv l.length (l.flatMap zU)) (hst : step ≠ 0) (hl1 : l.length ≤ 1048576) :
    Calls prog 169 #[lv,iV time,iV step,.agg (sumE s).toArray] w (RetU w lv 163 8 zU (Roll.add l time step s)):=by
 refine fstart (N:=48) (vals:=[lv,iV time,iV step,.agg (sumE s).toArray]) (S:=Mem w (fun b=>lv.ownBlock=some b) [Row lv 163 8 zU l]) func169 rfl rfl rfl (Mem.ownArg hl) (vW 0 (l:=l) rfl fun A0 cp0 hv0 hc0 hm0 hA0=>?_)
 subst hv0
 refine zG fun _ hK1=>vS wn rfl rfl fun b7=>zP rfl (zD hK1 (zG fun _ hK2=>zE rfl (zE rfl (zE rfl (zB (jq rfl rfl (by omega)) (zB (gL rfl rfl) (zP rfl (zD hK2 ?_))))))))
 refine zS fun _ hK3=>zG fun _ hK4=>zE rfl (zB (yW rfl underlying48) (zB (vw rfl rfl (by omega)) (zP rfl (zD hK4 (zG fun _ hK5=>zE rfl (zB (vn rfl rfl) (zE rfl (yQ (t:=21) rfl (fun h1=>?_) (fun h1=>?_)))))))))
 · refine zb (zi rfl) (zb (zi rfl) ?_)
   obtain ⟨ad1,hd1⟩:=hA0 (ne_nil (i:=(l.length - 1)) (by first | omega | (simp <;> omega)))
   refine zb (y6 (i:=(l.length - 1)) rfl hd1 rfl (by omega) (by first | omega | (simp <;> omega)) underlying48 inf163) (zb (yy rfl fld163_0) ?_)
   obtain ⟨s1,hs1⟩:∃ x,l[(l.length - 1)]?=some x:=⟨_,List.getElem?_eq_getElem (by first | omega | (simp <;> omega))⟩
   refine zb (u9 1 encBucket rfl rfl hd1 hs1 rfl flat3) (zb (zi rfl) (zb (yf rfl rfl) (zB (zM rfl rfl) (zD hK5 (zZ rfl (fun h2=>?_) (fun h2=>?_))))))
   · refine zS fun _ hK6=>va 11 mix (by kernel_rfl) (fun _ h=>h.drew) fun _ hT1=>yn rfl (yn rfl (yn rfl (yn rfl (zq (y6 (i:=(l.length - 1)) rfl hd1 rfl (by omega) (by first | omega | (simp <;> omega)) underlying48 inf163) (zq (yy rfl fld163_1) (zq (jE 1 [iV s1.sum.count,iV s1.sum.total,iV s1.sum.min,iV s1.sum.max,iV s1.sum.first,iV s1.sum.last,iV s1.sum.rise] encBucket rfl rfl hd1 hs1 rfl rfl agg89 inf89) (zq (yM 0 [iV s.count,iV s.total,iV s.min,iV s.max,iV s.first,iV s.last,iV s.rise] rfl rfl rfl rfl agg89 inf89) (vP wn rfl call66 rfl (fun w1 hM=>uW s1.sum s w1) (zq (y6 (i:=(l.length - 1)) rfl hd1 rfl (by omega) (by first | omega | (simp <;> omega)) underlying48 inf163) ?_)))))))))
     refine zq (yy rfl fld163_1) (v8 hT1 (u5 1 (vs:=[iV ((Agg.join s1.sum s).count),iV ((Agg.join s1.sum s).total),iV ((Agg.join s1.sum s).min),iV ((Agg.join s1.sum s).max),iV ((Agg.join s1.sum s).first),iV ((Agg.join s1.sum s).last),iV ((Agg.join s1.sum s).rise)]) (⟨s1.at_,(Agg.join s1.sum s)⟩:Bucket) encBucket wn rfl rfl rfl rfl hd1 hs1 inf89 rfl rfl rfl rfl (zD hK6 (zG fun _ hK7=>zE rfl (zP rfl (zD hK7 (zX (zK (zY (.inl rfl) results169 (zR rfl) fun w1 hM=>?_)))))))))
     exact hM.ja 1 rfl (Roll.add_last hs1 h2)
   refine yK hK3 (zG fun _ hK8=>zE rfl (zE rfl (zB (yM 0 [iV s.count,iV s.total,iV s.min,iV s.max,iV s.first,iV s.last,iV s.rise] rfl rfl rfl rfl agg89 inf89) (zB (zz [iV (IntKind.wrap .i64 (time - (Int.tmod time step))),iV s.count,iV s.total,iV s.min,iV s.max,iV s.first,iV s.last,iV s.rise] pl163 inf163 rfl rfl) (yw zU ([(⟨(IntKind.wrap .i64 (time - (Int.tmod time step))),s⟩:Bucket)]:List Bucket) wn underlying48 inf163 rfl rfl rfl rfl (by decide) (by decide) rfl fun b46=>vG 2 l ([(⟨(IntKind.wrap .i64 (time - (Int.tmod time step))),s⟩:Bucket)]:List Bucket) encBucket wn rfl rfl rfl (fun _ hM=>(RowSl encBucket hM 0 rfl)) underlying48 inf163 rfl rfl (by simp only [List.length_append,List.length_cons,List.length_nil]; omega) rfl fun A1 cp1 hc1 hm1 hA1=>zP rfl (zD hK8 (zX (zY (.inl rfl) results169 (zR rfl) fun w1 hM=>?_))))))))
   exact hM.ja 2 rfl (Roll.add_new hs1 h2)
 refine zQ (zQ (zQ (zQ (zQ (zQ (zQ (zB (zM rfl rfl) (zD hK5 (yr rfl rfl (yK hK3 (zG fun _ hK9=>?_)))))))))))
 refine zE rfl (zE rfl (zB (yM 0 [iV s.count,iV s.total,iV s.min,iV s.max,iV s.first,iV s.last,iV s.rise] rfl rfl rfl rfl agg89 inf89) (zB (zz [iV (IntKind.wrap .i64 (time - (Int.tmod time step))),iV s.count,iV s.total,iV s.min,iV s.max,iV s.first,iV s.last,iV s.rise] pl163 inf163 rfl rfl) (yw zU ([(⟨(IntKind.wrap .i64 (time - (Int.tmod time step))),s⟩:Bucket)]:List Bucket) wn underlying48 inf163 rfl rfl rfl rfl (by decide) (by decide) rfl fun b46=>vG 2 l ([(⟨(IntKind.wrap .i64 (time - (Int.tmod time step))),s⟩:Bucket)]:List Bucket) encBucket wn rfl rfl rfl (fun _ hM=>(RowSl encBucket hM 0 rfl)) underlying48 inf163 rfl rfl (by simp only [List.length_append,List.length_cons,List.length_nil]; omega) rfl fun A2 cp2 hc2 hm2 hA2=>zP rfl (zD hK9 (zX (zY (.inl rfl) results169 (zR rfl) fun w1 hM=>?_)))))))
 exact hM.ja 2 rfl (Roll.add_nil h1)
theorem c_Up (lv : Value) (l : List Sample) (tier : Int) (w : World) (hl : zJ (In w) 2 zo lv l w) (hl1 : l.length ≤ 1048576) :
    Calls prog 126 #[lv,iV tier] w (RetL w 163 8 zU (Roll.up l tier)):=by
 obtain ⟨lA,lc,rfl,hlc,hlm,hlA⟩:=hl.form
 refine fstart (N:=29) (vals:=[.slice lA l.length lc,iV tier]) (S:=Mem w no [slO (In w) 2 zo (.slice lA l.length lc) l]) func126 rfl rfl rfl (Mem.ofDats (dc (dl hl) dn)) (zG fun _ hK1=>vE (zU:Bucket→List Value) 163 8 (zP rfl (zD hK1 (zG fun _ hK2=>zE rfl (yF wn rfl call93 rfl (fun w1 hM=>jM tier w1) (zP rfl (zD hK2 (zS fun _ hK3=>zG fun _ hK4=>?_))))))))
 refine zE rfl (zB (yf rfl rfl) (zD hK4 (zZ rfl (fun h1=>?_) (fun h1=>?_))))
 · refine zG fun _ hK5=>vE (zU:Bucket→List Value) 163 8 (zP rfl (zD hK5 (zX (zK (zY (.inl rfl) results126 (zR rfl) fun w1 hM=>?_)))))
   exact hM.uh 0 rfl (by simp [Roll.up,h1])
 refine yK hK3 (zG fun _ hK6=>vE (zU:Bucket→List Value) 163 8 (zP rfl (zD hK6 (zS fun _ hK7=>zG fun _ hK8=>zE rfl (zB (yW rfl underlying47) (zE rfl (zD hK8 (zk ?_))))))))
 refine uS (fun (k:Nat) (vr:Value)=>[(5,iV (Roll.step tier)),(6,vr),(13,.slice lA l.length lc),(14,iV l.length),(15,iV k)]) (fun (k:Nat) (vr:Value)=>[Row vr 163 8 zU (Roll.ups (l.take k) (Roll.step tier)),Row (Zs) 163 8 zU ([]:List Bucket),slO (In w) 2 zo (.slice lA l.length lc) l]) (fun (k:Nat) (vr:Value)=>k≤l.length) (fun (k:Nat) (vr:Value)=>l.length - k) 0 (Zs) (sc rfl (sc rfl (sc rfl (sc rfl (sc (ji (by omega)) sn))))) (fun _ h=>h) ?_ (fun k vr hI1=>?_)
 · omega
 have hlen:=Nat.le_trans (Roll.ups_len (l.take k) (Roll.step tier)) (List.length_take_le k l)
 refine vW 0 (l:=(Roll.ups (l.take k) (Roll.step tier))) rfl fun A1 cp1 hv1 hc1 hm1 hA1=>?_
 subst hv1
 refine zG fun _ hK9=>zB (yR rfl rfl) (zD hK9 (zS fun _ hK10=>zZ rfl (fun h2=>?_) (fun h2=>?_)))
 · refine yK hK10 (zS fun _ hK11=>zk (zG fun _ hK12=>?_))
   obtain ⟨ad1,hd1⟩:=hlA (ne_nil (i:=k) (by first | omega | (simp <;> omega)))
   refine zB (y6 (i:=k) rfl hd1 rfl (by omega) (by first | omega | (simp <;> omega)) underlying47 inf41) ?_
   obtain ⟨s1,hs1⟩:∃ x,l[k]?=some x:=⟨_,List.getElem?_eq_getElem (by first | omega | (simp <;> omega))⟩
   refine zB (vx 2 [iV s1.time,iV s1.value] rfl rfl hd1 hs1 rfl rfl agg41 inf41) (yC wn inf41 rfl fun b8=>zr 0 wn rfl rfl rfl inf41 rfl rfl rfl (zD hK12 (va 7 mix (by kernel_rfl) (fun _ h=>h.drew) fun _ hT1=>yn rfl (zq (za rfl fld41_0) (zq (zg 0 rfl rfl rfl flat3) (yn rfl (zq (za rfl fld41_1) (zq (zg 0 rfl rfl rfl flat3) (vP wn rfl call67 rfl (fun w1 hM=>gN s1.value w1) ?_)))))))))
   refine v8 hT1 (uL 1 (Roll.add (Roll.ups (l.take k) (Roll.step tier)) s1.time (Roll.step tier) (Agg.one s1.value)) rfl wn rfl call169 rfl (fun w1 hM=>c_add _ (Roll.ups (l.take k) (Roll.step tier)) s1.time (Roll.step tier) (Agg.one s1.value) w1 (hM.row (i:=1) rfl) (by first | assumption | omega | decide) (by first | assumption | omega | (simp only [List.length_cons,List.length_nil]; omega) | exact Nat.le_trans (Roll.up_len _ _) (by first | omega | simp))) fun A2 cp2 hc2 hm2 hA2=>zP rfl (zl (zm (zy hK11 (zL (zB (zw rfl rfl (by omega)) (zE rfl (zl (vb (k + 1) (.slice A2 ((Roll.add (Roll.ups (l.take k) (Roll.step tier)) s1.time (Roll.step tier) (Agg.one s1.value)).length) cp2) (sc rfl (sc rfl (sc rfl (sc rfl (sc (ji (by omega)) sn))))) (fun _ h=>by rw [Roll.ups_succ l (Roll.step tier) k s1 hs1]; exact (h.sel [1,2,3] (by decide) rfl)) ?_ ?_)))))))))
   · omega
   omega
 refine yZ (yH (uB (yI (zy hK7 (zG fun _ hK13=>zE rfl (zP rfl (zD hK13 (zX (zY (.inl rfl) results126 (zR rfl) fun w1 hM=>?_)))))))))
 exact hM.uh 0 rfl (by rw [List.take_of_length_le (by omega)]; simp [Roll.up,h1])
theorem c_Greater (lv : Value) (l : List Bucket) (w : World) (hl : zJ (In w) 8 zU lv l w) (hl1 : l.length ≤ 1048576) :
    Calls prog 127 #[lv] w (RetL w 163 8 zU (Roll.greater l)):=by
 obtain ⟨lA,lc,rfl,hlc,hlm,hlA⟩:=hl.form
 refine fstart (N:=20) (vals:=[.slice lA l.length lc]) (S:=Mem w no [slO (In w) 8 zU (.slice lA l.length lc) l]) func127 rfl rfl rfl (Mem.ofDats (dc (dl hl) dn)) (zG fun _ hK1=>vE (zU:Bucket→List Value) 163 8 (zP rfl (zD hK1 (zG fun _ hK2=>vE (zU:Bucket→List Value) 163 8 (zP rfl (zD hK2 (zS fun _ hK3=>zG fun _ hK4=>zE rfl ?_)))))))
 refine zB (yW rfl underlying48) (zE rfl (zD hK4 (zk (uS (fun (k:Nat) (vr:Value)=>[(3,vr),(6,.slice lA l.length lc),(7,iV l.length),(8,iV k)]) (fun (k:Nat) (vr:Value)=>[Row vr 163 8 zU (Roll.greater (l.take k)),Row (Zs) 163 8 zU ([]:List Bucket),slO (In w) 8 zU (.slice lA l.length lc) l]) (fun (k:Nat) (vr:Value)=>k≤l.length) (fun (k:Nat) (vr:Value)=>l.length - k) 0 (Zs) (sc rfl (sc rfl (sc rfl (sc (ji (by omega)) sn)))) (fun _ h=>h) ?_ (fun k vr hI1=>?_)))))
 · omega
 have hlen:=Nat.le_trans (Roll.greater_len (l.take k)) (List.length_take_le k l)
 refine vW 0 (l:=(Roll.greater (l.take k))) rfl fun A1 cp1 hv1 hc1 hm1 hA1=>?_
 subst hv1
 refine zG fun _ hK5=>zB (yR rfl rfl) (zD hK5 (zS fun _ hK6=>zZ rfl (fun h1=>?_) (fun h1=>?_)))
 · refine yK hK6 (zS fun _ hK7=>zk (zG fun _ hK8=>?_))
   obtain ⟨ad1,hd1⟩:=hlA (ne_nil (i:=k) (by first | omega | (simp <;> omega)))
   refine zB (y6 (i:=k) rfl hd1 rfl (by omega) (by first | omega | (simp <;> omega)) underlying48 inf163) ?_
   obtain ⟨s1,hs1⟩:∃ x,l[k]?=some x:=⟨_,List.getElem?_eq_getElem (by first | omega | (simp <;> omega))⟩
   refine zB (vx 2 [iV s1.at_,iV s1.sum.count,iV s1.sum.total,iV s1.sum.min,iV s1.sum.max,iV s1.sum.first,iV s1.sum.last,iV s1.sum.rise] rfl rfl hd1 hs1 rfl rfl agg163 inf163) (yC wn inf163 rfl fun b5=>zr 0 wn rfl rfl rfl inf163 rfl rfl rfl (zD hK8 (zL (zE rfl (zB (za rfl fld163_0) (zB (zg 0 rfl rfl rfl flat3) (zB (za rfl fld163_1) (zB (yM 0 [iV s1.sum.count,iV s1.sum.total,iV s1.sum.min,iV s1.sum.max,iV s1.sum.first,iV s1.sum.last,iV s1.sum.rise] rfl rfl rfl rfl agg89 inf89) (uL 1 (Roll.add (Roll.greater (l.take k)) s1.at_ 60 s1.sum) rfl wn rfl call169 rfl (fun w1 hM=>c_add _ (Roll.greater (l.take k)) s1.at_ 60 s1.sum w1 (hM.row (i:=1) rfl) (by first | assumption | omega | decide) (by first | assumption | omega | (simp only [List.length_cons,List.length_nil]; omega) | exact Nat.le_trans (Roll.up_len _ _) (by first | omega | simp))) fun A2 cp2 hc2 hm2 hA2=>zP rfl ?_)))))))))
   refine zl (zm (zy hK7 (zL (zB (zw rfl rfl (by omega)) (zE rfl (zl (vb (k + 1) (.slice A2 ((Roll.add (Roll.greater (l.take k)) s1.at_ 60 s1.sum).length) cp2) (sc rfl (sc rfl (sc rfl (sc (ji (by omega)) sn)))) (fun _ h=>by rw [Roll.greater_succ l k s1 hs1]; exact (h.sel [1,2,3] (by decide) rfl)) ?_ ?_)))))))
   · omega
   omega
 refine yZ (yH (uB (yI (zy hK3 (zG fun _ hK9=>zE rfl (zP rfl (zD hK9 (zX (zY (.inl rfl) results127 (zR rfl) fun w1 hM=>?_)))))))))
 exact hM.uh 0 rfl (by rw [List.take_of_length_le (by omega)])
theorem jF (lv : Value) (l : List Bucket) (frm : Int) (to : Int) (w : World) (hl : zJ (In w) 8 zU lv l w)  :
    Calls prog 164 #[lv,iV frm,iV to] w (Ret w (.agg (sumE (Roll.of l frm to)).toArray)):=by
 obtain ⟨lA,lc,rfl,hlc,hlm,hlA⟩:=hl.form
 refine fstart (N:=32) (vals:=[.slice lA l.length lc,iV frm,iV to]) (S:=Mem w no [slO (In w) 8 zU (.slice lA l.length lc) l]) func164 rfl rfl rfl (Mem.ofDats (dc (dl hl) dn)) (zG fun _ hK1=>yC wn inf89 rfl fun b6=>zD hK1 (zG fun _ hK2=>yC wn inf89 rfl fun b7=>zD hK2 (zS fun _ hK3=>zG fun _ hK4=>zE rfl (zB (yW rfl underlying48) (zE rfl ?_)))))
 refine zD hK4 (zk (y8 (fun (k:Nat)=>[(1,iV frm),(2,iV to),(6,.pointer (some ⟨b6,0,none⟩)),(7,.pointer (some ⟨b7,0,none⟩)),(10,.slice lA l.length lc),(11,iV l.length),(12,iV k)]) (fun (k:Nat)=>[.blk b7 [iV ((Roll.of (l.take k) frm to).count),iV ((Roll.of (l.take k) frm to).total),iV ((Roll.of (l.take k) frm to).min),iV ((Roll.of (l.take k) frm to).max),iV ((Roll.of (l.take k) frm to).first),iV ((Roll.of (l.take k) frm to).last),iV ((Roll.of (l.take k) frm to).rise)] 89,.blk b6 [iV 0,iV 0,iV 0,iV 0,iV 0,iV 0,iV 0] 89,slO (In w) 8 zU (.slice lA l.length lc) l]) (fun (k:Nat)=>k≤l.length) (fun (k:Nat)=>l.length - k) 0 (sc rfl (sc rfl (sc rfl (sc rfl (sc rfl (sc rfl (sc (ji (by omega)) sn))))))) (fun _ h=>h) ?_ (fun k hI1=>?_)))
 · omega
 refine zG fun _ hK5=>zB (yR rfl rfl) (zD hK5 (zS fun _ hK6=>zZ rfl (fun h1=>?_) (fun h1=>?_)))
 · refine yK hK6 (zS fun _ hK7=>zk (zG fun _ hK8=>?_))
   obtain ⟨ad1,hd1⟩:=hlA (ne_nil (i:=k) (by first | omega | (simp <;> omega)))
   refine zB (y6 (i:=k) rfl hd1 rfl (by omega) (by first | omega | (simp <;> omega)) underlying48 inf163) ?_
   obtain ⟨s1,hs1⟩:∃ x,l[k]?=some x:=⟨_,List.getElem?_eq_getElem (by first | omega | (simp <;> omega))⟩
   refine zB (vx 2 [iV s1.at_,iV s1.sum.count,iV s1.sum.total,iV s1.sum.min,iV s1.sum.max,iV s1.sum.first,iV s1.sum.last,iV s1.sum.rise] rfl rfl hd1 hs1 rfl rfl agg163 inf163) (yC wn inf163 rfl fun b9=>zr 0 wn rfl rfl rfl inf163 rfl rfl rfl (zD hK8 (zG fun _ hK9=>zB (za rfl fld163_0) (zB (zg 0 rfl rfl rfl flat3) (zE rfl (zB (vn rfl rfl) (zE rfl (yQ (t:=20) rfl (fun h2=>?_) (fun h2=>?_)))))))))
   · refine zb (za rfl fld163_0) (zb (zg 0 rfl rfl rfl flat3) (zb (zi rfl) (zb (yR rfl rfl) (zB (zM rfl rfl) (zD hK9 (zZ rfl (fun h3=>?_) (fun h3=>?_)))))))
     · refine zL (zB (yM 1 [iV ((Roll.of (l.take k) frm to).count),iV ((Roll.of (l.take k) frm to).total),iV ((Roll.of (l.take k) frm to).min),iV ((Roll.of (l.take k) frm to).max),iV ((Roll.of (l.take k) frm to).first),iV ((Roll.of (l.take k) frm to).last),iV ((Roll.of (l.take k) frm to).rise)] rfl rfl rfl rfl agg89 inf89) (zB (za rfl fld163_1) (zB (yM 0 [iV s1.sum.count,iV s1.sum.total,iV s1.sum.min,iV s1.sum.max,iV s1.sum.first,iV s1.sum.last,iV s1.sum.rise] rfl rfl rfl rfl agg89 inf89) (yF wn rfl call66 rfl (fun w1 hM=>uW (Roll.of (l.take k) frm to) s1.sum w1) (zr 1 wn rfl rfl rfl inf89 rfl rfl rfl (zl (zm (zy hK7 (zL (zB (zw rfl rfl (by omega)) (zE rfl ?_)))))))))))
       have hst:=Roll.of_succ l frm to k s1 hs1
       rw [if_pos (by omega)] at hst
       refine zl (yX (k + 1) (sc rfl (sc rfl (sc rfl (sc rfl (sc rfl (sc rfl (sc (ji (by omega)) sn))))))) (fun _ h=>by rw [hst]; exact (h.sel [1,2,3] (by decide) rfl)) ?_ ?_)
       · omega
       omega
     refine yU (zm (zy hK7 (zL (zB (zw rfl rfl (by omega)) (zE rfl ?_)))))
     have hst:=Roll.of_succ l frm to k s1 hs1
     rw [if_neg (by omega)] at hst
     refine zl (yX (k + 1) (sc rfl (sc rfl (sc rfl (sc rfl (sc rfl (sc rfl (sc (ji (by omega)) sn))))))) (fun _ h=>by rw [hst]; exact (h.sel [1,2,3] (by decide) rfl)) ?_ ?_)
     · omega
     omega
   refine zQ (zQ (zQ (zQ (zB (zM rfl rfl) (zD hK9 (yr rfl rfl (yU (zm (zy hK7 (zL (zB (zw rfl rfl (by omega)) (zE rfl ?_))))))))))))
   have hst:=Roll.of_succ l frm to k s1 hs1
   rw [if_neg (by omega)] at hst
   refine zl (yX (k + 1) (sc rfl (sc rfl (sc rfl (sc rfl (sc rfl (sc rfl (sc (ji (by omega)) sn))))))) (fun _ h=>by rw [hst]; exact (h.sel [1,2,3] (by decide) rfl)) ?_ ?_)
   · omega
   omega
 refine yZ (yH (yj (yI (zy hK3 (zG fun _ hK10=>zB (yM 0 [iV ((Roll.of (l.take k) frm to).count),iV ((Roll.of (l.take k) frm to).total),iV ((Roll.of (l.take k) frm to).min),iV ((Roll.of (l.take k) frm to).max),iV ((Roll.of (l.take k) frm to).first),iV ((Roll.of (l.take k) frm to).last),iV ((Roll.of (l.take k) frm to).rise)] rfl rfl rfl rfl agg89 inf89) (zr 1 wn rfl rfl rfl inf89 rfl rfl rfl (zD hK10 (zX (zY (.inl rfl) results164 (zt 1 rfl rfl agg89 inf89 rfl) fun w1 hM=>?_)))))))))
 exact vq (l1:=[iV ((Roll.of (l.take k) frm to).count),iV ((Roll.of (l.take k) frm to).total),iV ((Roll.of (l.take k) frm to).min),iV ((Roll.of (l.take k) frm to).max),iV ((Roll.of (l.take k) frm to).first),iV ((Roll.of (l.take k) frm to).last),iV ((Roll.of (l.take k) frm to).rise)]) (by rw [List.take_of_length_le (by omega)]) hM
theorem c_rollWrong (lv : Value) (l : List Bucket) (tier : Int) (w : World) (hl : zJ (In w) 8 zU lv l w)  :
    Calls prog 44 #[lv,iV tier] w (Ret w (.agg (faultE (Roll.wrong l tier)).toArray)):=by
 obtain ⟨lA,lc,rfl,hlc,hlm,hlA⟩:=hl.form
 refine fstart (N:=71) (vals:=[.slice lA l.length lc,iV tier]) (S:=Mem w no [slO (In w) 8 zU (.slice lA l.length lc) l]) func44 rfl rfl rfl (Mem.ofDats (dc (dl hl) dn)) (zG fun _ hK1=>yC wn inf61 rfl fun b4=>zD hK1 (zG fun _ hK2=>zE rfl (yF wn rfl call93 rfl (fun w1 hM=>jM tier w1) (zP rfl (zD hK2 (zS fun _ hK3=>zG fun _ hK4=>zE rfl ?_))))))
 refine zB (yf rfl rfl) (zD hK4 (zZ rfl (fun h1=>?_) (fun h1=>?_)))
 · refine zG fun _ hK5=>zB (zz [iV 1,iV 0] pl61 inf61 rfl rfl) (zr 0 wn rfl rfl rfl inf61 rfl rfl rfl (zD hK5 (zX (zK (zY (.inl rfl) results44 (zt 0 rfl rfl agg61 inf61 rfl) fun w1 hM=>?_)))))
   exact vq (l1:=[iV 1,iV 0]) (by rw [Roll.wrong,if_pos (by omega)]) hM
 refine yK hK3 (zS fun _ hK6=>zG fun _ hK7=>zE rfl (zB (yW rfl underlying48) (zB (vH rfl rfl) (zD hK7 (zZ rfl (fun h2=>?_) (fun h2=>?_))))))
 · refine zG fun _ hK8=>zB (zz [iV 5,iV 0] pl61 inf61 rfl rfl) (zr 0 wn rfl rfl rfl inf61 rfl rfl rfl (zD hK8 (zX (zK (zY (.inl rfl) results44 (zt 0 rfl rfl agg61 inf61 rfl) fun w1 hM=>?_)))))
   exact vq (l1:=[iV 5,iV 0]) (by rw [Roll.wrong,if_neg (by omega),if_pos (by omega)]) hM
 refine yK hK6 (zS fun _ hK9=>zG fun _ hK10=>zE rfl (zB (yW rfl underlying48) (zE rfl (zD hK10 (zk (y8 (fun (k:Nat)=>[(0,.slice lA l.length lc),(4,.pointer (some ⟨b4,0,none⟩)),(5,iV (Roll.step tier)),(17,.slice lA l.length lc),(18,iV l.length),(19,iV k)]) (fun (k:Nat)=>[.blk b4 [iV 0,iV 0] 61,slO (In w) 8 zU (.slice lA l.length lc) l]) (fun (k:Nat)=>k≤l.length∧Roll.wrongFrom (Roll.step tier) 0 none l=Roll.wrongFrom (Roll.step tier) k (Roll.prevOf l k) (l.drop k)) (fun (k:Nat)=>l.length - k) 0 (sc rfl (sc rfl (sc rfl (sc rfl (sc rfl (sc (ji (by omega)) sn)))))) (fun _ h=>h) ?_ (fun k hI1=>?_)))))))
 · exact ⟨by omega,Roll.wrong_start l _⟩
 refine zG fun _ hK11=>zB (yR rfl rfl) (zD hK11 (zS fun _ hK12=>zZ rfl (fun h3=>?_) (fun h3=>?_)))
 · refine yK hK12 (zS fun _ hK13=>zk (zG fun _ hK14=>zE rfl ?_))
   obtain ⟨ad1,hd1⟩:=hlA (ne_nil (i:=k) (by first | omega | (simp <;> omega)))
   refine zB (y6 (i:=k) rfl hd1 rfl (by omega) (by first | omega | (simp <;> omega)) underlying48 inf163) ?_
   obtain ⟨s1,hs1⟩:∃ x,l[k]?=some x:=⟨_,List.getElem?_eq_getElem (by first | omega | (simp <;> omega))⟩
   refine zB (vx 1 [iV s1.at_,iV s1.sum.count,iV s1.sum.total,iV s1.sum.min,iV s1.sum.max,iV s1.sum.first,iV s1.sum.last,iV s1.sum.rise] rfl rfl hd1 hs1 rfl rfl agg163 inf163) (yC wn inf163 rfl fun b7=>zP rfl (zr 0 wn rfl rfl rfl inf163 rfl rfl rfl (zD hK14 (zS fun _ hK15=>vm [(0,.slice lA l.length lc),(4,.pointer (some ⟨b4,0,none⟩)),(5,iV (Roll.step tier)),(6,iV k),(7,.pointer (some ⟨b7,0,none⟩)),(17,.slice lA l.length lc),(18,iV l.length),(19,iV k),(51,.bool (decide ((s1.at_ < 0)∨((1000000 < s1.at_)∨(((Int.tmod s1.at_ (Roll.step tier))≠0)∨((s1.sum.count < 1)∨((Roll.step tier) < s1.sum.count)))))))] (Mem w no [.blk b7 [iV s1.at_,iV s1.sum.count,iV s1.sum.total,iV s1.sum.min,iV s1.sum.max,iV s1.sum.first,iV s1.sum.last,iV s1.sum.rise] 163,.blk b4 [iV 0,iV 0] 61,slO (In w) 8 zU (.slice lA l.length lc) l]) (fun _ hK16=>?_) ?_))))
   · refine zL (zB (za rfl fld163_0) (zB (zg 0 rfl rfl rfl flat3) (zB (yR rfl rfl) (zE rfl (yQ (t:=27) rfl (fun h4=>?_) (fun h4=>?_))))))
     · refine zQ (zQ (zQ (zB (zM rfl rfl) (zE rfl (zQ (zQ (zQ (zQ (zQ (zB (zM rfl rfl) (zE rfl ?_)))))))))))
       refine zQ (zQ (zQ (zQ (zB (zM rfl rfl) (zE rfl (zQ (zQ (zQ (zQ (zQ (zB (zM rfl rfl) ?_)))))))))))
       refine zl (ym hK16 (sc rfl (sc rfl (sc rfl (sc rfl (sc rfl (sc rfl (sc rfl (sc rfl (sc (jt (Or.inl h4)) sn))))))))) (fun _ h=>h))
     refine zb (za rfl fld163_0) (zb (zg 0 rfl rfl rfl flat3) (zb (vH rfl rfl) (zB (zM rfl rfl) (zE rfl (yQ (t:=32) rfl (fun h5=>?_) (fun h5=>?_))))))
     · refine zQ (zQ (zQ (zQ (zQ (zB (zM rfl rfl) (zE rfl (zQ (zQ (zQ (zQ (zB (zM rfl rfl) ?_)))))))))))
       refine zE rfl (zQ (zQ (zQ (zQ (zQ (zB (zM rfl rfl) ?_))))))
       refine zl (ym hK16 (sc rfl (sc rfl (sc rfl (sc rfl (sc rfl (sc rfl (sc rfl (sc rfl (sc (jt (Or.inr (Or.inl h5))) sn))))))))) (fun _ h=>h))
     refine zb (za rfl fld163_0) (zb (zg 0 rfl rfl rfl flat3) (zb (zi rfl) (zb (jq rfl rfl (by omega)) (zb (vD rfl rfl) (zB (zM rfl rfl) (zE rfl (yQ (t:=39) rfl (fun h6=>?_) (fun h6=>?_))))))))
     · refine zQ (zQ (zQ (zQ (zB (zM rfl rfl) (zE rfl (zQ (zQ (zQ (zQ (zQ (zB (zM rfl rfl) ?_)))))))))))
       refine zl (ym hK16 (sc rfl (sc rfl (sc rfl (sc rfl (sc rfl (sc rfl (sc rfl (sc rfl (sc (jt (Or.inr (Or.inr (Or.inl h6)))) sn))))))))) (fun _ h=>h))
     refine zb (za rfl fld163_1) (zb (za rfl fld89_0) (zb (zg 0 rfl rfl rfl flat3) (zb (yR rfl rfl) (zB (zM rfl rfl) (zE rfl (yQ (t:=45) rfl (fun h7=>?_) (fun h7=>?_)))))))
     · refine zQ (zQ (zQ (zQ (zQ (zB (zM rfl rfl) ?_)))))
       refine zl (ym hK16 (sc rfl (sc rfl (sc rfl (sc rfl (sc rfl (sc rfl (sc rfl (sc rfl (sc (jt (Or.inr (Or.inr (Or.inr (Or.inl h7))))) sn))))))))) (fun _ h=>h))
     refine zb (za rfl fld163_1) (zb (za rfl fld89_0) (zb (zg 0 rfl rfl rfl flat3) (zb (zi rfl) (zb (vH rfl rfl) (zB (zM rfl rfl) ?_)))))
     refine zl (ym hK16 (sc rfl (sc rfl (sc rfl (sc rfl (sc rfl (sc rfl (sc rfl (sc rfl (sc (jp (iff_or_right h4 (iff_or_right h5 (iff_or_right h6 (iff_or_right h7 Iff.rfl))))) sn))))))))) (fun _ h=>h))
   refine zZ rfl (fun h8=>?_) (fun h8=>?_)
   · refine zG fun _ hK17=>zE rfl (zB (zz [iV 3,iV k] pl61 inf61 rfl rfl) (zr 1 wn rfl rfl rfl inf61 rfl rfl rfl (zD hK17 (zX (zK (yA (zK (ye (yA (zK (zY (.inl rfl) results44 (zt 1 rfl rfl agg61 inf61 rfl) fun w1 hM=>?_)))))))))))
     exact vq (l1:=[iV 3,iV k]) (by rw [Roll.wrong,if_neg (by omega),if_neg (by omega),hI1.2,Roll.wrong_step hs1,if_pos (by unfold Roll.badB; omega)]) hM
   refine yK hK15 (zS fun _ hK18=>vN mix (by kernel_rfl) (fun _ h=>h.drew) (yn rfl (zq (vH rfl rfl) (yn rfl (vh (t:=56) rfl (fun h9=>?_) (fun h9=>?_))))))
   · refine yL (zi rfl) (yL (zi rfl) (yL (vw rfl rfl (by omega)) (yL (y6 (i:=(k - 1)) rfl hd1 rfl (by omega) (by first | omega | (simp <;> omega)) underlying48 inf163) (yL (yy rfl fld163_0) ?_))))
     obtain ⟨s2,hs2⟩:∃ x,l[(k - 1)]?=some x:=⟨_,List.getElem?_eq_getElem (by first | omega | (simp <;> omega))⟩
     refine yL (gH 2 rfl rfl hd1 hs2 rfl flat3) (yL (za rfl fld163_0) (yL (zg 0 rfl rfl rfl flat3) (yL (vn rfl rfl) (zq (zM rfl rfl) (vJ (zy hK18 (zZ rfl (fun h10=>?_) (fun h10=>?_))))))))
     · refine zG fun _ hK19=>zE rfl (zB (zz [iV 2,iV k] pl61 inf61 rfl rfl) (zr 1 wn rfl rfl rfl inf61 rfl rfl rfl (zD hK19 (zX (yA (zK (ye (yA (zK (zY (.inl rfl) results44 (zt 1 rfl rfl agg61 inf61 rfl) fun w1 hM=>?_))))))))))
       exact vq (l1:=[iV 2,iV k]) (by rw [Roll.wrong,if_neg (by omega),if_neg (by omega),hI1.2,Roll.wrong_step hs1,if_neg (by unfold Roll.badB; omega),if_pos (by rw [Roll.prevOf,if_neg (by omega),hs2]; simp [Roll.behind]; omega)]) hM
     refine yU (zm (zy hK13 (zL (zB (zw rfl rfl (by omega)) (zE rfl (zl (yX (k + 1) (sc rfl (sc rfl (sc rfl (sc rfl (sc rfl (sc (ji (by omega)) sn)))))) (S9 [1,2]) ?_ ?_)))))))
     · exact ⟨by omega,by rw [hI1.2,Roll.wrong_step hs1,if_neg (by unfold Roll.badB; omega),if_neg (by rw [Roll.prevOf,if_neg (by omega),hs2]; simp [Roll.behind]; omega)]⟩
     omega
   refine yB (yB (yB (yB (yB (yB (yB (yB (yB (zq (zM rfl rfl) (vJ (zy hK18 (yr rfl rfl ?_))))))))))))
   refine yU (zm (zy hK13 (zL (zB (zw rfl rfl (by omega)) (zE rfl (zl (yX (k + 1) (sc rfl (sc rfl (sc rfl (sc rfl (sc rfl (sc (ji (by omega)) sn)))))) (S9 [1,2]) ?_ ?_)))))))
   · exact ⟨by omega,by rw [hI1.2,Roll.wrong_step hs1,if_neg (by unfold Roll.badB; omega),if_neg (by rw [Roll.prevOf,if_pos (by omega)]; simp [Roll.behind])]⟩
   omega
 refine yZ (yH (yj (yI (zy hK9 (zG fun _ hK20=>zB (zz [iV 0,iV 0] pl61 inf61 rfl rfl) (zr 0 wn rfl rfl rfl inf61 rfl rfl rfl (zD hK20 (zX (zY (.inl rfl) results44 (zt 0 rfl rfl agg61 inf61 rfl) fun w1 hM=>?_)))))))))
 exact vq (l1:=[iV 0,iV 0]) (by rw [Roll.wrong,if_neg (by omega),if_neg (by omega),hI1.2,Roll.wrong_end (by omega)]) hM
end
section
namespace Ex
set_option linter.unusedSimpArgs false
section
variable {P:Program} {N:Nat} {D:List Deferred} {E:Env} {S:World→Prop} {T T' ty:TypeId} {x y:Operand} {m n:Int} {k:IntKind}
theorem wrap_u64 (m:Int):IntKind.u64.wrap m=m % 18446744073709551616:=by simp [IntKind.wrap,IntKind.bits,IntKind.signed]
theorem wrap_u64n {a:Nat} (h:a < 18446744073709551616):IntKind.u64.wrap (a:Int)=(a:Int):=by rw [wrap_u64]; omega
theorem r_shl {j : Nat} {k' : IntKind} (hx : ev E x = some (.int .u64 m)) (hy : ev E y = some (.int k' n)) (hn : n = (j : Int)) (hj : j < 64) : Runs P N D E S (.binOp .shl T x y T') ty (.int .u64 (IntKind.u64.wrap (m * 2 ^ j))) := fun o ho _ a w ha _ => by
  subst hn
  have h1:min j 64=j:=by omega
  unfold execOp; rw [ho]; simp [ha.eval hx,ha.eval hy,binOp_shl,Op.shift,eqGuard_at_int,IntKind.bits,h1]
theorem r_shr {j u : Nat} {k' : IntKind} (hx : ev E x = some (.int .u64 (u : Int))) (hy : ev E y = some (.int k' n)) (hn : n = (j : Int)) (hj : j < 64) : Runs P N D E S (.binOp .shr T x y T') ty (.int .u64 ((u / 2 ^ j : Nat) : Int)) := fun o ho _ a w ha _ => by
  subst hn
  have h1:min j 64=j:=by omega
  unfold execOp; rw [ho]; simp [ha.eval hx,ha.eval hy,binOp_shr,Op.shift,eqGuard_at_int,IntKind.bits,h1]
theorem r_int64 {a : Nat} (hx : ev E x = some (.int .u64 (a : Int))) (h : a ≤ 9223372036854775807) (hs : (P.underlying T).isSome = true) (hd : P.underlying T' = some (.int .i64)) : Runs P N D E S (.convert T T' x) ty (.int .i64 ((a : Nat) : Int)) := by
  have:=r_conv (P:=P) (N:=N) (D:=D) (S:=S) (ty:=ty) hx hs hd
  rwa [wrap_in (by omega)] at this
theorem r_natu64 {a : Nat} (hx : ev E x = some (.int .i64 m)) (hm : m = (a : Int)) (h : a ≤ 9223372036854775807) (hs : (P.underlying T).isSome = true) (hd : P.underlying T' = some (.int .u64)) : Runs P N D E S (.convert T T' x) ty (.int .u64 ((a : Nat) : Int)) := by
  have:=r_conv (P:=P) (N:=N) (D:=D) (S:=S) (ty:=ty) hx hs hd
  subst hm
  rwa [wrap_u64n (by omega)] at this
end
end Ex
end
section
namespace Ex
section
variable {P : Program} {N : Nat} {D : List Deferred} {E : Env} {S : World → Prop} {Q : Exit → Act → World → Prop} {w0 w w' : World} {M : Fp} {L : List Own}
  {ops:Array Oper} {rest:List Oper} {d:Nat} {ty T:TypeId} {pos:String} {aft:Array Edge} {g:Option (Nat × Bool)} {v u:Value} {x:Operand}
theorem Mem.lay' (h : Mem w0 M L w) {F : (Nat → Prop) → World → Prop} (hl : Loc F) (n : Nat) (hn0 : w0.heap.size ≤ n) (hn : ∀ (i : Nat) (o : Own), L[i]? = some o → o.mut = true → ∀ b, o.fp b → b < n)
    {Pb Pb':Nat→Prop} (pp:Pubs w0 M L w Pb) (hs:∀ b,Pb' b→(Pb b∨n≤b)∧b < w.heap.size) (hF':F Pb' w):Mem w0 M (.pub F::L) w:=by
  refine ⟨h.fr,fun i p hi=>?_,?_,?_⟩
  · cases i with
    | zero => obtain rfl : Own.pub F = p := by simpa using hi
              exact ⟨hl,fun b hb=>hb.elim,fun hm=>by cases hm⟩
    | succ i=>exact h.ok i p (by simpa using hi)
  · intro i j p q hi hj hij hm b hb hb'
    cases i with
    | zero =>
      obtain rfl:Own.pub F=p:=by simpa using hi
      exact hb
    | succ i =>
      cases j with
      | zero => obtain rfl : Own.pub F = q := by simpa using hj
                exact hb'
      | succ j=>exact h.dj i j p q (by simpa using hi) (by simpa using hj) (by omega) hm b hb hb'
  · refine ⟨fun b=>Pb b∨Pb' b,?_,?_,?_,?_⟩
    · rintro b (hb | hb)
      · exact pp.sub b hb
      · rcases (hs b hb).1 with h1 | h1
        · exact pp.sub b h1
        · right; omega
    · rintro b (hb | hb)
      · exact pp.lt b hb
      · exact (hs b hb).2
    · intro i p hi hm b hb hb'
      cases i with
      | zero => obtain rfl : Own.pub F = p := by simpa using hi
                cases hm
      | succ i =>
        have hi':L[i]?=some p:=by simpa using hi
        rcases hb with hb | hb
        · exact pp.dj i p hi' hm b hb hb'
        · rcases (hs b hb).1 with h1 | h1
          · exact pp.dj i p hi' hm b h1 hb'
          · have:=hn i p hi' hm b hb'; omega
    · intro i G hi
      cases i with
      | zero => obtain rfl : F = G := by simpa using hi
                exact hl Pb' _ w w (fun b hb=>.inr hb) (fun _ _=>rfl) hF'
      | succ i =>
        have hi':L[i]?=some (.pub G):=by simpa using hi
        exact ((h.ok i _ hi').1:Loc G) Pb _ w w (fun b hb=>.inl hb) (fun _ _=>rfl) (pp.at_ i G hi')
section
variable {α:Type} {enc:α→List Value} {k:Nat} {l l':List α}
theorem Pubs.sub' {w:World} {Pb:Nat→Prop} (pp:Pubs w0 M L w Pb) {i p:Nat} {cs:List Value} (hL:L[i]?=some (.blk p cs T)):∀ b,Pb b→b < w.heap.size∧b≠p:=fun b hb=>⟨pp.lt b hb,fun e=>pp.dj i _ hL rfl b hb e⟩
end
end
end Ex
end
section
structure Shelf where (zV:List Label) (raw:List Sample) (fine coarse:List Bucket) (ze zW zI zN zH:Int) deriving DecidableEq
structure Tri where (a b c:Int) deriving DecidableEq
namespace Ex
@[reducible] def triE (t:Tri):List Value:=[.int .i64 t.a,.int .i64 t.b,.int .i64 t.c]
theorem encTri:Enc triE 3:=⟨fun _=>rfl,fun _ v hv=>by simp [triE] at hv; rcases hv with rfl | rfl | rfl <;> rfl,by decide⟩
@[reducible] def shelfC (v0 v1 v2 v3:Value) (s:Shelf):List Value:=[v0,v1,v2,v3,.int .i64 s.ze,.int .i64 s.zW,.int .i64 s.zI,.int .i64 s.zN,.int .i64 s.zH]
def ShelfAt (S : Nat → Prop) (v : Value) (s : Shelf) (w : World) : Prop :=
  ∃ v0 v1 v2 v3,v=.agg (shelfC v0 v1 v2 v3 s).toArray∧zJ S 2 zj v0 s.zV w∧zJ S 2 zo v1 s.raw w∧zJ S 8 zU v2 s.fine w∧zJ S 8 zU v3 s.coarse w
theorem ShelfAt.loc (v : Value) (s : Shelf) : Loc (fun S => ShelfAt S v s) := fun S S' u u' hs hk ⟨v0, v1, v2, v3, e, h0, h1, h2, h3⟩ =>
  ⟨v0,v1,v2,v3,e,zJ.loc _ _ _ _ S S' u u' hs hk h0,zJ.loc _ _ _ _ S S' u u' hs hk h1,zJ.loc _ _ _ _ S S' u u' hs hk h2,zJ.loc _ _ _ _ S S' u u' hs hk h3⟩
theorem ShelfAt.open {S : Nat → Prop} {v0 v1 v2 v3 : Value} {s t : Shelf} {w : World} (h : ShelfAt S (.agg (shelfC v0 v1 v2 v3 t).toArray) s w) : zJ S 2 zj v0 s.zV w ∧ zJ S 2 zo v1 s.raw w ∧ zJ S 8 zU v2 s.fine w ∧ zJ S 8 zU v3 s.coarse w := by
  obtain ⟨u0,u1,u2,u3,e,h0,h1,h2,h3⟩:=h
  simp [shelfC] at e
  obtain ⟨rfl,rfl,rfl,rfl,_⟩:=e
  exact ⟨h0,h1,h2,h3⟩
section
variable {P : Program} {N : Nat} {D : List Deferred} {E : Env} {S : World → Prop} {Q : Exit → Act → World → Prop} {K : Act → World → Prop} {w0 w w' : World} {M : Fp} {L : List Own}
  {ops:Array Oper} {rest:List Oper} {d:Nat} {ty T:TypeId} {pos:String} {aft:Array Edge} {g:Option (Nat × Bool)} {v u:Value} {x y:Operand}
theorem Mem.emb {L' : List Own} (h : Mem w0 M L w) (f : Nat → Nat) (hf : ∀ i j, f i = f j → i = j) (he : ∀ j o, L'[j]? = some o → L[f j]? = some o) : Mem w0 M L' w := by
  refine ⟨h.fr,fun j o hj=>h.ok _ o (he j o hj),fun j k o o' hj hk hjk hm=>h.dj _ _ o o' (he j o hj) (he k o' hk) (fun e=>hjk (hf _ _ e)) hm,?_⟩
  obtain ⟨Pb,pp⟩:=h.pb
  exact ⟨Pb,pp.sub,pp.lt,fun j o hj=>pp.dj _ o (he j o hj),fun j F hj=>pp.at_ _ F (he j _ hj)⟩
theorem Mem.drop4 {a b c d e : Own} (h : Mem w0 M (a :: b :: c :: d :: e :: L) w) : Mem w0 M (a :: b :: c :: d :: L) w :=
  h.emb (fun j => if j < 4 then j else j + 1) (fun i j e => by split at e <;> split at e <;> omega) fun j o hj => by
    match j,hj with
    | 0,hj=>simpa using hj
    | 1,hj=>simpa using hj
    | 2,hj=>simpa using hj
    | 3,hj=>simpa using hj
    | j + 4, hj =>
      rw [if_neg (by omega)]
      simpa using hj
theorem Mem.keepP {Pb : Nat → Prop} (h : Mem w0 M L w) (pp : Pubs w0 M L w Pb) (hf : Fr no w w') : Pubs w0 M L w' Pb :=
  ⟨pp.sub,fun b hb=>Nat.lt_of_lt_of_le (pp.lt b hb) hf.size,pp.dj,fun _ _ hi=>pp.stay (fun i o hi=>(h.ok i o hi).1) (fun b hb=>hf.block b (pp.lt b hb) id) hi⟩
def RetP (w : World) (P0 : Nat → Prop) (mk : Value → Value) (F : Value → (Nat → Prop) → World → Prop) : Ending → World → Prop := fun e w' =>
  ∃ u Pb,e=.returned (mk u)∧Fr no w w'∧(∀ b,Pb b→(P0 b∨w.heap.size≤b)∧b < w'.heap.size)∧F u Pb w'
theorem l_callP {f : Nat} {args : Array Operand} {ts : Array TypeId} {vs : List Value} (mk : Value → Value) (F : Value → (Nat → Prop) → World → Prop) (hl : ∀ u, Loc (F u)) (hw : Want N D ops E g true) (hargs : evs E args.toList = some vs)
    (hcall:∀ vs w,(callFunc f vs).run P w=.ok (.enter f vs) w) (hd:Nat.blt d N=true)
    (hc:∀ w Pb,Mem w0 M L w→Pubs w0 M L w Pb→Calls P f vs.toArray w (RetP w Pb mk F))
    (h:∀ u,WL P N D ops Q rest ((d,mk u)::E) (Mem w0 M (.pub (F u)::L))) :
    WL P N D ops Q (⟨some d,.call { callee:=.value (.func f),args:=args,argTypes:=ts },ty,pos,aft,g⟩::rest) E (Mem w0 M L) :=
  uc (Φ := fun v w' => ∃ u, v = mk u ∧ Mem w0 M (.pub (F u) :: L) w') hw (by rfl) hargs hcall hd (fun w hS => by
    obtain ⟨Pb,pp⟩:=hS.pb
    have hc':=hc w Pb hS pp
    simp only [Array.append_empty]
    refine hc'.mono fun e w' ⟨u,Pb',he,hf,hPb,hF⟩=>⟨mk u,he,u,rfl,?_⟩
    exact (hS.keep hf).lay' (hl u) w.heap.size hS.fr.size (fun j o hj hm b hb=>(hS.ok j o hj).2.1 b hb) (hS.keepP pp hf) hPb hF) (fun v w hw a ha=>by obtain ⟨u,rfl,hm⟩:=hw; exact h u w hm a ha)
theorem Mem.retP {w1 : World} {P0 : Nat → Prop} (h : Mem w ⟨no, P0⟩ L w1) (mk : Value → Value) (F : Value → (Nat → Prop) → World → Prop) (u : Value) (hv : v = mk u) (hF : ∀ Pb, Pubs w ⟨no, P0⟩ L w1 Pb → F u Pb w1) : RetP w P0 mk F (.returned v) w1 := by
  obtain ⟨Pb,pp⟩:=h.pb
  exact ⟨u,Pb,by rw [hv],h.fr,fun b hb=>⟨pp.sub b hb,pp.lt b hb⟩,hF Pb pp⟩
theorem Mem.yh {α : Type} {enc : α → List Value} {k : Nat} {e : TypeId} {l : List α} (he : Enc enc k) (h : Mem w0 M L w) {i : Nat} (hi : L[i]? = some (Row v e k enc l)) (hM : M.m = no) : Mem w0 M (L.set i (slP k enc v l)) w := by
  refine h.gG hi rfl (fun b hb=>?_) (zJ.loc _ _ _ _) fun Pb pp=>?_
  · rcases (h.ok i _ hi).2.2 rfl b hb with h1 | h1
    · exact .inl h1
    · rw [hM] at h1; exact h1.elim
  · have hrow:=h.row hi
    obtain ⟨A,c,rfl,e2,e3,e4⟩:=row_form' hrow
    refine ⟨A,c,rfl,e2,by simpa [maxLen] using e3,fun hne=>?_⟩
    obtain ⟨ad,rfl⟩:=e4 hne
    have hb : (Value.slice (some ad) l.length c).ownBlock = some ad.block := by
      rcases hrow.2 with ⟨h1,h2⟩ | ⟨gb,cap,cur,h1,_⟩
      · cases h1
      · injection h1 with h1 _ _; injection h1 with h1; subst h1; rfl
    refine ⟨ad,rfl,.inr hb,fun i' x hx j u hu=>?_⟩
    exact (RowSl he h i hi).cell rfl hx hu
theorem jv {α : Type} {enc : α → List Value} {k : Nat} {e : TypeId} {l : List α} (i : Nat) (he : Enc enc k) (hi : L[i]? = some (Row v e k enc l)) (hM : M.m = no) (h : WL P N D ops Q rest E (Mem w0 M (L.set i (slP k enc v l)))) : WL P N D ops Q rest E (Mem w0 M L) :=
  fun w hS=>h w (hS.yh he hi hM)
def RetSh (w:World) (P0:Nat→Prop) (mk:Value→Value) (s:Shelf):Ending→World→Prop:=RetP w P0 mk (fun u Pb w=>ShelfAt Pb u s w)
theorem l_openSh (q : Nat) {s : Shelf} {mk : Value → Value} (hL : L[q]? = some (.pub (fun Pb => ShelfAt Pb u s)))
    (h : ∀ A0 c0 A1 c1 A2 c2 A3 c3, u = .agg (shelfC (.slice A0 s.zV.length c0) (.slice A1 s.raw.length c1) (.slice A2 s.fine.length c2) (.slice A3 s.coarse.length c3) s).toArray →
      s.zV.length≤c0∧c0≤9223372036854775807∧s.raw.length≤c1∧c1≤9223372036854775807∧s.fine.length≤c2∧c2≤9223372036854775807∧s.coarse.length≤c3∧c3≤9223372036854775807 →
      (s.zV≠[]→∃ ad,A0=some ad)→(s.raw≠[]→∃ ad,A1=some ad)→(s.fine≠[]→∃ ad,A2=some ad)→(s.coarse≠[]→∃ ad,A3=some ad) →
      WL P N D ops Q rest ((d,mk u)::E) (Mem w0 M (slP 2 zj (.slice A0 s.zV.length c0) s.zV::slP 2 zo (.slice A1 s.raw.length c1) s.raw::slP 8 zU (.slice A2 s.fine.length c2) s.fine::slP 8 zU (.slice A3 s.coarse.length c3) s.coarse::L))) :
    WL P N D ops Q rest ((d,mk u)::E) (Mem w0 M L):=fun w hS=>by
  obtain ⟨Pb,pp⟩:=hS.pb
  obtain ⟨v0,v1,v2,v3,rfl,h0,h1,h2,h3⟩:=pp.at_ q _ hL
  obtain ⟨A0,c0,rfl,a0,b0,d0⟩:=h0.form
  obtain ⟨A1,c1,rfl,a1,b1,d1⟩:=h1.form
  obtain ⟨A2,c2,rfl,a2,b2,d2⟩:=h2.form
  obtain ⟨A3,c3,rfl,a3,b3,d3⟩:=h3.form
  refine h A0 c0 A1 c1 A2 c2 A3 c3 rfl ⟨a0,b0,a1,b1,a2,b2,a3,b3⟩ d0 d1 d2 d3 w ?_
  have n3:=hS.vU (F:=fun S=>zJ S 8 zU (.slice A3 s.coarse.length c3) s.coarse) (zJ.loc _ _ _ _) fun Pb pp=>(ShelfAt.open (pp.at_ q _ hL)).2.2.2
  have n2:=n3.vU (F:=fun S=>zJ S 8 zU (.slice A2 s.fine.length c2) s.fine) (zJ.loc _ _ _ _) fun Pb pp=>(ShelfAt.open (pp.at_ (q + 1) _ hL)).2.2.1
  have n1:=n2.vU (F:=fun S=>zJ S 2 zo (.slice A1 s.raw.length c1) s.raw) (zJ.loc _ _ _ _) fun Pb pp=>(ShelfAt.open (pp.at_ (q + 2) _ hL)).2.1
  exact n1.vU (F:=fun S=>zJ S 2 zj (.slice A0 s.zV.length c0) s.zV) (zJ.loc _ _ _ _) fun Pb pp=>(ShelfAt.open (pp.at_ (q + 3) _ hL)).1
theorem l_callSh {f : Nat} {args : Array Operand} {ts : Array TypeId} {vs : List Value} (mk : Value → Value) (s : Shelf) (hw : Want N D ops E g true) (hargs : evs E args.toList = some vs)
    (hcall:∀ vs w,(callFunc f vs).run P w=.ok (.enter f vs) w) (hd:Nat.blt d N=true)
    (hc:∀ w Pb,Mem w0 M L w→Pubs w0 M L w Pb→Calls P f vs.toArray w (RetSh w Pb mk s))
    (h : ∀ A0 c0 A1 c1 A2 c2 A3 c3,
      s.zV.length≤c0∧c0≤9223372036854775807∧s.raw.length≤c1∧c1≤9223372036854775807∧s.fine.length≤c2∧c2≤9223372036854775807∧s.coarse.length≤c3∧c3≤9223372036854775807 →
      (s.zV≠[]→∃ ad,A0=some ad)→(s.raw≠[]→∃ ad,A1=some ad)→(s.fine≠[]→∃ ad,A2=some ad)→(s.coarse≠[]→∃ ad,A3=some ad) →
      WL P N D ops Q rest ((d,mk (.agg (shelfC (.slice A0 s.zV.length c0) (.slice A1 s.raw.length c1) (.slice A2 s.fine.length c2) (.slice A3 s.coarse.length c3) s).toArray))::E) (Mem w0 M (slP 2 zj (.slice A0 s.zV.length c0) s.zV::slP 2 zo (.slice A1 s.raw.length c1) s.raw::slP 8 zU (.slice A2 s.fine.length c2) s.fine::slP 8 zU (.slice A3 s.coarse.length c3) s.coarse::L))) :
    WL P N D ops Q (⟨some d,.call { callee:=.value (.func f),args:=args,argTypes:=ts },ty,pos,aft,g⟩::rest) E (Mem w0 M L) :=
  l_callP mk _ (fun u => ShelfAt.loc u s) hw hargs hcall hd hc fun u => l_openSh 0 rfl fun A0 c0 A1 c1 A2 c2 A3 c3 e hb e0 e1 e2 e3 => by
    subst e
    intro w hS
    exact h A0 c0 A1 c1 A2 c2 A3 c3 hb e0 e1 e2 e3 w hS.drop4
theorem Mem.vl {w1 : World} {P0 : Nat → Prop} {v0 v1 v2 v3 : Value} {s s' : Shelf} (h : Mem w ⟨no, P0⟩ L w1) (mk : Value → Value) (hv : v = mk (.agg (shelfC v0 v1 v2 v3 s').toArray)) (hs : s' = s)
    (h0:∀ Pb,Pubs w ⟨no,P0⟩ L w1 Pb→zJ Pb 2 zj v0 s'.zV w1) (h1:∀ Pb,Pubs w ⟨no,P0⟩ L w1 Pb→zJ Pb 2 zo v1 s'.raw w1)
    (h2:∀ Pb,Pubs w ⟨no,P0⟩ L w1 Pb→zJ Pb 8 zU v2 s'.fine w1) (h3:∀ Pb,Pubs w ⟨no,P0⟩ L w1 Pb→zJ Pb 8 zU v3 s'.coarse w1):RetSh w P0 mk s (.returned v) w1 :=
  h.retP mk _ _ hv fun Pb pp=>hs ▸ ⟨v0,v1,v2,v3,rfl,h0 Pb pp,h1 Pb pp,h2 Pb pp,h3 Pb pp⟩
theorem Mem.join {L2 : List Own} (h : Mem w0 M L w) (k : Mem w no L2 w') (hm : L2.all Own.mut = true) : Mem w0 M (L2 ++ L) w' := by
  have h':=h.keep k.fr
  have hsz:=h.fr.size
  have key : ∀ (i : Nat) (o : Own), (L2 ++ L)[i]? = some o → (i < L2.length ∧ L2[i]? = some o) ∨ (L2.length ≤ i ∧ L[i - L2.length]? = some o) := fun i o hi => by
    rcases Nat.lt_or_ge i L2.length with h1 | h1
    · rw [List.getElem?_append_left h1] at hi; exact .inl ⟨h1,hi⟩
    · rw [List.getElem?_append_right h1] at hi; exact .inr ⟨h1,hi⟩
  have hnew : ∀ (i : Nat) (o : Own), L2[i]? = some o → o.mut = true ∧ ∀ b, o.fp b → w.heap.size ≤ b := fun i o hi => by
    have hmu:o.mut=true:=List.all_eq_true.1 hm o (List.mem_of_getElem? hi)
    exact ⟨hmu,fun b hb=>((k.ok i o hi).2.2 hmu b hb).resolve_right fun e=>e⟩
  refine ⟨h'.fr,fun i o hi=>?_,fun i j o o' hi hj hij hmm b hb hb'=>?_,?_⟩
  · rcases key i o hi with ⟨_,h1⟩ | ⟨_,h1⟩
    · exact ⟨(k.ok i o h1).1,(k.ok i o h1).2.1,fun _ b hb=>.inl (by have:=(hnew i o h1).2 b hb; omega)⟩
    · exact h'.ok _ o h1
  · rcases key i o hi with ⟨a1,h1⟩ | ⟨a1,h1⟩ <;> rcases key j o' hj with ⟨a2,h2⟩ | ⟨a2,h2⟩
    · exact k.dj i j o o' h1 h2 hij hmm b hb hb'
    · have:=(hnew i o h1).2 b hb; have:=(h.ok _ o' h2).2.1 b hb'; omega
    · have:=(hnew j o' h2).2 b hb'; have:=(h.ok _ o h1).2.1 b hb; omega
    · exact h.dj _ _ o o' h1 h2 (by omega) hmm b hb hb'
  · obtain ⟨Pb,pp⟩:=h.pb
    refine ⟨Pb,pp.sub,fun b hb=>Nat.lt_of_lt_of_le (pp.lt b hb) k.fr.size,fun i o hi hmu b hb hb'=>?_,fun i F hi=>?_⟩
    · rcases key i o hi with ⟨_,h1⟩ | ⟨_,h1⟩
      · have:=(hnew i o h1).2 b hb'; have:=pp.lt b hb; omega
      · exact pp.dj _ o h1 hmu b hb hb'
    · rcases key i _ hi with ⟨_,h1⟩ | ⟨_,h1⟩
      · have:=(hnew i _ h1).1; cases this
      · exact pp.stay (fun i o hi=>(h.ok i o hi).1) (fun b hb=>k.fr.block b (pp.lt b hb) id) h1
theorem Mem.noPub {p : Nat → Prop} (h : Mem w ⟨no, p⟩ L w') (hm : L.all Own.mut = true) : Mem w no L w' :=
  ⟨h.fr,h.ok,h.dj,fun _=>False,by simp,by simp,by simp,fun i F hi=>by have:Own.mut (.pub F)=true:=List.all_eq_true.1 hm _ (List.mem_of_getElem? hi); cases this⟩
def RetOwn (w : World) (e0 e1 e2 e3 : TypeId) (s : Shelf) : Ending → World → Prop := fun e w' => ∃ v0 v1 v2 v3, e = .returned (.agg (shelfC v0 v1 v2 v3 s).toArray) ∧
  Mem w no [Row v0 e0 2 zj s.zV,Row v1 e1 2 zo s.raw,Row v2 e2 8 zU s.fine,Row v3 e3 8 zU s.coarse] w'
theorem uw {f : Nat} {args : Array Operand} {ts : Array TypeId} {vs : List Value} {e0 e1 e2 e3 : TypeId} (s : Shelf) (hw : Want N D ops E g true) (hargs : evs E args.toList = some vs)
    (hcall:∀ vs w,(callFunc f vs).run P w=.ok (.enter f vs) w) (hd:Nat.blt d N=true)
    (hc:∀ w,Mem w0 M L w→Calls P f vs.toArray w (RetOwn w e0 e1 e2 e3 s))
    (h : ∀ A0 c0 A1 c1 A2 c2 A3 c3,
      s.zV.length≤c0∧c0≤9223372036854775807∧s.raw.length≤c1∧c1≤9223372036854775807∧s.fine.length≤c2∧c2≤9223372036854775807∧s.coarse.length≤c3∧c3≤9223372036854775807 →
      (s.zV≠[]→∃ ad,A0=some ad)→(s.raw≠[]→∃ ad,A1=some ad)→(s.fine≠[]→∃ ad,A2=some ad)→(s.coarse≠[]→∃ ad,A3=some ad) →
      WL P N D ops Q rest ((d,(.agg (shelfC (.slice A0 s.zV.length c0) (.slice A1 s.raw.length c1) (.slice A2 s.fine.length c2) (.slice A3 s.coarse.length c3) s).toArray))::E) (Mem w0 M (Row (.slice A0 s.zV.length c0) e0 2 zj s.zV::Row (.slice A1 s.raw.length c1) e1 2 zo s.raw::Row (.slice A2 s.fine.length c2) e2 8 zU s.fine::Row (.slice A3 s.coarse.length c3) e3 8 zU s.coarse::L))) :
    WL P N D ops Q (⟨some d,.call { callee:=.value (.func f),args:=args,argTypes:=ts },ty,pos,aft,g⟩::rest) E (Mem w0 M L) :=
  jh (Φ := fun v w' => ∃ v0 v1 v2 v3, v = .agg (shelfC v0 v1 v2 v3 s).toArray ∧ Mem w0 M (Row v0 e0 2 zj s.zV :: Row v1 e1 2 zo s.raw :: Row v2 e2 8 zU s.fine :: Row v3 e3 8 zU s.coarse :: L) w') hw hargs hcall hd
    (fun w hS=>(hc w hS).mono fun _ _ ⟨v0,v1,v2,v3,he,hk⟩=>⟨_,he,v0,v1,v2,v3,rfl,hS.join hk rfl⟩) fun v w hw a ha=>by
    obtain ⟨v0,v1,v2,v3,rfl,hS⟩:=hw
    obtain ⟨A0,c0,rfl,a0,b0,d0⟩:=row_form' (hS.row (i:=0) rfl)
    obtain ⟨A1,c1,rfl,a1,b1,d1⟩:=row_form' (hS.row (i:=1) rfl)
    obtain ⟨A2,c2,rfl,a2,b2,d2⟩:=row_form' (hS.row (i:=2) rfl)
    obtain ⟨A3,c3,rfl,a3,b3,d3⟩:=row_form' (hS.row (i:=3) rfl)
    exact h A0 c0 A1 c1 A2 c2 A3 c3 ⟨a0,b0,a1,b1,a2,b2,a3,b3⟩ d0 d1 d2 d3 w hS a ha
theorem Mem.retOwn {p : Nat → Prop} {w1 : World} {v0 v1 v2 v3 : Value} {e0 e1 e2 e3 : TypeId} {s : Shelf} (h : Mem w ⟨no, p⟩ [Row v0 e0 2 zj s.zV, Row v1 e1 2 zo s.raw, Row v2 e2 8 zU s.fine, Row v3 e3 8 zU s.coarse] w1) : RetOwn w e0 e1 e2 e3 s (.returned (.agg (shelfC v0 v1 v2 v3 s).toArray)) w1 :=
  ⟨v0,v1,v2,v3,rfl,h.noPub rfl⟩
def RetMk (w:World) (mk:Nat→Value) (o:Nat→Own):Ending→World→Prop:=fun e w'=>∃ b,e=.returned (mk b)∧Mem w no [o b] w'
theorem uZ {f : Nat} {args : Array Operand} {ts : Array TypeId} {vs : List Value} (mk : Nat → Value) (o : Nat → Own) (ho : ∀ b, (o b).mut = true) (hw : Want N D ops E g true) (hx : ev E x = some (.func (.func f) #[] #[])) (hargs : evs E args.toList = some vs)
    (hcall:∀ vs w,(callFunc f vs).run P w=.ok (.enter f vs) w) (hd:Nat.blt d N=true)
    (hc:∀ w,Mem w0 M L w→Calls P f vs.toArray w (RetMk w mk o)) (h:∀ b,WL P N D ops Q rest ((d,mk b)::E) (Mem w0 M (o b::L))) :
    WL P N D ops Q (⟨some d,.call { callee:=.value x,args:=args,argTypes:=ts },ty,pos,aft,g⟩::rest) E (Mem w0 M L) :=
  uc (Φ := fun v w' => ∃ b, v = mk b ∧ Mem w0 M (o b :: L) w') hw hx hargs hcall hd (fun w hS => by
    have:=hc w hS
    simp only [Array.append_empty]
    exact this.mono fun e w' ⟨b,he,hk⟩=>⟨_,he,b,rfl,hS.join (L2:=[o b]) hk (by simp [ho b])⟩) fun v w hw a ha=>by
    obtain ⟨b,rfl,hS⟩:=hw
    exact h b w hS a ha
theorem Mem.blkKeep {i b:Nat} {cs:List Value} {t:TypeId} (h:Mem w0 M L w) (hi:L[i]?=some (.blk b cs t)) (hf:Fr no w w'):w'.heap[b]?=some (.cells cs.toArray t (0,0)):=(h.keep hf).blk hi
theorem Mem.blkStay {i j b k n : Nat} {cs : List Value} {t e : TypeId} {xs : List Value} (h : Mem w0 M L w) (hi : L[i]? = some (.blk b cs t)) (hj : L[j]? = some (.row v e k n xs)) (hf : Fr (fun b => v.ownBlock = some b) w w') : w'.heap[b]? = some (.cells cs.toArray t (0, 0)) :=
  (hf.block b ((h.ok i _ hi).2.1 b rfl) (fun hb=>h.dj i j _ _ hi hj (fun e=>by subst e; rw [hi] at hj; cases hj) (.inl rfl) b rfl hb)).trans (h.blk hi)
def datB (b:Nat) (cs:List Value) (t:TypeId):Own:=.dat (·=b) (fun w=>w.heap[b]?=some (.cells cs.toArray t (0,0)))
theorem Mem.datb {i b:Nat} {cs:List Value} {t:TypeId} (h:Mem w0 M L w) (hi:L[i]?=some (datB b cs t)):w.heap[b]?=some (.cells cs.toArray t (0,0)):=h.dat hi
theorem Mem.datCell {i b j : Nat} {cs : List Value} {t : TypeId} (h : Mem w0 M L w) (hi : L[i]? = some (datB b cs t)) (hu : cs[j]? = some u) : w.cell? ⟨b, j, none⟩ = some u := by
  have:=h.datb hi
  simp [World.cell?,this,hu]
theorem vz (i : Nat) {b j : Nat} {cs : List Value} {t : TypeId} (hx : ev E x = some (.pointer (some ⟨b, j, none⟩))) (hL : L[i]? = some (datB b cs t)) (hu : cs[j]? = some u) (hf : flatT P T = true) : Runs P N D E (Mem w0 M L) (.load T x) ty u :=
  uq hx hf fun _ h=>h.datCell hL hu
theorem ddb {P0 : Nat → Prop} {b : Nat} {cs : List Value} {t : TypeId} (h : w.heap[b]? = some (.cells cs.toArray t (0, 0))) : dOk P0 (datB b cs t) w :=
  ⟨rfl,⟨h,fun _ _ hs hf=>(hs b rfl).trans hf⟩,fun b' hb=>by have hb':b'=b:=hb; subst hb'; exact (Array.getElem?_eq_some_iff.1 h).1,fun F hF=>by cases hF⟩
theorem jl {A : Option Addr} {len c : Nat} {t e ot : TypeId} (hx : ev E x = some (.slice A len c)) (hy : ev E y = some (.slice none 0 0)) (hu : P.underlying t = some (.slice e)) : Runs P N D E S (.binOp .eql t x y ot) ty (.bool A.isNone) := fun o ho hty a w ha _ => by
  unfold execOp; rw [ho]
  simp [ha.eval hx,ha.eval hy,binOp,eqGuard,run_equal_slice_nil w t e A len c hu]
end
section
variable {P : Program} {N : Nat} {D : List Deferred} {E : Env} {Q : Exit → Act → World → Prop} {w0 : World} {M : Fp} {L : List Own} {α : Type} {enc : α → List Value} {k e : Nat} {l : List α} {A : Option Addr} {c : Nat}
  {ops:Array Oper} {rest:List Oper} {d:Nat} {T ty:TypeId} {pos:String} {aft:Array Edge} {g:Option (Nat × Bool)} {v u:Value} {x y:Operand} {ad:Addr}
theorem l_actV {op : Op} {S S' : World → Prop} (hw : Want N D ops E g true)
    (h:∀ o:Oper,o.op=op→o.type=ty→∀ a w,Has N D a E→S w→∃ v w',(execOp a.eval o).run P w=.ok (.value v) w'∧S' w')
    (hk:WL P N D ops Q rest E S'):WL P N D ops Q (⟨none,op,ty,pos,aft,g⟩::rest) E S:=fun w hS a ha=>by
  unfold wpList
  rw [if_pos (hw _ rfl a ha)]
  left
  obtain ⟨v,w',hr,hS'⟩:=h ⟨none,op,ty,pos,aft,g⟩ rfl rfl a w ha hS
  unfold Oper.wp
  rw [hr]
  exact hk w' hS' _ ha
theorem zeroCells_one {z : Array Value} {n : Nat} (hz : ∀ v ∈ z.toList, v.oneCell' = true) : ∀ v ∈ (Builtin.zeroCells z n).toList, v.oneCell' = true := by
  intro v hv
  simp only [Builtin.zeroCells,Array.toList_map,List.mem_map] at hv
  obtain ⟨i,hi,rfl⟩:=hv
  have h0 : 0 < z.size := by
    rcases Nat.eq_zero_or_pos z.size with h | h
    · simp [h] at hi
    · exact h
  have h1:=Nat.mod_lt i h0
  rw [getElem!_pos z _ h1]
  exact hz _ (by simp)
theorem l_clear (q : Nat) {lo by1 : Nat} {zv : Value} (he : Enc enc k) (hw : Want N D ops E g true) (hx : ev E x = some (.slice (subA A k c lo) (l.length - lo) (c - lo))) (hL : L[q]? = some (Row (.slice A l.length c) e k enc l)) (hA : A = some ad) (hu : P.underlying T = some (.slice e)) (hs : Inf P e k by1 zv) (hz : zv.cells.size = k) (hz1 : zv.cells.toList.all (·.oneCell') = true) (hlo : lo < l.length)
    (h:WL P N D ops Q rest E (Mem w0 M (L.set q (Row (.slice A (l.take lo).length c) e k enc (l.take lo))))):WL P N D ops Q (⟨none,.call { callee:=.builtin .clear,args:=#[x],argTypes:=#[T] },ty,pos,aft,g⟩::rest) E (Mem w0 M L):=by
  refine l_actV hw (fun o ho hty ac w ha hS=>?_) h
  have hown:=hS.row hL
  subst hA
  rcases hown.2 with ⟨h0,_⟩ | ⟨gb,cap,cur,h0,hbg,hg,hnc,hcm,hcs,htk⟩
  · cases h0
  injection h0 with e1 e2 e3
  injection e1 with e1
  subst e1 e3
  have hcl:cur.toList.length=c * k:=by simpa using hcs
  have hle:l.length * k≤c * k:=Nat.mul_le_mul_right k hnc
  have e2:lo * k + (l.length - lo) * k=l.length * k:=by rw [← Nat.add_mul]; congr 1; omega
  have hsub : subA (some ⟨gb, 0, none⟩) k c lo = some ⟨gb, lo * k, none⟩ := by
    unfold subA; rw [if_neg (by omega)]; simp [add_lit]
  rw [hsub] at hx
  obtain ⟨m,hm⟩:∃ m,l.length - lo=m + 1:=⟨l.length - lo - 1,by omega⟩
  obtain ⟨zs,hzs⟩:∃ zs,zs=(Builtin.zeroCells zv.cells (m + 1)).toList:=⟨_,rfl⟩
  have hzl:zs.length=(l.length - lo) * k:=by rw [hzs,hm]; simp [size_zeroCells,hz]
  have hst := run_storeCells_at P gb (lo * k) e zs 0 cur w (by simpa using hg) (by
    rw [hzl]; have:cur.size=c * k:=hcs
    omega) (by rw [hzs]; exact zeroCells_one (List.all_eq_true.1 hz1))
  simp only [Nat.add_zero] at hst
  refine ⟨.tuple #[],w.setRow gb (cur.toList.take (lo * k)++zs++cur.toList.drop (lo * k + zs.length)).toArray,?_,?_⟩
  · unfold execOp; rw [ho]
    simp [resolve,invoke,builtin,ha.eval hx,hm,Builtin.clear_,run_underlying hu,run_zeroValue' hs,← hzs,hst]
  · refine hS.upd hL rfl ⟨rfl,rfl,rfl,by simp,fun b _ hk=>setRow_other w gb b _ (fun e=>hk (by simp [Own.fp,Value.ownBlock,e]))⟩ ?_ (fun b hb=>⟨.inl hb,?_⟩)
    · have hl2:(l.take lo).length=lo:=by rw [List.length_take]; omega
      refine ⟨by rw [flat_len he.len],.inr ⟨gb,c,_,rfl,hbg,setRow_heap w gb _ _ e _ hg,by omega,hcm,?_,?_⟩⟩
      · simp only [List.size_toArray,List.length_append,List.length_take,List.length_drop]; omega
      · rw [hl2]
        rw [List.append_assoc,List.take_append_of_le_length (by rw [List.length_take]; omega),List.take_of_length_le (by rw [List.length_take]; omega)]
        have h1:(List.take lo l++List.drop lo l).flatMap enc=cur.toList.take (l.length * k):=by rw [List.take_append_drop]; exact htk.symm
        rw [List.flatMap_append] at h1
        have h2:((List.take lo l).flatMap enc).length=lo * k:=by rw [flat_len he.len,hl2]
        have h3:=congrArg (List.take (lo * k)) h1
        rw [List.take_left' h2,List.take_take,Nat.min_eq_left (by omega)] at h3
        exact h3.symm
    · have:=(hS.ok q _ hL).2.1 b hb
      simpa using this
theorem r_take {len hi by1 : Nat} {zv : Value} {z : Operand} (l : List α) (hx : ev E x = some (.slice A len c)) (hz : hib E len (some z) hi) (h2 : hi ≤ len) (h3 : len ≤ c) (hl : l.length = hi) (hu : P.underlying T = some (.slice e)) (hs : Inf P e k by1 zv) {S : World → Prop} : Runs P N D E S (.slice T x none (some z) none) ty (.slice A l.length c) := by
  have h:=jr (P:=P) (N:=N) (D:=D) (S:=S) (ty:=ty) (lo:=0) hx lo0 hz (Nat.zero_le _) h2 h3 hu hs
  have e1 : subA A k c 0 = A := by
    unfold subA; split
    · rfl
    · cases A with
      | none=>rfl
      | some a=>simp [Addr.add]
  rw [e1] at h
  rw [hl]
  exact h
end
end Ex
end
section
namespace Sh
def idx {α:Type} (p:α→Bool) (l:List α):Int:=if l.any p=true then (l.findIdx p:Int) else -1
theorem none_step {α : Type} {p : α → Bool} {l : List α} {k : Nat} {x : α} (h : ∀ y ∈ l.take k, p y = false) (hx : l[k]? = some x) (hp : p x = false) : ∀ y ∈ l.take (k + 1), p y = false := by
  intro y hy
  rw [List.take_add_one,hx] at hy
  rcases List.mem_append.1 hy with h1 | h1
  · exact h y h1
  · obtain rfl:y=x:=by simpa using h1
    exact hp
theorem idx_at {α : Type} {p : α → Bool} {l : List α} {k : Nat} {x : α} (h : ∀ y ∈ l.take k, p y = false) (hx : l[k]? = some x) (hp : p x = true) : (k : Int) = idx p l := by
  obtain ⟨hk,rfl⟩:=List.getElem?_eq_some_iff.1 hx
  have h1:l.any p=true:=List.any_eq_true.2 ⟨l[k],List.getElem_mem hk,hp⟩
  have h2 : l.findIdx p = k := (List.findIdx_eq hk).2 ⟨hp, fun j hj => h _ (by
    have:(l.take k)[j]'(by simp; omega)=l[j]:=by simp
    rw [← this]; exact List.getElem_mem _)⟩
  rw [idx,if_pos h1,h2]
theorem idx_none {α : Type} {p : α → Bool} {l : List α} {k : Nat} (h : ∀ y ∈ l.take k, p y = false) (hk : l.length ≤ k) : (-1 : Int) = idx p l := by
  rw [List.take_of_length_le hk] at h
  rw [idx,if_neg (by simpa using h)]
theorem idx_any {α : Type} {p : α → Bool} {l : List α} : (0 ≤ idx p l) ↔ l.any p = true := by
  unfold idx; split
  · simp_all
  · simp_all
theorem idx_cases {α : Type} (p : α → Bool) (l : List α) : (idx p l = -1 ∧ ∀ y ∈ l, p y = false) ∨ ∃ (i : Nat) (x : α), idx p l = (i : Int) ∧ l[i]? = some x ∧ p x = true ∧ ∀ y ∈ l.take i, p y = false := by
  by_cases h:l.any p=true
  · right
    obtain ⟨x,hx,hp⟩:=List.any_eq_true.1 h
    have hlt:=List.findIdx_lt_length_of_exists ⟨x,hx,hp⟩
    refine ⟨l.findIdx p,l[l.findIdx p],by rw [idx,if_pos h],List.getElem?_eq_getElem hlt,List.findIdx_getElem,fun y hy=>?_⟩
    obtain ⟨j,hj,rfl⟩:=List.mem_iff_getElem.1 hy
    have hj':j < l.findIdx p:=by simp at hj; omega
    rw [List.getElem_take]
    simpa using List.not_of_lt_findIdx hj'
  · left
    refine ⟨by rw [idx,if_neg h],fun y hy=>?_⟩
    simpa using fun e=>h (List.any_eq_true.2 ⟨y,hy,e⟩)
end Sh
end
section
namespace Sh
def zero:Shelf:=⟨[],[],[],[],0,0,0,0,0⟩
def mx (a b:Int):Int:=if a < b then b else a
def mn (a b:Int):Int:=if b < a then b else a
def badT (t:Tri):Prop:=t.a < 0∨t.b < t.a∨1000000 < t.b∨t.a % t.c≠0∨t.b % t.c≠0
instance (t:Tri):Decidable (badT t):=by unfold badT; infer_instance
def times (s:Shelf):Prop:=(¬ badT ⟨s.zW,s.zI,10⟩∧¬ badT ⟨s.zN,s.zH,60⟩)∧0≤s.ze∧s.ze≤s.zI∧s.zW≤s.zH∧s.zH≤s.zI
instance (s:Shelf):Decidable (times s):=by unfold times; infer_instance
def within (l:List Bucket) (f t:Int):Bool:=l.all fun b=>decide (f≤b.at_∧b.at_ < t)
def headOk (l : List Sample) (f : Int) : Bool := match l with
  | []=>true
  | x::_=>decide (f≤x.time)
def fits (s:Shelf):Prop:=times s∧headOk s.raw s.ze=true∧within s.fine s.zW s.zI=true∧within s.coarse s.zN s.zH=true
instance (s:Shelf):Decidable (fits s):=by unfold fits; infer_instance
def wrong (s : Shelf) : Int := if zc.wrong s.zV ≠ 0 then zc.wrong s.zV else if (Codec.wrong s.raw).err ≠ 0 then (Codec.wrong s.raw).err else if (Roll.wrong s.fine 1).err ≠ 0 then (Roll.wrong s.fine 1).err
  else if (Roll.wrong s.coarse 2).err≠0 then (Roll.wrong s.coarse 2).err else if fits s then 0 else 8
def late (l : List Sample) (x : Sample) : Bool := match l.getLast? with
  | some y=>decide (x.time≤y.time)
  | none=>false
def append (s : Shelf) (x : Sample) : Shelf × Int :=
  if wrong s≠0 then (zero,wrong s) else if (Codec.wrong [x]).err≠0 then (zero,(Codec.wrong [x]).err) else if x.time < s.zI∨late s.raw x=true then (zero,9)
  else if s.raw.length=500 then (zero,5) else (⟨s.zV,s.raw++[x],s.fine,s.coarse,s.ze,s.zW,s.zI,s.zN,s.zH⟩,0)
def bIn (l:List Bucket) (f t:Int):List Bucket:=l.filter fun b=>decide (f≤b.at_∧b.at_ < t)
def zI (s:Shelf) (to:Int):Int:=mx s.zI (to - to % 10)
def zH (s:Shelf) (to:Int):Int:=mx s.zH (zI s to - zI s to % 60)
def uE (s:Shelf) (to:Int):List Bucket:=s.fine++Roll.up (Roll.inT s.raw s.zI (zI s to)) 1
def vt (s:Shelf) (to:Int):List Bucket:=s.coarse++Roll.greater (bIn (uE s to) s.zH (zH s to))
def roll (s : Shelf) (to : Int) : Shelf × Int :=
  if wrong s≠0 then (zero,wrong s) else if to < 0∨1000000 < to then (zero,3) else if 500 < (uE s to).length∨500 < (vt s to).length then (zero,5)
  else (⟨s.zV,s.raw,uE s to,vt s to,s.ze,s.zW,zI s to,s.zN,zH s to⟩,0)
def fromS (l:List Sample) (f:Int):List Sample:=l.filter fun x=>!decide (x.time < f)
def fromB (l:List Bucket) (f:Int):List Bucket:=l.filter fun b=>!decide (b.at_ < f)
def rawF (s:Shelf) (to:Int):Int:=mx s.ze (mn to s.zI)
def fineF (s:Shelf) (to:Int):Int:=mx s.zW (mn to s.zH - mn to s.zH % 10)
def coarseF (s:Shelf) (to:Int):Int:=mx s.zN (mn to s.zH - mn to s.zH % 60)
def forget (s : Shelf) (tier to : Int) : Shelf × Int :=
  if wrong s≠0 then (zero,wrong s) else if to < 0∨1000000 < to then (zero,3)
  else if tier=0 then (⟨s.zV,fromS s.raw (rawF s to),s.fine,s.coarse,rawF s to,s.zW,s.zI,s.zN,s.zH⟩,0)
  else if tier=1 then (⟨s.zV,s.raw,fromB s.fine (fineF s to),s.coarse,s.ze,fineF s to,s.zI,s.zN,s.zH⟩,0)
  else if tier=2 then (⟨s.zV,s.raw,s.fine,fromB s.coarse (coarseF s to),s.ze,s.zW,s.zI,coarseF s to,s.zH⟩,0)
  else (zero,1)
theorem two {a b s : Tri} {k : Nat} (h : [a, b][k]? = some s) : s = a ∨ s = b := by
  have:=List.mem_of_getElem? h
  simpa using this
theorem headOk_none {l : List Sample} {f : Int} (h : ¬ (0 : Int) < l.length) : headOk l f = true := by
  have:l=[]:=List.eq_nil_of_length_eq_zero (by omega)
  subst this; rfl
theorem headOk_some {l : List Sample} {f : Int} {x : Sample} (h : l[0]? = some x) : headOk l f = decide (f ≤ x.time) := by
  cases l with
  | nil=>cases h
  | cons y r => obtain rfl : y = x := by simpa using h
                rfl
theorem wrong_end {s : Shelf} (h1 : ¬ zc.wrong s.zV ≠ 0) (h2 : ¬ (Codec.wrong s.raw).err ≠ 0) (h3 : ¬ (Roll.wrong s.fine 1).err ≠ 0) (h4 : ¬ (Roll.wrong s.coarse 2).err ≠ 0) : wrong s = if fits s then 0 else 8 := by
  rw [wrong,if_neg h1,if_neg h2,if_neg h3,if_neg h4]
theorem isNone_nil {α : Type} {l : List α} {A : Option Addr} (hA : l ≠ [] → ∃ ad, A = some ad) (h : A.isNone = true) : [] = l := by
  rcases Decidable.em (l=[]) with e | e
  · exact e.symm
  · obtain ⟨ad,rfl⟩:=hA e
    cases h
structure OK (s : Shelf) : Prop where
  zV:zc.wrong s.zV=0
  raw:(Codec.wrong s.raw).err=0
  fine:(Roll.wrong s.fine 1).err=0
  coarse:(Roll.wrong s.coarse 2).err=0
  fit:fits s
theorem ok_of {s : Shelf} (h : ¬ wrong s ≠ 0) : OK s := by
  have h:=Classical.not_not.1 h
  unfold wrong at h
  by_cases h1:zc.wrong s.zV≠0
  · rw [if_pos h1] at h; exact absurd h h1
  rw [if_neg h1] at h
  by_cases h2:(Codec.wrong s.raw).err≠0
  · rw [if_pos h2] at h; exact absurd h h2
  rw [if_neg h2] at h
  by_cases h3:(Roll.wrong s.fine 1).err≠0
  · rw [if_pos h3] at h; exact absurd h h3
  rw [if_neg h3] at h
  by_cases h4:(Roll.wrong s.coarse 2).err≠0
  · rw [if_pos h4] at h; exact absurd h h4
  rw [if_neg h4] at h
  by_cases h5:fits s
  · exact ⟨Classical.not_not.1 h1,Classical.not_not.1 h2,Classical.not_not.1 h3,Classical.not_not.1 h4,h5⟩
  · rw [if_neg h5] at h; exact absurd h (by decide)
theorem OK.wrong {s : Shelf} (h : OK s) : wrong s = 0 := by
  rw [Sh.wrong,if_neg (by rw [h.zV]; simp),if_neg (by rw [h.raw]; simp),if_neg (by rw [h.fine]; simp),if_neg (by rw [h.coarse]; simp),if_pos h.fit]
theorem names_len {l : List Label} (h : zc.wrong l = 0) : l.length ≤ 4 := by
  unfold zc.wrong at h; split at h
  · exact absurd h (by decide)
  · omega
theorem roll_len {l : List Bucket} {t : Int} (h : (Roll.wrong l t).err = 0) : l.length ≤ 500 := by
  unfold Roll.wrong at h; split at h
  · exact absurd h (by decide)
  · split at h
    · exact absurd h (by decide)
    · omega
theorem OK.lens {s : Shelf} (h : OK s) : s.zV.length ≤ 4 ∧ s.raw.length ≤ 500 ∧ s.fine.length ≤ 500 ∧ s.coarse.length ≤ 500 :=
  ⟨names_len h.zV,(Codec.right_of h.raw).len,roll_len h.fine,roll_len h.coarse⟩
theorem wrong_lens {s : Shelf} (h : ¬ Sh.wrong s ≠ 0) : s.zV.length ≤ 1048576 ∧ s.raw.length ≤ 1048576 ∧ s.fine.length ≤ 1048576 ∧ s.coarse.length ≤ 1048576 := by
  have:=(ok_of h).lens; omega
structure Del {α : Type} (p : α → Bool) (l r : List α) (i j : Nat) : Prop where
  len:r.length=l.length
  lt:i < j
  le:j≤l.length
  hd:r.take i=(l.take j).filter fun x=>!p x
  tl:r.drop j=l.drop j
theorem Del.start {α : Type} {p : α → Bool} {l : List α} {i : Nat} {x : α} (hx : l[i]? = some x) (hp : p x = true) (h : ∀ y ∈ l.take i, p y = false) : Del p l l i (i + 1) := by
  have hlt:=(List.getElem?_eq_some_iff.1 hx).1
  refine ⟨rfl,by omega,hlt,?_,rfl⟩
  rw [List.take_add_one,hx,List.filter_append]
  have:(l.take i).filter (fun x=>!p x)=l.take i:=List.filter_eq_self.2 fun y hy=>by simp [h y hy]
  simp [this,hp]
theorem Del.at {α : Type} {p : α → Bool} {l r : List α} {i j : Nat} {x : α} (d : Del p l r i j) (hx : r[j]? = some x) : l[j]? = some x := by
  have:=congrArg (·[0]?) d.tl
  simp only [List.getElem?_drop,Nat.add_zero] at this
  rw [← this]; exact hx
theorem Del.drop {α : Type} {p : α → Bool} {l r : List α} {i j : Nat} {x : α} (d : Del p l r i j) (hx : r[j]? = some x) (hp : p x = true) : Del p l r i (j + 1) := by
  have hl:=d.at hx
  have hlt:=(List.getElem?_eq_some_iff.1 hl).1
  refine ⟨d.len,by have:=d.lt; omega,hlt,?_,?_⟩
  · rw [d.hd,List.take_add_one,hl,List.filter_append]; simp [hp]
  · have:=congrArg (List.drop 1) d.tl
    rw [List.drop_drop,List.drop_drop] at this
    exact this
theorem Del.keep {α : Type} {p : α → Bool} {l r : List α} {i j : Nat} {x : α} (d : Del p l r i j) (hx : r[j]? = some x) (hp : ¬ p x = true) : Del p l (r.set i x) (i + 1) (j + 1) := by
  have hl:=d.at hx
  have hlt:=(List.getElem?_eq_some_iff.1 hl).1
  have h1:=d.lt
  have h2:=d.len
  refine ⟨by rw [List.length_set]; exact d.len,by omega,hlt,?_,?_⟩
  · have e1:l.take (j + 1)=l.take j++[x]:=by rw [List.take_add_one,hl]; rfl
    have e2:(r.set i x).take (i + 1)=r.take i++[x]:=by rw [List.take_add_one,List.take_set_of_le (Nat.le_refl i),List.getElem?_set_self (by omega)]; rfl
    rw [e1,e2,List.filter_append,← d.hd]
    simp [hp]
  · rw [List.drop_set_of_lt (by omega)]
    have:=congrArg (List.drop 1) d.tl
    rw [List.drop_drop,List.drop_drop] at this
    exact this
theorem Del.done {α : Type} {p : α → Bool} {l r : List α} {i j : Nat} (d : Del p l r i j) (h : r.length ≤ j) : r.take i = l.filter fun x => !p x := by
  have h1:=d.hd
  have h2:=d.len
  rw [h1,List.take_of_length_le (by omega)]
end Sh
end
section
open Tryz
open Ex
set_option linter.unusedVariables false
set_option linter.unusedSimpArgs false
theorem c_within1 (x : Bucket) (fp : Nat) (f : Int) (tp : Nat) (t : Int) (w : World) (hfp : w.heap[fp]? = some (.cells [iV f].toArray 3 (0, 0))) (htp : w.heap[tp]? = some (.cells [iV t].toArray 3 (0, 0)))  :
    Calls prog 95 #[.agg (zU x).toArray,.pointer (some ⟨fp,0,none⟩),.pointer (some ⟨tp,0,none⟩)] w (Ret w (.bool (!decide (f≤x.at_∧x.at_ < t)))):=by
 refine fstart (N:=15) (vals:=[.agg (zU x).toArray,.pointer (some ⟨fp,0,none⟩),.pointer (some ⟨tp,0,none⟩)]) (S:=Mem w no [datB fp [iV f] 3,datB tp [iV t] 3]) func95 rfl rfl rfl (Mem.ofDats (dc (ddb hfp) (dc (ddb htp) dn))) (zG fun _ hK1=>vS wn rfl rfl fun b3=>zP rfl (zD hK1 (zG fun _ hK2=>zB (za rfl fld163_0) (zB (zg 0 rfl rfl rfl flat3) (zB (vz 1 rfl rfl rfl flat3) (zB (yR rfl rfl) (zE rfl (yQ (t:=9) rfl (fun h1=>?_) (fun h1=>?_)))))))))
 · refine zQ (zQ (zQ (zQ (zB (zM rfl rfl) (zP rfl (zD hK2 (zX (zY (.inl rfl) results95 (zR rfl) fun w1 hM=>?_))))))))
   exact zn (congrArg Value.bool (by rw [Bool.eq_iff_iff]; simp; omega)) hM
 refine zb (za rfl fld163_0) (zb (zg 0 rfl rfl rfl flat3) (zb (vz 2 rfl rfl rfl flat3) (zb (vn rfl rfl) (zB (zM rfl rfl) (zP rfl (zD hK2 (zX (zY (.inl rfl) results95 (zR rfl) fun w1 hM=>?_))))))))
 exact zn (congrArg Value.bool (by rw [Bool.eq_iff_iff]; simp; omega)) hM
theorem c_idxS (lv : Value) (l : List Sample) (f : Nat) (fcap : Array Value) (fp : Sample → Bool) (w : World) (hl : zJ (In w) 2 zo lv l w) (fc : ∀ vs w, (callFunc f vs).run prog w = .ok (.enter f vs) w) (fh : ∀ (x : Sample) (w1 : World), Fr no w w1 → Calls prog f (#[.agg (zo x).toArray] ++ fcap) w1 (Ret w1 (.bool (fp x))))  :
    Calls prog 168 #[lv,.func (.func f) #[] fcap] w (Ret w (iV (Sh.idx fp l))):=by
 obtain ⟨lA,lc,rfl,hlc,hlm,hlA⟩:=hl.form
 refine fstart (N:=19) (vals:=[.slice lA l.length lc,.func (.func f) #[] fcap]) (S:=Mem w no [slO (In w) 2 zo (.slice lA l.length lc) l]) func168 rfl rfl rfl (Mem.ofDats (dc (dl hl) dn)) (zG fun _ hK1=>zP rfl (zD hK1 (zS fun _ hK2=>zG fun _ hK3=>zE rfl (zB (yW rfl underlying47) (zE rfl (zD hK3 (zk (y8 (fun (k:Nat)=>[(0,.slice lA l.length lc),(1,.func (.func f) #[] fcap),(7,iV l.length),(8,iV k)]) (fun (k:Nat)=>[slO (In w) 2 zo (.slice lA l.length lc) l]) (fun (k:Nat)=>k≤l.length∧∀ y ∈ l.take k,fp y=false) (fun (k:Nat)=>l.length - k) 0 (sc rfl (sc rfl (sc rfl (sc (ji (by omega)) sn)))) (fun _ h=>h) ?_ (fun k hI1=>?_)))))))))
 · simp
 refine zG fun _ hK4=>zB (yR rfl rfl) (zD hK4 (zS fun _ hK5=>zZ rfl (fun h1=>?_) (fun h1=>?_)))
 · refine yK hK5 (zS fun _ hK6=>zk (zG fun _ hK7=>zE rfl (zP rfl (zD hK7 (zG fun _ hK8=>zE rfl (zE rfl (zE rfl ?_)))))))
   obtain ⟨ad1,hd1⟩:=hlA (ne_nil (i:=k) (by first | omega | (simp <;> omega)))
   refine zB (y6 (i:=k) rfl hd1 rfl (by omega) (by first | omega | (simp <;> omega)) underlying47 inf41) ?_
   obtain ⟨s1,hs1⟩:∃ x,l[k]?=some x:=⟨_,List.getElem?_eq_getElem (by first | omega | (simp <;> omega))⟩
   refine zB (vx 0 [iV s1.time,iV s1.value] rfl rfl hd1 hs1 rfl rfl agg41 inf41) (uJ wn rfl rfl fc rfl (fun w1 hM=>fh s1 w1 hM.fr) (zD hK8 (yp rfl (fun h2=>?_) (fun h2=>?_))))
   · refine zG fun _ hK9=>zE rfl (zP rfl (zD hK9 (zX (yA (zK (ye (yA (zK (zY (.inl rfl) results168 (zR rfl) fun w1 hM=>?_)))))))))
     exact zn (by rw [Sh.idx_at hI1.2 hs1 h2]) hM
   refine yU (zm (zy hK6 (zL (zB (zw rfl rfl (by omega)) (zE rfl (zl (yX (k + 1) (sc rfl (sc rfl (sc rfl (sc (ji (by omega)) sn)))) (fun _ h=>h) ?_ ?_)))))))
   · exact ⟨by omega,Sh.none_step hI1.2 hs1 h2⟩
   omega
 refine yZ (yH (yj (yI (zy hK2 (zG fun _ hK10=>zP rfl (zD hK10 (zX (zY (.inl rfl) results168 (zR rfl) fun w1 hM=>?_))))))))
 exact zn (by rw [Sh.idx_none hI1.2 (by omega)]) hM
theorem c_idxB (lv : Value) (l : List Bucket) (f : Nat) (fcap : Array Value) (fp : Bucket → Bool) (w : World) (hl : zJ (In w) 8 zU lv l w) (fc : ∀ vs w, (callFunc f vs).run prog w = .ok (.enter f vs) w) (fh : ∀ (x : Bucket) (w1 : World), Fr no w w1 → Calls prog f (#[.agg (zU x).toArray] ++ fcap) w1 (Ret w1 (.bool (fp x))))  :
    Calls prog 146 #[lv,.func (.func f) #[] fcap] w (Ret w (iV (Sh.idx fp l))):=by
 obtain ⟨lA,lc,rfl,hlc,hlm,hlA⟩:=hl.form
 refine fstart (N:=19) (vals:=[.slice lA l.length lc,.func (.func f) #[] fcap]) (S:=Mem w no [slO (In w) 8 zU (.slice lA l.length lc) l]) func146 rfl rfl rfl (Mem.ofDats (dc (dl hl) dn)) (zG fun _ hK1=>zP rfl (zD hK1 (zS fun _ hK2=>zG fun _ hK3=>zE rfl (zB (yW rfl underlying48) (zE rfl (zD hK3 (zk (y8 (fun (k:Nat)=>[(0,.slice lA l.length lc),(1,.func (.func f) #[] fcap),(7,iV l.length),(8,iV k)]) (fun (k:Nat)=>[slO (In w) 8 zU (.slice lA l.length lc) l]) (fun (k:Nat)=>k≤l.length∧∀ y ∈ l.take k,fp y=false) (fun (k:Nat)=>l.length - k) 0 (sc rfl (sc rfl (sc rfl (sc (ji (by omega)) sn)))) (fun _ h=>h) ?_ (fun k hI1=>?_)))))))))
 · simp
 refine zG fun _ hK4=>zB (yR rfl rfl) (zD hK4 (zS fun _ hK5=>zZ rfl (fun h1=>?_) (fun h1=>?_)))
 · refine yK hK5 (zS fun _ hK6=>zk (zG fun _ hK7=>zE rfl (zP rfl (zD hK7 (zG fun _ hK8=>zE rfl (zE rfl (zE rfl ?_)))))))
   obtain ⟨ad1,hd1⟩:=hlA (ne_nil (i:=k) (by first | omega | (simp <;> omega)))
   refine zB (y6 (i:=k) rfl hd1 rfl (by omega) (by first | omega | (simp <;> omega)) underlying48 inf163) ?_
   obtain ⟨s1,hs1⟩:∃ x,l[k]?=some x:=⟨_,List.getElem?_eq_getElem (by first | omega | (simp <;> omega))⟩
   refine zB (vx 0 [iV s1.at_,iV s1.sum.count,iV s1.sum.total,iV s1.sum.min,iV s1.sum.max,iV s1.sum.first,iV s1.sum.last,iV s1.sum.rise] rfl rfl hd1 hs1 rfl rfl agg163 inf163) (uJ wn rfl rfl fc rfl (fun w1 hM=>fh s1 w1 hM.fr) (zD hK8 (yp rfl (fun h2=>?_) (fun h2=>?_))))
   · refine zG fun _ hK9=>zE rfl (zP rfl (zD hK9 (zX (yA (zK (ye (yA (zK (zY (.inl rfl) results146 (zR rfl) fun w1 hM=>?_)))))))))
     exact zn (by rw [Sh.idx_at hI1.2 hs1 h2]) hM
   refine yU (zm (zy hK6 (zL (zB (zw rfl rfl (by omega)) (zE rfl (zl (yX (k + 1) (sc rfl (sc rfl (sc rfl (sc (ji (by omega)) sn)))) (fun _ h=>h) ?_ ?_)))))))
   · exact ⟨by omega,Sh.none_step hI1.2 hs1 h2⟩
   omega
 refine yZ (yH (yj (yI (zy hK2 (zG fun _ hK10=>zP rfl (zD hK10 (zX (zY (.inl rfl) results146 (zR rfl) fun w1 hM=>?_))))))))
 exact zn (by rw [Sh.idx_none hI1.2 (by omega)]) hM
theorem c_delS (lv : Value) (l : List Sample) (f : Nat) (fcap : Array Value) (fp : Sample → Bool) (w : World) (hl : w.ownsRow 0 41 2 lv l.length (l.flatMap zo)) (fc : ∀ vs w, (callFunc f vs).run prog w = .ok (.enter f vs) w) (fh : ∀ (x : Sample) (w1 : World), Fr (fun b => lv.ownBlock = some b) w w1 → Calls prog f (#[.agg (zo x).toArray] ++ fcap) w1 (Ret w1 (.bool (fp x))))  :
    Calls prog 122 #[lv,.func (.func f) #[] fcap] w (RetU w lv 41 2 zo (l.filter fun x=>!fp x)):=by
 refine fstart (N:=42) (vals:=[lv,.func (.func f) #[] fcap]) (S:=Mem w (fun b=>lv.ownBlock=some b) [Row lv 41 2 zo l]) func122 rfl rfl rfl (Mem.ownArg hl) (vW 0 (l:=l) rfl fun A0 cp0 hv0 hc0 hm0 hA0=>?_)
 subst hv0
 refine zG fun _ hK1=>zP rfl (zD hK1 (zG fun _ hK2=>zE rfl (zE rfl (yF wn rfl call168 rfl (fun w1 hM=>c_idxS _ l f fcap fp w1 (RowSl encSample hM 0 rfl) fc (fun x w2 h2=>fh x w2 (hM.fr.trans h2 (fun _ _ h=>h.elim)))) (zP rfl (zD hK2 (zS fun _ hK3=>zG fun _ hK4=>zE rfl ?_)))))))
 refine zB (yf rfl rfl) (zD hK4 (zZ rfl (fun h1=>?_) (fun h1=>?_)))
 · refine zG fun _ hK5=>zE rfl (zP rfl (zD hK5 (zX (zK (zY (.inl rfl) results122 (zR rfl) fun w1 hM=>?_)))))
   exact hM.ja 0 rfl ((List.filter_eq_self.2 fun y hy=>by rcases Sh.idx_cases fp l with h | ⟨i,x,h,_⟩; exact (by simp [h.2 y hy]); omega).symm)
 obtain ⟨ni,⟨n,xn,hi,hxn,hpn,hnn⟩⟩:Sh.idx fp l≠-1∧∃ (i:Nat) (x:Sample),Sh.idx fp l=(i:Int)∧l[i]?=some x∧fp x=true∧∀ y ∈ l.take i,fp y=false:=⟨h1,(Sh.idx_cases fp l).resolve_left (fun e=>h1 e.1)⟩
 have hnl:=(List.getElem?_eq_some_iff.1 hxn).1
 refine yK hK3 (zS fun _ hK6=>zG fun _ hK7=>zE rfl (zB (zw rfl rfl (by omega)) (zP rfl (zD hK7 (zk (uK (fun (i:Nat) (j:Nat) (r:List Sample) (vr:Value)=>[(0,vr),(1,.func (.func f) #[] fcap),(5,iV i),(6,iV j)]) (fun (i:Nat) (j:Nat) (r:List Sample) (vr:Value)=>[Row vr 41 2 zo r]) (fun (i:Nat) (j:Nat) (r:List Sample) (vr:Value)=>Sh.Del fp l r i j) (fun (i:Nat) (j:Nat) (r:List Sample) (vr:Value)=>l.length - j) n (n + 1) l (.slice A0 l.length cp0) (sc rfl (sc rfl (sc (ji (by omega)) (sc (ji (by omega)) sn)))) (fun _ h=>h) ?_ (fun i j r vr hI1=>?_)))))))
 · exact Sh.Del.start hxn hpn hnn
 have hlt:=hI1.lt
 have hle:=hI1.le
 have hlen:=hI1.len
 refine vW 0 (l:=r) rfl fun A1 cp1 hv1 hc1 hm1 hA1=>?_
 subst hv1
 refine zS fun _ hK8=>zG fun _ hK9=>zE rfl (zE rfl (zB (yW rfl underlying47) (zB (yR rfl rfl) (zD hK9 (zZ rfl (fun h2=>?_) (fun h2=>?_))))))
 · refine yK hK8 (zS fun _ hK10=>zk (zG fun _ hK11=>zE rfl (zE rfl ?_)))
   obtain ⟨ad1,hd1⟩:=hA1 (ne_nil (i:=j) (by first | omega | (simp <;> omega)))
   refine zB (y6 (i:=j) rfl hd1 rfl (by omega) (by first | omega | (simp <;> omega)) underlying47 inf41) ?_
   obtain ⟨s1,hs1⟩:∃ x,r[j]?=some x:=⟨_,List.getElem?_eq_getElem (by first | omega | (simp <;> omega))⟩
   refine zB (jE 0 [iV s1.time,iV s1.value] encSample rfl rfl hd1 hs1 rfl rfl agg41 inf41) (yC wn inf41 rfl fun b7=>zr 0 wn rfl rfl rfl inf41 rfl rfl rfl (zD hK11 (zG fun _ hK12=>zE rfl (zB (yM 0 [iV s1.time,iV s1.value] rfl rfl rfl rfl agg41 inf41) (uJ wn rfl rfl fc rfl (fun w1 hM=>fh s1 w1 hM.fr) (zB (vC rfl) (zD hK12 (yp rfl (fun h3=>?_) (fun h3=>?_)))))))))
   · refine zG fun _ hK13=>zE rfl (zE rfl (zB (yM 0 [iV s1.time,iV s1.value] rfl rfl rfl rfl agg41 inf41) (zB (y6 (i:=i) rfl hd1 rfl (by omega) (by first | omega | (simp <;> omega)) underlying47 inf41) ?_)))
     obtain ⟨s2,hs2⟩:∃ x,r[i]?=some x:=⟨_,List.getElem?_eq_getElem (by first | omega | (simp <;> omega))⟩
     refine u5 1 (vs:=[iV s1.time,iV s1.value]) s1 encSample wn rfl rfl rfl rfl hd1 hs2 inf41 rfl rfl rfl rfl (zD hK13 (zL (zE rfl (zB (zw rfl rfl (by omega)) (zP rfl (zl (zm (zy hK10 (zL (zE rfl (zB (zw rfl rfl (by omega)) (zP rfl (zl (vY (i + 1) (j + 1) (r.set i s1) (.slice A1 r.length cp1) (sc rfl (sc rfl (sc (ji (by omega)) (sc (ji (by omega)) sn)))) (S9 [1]) ?_ ?_))))))))))))))
     · exact hI1.keep hs1 (by simpa using h3)
     omega
   refine yU (zm (zy hK10 (zL (zE rfl (zB (zw rfl rfl (by omega)) (zP rfl (zl (vY i (j + 1) r (.slice A1 r.length cp1) (sc rfl (sc rfl (sc rfl (sc (ji (by omega)) sn)))) (S9 [1]) ?_ ?_))))))))
   · exact hI1.drop hs1 (by simpa using h3)
   omega
 refine yZ (yH (uC (yI (zy hK6 (zG fun _ hK14=>zE rfl (zE rfl (zB (jr (lo:=i) (hi:=r.length) rfl (lo1 rfl (by omega)) hi0 (by first | omega | (simp <;> omega)) (by first | omega | (simp <;> omega)) (by first | omega | (simp <;> omega)) underlying47 inf41) ?_)))))))
 obtain ⟨ad2,hd2⟩:=hA1 (ne_nil (i:=i) (by first | omega | (simp <;> omega)))
 refine l_clear 0 (lo:=i) encSample wn rfl rfl hd2 underlying47 inf41 rfl rfl (by first | omega | (simp <;> omega)) (zD hK14 (zG fun _ hK15=>zE rfl (zE rfl (zB (r_take (hi:=i) (r.take i) rfl (hi1 rfl (by omega)) (by first | omega | (simp <;> omega)) (by first | omega | (simp <;> omega)) (by simp only [List.length_take]; omega) underlying47 inf41) (zP rfl (zD hK15 (zX (zY (.inl rfl) results122 (zR rfl) fun w1 hM=>?_))))))))
 exact hM.ja 0 rfl (hI1.done (by omega))
theorem jN (lv : Value) (l : List Bucket) (f : Nat) (fcap : Array Value) (fp : Bucket → Bool) (w : World) (hl : w.ownsRow 0 163 8 lv l.length (l.flatMap zU)) (fc : ∀ vs w, (callFunc f vs).run prog w = .ok (.enter f vs) w) (fh : ∀ (x : Bucket) (w1 : World), Fr (fun b => lv.ownBlock = some b) w w1 → Calls prog f (#[.agg (zU x).toArray] ++ fcap) w1 (Ret w1 (.bool (fp x))))  :
    Calls prog 125 #[lv,.func (.func f) #[] fcap] w (RetU w lv 163 8 zU (l.filter fun x=>!fp x)):=by
 refine fstart (N:=42) (vals:=[lv,.func (.func f) #[] fcap]) (S:=Mem w (fun b=>lv.ownBlock=some b) [Row lv 163 8 zU l]) func125 rfl rfl rfl (Mem.ownArg hl) (vW 0 (l:=l) rfl fun A0 cp0 hv0 hc0 hm0 hA0=>?_)
 subst hv0
 refine zG fun _ hK1=>zP rfl (zD hK1 (zG fun _ hK2=>zE rfl (zE rfl (yF wn rfl call146 rfl (fun w1 hM=>c_idxB _ l f fcap fp w1 (RowSl encBucket hM 0 rfl) fc (fun x w2 h2=>fh x w2 (hM.fr.trans h2 (fun _ _ h=>h.elim)))) (zP rfl (zD hK2 (zS fun _ hK3=>zG fun _ hK4=>zE rfl ?_)))))))
 refine zB (yf rfl rfl) (zD hK4 (zZ rfl (fun h1=>?_) (fun h1=>?_)))
 · refine zG fun _ hK5=>zE rfl (zP rfl (zD hK5 (zX (zK (zY (.inl rfl) results125 (zR rfl) fun w1 hM=>?_)))))
   exact hM.ja 0 rfl ((List.filter_eq_self.2 fun y hy=>by rcases Sh.idx_cases fp l with h | ⟨i,x,h,_⟩; exact (by simp [h.2 y hy]); omega).symm)
 obtain ⟨ni,⟨n,xn,hi,hxn,hpn,hnn⟩⟩:Sh.idx fp l≠-1∧∃ (i:Nat) (x:Bucket),Sh.idx fp l=(i:Int)∧l[i]?=some x∧fp x=true∧∀ y ∈ l.take i,fp y=false:=⟨h1,(Sh.idx_cases fp l).resolve_left (fun e=>h1 e.1)⟩
 have hnl:=(List.getElem?_eq_some_iff.1 hxn).1
 refine yK hK3 (zS fun _ hK6=>zG fun _ hK7=>zE rfl (zB (zw rfl rfl (by omega)) (zP rfl (zD hK7 (zk (uK (fun (i:Nat) (j:Nat) (r:List Bucket) (vr:Value)=>[(0,vr),(1,.func (.func f) #[] fcap),(5,iV i),(6,iV j)]) (fun (i:Nat) (j:Nat) (r:List Bucket) (vr:Value)=>[Row vr 163 8 zU r]) (fun (i:Nat) (j:Nat) (r:List Bucket) (vr:Value)=>Sh.Del fp l r i j) (fun (i:Nat) (j:Nat) (r:List Bucket) (vr:Value)=>l.length - j) n (n + 1) l (.slice A0 l.length cp0) (sc rfl (sc rfl (sc (ji (by omega)) (sc (ji (by omega)) sn)))) (fun _ h=>h) ?_ (fun i j r vr hI1=>?_)))))))
 · exact Sh.Del.start hxn hpn hnn
 have hlt:=hI1.lt
 have hle:=hI1.le
 have hlen:=hI1.len
 refine vW 0 (l:=r) rfl fun A1 cp1 hv1 hc1 hm1 hA1=>?_
 subst hv1
 refine zS fun _ hK8=>zG fun _ hK9=>zE rfl (zE rfl (zB (yW rfl underlying48) (zB (yR rfl rfl) (zD hK9 (zZ rfl (fun h2=>?_) (fun h2=>?_))))))
 · refine yK hK8 (zS fun _ hK10=>zk (zG fun _ hK11=>zE rfl (zE rfl ?_)))
   obtain ⟨ad1,hd1⟩:=hA1 (ne_nil (i:=j) (by first | omega | (simp <;> omega)))
   refine zB (y6 (i:=j) rfl hd1 rfl (by omega) (by first | omega | (simp <;> omega)) underlying48 inf163) ?_
   obtain ⟨s1,hs1⟩:∃ x,r[j]?=some x:=⟨_,List.getElem?_eq_getElem (by first | omega | (simp <;> omega))⟩
   refine zB (jE 0 [iV s1.at_,iV s1.sum.count,iV s1.sum.total,iV s1.sum.min,iV s1.sum.max,iV s1.sum.first,iV s1.sum.last,iV s1.sum.rise] encBucket rfl rfl hd1 hs1 rfl rfl agg163 inf163) (yC wn inf163 rfl fun b7=>zr 0 wn rfl rfl rfl inf163 rfl rfl rfl (zD hK11 (zG fun _ hK12=>zE rfl (zB (yM 0 [iV s1.at_,iV s1.sum.count,iV s1.sum.total,iV s1.sum.min,iV s1.sum.max,iV s1.sum.first,iV s1.sum.last,iV s1.sum.rise] rfl rfl rfl rfl agg163 inf163) (uJ wn rfl rfl fc rfl (fun w1 hM=>fh s1 w1 hM.fr) (zB (vC rfl) (zD hK12 (yp rfl (fun h3=>?_) (fun h3=>?_)))))))))
   · refine zG fun _ hK13=>zE rfl (zE rfl (zB (yM 0 [iV s1.at_,iV s1.sum.count,iV s1.sum.total,iV s1.sum.min,iV s1.sum.max,iV s1.sum.first,iV s1.sum.last,iV s1.sum.rise] rfl rfl rfl rfl agg163 inf163) (zB (y6 (i:=i) rfl hd1 rfl (by omega) (by first | omega | (simp <;> omega)) underlying48 inf163) ?_)))
     obtain ⟨s2,hs2⟩:∃ x,r[i]?=some x:=⟨_,List.getElem?_eq_getElem (by first | omega | (simp <;> omega))⟩
     refine u5 1 (vs:=[iV s1.at_,iV s1.sum.count,iV s1.sum.total,iV s1.sum.min,iV s1.sum.max,iV s1.sum.first,iV s1.sum.last,iV s1.sum.rise]) s1 encBucket wn rfl rfl rfl rfl hd1 hs2 inf163 rfl rfl rfl rfl (zD hK13 (zL (zE rfl (zB (zw rfl rfl (by omega)) (zP rfl (zl (zm (zy hK10 (zL (zE rfl (zB (zw rfl rfl (by omega)) (zP rfl (zl (vY (i + 1) (j + 1) (r.set i s1) (.slice A1 r.length cp1) (sc rfl (sc rfl (sc (ji (by omega)) (sc (ji (by omega)) sn)))) (S9 [1]) ?_ ?_))))))))))))))
     · exact hI1.keep hs1 (by simpa using h3)
     omega
   refine yU (zm (zy hK10 (zL (zE rfl (zB (zw rfl rfl (by omega)) (zP rfl (zl (vY i (j + 1) r (.slice A1 r.length cp1) (sc rfl (sc rfl (sc rfl (sc (ji (by omega)) sn)))) (S9 [1]) ?_ ?_))))))))
   · exact hI1.drop hs1 (by simpa using h3)
   omega
 refine yZ (yH (uC (yI (zy hK6 (zG fun _ hK14=>zE rfl (zE rfl (zB (jr (lo:=i) (hi:=r.length) rfl (lo1 rfl (by omega)) hi0 (by first | omega | (simp <;> omega)) (by first | omega | (simp <;> omega)) (by first | omega | (simp <;> omega)) underlying48 inf163) ?_)))))))
 obtain ⟨ad2,hd2⟩:=hA1 (ne_nil (i:=i) (by first | omega | (simp <;> omega)))
 refine l_clear 0 (lo:=i) encBucket wn rfl rfl hd2 underlying48 inf163 rfl rfl (by first | omega | (simp <;> omega)) (zD hK14 (zG fun _ hK15=>zE rfl (zE rfl (zB (r_take (hi:=i) (r.take i) rfl (hi1 rfl (by omega)) (by first | omega | (simp <;> omega)) (by first | omega | (simp <;> omega)) (by simp only [List.length_take]; omega) underlying48 inf163) (zP rfl (zD hK15 (zX (zY (.inl rfl) results125 (zR rfl) fun w1 hM=>?_))))))))
 exact hM.ja 0 rfl (hI1.done (by omega))
theorem c_contB (lv : Value) (l : List Bucket) (f : Nat) (fcap : Array Value) (fp : Bucket → Bool) (w : World) (hl : zJ (In w) 8 zU lv l w) (fc : ∀ vs w, (callFunc f vs).run prog w = .ok (.enter f vs) w) (fh : ∀ (x : Bucket) (w1 : World), Fr no w w1 → Calls prog f (#[.agg (zU x).toArray] ++ fcap) w1 (Ret w1 (.bool (fp x))))  :
    Calls prog 94 #[lv,.func (.func f) #[] fcap] w (Ret w (.bool (l.any fp))):=by
 obtain ⟨lA,lc,rfl,hlc,hlm,hlA⟩:=hl.form
 refine fstart (N:=9) (vals:=[.slice lA l.length lc,.func (.func f) #[] fcap]) (S:=Mem w no [slO (In w) 8 zU (.slice lA l.length lc) l]) func94 rfl rfl rfl (Mem.ofDats (dc (dl hl) dn)) (zG fun _ hK1=>zP rfl (zD hK1 (zG fun _ hK2=>zE rfl (zE rfl (yF wn rfl call146 rfl (fun w1 hM=>c_idxB _ l f fcap fp w1 (hM.sl 0 rfl) fc (fun x w2 h2=>fh x w2 (hM.fr.trans h2 (fun _ _ h=>h)))) (zB (vn rfl rfl) (zP rfl (zD hK2 (zX (zY (.inl rfl) results94 (zR rfl) fun w1 hM=>?_))))))))))
 exact zn (congrArg Value.bool (by rw [Bool.eq_iff_iff,decide_eq_true_iff]; exact Sh.idx_any)) hM
theorem jG (lv : Value) (l : List Bucket) (f : Int) (t : Int) (w : World) (hl : zJ (In w) 8 zU lv l w)  :
    Calls prog 46 #[lv,iV f,iV t] w (Ret w (.bool (Sh.within l f t))):=by
 obtain ⟨lA,lc,rfl,hlc,hlm,hlA⟩:=hl.form
 refine fstart (N:=11) (vals:=[.slice lA l.length lc,iV f,iV t]) (S:=Mem w no [slO (In w) 8 zU (.slice lA l.length lc) l]) func46 rfl rfl rfl (Mem.ofDats (dc (dl hl) dn)) (zG fun _ hK1=>jJ wn rfl rfl rfl fun b4=>jJ wn rfl rfl rfl fun b5=>zP rfl (zD hK1 (zG fun _ hK2=>zE rfl (zB (vg rfl rfl) (yF wn rfl call94 rfl (fun w1 hM=>c_contB _ l 95 #[.pointer (some ⟨b4,0,none⟩),.pointer (some ⟨b5,0,none⟩)] (fun x=>!decide (f≤x.at_∧x.at_ < t)) w1 (hM.sl 2 rfl) call95 (fun x w2 h2=>by simpa using c_within1 x b4 f b5 t w2 (hM.blkKeep (i:=1) rfl h2) (hM.blkKeep (i:=0) rfl h2))) (zB (vC rfl) (zP rfl ?_)))))))
 refine zD hK2 (zX (zY (.inl rfl) results46 (zR rfl) fun w1 hM=>?_))
 exact zn (congrArg Value.bool (by rw [Sh.within,List.all_eq_not_any_not])) hM
theorem c_times (zp : Nat) (z0 : Value) (z1 : Value) (z2 : Value) (z3 : Value) (z : Shelf) (w : World) (hzp : w.heap[zp]? = some (.cells [z0, z1, z2, z3, iV z.ze, iV z.zW, iV z.zI, iV z.zN, iV z.zH].toArray 50 (0, 0)))  :
    Calls prog 45 #[.pointer (some ⟨zp,0,none⟩)] w (Ret w (.bool (decide (Sh.times z)))):=by
 refine fstart (N:=99) (vals:=[.pointer (some ⟨zp,0,none⟩)]) (S:=Mem w no [datB zp [z0,z1,z2,z3,iV z.ze,iV z.zW,iV z.zI,iV z.zN,iV z.zH] 50]) func45 rfl rfl rfl (Mem.ofDats (dc (ddb hzp) dn)) (zG fun _ hK1=>zP rfl (zD hK1 (zS fun _ hK2=>zS fun _ hK3=>vL (Mem w no [datB zp [z0,z1,z2,z3,iV z.ze,iV z.zW,iV z.zI,iV z.zN,iV z.zH] 50]) mix (fun _ h=>h.drew) rfl (u6 (f:=2) [0,1,2,3,4,5,6,7,8,9,10,11,12,13,14,15,16,17,20] rfl rfl (by kernel_rfl) (by kernel_rfl) (fun _ h=>h) fun KS hKS=>yD (zi rfl) (yD (zT rfl) (yD (za rfl fld50_5) (yD (vz 0 rfl rfl rfl flat3) ?_)))))))
 refine yD (zi rfl) (yD (zT rfl) (yD (za rfl fld50_6) (yD (vz 0 rfl rfl rfl flat3) (yD (zz [iV z.zW,iV z.zI,iV 10] pl164 inf164 rfl rfl) (yD (zi rfl) (yD (zT rfl) (yD (za rfl fld50_7) (yD (vz 0 rfl rfl rfl flat3) (yD (zi rfl) (yD (zT rfl) (yD (za rfl fld50_8) ?_)))))))))))
 refine yD (vz 0 rfl rfl rfl flat3) (yD (zz [iV z.zN,iV z.zH,iV 60] pl164 inf164 rfl rfl) (yD (zi rfl) (yd hKS (yY 1 18 (yb (i:=18) rfl fun KN hKN=>yw triE ([(⟨z.zW,z.zI,10⟩:Tri),(⟨z.zN,z.zH,60⟩:Tri)]:List Tri) wn underlying165 inf164 rfl rfl rfl rfl (by decide) (by decide) rfl fun b23=>yP hKN [1] (vK 0 [19] [1] rfl fun KS hKS=>yD (yW rfl underlying165) (yd hKS (yu (by kernel_rfl) (zy hK3 ?_)))))))))
 refine zk (y8 (fun (k:Nat)=>[(0,.pointer (some ⟨zp,0,none⟩)),(23,.slice (some ⟨b23,0,none⟩) 2 2),(24,iV 2),(25,iV k)]) (fun (k:Nat)=>[Row (.slice (some ⟨b23,0,none⟩) 2 2) 164 3 triE ([(⟨z.zW,z.zI,10⟩:Tri),(⟨z.zN,z.zH,60⟩:Tri)]:List Tri),datB zp [z0,z1,z2,z3,iV z.ze,iV z.zW,iV z.zI,iV z.zN,iV z.zH] 50]) (fun (k:Nat)=>k≤2∧∀ (j:Nat) (y:Tri),j < k→[(⟨z.zW,z.zI,10⟩:Tri),(⟨z.zN,z.zH,60⟩:Tri)][j]?=some y→¬ Sh.badT y) (fun (k:Nat)=>2 - k) 0 (sc rfl (sc rfl (sc rfl (sc (ji (by omega)) sn)))) (fun _ h=>h) ?_ (fun k hI1=>?_))
 · exact ⟨by omega,fun j y h=>absurd h (Nat.not_lt_zero j)⟩
 refine zG fun _ hK4=>zB (yR rfl rfl) (zD hK4 (zS fun _ hK5=>zZ rfl (fun h1=>?_) (fun h1=>?_)))
 · refine yK hK5 (zS fun _ hK6=>zk (zG fun _ hK7=>zB (y6 (i:=k) rfl rfl rfl (by omega) (by first | omega | (simp <;> omega)) underlying165 inf164) ?_))
   obtain ⟨s1,hs1⟩:∃ x,([(⟨z.zW,z.zI,10⟩:Tri),(⟨z.zN,z.zH,60⟩:Tri)]:List Tri)[k]?=some x:=⟨_,List.getElem?_eq_getElem (by first | omega | (simp <;> omega))⟩
   have hsc:0 < s1.c:=by rcases Sh.two hs1 with e | e <;> rw [e] <;> simp
   refine zB (jE 0 [iV s1.a,iV s1.b,iV s1.c] encTri rfl rfl rfl hs1 rfl rfl agg164 inf164) (yC wn inf164 rfl fun b4=>zr 0 wn rfl rfl rfl inf164 rfl rfl rfl (zD hK7 (zG fun _ hK8=>zB (za rfl fld164_0) (zB (zg 0 rfl rfl rfl flat3) (zB (yR rfl rfl) (zE rfl (yQ (t:=32) rfl (fun h2=>?_) (fun h2=>?_))))))))
   · refine zQ (zQ (zQ (zQ (zQ (zB (zM rfl rfl) (zE rfl (zQ (zQ (zQ (zB (zM rfl rfl) (zE rfl ?_)))))))))))
     refine zQ (zQ (zQ (zQ (zQ (zQ (zB (zM rfl rfl) (zE rfl (zQ (zQ (zQ (zQ ?_)))))))))))
     refine zQ (zQ (zB (zM rfl rfl) (zD hK8 (vM rfl rfl (zG fun _ hK9=>zP rfl (zD hK9 (zX (yA (zK (ye (yA (zK (zY (.inl rfl) results45 (zR rfl) fun w1 hM=>?_)))))))))))))
     have hb:Sh.badT s1:=by unfold Sh.badT; omega
     exact zn (congrArg Value.bool (decide_eq_false (fun h=>by rcases Sh.two hs1 with e | e <;> rw [e] at hb <;> first | exact h.1.1 hb | exact h.1.2 hb)).symm) hM
   refine zb (za rfl fld164_0) (zb (zg 0 rfl rfl rfl flat3) (zb (za rfl fld164_1) (zb (zg 0 rfl rfl rfl flat3) (zb (vH rfl rfl) (zB (zM rfl rfl) (zE rfl (yQ (t:=39) rfl (fun h3=>?_) (fun h3=>?_))))))))
   · refine zQ (zQ (zQ (zB (zM rfl rfl) (zE rfl (zQ (zQ (zQ (zQ (zQ (zQ (zB (zM rfl rfl) ?_)))))))))))
     refine zE rfl (zQ (zQ (zQ (zQ (zQ (zQ (zB (zM rfl rfl) (zD hK8 (vM rfl rfl (zG fun _ hK10=>zP rfl ?_))))))))))
     refine zD hK10 (zX (yA (zK (ye (yA (zK (zY (.inl rfl) results45 (zR rfl) fun w1 hM=>?_)))))))
     have hb:Sh.badT s1:=by unfold Sh.badT; omega
     exact zn (congrArg Value.bool (decide_eq_false (fun h=>by rcases Sh.two hs1 with e | e <;> rw [e] at hb <;> first | exact h.1.1 hb | exact h.1.2 hb)).symm) hM
   refine zb (za rfl fld164_1) (zb (zg 0 rfl rfl rfl flat3) (zb (vH rfl rfl) (zB (zM rfl rfl) (zE rfl (yQ (t:=44) rfl (fun h4=>?_) (fun h4=>?_))))))
   · refine zQ (zQ (zQ (zQ (zQ (zQ (zB (zM rfl rfl) (zE rfl (zQ (zQ (zQ (zQ ?_)))))))))))
     refine zQ (zQ (zB (zM rfl rfl) (zD hK8 (vM rfl rfl (zG fun _ hK11=>zP rfl (zD hK11 (zX (yA (zK (ye (yA (zK (zY (.inl rfl) results45 (zR rfl) fun w1 hM=>?_)))))))))))))
     have hb:Sh.badT s1:=by unfold Sh.badT; omega
     exact zn (congrArg Value.bool (decide_eq_false (fun h=>by rcases Sh.two hs1 with e | e <;> rw [e] at hb <;> first | exact h.1.1 hb | exact h.1.2 hb)).symm) hM
   refine zb (za rfl fld164_0) (zb (zg 0 rfl rfl rfl flat3) (zb (za rfl fld164_2) (zb (zg 0 rfl rfl rfl flat3) (zb (jV rfl rfl (by omega) (by omega)) (zb (vD rfl rfl) (zB (zM rfl rfl) (zE rfl (yQ (t:=52) rfl (fun h5=>?_) (fun h5=>?_)))))))))
   · refine zQ (zQ (zQ (zQ (zQ (zQ (zB (zM rfl rfl) (zD hK8 (vM rfl rfl (zG fun _ hK12=>zP rfl (zD hK12 ?_))))))))))
     refine zX (yA (zK (ye (yA (zK (zY (.inl rfl) results45 (zR rfl) fun w1 hM=>?_))))))
     have hb:Sh.badT s1:=by unfold Sh.badT; omega
     exact zn (congrArg Value.bool (decide_eq_false (fun h=>by rcases Sh.two hs1 with e | e <;> rw [e] at hb <;> first | exact h.1.1 hb | exact h.1.2 hb)).symm) hM
   refine zb (za rfl fld164_1) (zb (zg 0 rfl rfl rfl flat3) (zb (za rfl fld164_2) (zb (zg 0 rfl rfl rfl flat3) (zb (jV rfl rfl (by omega) (by omega)) (zb (vD rfl rfl) (zB (zM rfl rfl) (zD hK8 (zZ rfl (fun h6=>?_) (fun h6=>?_)))))))))
   · refine zG fun _ hK13=>zP rfl (zD hK13 (zX (yA (zK (ye (yA (zK (zY (.inl rfl) results45 (zR rfl) fun w1 hM=>?_))))))))
     have hb:Sh.badT s1:=by unfold Sh.badT; omega
     exact zn (congrArg Value.bool (decide_eq_false (fun h=>by rcases Sh.two hs1 with e | e <;> rw [e] at hb <;> first | exact h.1.1 hb | exact h.1.2 hb)).symm) hM
   refine yU (zm (zy hK6 (zL (zB (zw rfl rfl (by omega)) (zE rfl (zl (yX (k + 1) (sc rfl (sc rfl (sc rfl (sc (ji (by omega)) sn)))) (S9 [1,2]) ?_ ?_)))))))
   · refine ⟨by omega,fun j y hj hy=>?_⟩
     rcases Nat.lt_or_ge j k with h | h
     · exact hI1.2 j y h hy
     obtain rfl:j=k:=by omega
     obtain rfl:s1=y:=Option.some.inj (hs1.symm.trans hy)
     unfold Sh.badT; omega
   omega
 refine yZ (yH (yj (yI (zy hK2 (zS fun _ hK14=>vN mix (by kernel_rfl) (fun _ h=>h.drew) (yn rfl (zq (zT rfl) (zq (za rfl fld50_4) (zq (vz 1 rfl rfl rfl flat3) (zq (vn rfl rfl) (yn rfl (vh (t:=66) rfl (fun h7=>?_) (fun h7=>?_)))))))))))))
 · refine yL (zi rfl) (yL (zT rfl) (yL (za rfl fld50_4) (yL (vz 1 rfl rfl rfl flat3) (yL (zi rfl) (yL (zT rfl) (yL (za rfl fld50_6) (yL (vz 1 rfl rfl rfl flat3) (yL (u4 rfl rfl) (zq (zM rfl rfl) (yn rfl (vh (t:=77) rfl (fun h8=>?_) (fun h8=>?_))))))))))))
   · refine yL (zi rfl) (yL (zT rfl) (yL (za rfl fld50_5) (yL (vz 1 rfl rfl rfl flat3) (yL (zi rfl) (yL (zT rfl) (yL (za rfl fld50_8) (yL (vz 1 rfl rfl rfl flat3) (yL (u4 rfl rfl) (zq (zM rfl rfl) (yn rfl (vh (t:=88) rfl (fun h9=>?_) (fun h9=>?_))))))))))))
     · refine yL (zi rfl) (yL (zT rfl) (yL (za rfl fld50_8) (yL (vz 1 rfl rfl rfl flat3) (yL (zi rfl) (yL (zT rfl) (yL (za rfl fld50_6) (yL (vz 1 rfl rfl rfl flat3) (yL (u4 rfl rfl) (zq (zM rfl rfl) (zq (yk rfl) (vJ (zy hK14 ?_))))))))))))
       refine zX (zY (.inl rfl) results45 (zR rfl) fun w1 hM=>?_)
       have hAB:¬ Sh.badT ⟨z.zW,z.zI,10⟩∧¬ Sh.badT ⟨z.zN,z.zH,60⟩:=⟨hI1.2 0 _ (by omega) rfl,hI1.2 1 _ (by omega) rfl⟩
       exact zn (congrArg Value.bool (decide_eq_decide.2 (by rw [Sh.times,and_iff_right hAB]; omega))) hM
     refine yB (yB (yB (yB (yB (yB (yB (yB (yB (zq (zM rfl rfl) (zq (yk rfl) (vJ (zy hK14 ?_))))))))))))
     refine zX (zY (.inl rfl) results45 (zR rfl) fun w1 hM=>?_)
     have hAB:¬ Sh.badT ⟨z.zW,z.zI,10⟩∧¬ Sh.badT ⟨z.zN,z.zH,60⟩:=⟨hI1.2 0 _ (by omega) rfl,hI1.2 1 _ (by omega) rfl⟩
     exact zn (congrArg Value.bool (decide_eq_false (fun h=>by have:=h.2; omega)).symm) hM
   refine yB (yB (yB (yB (yB (yB (yB (yB (yB (zq (zM rfl rfl) (yn rfl (yB ?_)))))))))))
   refine yB (yB (yB (yB (yB (yB (yB (yB (zq (zM rfl rfl) (zq (yk rfl) (vJ (zy hK14 (zX (zY (.inl rfl) results45 (zR rfl) fun w1 hM=>?_)))))))))))))
   have hAB:¬ Sh.badT ⟨z.zW,z.zI,10⟩∧¬ Sh.badT ⟨z.zN,z.zH,60⟩:=⟨hI1.2 0 _ (by omega) rfl,hI1.2 1 _ (by omega) rfl⟩
   exact zn (congrArg Value.bool (decide_eq_false (fun h=>by have:=h.2; omega)).symm) hM
 refine yB (yB (yB (yB (yB (yB (yB (yB (yB (zq (zM rfl rfl) (yn rfl (yB ?_)))))))))))
 refine yB (yB (yB (yB (yB (yB (yB (yB (zq (zM rfl rfl) (yn rfl (yB (yB ?_)))))))))))
 refine yB (yB (yB (yB (yB (yB (yB (zq (zM rfl rfl) (zq (yk rfl) (vJ (zy hK14 (zX (zY (.inl rfl) results45 (zR rfl) fun w1 hM=>?_))))))))))))
 have hAB:¬ Sh.badT ⟨z.zW,z.zI,10⟩∧¬ Sh.badT ⟨z.zN,z.zH,60⟩:=⟨hI1.2 0 _ (by omega) rfl,hI1.2 1 _ (by omega) rfl⟩
 exact zn (congrArg Value.bool (decide_eq_false (fun h=>by have:=h.2; omega)).symm) hM
set_option maxHeartbeats 2000000 in
theorem ua (z0 : Value) (z1 : Value) (z2 : Value) (z3 : Value) (z : Shelf) (P0 : Nat → Prop) (w : World) (hP0 : ∀ b, P0 b → b < w.heap.size) (hz0 : zJ P0 2 zj z0 z.zV w) (hz1 : zJ P0 2 zo z1 z.raw w) (hz2 : zJ P0 8 zU z2 z.fine w) (hz3 : zJ P0 8 zU z3 z.coarse w)  :
    Calls prog 21 #[.agg (List.toArray [z0,z1,z2,z3,iV z.ze,iV z.zW,iV z.zI,iV z.zN,iV z.zH])] w (Ret w (iV (Sh.wrong z))):=by
 obtain ⟨z0A,z0c,rfl,hz0c,hz0m,hz0A⟩:=hz0.form
 obtain ⟨z1A,z1c,rfl,hz1c,hz1m,hz1A⟩:=hz1.form
 obtain ⟨z2A,z2c,rfl,hz2c,hz2m,hz2A⟩:=hz2.form
 obtain ⟨z3A,z3c,rfl,hz3c,hz3m,hz3A⟩:=hz3.form
 refine fstart (N:=75) (vals:=[.agg (List.toArray [.slice z0A z.zV.length z0c,.slice z1A z.raw.length z1c,.slice z2A z.fine.length z2c,.slice z3A z.coarse.length z3c,iV z.ze,iV z.zW,iV z.zI,iV z.zN,iV z.zH])]) (S:=Mem w ⟨no,P0⟩ [slP 2 zj (.slice z0A z.zV.length z0c) z.zV,slP 2 zo (.slice z1A z.raw.length z1c) z.raw,slP 8 zU (.slice z2A z.fine.length z2c) z.fine,slP 8 zU (.slice z3A z.coarse.length z3c) z.coarse]) func21 rfl rfl rfl (Mem.ofDatsP hP0 (dc (dlp hz0) (dc (dlp hz1) (dc (dlp hz2) (dc (dlp hz3) dn))))) (zG fun _ hK1=>vS wn rfl rfl fun b1=>zP rfl (zD hK1 (zS fun _ hK2=>zG fun _ hK3=>zB (za rfl fld50_0) (zB (zg 0 rfl rfl rfl flat39) (yF wn rfl call42 rfl (fun w1 hM=>c_namesWrong _ z.zV w1 (hM.slp 1 rfl)) (zP rfl (zD hK3 ?_)))))))
 refine zG fun _ hK4=>zE rfl (zB (vD rfl rfl) (zD hK4 (zZ rfl (fun h1=>?_) (fun h1=>?_))))
 · refine zG fun _ hK5=>zE rfl (zP rfl (zD hK5 (zX (zK (zY (.inl rfl) results21 (zR rfl) fun w1 hM=>?_)))))
   exact zn (congrArg (Value.int .i64) (by rw [Sh.wrong,if_pos h1])) hM
 refine yK hK2 (zS fun _ hK6=>zG fun _ hK7=>zB (za rfl fld50_1) (zB (zg 0 rfl rfl rfl flat47) (yF wn rfl call43 rfl (fun w1 hM=>ue _ z.raw w1 (hM.slp 2 rfl)) (yC wn inf61 rfl fun b4=>zr 0 wn rfl rfl rfl inf61 rfl rfl rfl (zD hK7 (zG fun _ hK8=>zB (za rfl fld61_0) (zB (zg 0 rfl rfl rfl flat27) ?_)))))))
 refine zB (vD rfl rfl) (zD hK8 (zZ rfl (fun h2=>?_) (fun h2=>?_)))
 · refine zG fun _ hK9=>zB (za rfl fld61_0) (zB (zg 0 rfl rfl rfl flat27) (zP rfl (zD hK9 (zX (zK (zY (.inl rfl) results21 (zR rfl) fun w1 hM=>?_))))))
   exact zn (congrArg (Value.int .i64) (by rw [Sh.wrong,if_neg h1,if_pos h2])) hM
 refine yK hK6 (zS fun _ hK10=>zG fun _ hK11=>zB (za rfl fld50_2) (zB (zg 1 rfl rfl rfl flat48) (yF wn rfl call44 rfl (fun w1 hM=>c_rollWrong _ z.fine 1 w1 (hM.slp 4 rfl)) (yC wn inf61 rfl fun b5=>zr 0 wn rfl rfl rfl inf61 rfl rfl rfl (zD hK11 (zG fun _ hK12=>zB (za rfl fld61_0) (zB (zg 0 rfl rfl rfl flat27) ?_)))))))
 refine zB (vD rfl rfl) (zD hK12 (zZ rfl (fun h3=>?_) (fun h3=>?_)))
 · refine zG fun _ hK13=>zB (za rfl fld61_0) (zB (zg 0 rfl rfl rfl flat27) (zP rfl (zD hK13 (zX (zK (zY (.inl rfl) results21 (zR rfl) fun w1 hM=>?_))))))
   exact zn (congrArg (Value.int .i64) (by rw [Sh.wrong,if_neg h1,if_neg h2,if_pos h3])) hM
 refine yK hK10 (zS fun _ hK14=>zG fun _ hK15=>zB (za rfl fld50_3) (zB (zg 2 rfl rfl rfl flat48) (yF wn rfl call44 rfl (fun w1 hM=>c_rollWrong _ z.coarse 2 w1 (hM.slp 6 rfl)) (yC wn inf61 rfl fun b6=>zr 0 wn rfl rfl rfl inf61 rfl rfl rfl (zD hK15 (zG fun _ hK16=>zB (za rfl fld61_0) (zB (zg 0 rfl rfl rfl flat27) ?_)))))))
 refine zB (vD rfl rfl) (zD hK16 (zZ rfl (fun h4=>?_) (fun h4=>?_)))
 · refine zG fun _ hK17=>zB (za rfl fld61_0) (zB (zg 0 rfl rfl rfl flat27) (zP rfl (zD hK17 (zX (zK (zY (.inl rfl) results21 (zR rfl) fun w1 hM=>?_))))))
   exact zn (congrArg (Value.int .i64) (by rw [Sh.wrong,if_neg h1,if_neg h2,if_neg h3,if_pos h4])) hM
 refine yK hK14 (zS fun _ hK18=>zS fun _ hK19=>vN mix (by kernel_rfl) (fun _ h=>h.drew) (vP wn rfl call45 rfl (fun w1 hM=>c_times b1 _ _ _ _ z w1 (hM.blk (i:=3) rfl)) (zq (jB rfl) (yn rfl (vh (t:=39) rfl (fun h5=>?_) (fun h5=>?_))))))
 · refine yB (yB (yB (yB (yB (yx (wu rfl rfl) rfl (yx (wu rfl rfl) rfl (yx (wu rfl rfl) rfl (yx (wu rfl rfl) rfl (yx (wu rfl rfl) rfl (yx (wu rfl rfl) rfl (yx (wu rfl rfl) rfl ?_)))))))))))
   refine yx (wu rfl rfl) rfl (yB (zq (zM rfl rfl) (yn rfl (yB (yB (yB (yB (yB (yB (yB (yB ?_)))))))))))
   refine zq (zM rfl rfl) (yn rfl (yB (yB (yB (yB (yB (yB (yB (yB (zq (zM rfl rfl) (vJ (zy hK19 ?_))))))))))))
   refine vM rfl rfl (zG fun _ hK20=>zP rfl (zD hK20 (zX (zK (zY (.inl rfl) results21 (zR rfl) fun w1 hM=>?_)))))
   exact zn (congrArg (Value.int .i64) (by rw [Sh.wrong_end h1 h2 h3 h4,if_neg (fun h=>h5 h.1)])) hM
 refine yL (za rfl fld50_1) (yL (zg 3 rfl rfl rfl flat47) (yL (yW rfl underlying47) (yL (vH rfl rfl) (yL (zi rfl) (vh (t:=44) rfl (fun h6=>?_) (fun h6=>?_))))))
 · refine yL (za rfl fld50_1) (yL (zg 3 rfl rfl rfl flat47) ?_)
   obtain ⟨ad1,hd1⟩:=hz1A (ne_nil (i:=0) (by first | omega | (simp <;> omega)))
   refine yL (y6 (i:=0) rfl hd1 rfl (by omega) (by first | omega | (simp <;> omega)) underlying47 inf41) (yL (yy rfl fld41_0) ?_)
   obtain ⟨s1,hs1⟩:∃ x,z.raw[0]?=some x:=⟨_,List.getElem?_eq_getElem (by first | omega | (simp <;> omega))⟩
   refine yL (jY 5 rfl rfl hd1 hs1 rfl flat3) (yL (za rfl fld50_4) (yL (zg 3 rfl rfl rfl flat3) (yL (yR rfl rfl) (yL (zM rfl rfl) (zq (zM rfl rfl) (yn rfl (vh (t:=55) rfl (fun h7=>?_) (fun h7=>?_))))))))
   · refine yB (yB (yB (yB (yB (yB (yB (yB (zq (zM rfl rfl) (yn rfl (yB (yB ?_)))))))))))
     refine yB (yB (yB (yB (yB (yB (zq (zM rfl rfl) (vJ (zy hK19 (vM rfl rfl (zG fun _ hK21=>zP rfl (zD hK21 ?_)))))))))))
     refine zX (zK (zY (.inl rfl) results21 (zR rfl) fun w1 hM=>?_))
     exact zn (congrArg (Value.int .i64) (by rw [Sh.wrong_end h1 h2 h3 h4,if_neg (fun h=>absurd ((Sh.headOk_some hs1).symm.trans h.2.1) (by simp; omega))])) hM
   refine yL (za rfl fld50_2) (yL (zg 3 rfl rfl rfl flat48) (yL (za rfl fld50_5) (yL (zg 3 rfl rfl rfl flat3) (yL (za rfl fld50_6) (yL (zg 3 rfl rfl rfl flat3) (vP (wg rfl rfl rfl) rfl call46 rfl (fun w1 hM=>jG _ z.fine z.zW z.zI w1 (hM.slp 6 rfl)) (yL (vC rfl) (zq (zM rfl rfl) (yn rfl (jj (t:=65) rfl (fun h8=>?_) (fun h8=>?_)))))))))))
   · refine yB (yB (yB (yB (yB (yB (yB (yB (zq (zM rfl rfl) (vJ (zy hK19 (vM rfl rfl (zG fun _ hK22=>?_))))))))))))
     refine zP rfl (zD hK22 (zX (zK (zY (.inl rfl) results21 (zR rfl) fun w1 hM=>?_))))
     exact zn (congrArg (Value.int .i64) (by rw [Sh.wrong_end h1 h2 h3 h4,if_neg (fun h=>by have:=h.2.2.1; simp [this] at h8)])) hM
   refine yL (za rfl fld50_3) (yL (zg 3 rfl rfl rfl flat48) (yL (za rfl fld50_7) (yL (zg 3 rfl rfl rfl flat3) (yL (za rfl fld50_8) (yL (zg 3 rfl rfl rfl flat3) (vP (wg rfl rfl rfl) rfl call46 rfl (fun w1 hM=>jG _ z.coarse z.zN z.zH w1 (hM.slp 7 rfl)) (yL (vC rfl) (zq (zM rfl rfl) (vJ (zy hK19 (yp rfl (fun h9=>?_) (fun h9=>?_))))))))))))
   · refine zG fun _ hK23=>zP rfl (zD hK23 (zX (zK (zY (.inl rfl) results21 (zR rfl) fun w1 hM=>?_))))
     exact zn (congrArg (Value.int .i64) (by rw [Sh.wrong_end h1 h2 h3 h4,if_neg (fun h=>by have:=h.2.2.2; simp [this] at h9)])) hM
   refine yK hK18 (zG fun _ hK24=>zP rfl (zD hK24 (zX (zY (.inl rfl) results21 (zR rfl) fun w1 hM=>?_))))
   exact zn (congrArg (Value.int .i64) (by rw [Sh.wrong_end h1 h2 h3 h4,if_pos ⟨Classical.not_not.1 h5,(Sh.headOk_some hs1).trans (decide_eq_true (by omega)),by simpa using h8,by simpa using h9⟩])) hM
 refine yB (yB (yB (yB (yB (yB (yB (yB (yL (zM rfl rfl) (zq (zM rfl rfl) (yn rfl (yL (za rfl fld50_2) ?_)))))))))))
 refine yL (zg 3 rfl rfl rfl flat48) (yL (za rfl fld50_5) (yL (zg 3 rfl rfl rfl flat3) (yL (za rfl fld50_6) (yL (zg 3 rfl rfl rfl flat3) (vP (wg rfl rfl rfl) rfl call46 rfl (fun w1 hM=>jG _ z.fine z.zW z.zI w1 (hM.slp 6 rfl)) (yL (vC rfl) (zq (zM rfl rfl) (yn rfl (jj (t:=65) rfl (fun h10=>?_) (fun h10=>?_))))))))))
 · refine yB (yB (yB (yB (yB (yB (yB (yB (zq (zM rfl rfl) (vJ (zy hK19 (vM rfl rfl (zG fun _ hK25=>?_))))))))))))
   refine zP rfl (zD hK25 (zX (zK (zY (.inl rfl) results21 (zR rfl) fun w1 hM=>?_))))
   exact zn (congrArg (Value.int .i64) (by rw [Sh.wrong_end h1 h2 h3 h4,if_neg (fun h=>by have:=h.2.2.1; simp [this] at h10)])) hM
 refine yL (za rfl fld50_3) (yL (zg 3 rfl rfl rfl flat48) (yL (za rfl fld50_7) (yL (zg 3 rfl rfl rfl flat3) (yL (za rfl fld50_8) (yL (zg 3 rfl rfl rfl flat3) (vP (wg rfl rfl rfl) rfl call46 rfl (fun w1 hM=>jG _ z.coarse z.zN z.zH w1 (hM.slp 7 rfl)) (yL (vC rfl) (zq (zM rfl rfl) (vJ (zy hK19 (yp rfl (fun h11=>?_) (fun h11=>?_))))))))))))
 · refine zG fun _ hK26=>zP rfl (zD hK26 (zX (zK (zY (.inl rfl) results21 (zR rfl) fun w1 hM=>?_))))
   exact zn (congrArg (Value.int .i64) (by rw [Sh.wrong_end h1 h2 h3 h4,if_neg (fun h=>by have:=h.2.2.2; simp [this] at h11)])) hM
 refine yK hK18 (zG fun _ hK27=>zP rfl (zD hK27 (zX (zY (.inl rfl) results21 (zR rfl) fun w1 hM=>?_))))
 exact zn (congrArg (Value.int .i64) (by rw [Sh.wrong_end h1 h2 h3 h4,if_pos ⟨Classical.not_not.1 h5,Sh.headOk_none h6,by simpa using h10,by simpa using h11⟩])) hM
end
section
namespace Roll
section
variable {α:Type} {t:α→Int} {s:α→Sum} {st:Int} {l:List α} {a b m:Int}
def win (t:α→Int) (l:List α) (a b:Int):List α:=l.filter fun x=>decide (a≤t x∧t x < b)
theorem win_inT (l:List Sample) (a b:Int):inT l a b=win Sample.time l a b:=rfl
theorem win_bIn (l:List Bucket) (a b:Int):Sh.bIn l a b=win Bucket.at_ l a b:=rfl
theorem win_mem {x:α}:x ∈ win t l a b↔x ∈ l∧a≤t x∧t x < b:=by simp [win]
theorem win_rises (h:Rises t l):Rises t (win t l a b):=⟨fun x hx=>h.rng x (win_mem.1 hx).1,h.inc.sublist List.filter_sublist⟩
theorem win_nil (h:∀ x ∈ l,¬ (a≤t x∧t x < b)):win t l a b=[]:=List.filter_eq_nil_iff.2 fun x hx=>by simpa using h x hx
theorem win_self (h:b≤a):win t l a b=[]:=win_nil fun x _=>by omega
theorem win_split (h1 : a ≤ m) (h2 : m ≤ b) : ∀ {l : List α}, l.Pairwise (fun x y => t x < t y) → win t l a b = win t l a m ++ win t l m b
  | [],_=>rfl
  | x :: r, hp => by
    have hr:=List.pairwise_cons.1 hp
    have ih:=win_split h1 h2 hr.2
    have e : ∀ p q, win t (x :: r) p q = if p ≤ t x ∧ t x < q then x :: win t r p q else win t r p q := fun p q => by
      unfold win; rw [List.filter_cons]; simp
    rw [e,e,e]
    by_cases c:a≤t x∧t x < b
    · rw [if_pos c]
      by_cases c2:t x < m
      · rw [if_pos ⟨c.1,c2⟩,if_neg (by omega),ih]; rfl
      · rw [if_neg (by omega),if_pos ⟨by omega,c.2⟩,ih]
        have:win t r a m=[]:=win_nil fun y hy=>by have:=hr.1 y hy; omega
        rw [this]; rfl
    · rw [if_neg c,if_neg (by omega),if_neg (by omega),ih]
theorem gf_snoc (l:List α) (x:α):gf t s st (l++[x])=add (gf t s st l) (t x) st (s x):=by simp [gf]
theorem gf_ats (l : List α) : ∀ b ∈ gf t s st l, ∃ x ∈ l, b.at_ = at' (t x) st := by
  induction l using List.reverseRecOn' with
  | nil=>intro b hb; simp [gf] at hb
  | snoc l x ih =>
    intro b hb
    rw [gf_snoc] at hb
    rcases add_cases (gf t s st l) (t x) st (s x) with e | ⟨l0,b0,e0,e1,e⟩
    · rw [e] at hb
      rcases List.mem_append.1 hb with h | h
      · obtain ⟨y,hy,h2⟩:=ih b h; exact ⟨y,by simp [hy],h2⟩
      · obtain rfl:b=_:=by simpa using h
        exact ⟨x,by simp,rfl⟩
    · rw [e] at hb
      rcases List.mem_append.1 hb with h | h
      · obtain ⟨y,hy,h2⟩:=ih b (by rw [e0]; simp [h]); exact ⟨y,by simp [hy],h2⟩
      · obtain rfl:b=_:=by simpa using h
        exact ⟨x,by simp,e1⟩
theorem gf_next (hst : st = 10 ∨ st = 60) (hr : Rises t l) (ha : a ≤ m) (hm : m % st = 0) :
    gf t s st (win t l a (m + st))=if win t l m (m + st)=[] then gf t s st (win t l a m) else gf t s st (win t l a m)++[⟨m,gsum s (win t l m (m + st))⟩]:=by
  have hq:m / st * st=m:=by rcases hst with rfl | rfl <;> omega
  have hpos:0 < st:=by rcases hst with rfl | rfl <;> decide
  rw [win_split ha (by omega:m≤m + st) hr.inc]
  by_cases h:win t l m (m + st)=[]
  · rw [if_pos h,h,List.append_nil]
  · rw [if_neg h]
    unfold gf
    rw [List.foldl_append]
    refine fold_new h (fun x hx=>?_) fun b hb=>?_
    · obtain ⟨h1,h2,h3⟩:=win_mem.1 hx
      rw [← hq]
      exact at_of hst (hr.rng x h1) (by omega) (by omega)
    · obtain ⟨x,hx,e⟩:=gf_ats (t:=t) (s:=s) (st:=st) _ b (List.mem_of_getLast? hb)
      obtain ⟨h1,h2,h3⟩:=win_mem.1 hx
      have:=at_le hst (hr.rng x h1)
      omega
theorem gf_all (hst : st = 10 ∨ st = 60) (hr : Rises t l) (ha : a % st = 0) : ∀ k : Nat,
    (∀ b ∈ gf t s st (win t l a (a + st * k)),∃ m,m % st=0∧a≤m∧m < a + st * k∧win t l m (m + st)≠[]∧b=⟨m,gsum s (win t l m (m + st))⟩)∧(gf t s st (win t l a (a + st * k))).Pairwise (fun x y=>x.at_ < y.at_)
  | 0 => by
    have:win t l a (a + st * (0:Nat))=[]:=win_self (by simp)
    rw [this]; simp [gf]
  | k + 1 => by
    obtain ⟨h1,h2⟩:=gf_all hst hr ha k
    have hpos:0 < st:=by rcases hst with rfl | rfl <;> decide
    have hk:(0:Int)≤st * k:=Int.mul_nonneg (by omega) (by omega)
    have e:a + st * ((k + 1:Nat):Int)=a + st * k + st:=by push_cast; rw [Int.mul_add]; omega
    rw [e,gf_next hst hr (by omega) (by rcases hst with rfl | rfl <;> omega)]
    by_cases h:win t l (a + st * k) (a + st * k + st)=[]
    · rw [if_pos h]
      exact ⟨fun b hb=>by obtain ⟨m,x1,x2,x3,x4⟩:=h1 b hb; exact ⟨m,x1,x2,by omega,x4⟩,h2⟩
    · rw [if_neg h]
      refine ⟨fun b hb=>?_,?_⟩
      · rcases List.mem_append.1 hb with hb | hb
        · obtain ⟨m,x1,x2,x3,x4⟩:=h1 b hb; exact ⟨m,x1,x2,by omega,x4⟩
        · obtain rfl:b=_:=by simpa using hb
          exact ⟨a + st * k,by rcases hst with rfl | rfl <;> omega,by omega,by omega,h,rfl⟩
      · refine List.pairwise_append.2 ⟨h2,by simp,fun x hx y hy=>?_⟩
        obtain ⟨m,x1,x2,x3,x4,rfl⟩:=h1 x hx
        obtain rfl:y=_:=by simpa using hy
        exact x3
theorem gf_to (hst : st = 10 ∨ st = 60) (hr : Rises t l) (ha : a % st = 0) (hb : b % st = 0) :
    (∀ x ∈ gf t s st (win t l a b),∃ m,m % st=0∧a≤m∧m < b∧win t l m (m + st)≠[]∧x=⟨m,gsum s (win t l m (m + st))⟩)∧(gf t s st (win t l a b)).Pairwise (fun x y=>x.at_ < y.at_):=by
  rcases Int.lt_or_le a b with h | h
  · have e : b = a + st * ((b - a) / st).toNat := by
      rcases hst with rfl | rfl <;> omega
    have:=gf_all (s:=s) hst hr ha ((b - a) / st).toNat
    rw [← e] at this
    exact this
  · rw [win_self h]; simp [gf]
theorem rise_len (st : Int) (hs : 0 < st) : ∀ (l : List α) (a : Int), l.Pairwise (fun x y => t x < t y) → (∀ x ∈ l, a ≤ t x ∧ t x < b ∧ t x % st = 0) → a % st = 0 → b % st = 0 → a ≤ b → st * l.length ≤ b - a
  | [],a,_,_,_,_,h=>by simpa using h
  | x :: r, a, hp, h, ha, hb, hab => by
    have hr:=List.pairwise_cons.1 hp
    obtain ⟨h1,h2,h3⟩:=h x (List.mem_cons_self ..)
    have key : ∀ u v : Int, u % st = 0 → v % st = 0 → u < v → u + st ≤ v := fun u v hu hv huv => by
      have e:(v - u) % st=0:=by rw [Int.sub_emod,hu,hv]; simp
      have:=Int.le_of_dvd (by omega) (Int.dvd_of_emod_eq_zero e)
      omega
    have hxb:=key _ _ h3 hb h2
    have := rise_len st hs r (t x + st) hr.2 (fun y hy => by
      obtain ⟨g1,g2,g3⟩:=h y (List.mem_cons_of_mem _ hy)
      exact ⟨key _ _ h3 g3 (hr.1 y hy),g2,g3⟩) (by rw [Int.add_emod,h3]; simp) hb hxb
    simp only [List.length_cons]
    push_cast
    rw [Int.mul_add]
    omega
theorem gsum_snoc (l:List α) (x:α):gsum s (l++[x])=Agg.join (gsum s l) (s x):=by simp [gsum]
theorem gsum_count (n : Int) (hn : 0 ≤ n) (hn2 : n ≤ 60) (l : List α) : l.length ≤ 10000000 → (∀ x ∈ l, 1 ≤ (s x).count ∧ (s x).count ≤ n) → l.length ≤ (gsum s l).count ∧ (gsum s l).count ≤ n * l.length := by
  induction l using List.reverseRecOn' with
  | nil=>intro _ _; simp [gsum,Sum.zero]
  | snoc l x ih =>
    intro hl h
    simp only [List.length_append,List.length_cons,List.length_nil] at hl ⊢
    obtain ⟨h1,h2⟩:=ih (by omega) fun y hy=>h y (by simp [hy])
    obtain ⟨g1,g2⟩:=h x (by simp)
    have hb:n * (l.length:Int)≤60 * l.length:=Int.mul_le_mul_of_nonneg_right hn2 (by omega)
    rw [gsum_snoc,Agg.join_count (by omega) (by omega) (by omega)]
    push_cast
    rw [Int.mul_add]
    omega
end
theorem of_win (l : List Bucket) (f t : Int) : of l f t = gsum Bucket.sum (win Bucket.at_ l f t) := by
  induction l using List.reverseRecOn' with
  | nil=>rfl
  | snoc l x ih =>
    rw [of_snoc',ih]
    unfold win
    rw [List.filter_append]
    by_cases h:f≤x.at_∧x.at_ < t
    · rw [if_pos h,List.filter_cons,if_pos (by simpa using h),List.filter_nil,gsum_snoc]
    · rw [if_neg h,List.filter_cons,if_neg (by simpa using h),List.filter_nil,List.append_nil]
theorem up_win (l:List Sample) (a b:Int):up (inT l a b) 1=gf Sample.time (fun x=>Agg.one x.value) 10 (win Sample.time l a b):=rfl
theorem greater_win (l:List Bucket) (a b:Int):greater (Sh.bIn l a b)=gf Bucket.at_ Bucket.sum 60 (win Bucket.at_ l a b):=rfl
end Roll
namespace Sh
theorem OK.rng {s : Shelf} (h : OK s) : (0 ≤ s.ze ∧ s.ze ≤ s.zI ∧ s.zW ≤ s.zH ∧ s.zH ≤ s.zI) ∧ (0 ≤ s.zW ∧ s.zW ≤ s.zI ∧ s.zI ≤ 1000000 ∧ s.zW % 10 = 0 ∧ s.zI % 10 = 0) ∧ 0 ≤ s.zN ∧ s.zN ≤ s.zH ∧ s.zH ≤ 1000000 ∧ s.zN % 60 = 0 ∧ s.zH % 60 = 0 := by
  obtain ⟨⟨⟨h1,h2⟩,h3⟩,_⟩:=h.fit
  unfold badT at h1 h2
  simp only at h1 h2
  omega
theorem emod_le {n s : Int} (hn : 0 ≤ n) (hs : 0 < s) : 0 ≤ n % s ∧ n % s ≤ n := by
  obtain ⟨a,rfl⟩:=Int.eq_ofNat_of_zero_le hn
  obtain ⟨b,rfl⟩:=Int.eq_ofNat_of_zero_le (Int.le_of_lt hs)
  have:=Nat.mod_le a b
  rw [← Int.natCast_emod]
  omega
theorem fineTo_rng {s : Shelf} (h : OK s) {to : Int} (h1 : 0 ≤ to) (h2 : to ≤ 1000000) : s.zI ≤ zI s to ∧ 0 ≤ zI s to ∧ zI s to ≤ 1000000 ∧ zI s to % 10 = 0 := by
  obtain ⟨⟨g1,g2,g3,g4⟩,⟨g5,g6,g7,g8,g9⟩,g10,g11,g12,g13,g14⟩:=h.rng
  unfold zI mx; split <;> omega
theorem coarseTo_rng {s : Shelf} (h : OK s) {to : Int} (h1 : 0 ≤ to) (h2 : to ≤ 1000000) : s.zH ≤ zH s to ∧ zH s to ≤ zI s to ∧ zH s to % 60 = 0 := by
  obtain ⟨⟨g1,g2,g3,g4⟩,⟨g5,g6,g7,g8,g9⟩,g10,g11,g12,g13,g14⟩:=h.rng
  obtain ⟨f1,f2,f3,f4⟩:=fineTo_rng h h1 h2
  unfold zH mx; split <;> omega
theorem late_some {l : List Sample} {x y : Sample} (h : l[l.length - 1]? = some y) : late l x = decide (x.time ≤ y.time) := by
  unfold late; rw [List.getLast?_eq_getElem?,h]
theorem late_none {l : List Sample} {x : Sample} (h : ¬ 0 ≤ (l.length : Int) - 1) : late l x = false := by
  have:l=[]:=List.eq_nil_of_length_eq_zero (by omega)
  subst this; rfl
theorem bIn_succ {l : List Bucket} {a b : Int} {k : Nat} {x : Bucket} (h : l[k]? = some x) : bIn (l.take (k + 1)) a b = if a ≤ x.at_ ∧ x.at_ < b then bIn (l.take k) a b ++ [x] else bIn (l.take k) a b := by
  unfold bIn
  rw [List.take_add_one,h,List.filter_append]
  by_cases hc:a≤x.at_∧x.at_ < b <;> simp [hc]
theorem bIn_len (l:List Bucket) (a b:Int):(bIn l a b).length≤l.length:=List.length_filter_le ..
section
variable {z:Shelf} {x:Sample} {to:Int}
theorem append_wrong (h:wrong z≠0):append z x=(zero,wrong z):=by rw [append,if_pos h]
theorem append_bad (h:¬ wrong z≠0) (h2:(Codec.wrong [x]).err≠0):append z x=(zero,(Codec.wrong [x]).err):=by rw [append,if_neg h,if_pos h2]
theorem append_late (h:¬ wrong z≠0) (h2:¬ (Codec.wrong [x]).err≠0) (h3:x.time < z.zI∨late z.raw x=true):append z x=(zero,9):=by rw [append,if_neg h,if_neg h2,if_pos h3]
theorem append_many (h:¬ wrong z≠0) (h2:¬ (Codec.wrong [x]).err≠0) (h3:¬ (x.time < z.zI∨late z.raw x=true)) (h4:(z.raw.length:Int)=500):append z x=(zero,5):=by rw [append,if_neg h,if_neg h2,if_neg h3,if_pos (by omega)]
theorem append_ok (h:¬ wrong z≠0) (h2:¬ (Codec.wrong [x]).err≠0) (h3:¬ (x.time < z.zI∨late z.raw x=true)) (h4:¬ (z.raw.length:Int)=500):append z x=(⟨z.zV,z.raw++[x],z.fine,z.coarse,z.ze,z.zW,z.zI,z.zN,z.zH⟩,0):=by rw [append,if_neg h,if_neg h2,if_neg h3,if_neg (by omega)]
theorem roll_wrong (h:wrong z≠0):roll z to=(zero,wrong z):=by rw [roll,if_pos h]
theorem roll_range (h:¬ wrong z≠0) (h2:to < 0∨1000000 < to):roll z to=(zero,3):=by rw [roll,if_neg h,if_pos h2]
theorem roll_many (h:¬ wrong z≠0) (h2:¬ (to < 0∨1000000 < to)) (h3:(500:Int) < ((uE z to).length:Int)∨(500:Int) < ((vt z to).length:Int)):roll z to=(zero,5):=by rw [roll,if_neg h,if_neg h2,if_pos (by omega)]
theorem roll_ok (h:¬ wrong z≠0) (h2:¬ (to < 0∨1000000 < to)) (h3:¬ ((500:Int) < ((uE z to).length:Int))) (h4:¬ ((500:Int) < ((vt z to).length:Int))):roll z to=(⟨z.zV,z.raw,uE z to,vt z to,z.ze,z.zW,zI z to,z.zN,zH z to⟩,0):=by rw [roll,if_neg h,if_neg h2,if_neg (by omega)]
variable {tier:Int}
theorem forget_wrong (h:wrong z≠0):forget z tier to=(zero,wrong z):=by rw [forget,if_pos h]
theorem forget_range (h:¬ wrong z≠0) (h2:to < 0∨1000000 < to):forget z tier to=(zero,3):=by rw [forget,if_neg h,if_pos h2]
theorem forget_raw (h:¬ wrong z≠0) (h2:¬ (to < 0∨1000000 < to)) (h3:tier=0):forget z tier to=(⟨z.zV,fromS z.raw (rawF z to),z.fine,z.coarse,rawF z to,z.zW,z.zI,z.zN,z.zH⟩,0):=by rw [forget,if_neg h,if_neg h2,if_pos h3]
theorem forget_fine (h:¬ wrong z≠0) (h2:¬ (to < 0∨1000000 < to)) (h3:¬ tier=0) (h4:tier=1):forget z tier to=(⟨z.zV,z.raw,fromB z.fine (fineF z to),z.coarse,z.ze,fineF z to,z.zI,z.zN,z.zH⟩,0):=by rw [forget,if_neg h,if_neg h2,if_neg h3,if_pos h4]
theorem forget_coarse (h:¬ wrong z≠0) (h2:¬ (to < 0∨1000000 < to)) (h3:¬ tier=0) (h4:¬ tier=1) (h5:tier=2):forget z tier to=(⟨z.zV,z.raw,z.fine,fromB z.coarse (coarseF z to),z.ze,z.zW,z.zI,coarseF z to,z.zH⟩,0):=by rw [forget,if_neg h,if_neg h2,if_neg h3,if_neg h4,if_pos h5]
theorem forget_kind (h:¬ wrong z≠0) (h2:¬ (to < 0∨1000000 < to)) (h3:¬ tier=0) (h4:¬ tier=1) (h5:¬ tier=2):forget z tier to=(zero,1):=by rw [forget,if_neg h,if_neg h2,if_neg h3,if_neg h4,if_neg h5]
end
theorem late_any {l : List Sample} (h : Roll.Rises Sample.time l) (x : Sample) : late l x = l.any fun y => decide (x.time ≤ y.time) := by
  unfold late
  cases hl:l.getLast? with
  | none=>rw [List.getLast?_eq_none_iff] at hl; subst hl; rfl
  | some y =>
    have hy:y ∈ l:=List.mem_of_getLast? hl
    have hmax : ∀ z ∈ l, z.time ≤ y.time := fun z hz => by
      obtain ⟨i,hi,rfl⟩:=List.mem_iff_getElem.1 hz
      rw [List.getLast?_eq_getElem?] at hl
      exact h.le (i:=i) (j:=l.length - 1) (List.getElem?_eq_getElem hi) hl (by omega)
    simp only
    rw [Bool.eq_iff_iff,decide_eq_true_iff,List.any_eq_true]
    exact ⟨fun h1=>⟨y,hy,by simpa using h1⟩,fun ⟨z,hz,h1⟩=>by have:=hmax z hz; have h1:=of_decide_eq_true h1; omega⟩
theorem head_all {l : List Sample} (h : Roll.Rises Sample.time l) (f : Int) : headOk l f = l.all fun x => decide (f ≤ x.time) := by
  cases l with
  | nil=>rfl
  | cons y r =>
    have hr:=(List.pairwise_cons.1 h.inc).1
    rw [Bool.eq_iff_iff,List.all_eq_true]
    simp only [headOk,decide_eq_true_iff]
    refine ⟨fun h1 z hz=>?_,fun h1=>by simpa using h1 y (by simp)⟩
    rcases List.mem_cons.1 hz with rfl | hz
    · exact h1
    · have:=hr z hz; omega
end Sh
end
section
structure ShAct where (kind:Int) (zf:Sample) (tier to:Int) deriving DecidableEq
namespace Ex
def bdeps (ops : Array Oper) (i : Nat) : List Nat := match ops[i]? with
  | none=>[]
  | some o=>(o.after.toList.filter (Region.binds .any)).map (·.on)
def up1 (ops:Array Oper) (R S:List Nat):List Nat:=S++(((S.filter R.contains).flatMap (bdeps ops)).filter (fun e=>!S.contains e)).eraseDups
def upN (ops : Array Oper) (R : List Nat) : Nat → List Nat → List Nat
  | 0,S=>S
  | k + 1,S=>upN ops R k (up1 ops R S)
def dagB (ops : Array Oper) (n : Nat) (is R : List Nat) : Bool :=
  (List.range n).all (fun j=>is.contains j || R.contains j || (bdeps ops j).any (fun e=>!is.contains e && !R.contains e) || R.all (fun r=>(upN ops R R.length (bdeps ops j)).contains r)) &&
  R.all (fun r=>Nat.blt r n && !is.contains r && (ops[r]?).isSome && (bdeps ops r).all (fun e=>(is.contains e || (R.contains e && Nat.blt e r)) && Nat.blt e n))
section
variable {P:Program} {N n:Nat} {D:List Deferred} {E:Env} {S S0:World→Prop} {Q:Exit→Act→World→Prop} {ops:Array Oper} {f F:Nat} {is:List Nat} {X:Type}
theorem upN_sub {R : List Nat} {Z : Nat → Prop} (hd : ∀ r ∈ R, Z r → ∀ e ∈ bdeps ops r, Z e) : ∀ (k : Nat) (S : List Nat), (∀ e ∈ S, Z e) → ∀ e ∈ upN ops R k S, Z e
  | 0,_,h=>h
  | k + 1, S, h => upN_sub hd k _ fun e he => by
    rcases List.mem_append.1 he with h1 | h1
    · exact h e h1
    · rw [List.mem_eraseDups] at h1
      obtain ⟨r,hr,h2⟩:=List.mem_flatMap.1 (List.mem_filter.1 h1).1
      obtain ⟨h3,h4⟩:=List.mem_filter.1 hr
      exact hd r (by simpa using h4) (h r h3) e h2
theorem mem_bdeps {i : Nat} {o : Oper} (ho : ops[i]? = some o) {j : Nat} : j ∈ bdeps ops i ↔ ∃ e ∈ o.after, Region.binds .any e = true ∧ e.on = j := by
  unfold bdeps; rw [ho]
  simp only [List.mem_map,List.mem_filter,Array.mem_toList_iff,and_assoc]
theorem least_mem : ∀ (l : List Nat), l ≠ [] → ∃ r ∈ l, ∀ x ∈ l, r ≤ x
  | [],h=>absurd rfl h
  | [x],_=>⟨x,by simp,by simp⟩
  | x :: y :: l, _ => by
    obtain ⟨r,hr,h⟩:=least_mem (y::l) (by simp)
    by_cases hx:x≤r
    · refine ⟨x,by simp,fun z hz=>?_⟩
      rcases List.mem_cons.1 hz with rfl | hz
      · omega
      · have:=h z hz; omega
    · refine ⟨r,List.mem_cons_of_mem _ hr,fun z hz=>?_⟩
      rcases List.mem_cons.1 hz with rfl | hz
      · omega
      · exact h z hz
theorem n_dag (T : List (Nat × X)) (J : List (Nat × X) → Act → World → Prop) (hsz : ops.size = n) (hB : dagB ops n is (T.map (·.1)) = true) (hnd : (T.map (·.1)).Nodup) (hF : F = f + T.length) (h0 : ∀ w, S w → ∀ a, Has N D a E → J [] a w) (hS0 : ∀ Dn a w, J Dn a w → S0 w)
    (step:∀ (Dn:List (Nat × X)) (x:Nat × X),x ∈ T→(∀ y ∈ Dn,y ∈ T∧y.1≠x.1)→(∀ e ∈ bdeps ops x.1,e ∈ T.map (·.1)→e ∈ Dn.map (·.1))→∀ w a,J Dn a w→wpOp P ops (NQ Q) x.1 (fun a' w'=>J (Dn++[x]) a' w') a w)
    (h:∀ Dn:List (Nat × X),(∀ x,x ∈ Dn↔x ∈ T)→∀ a w,J Dn a w→Go.wpAnyH P .any ops (NQ Q) S0 f (mk n (T.map (·.1)++is)) a w):WN P N D ops n Q S0 F is E S:=by
  simp only [dagB,Bool.and_eq_true,List.all_eq_true,List.mem_range] at hB
  obtain ⟨hB1,hB2⟩:=hB
  have hR : ∀ r ∈ T.map (·.1), r < n ∧ r ∉ is ∧ ∃ o, ops[r]? = some o ∧ ∀ e ∈ bdeps ops r, (e ∈ is ∨ (e ∈ T.map (·.1) ∧ e < r)) ∧ e < n := by
    intro r hr
    have:=hB2 r hr
    simp only [Bool.and_eq_true,Nat.blt_eq,Bool.not_eq_true',List.contains_eq_mem,decide_eq_false_iff_not,Bool.or_eq_true,decide_eq_true_eq,Option.isSome_iff_exists] at this
    exact ⟨this.1.1.1,this.1.1.2,this.1.2.elim fun o ho=>⟨o,ho,fun e he=>this.2 e he⟩⟩
  have key : ∀ (m : Nat) (Dn : List (Nat × X)) (rm : List Nat) (a : Act) (w : World), rm.length = m → rm.Nodup → (∀ x ∈ T, x ∈ Dn ∨ x.1 ∈ rm) → (∀ x ∈ Dn, x ∈ T ∧ x.1 ∉ rm) → (∀ r ∈ rm, ∃ x ∈ T, x.1 = r) → (∀ r ∈ Dn.map (·.1), ∀ e ∈ bdeps ops r, e ∈ T.map (·.1) → e ∈ Dn.map (·.1)) → J Dn a w →
      Go.wpAnyH P .any ops (NQ Q) S0 (f + m) (mk n (Dn.map (·.1)++is)) a w:=by
    intro m
    induction m with
    | zero =>
      intro Dn rm a w hl _ hT hD _ _ hI
      obtain rfl:rm=[]:=List.eq_nil_of_length_eq_zero hl
      have hmem:∀ x,x ∈ Dn↔x ∈ T:=fun x=>⟨fun hx=>(hD x hx).1,fun hx=>(hT x hx).resolve_right (by simp)⟩
      rw [mk_congr (is':=T.map (·.1)++is) (fun j=>by simp only [List.mem_append,List.mem_map]; simp only [hmem])]
      exact h Dn hmem a w hI
    | succ m ih =>
      intro Dn rm a w hl hnd' hT hD hrm hdc hI
      have hlist:∀ (j:Nat) (d:Bool),(mk n (Dn.map (·.1)++is)).getD j d=if j < n then decide (j ∈ Dn.map (·.1)++is) else d:=fun j d=>mk_getD ..
      have hDT : ∀ r, r ∈ Dn.map (·.1) → r ∈ T.map (·.1) ∧ r ∉ rm := fun r hr => by
        obtain ⟨x,hx,rfl⟩:=List.mem_map.1 hr
        exact ⟨List.mem_map.2 ⟨x,(hD x hx).1,rfl⟩,(hD x hx).2⟩
      have hTD : ∀ r, r ∈ T.map (·.1) → r ∉ rm → r ∈ Dn.map (·.1) := fun r hr hn => by
        obtain ⟨x,hx,rfl⟩:=List.mem_map.1 hr
        exact List.mem_map.2 ⟨x,(hT x hx).resolve_right hn,rfl⟩
      have hne0:rm≠[]:=fun e=>by rw [e] at hl; cases hl
      have hready : ∀ i, i ∈ Region.ready .any ops (mk n (Dn.map (·.1) ++ is)) → i ∈ rm ∧ ∀ e ∈ bdeps ops i, e ∈ Dn.map (·.1) ++ is := by
        intro i hi
        obtain ⟨h1,o,ho,hall⟩:=mem_ready.1 hi
        have hin:i < n:=by rw [← hsz]; exact (Array.getElem?_eq_some_iff.1 ho).1
        rw [hlist,if_pos hin,decide_eq_false_iff_not,List.mem_append,not_or] at h1
        have hdep : ∀ e ∈ bdeps ops i, e ∈ Dn.map (·.1) ++ is := fun j hj => by
          obtain ⟨e,he,hb,rfl⟩:=(mem_bdeps ho).1 hj
          have:=hall e he hb
          rw [hlist] at this
          split at this
          · simpa using this
          · cases this
        refine ⟨?_,hdep⟩
        have hiR : i ∈ T.map (·.1) := by
          have hb:=hB1 i hin
          simp only [Bool.or_eq_true,List.contains_eq_mem,decide_eq_true_eq,List.any_eq_true,Bool.and_eq_true,Bool.not_eq_true',decide_eq_false_iff_not,List.all_eq_true] at hb
          rcases hb with ((hb | hb) | hb) | hb
          · exact absurd hb h1.2
          · exact hb
          · exfalso
            obtain ⟨e,he,hb1,hb2⟩:=hb
            rcases List.mem_append.1 (hdep e he) with h3 | h3
            · exact hb2 (hDT _ h3).1
            · exact hb1 h3
          · exfalso
            obtain ⟨r,hr,_⟩:=least_mem rm hne0
            obtain ⟨x,hx,rfl⟩:=hrm r hr
            have hxT:x.1 ∈ T.map (·.1):=List.mem_map.2 ⟨x,hx,rfl⟩
            have := upN_sub (ops := ops) (R := T.map (·.1)) (Z := fun e => e ∈ Dn.map (·.1) ++ is) (fun r hrR hz e he => by
              rcases List.mem_append.1 hz with h3 | h3
              · obtain ⟨_,_,o',_,g3⟩:=hR r hrR
                rcases (g3 e he).1 with h4 | h4
                · exact List.mem_append_right _ h4
                · exact List.mem_append_left _ (hdc r h3 e he h4.1)
              · exact absurd h3 (hR r hrR).2.1) _ _ hdep x.1 (hb x.1 hxT)
            rcases List.mem_append.1 this with h3 | h3
            · exact (hDT _ h3).2 hr
            · exact (hR _ hxT).2.1 h3
        exact Classical.byContradiction fun hn=>h1.1 (hTD i hiR hn)
      have hne : Region.ready .any ops (mk n (Dn.map (·.1) ++ is)) ≠ [] := by
        obtain ⟨r,hr,hmin⟩:=least_mem rm hne0
        obtain ⟨x,hx,rfl⟩:=hrm r hr
        obtain ⟨g1,g2,o,ho,g3⟩:=hR x.1 (List.mem_map.2 ⟨x,hx,rfl⟩)
        have : x.1 ∈ Region.ready .any ops (mk n (Dn.map (·.1) ++ is)) := mem_ready.2 ⟨by
          rw [hlist,if_pos g1,decide_eq_false_iff_not,List.mem_append,not_or]
          exact ⟨fun h3=>(hDT _ h3).2 hr,g2⟩,o,ho,fun e he hb=>by
          have hd:=g3 e.on ((mem_bdeps ho).2 ⟨e,he,hb,rfl⟩)
          rw [hlist,if_pos hd.2,decide_eq_true_eq,List.mem_append]
          rcases hd.1 with h4 | h4
          · exact .inr h4
          · exact .inl (hTD _ h4.1 fun h5=>by have:=hmin _ h5; omega)⟩
        intro h0; rw [h0] at this; cases this
      refine ⟨fun h0=>absurd h0 hne,fun i hi=>?_⟩
      obtain ⟨hir,hid⟩:=hready i hi
      obtain ⟨x,hx,rfl⟩:=hrm i hir
      have hxd : ∀ e ∈ bdeps ops x.1, e ∈ T.map (·.1) → e ∈ Dn.map (·.1) := fun e he heT => by
        rcases List.mem_append.1 (hid e he) with h3 | h3
        · exact h3
        · exact absurd h3 (hR e heT).2.1
      refine wpOp_mono (fun a' w' hI'=>?_) (step Dn x hx (fun y hy=>⟨(hD y hy).1,fun e=>(hD y hy).2 (e ▸ hir)⟩) hxd w a hI)
      refine ⟨hS0 _ _ _ hI',?_⟩
      have:=ih (Dn++[x]) (rm.erase x.1) a' w' (by rw [List.length_erase_of_mem hir,hl]; rfl) (hnd'.erase _) (fun y hy=>?_) (fun y hy=>?_) (fun r hr=>hrm r (List.mem_of_mem_erase hr)) (fun r hr e he heT=>?_) hI'
      · show Go.wpAnyH P .any ops (NQ Q) S0 (f + m) ((mk n (Dn.map (·.1)++is)).setIfInBounds x.1 true) a' w'
        have e:(mk n (Dn.map (·.1)++is)).setIfInBounds x.1 true=mk n (x.1::(Dn.map (·.1)++is)):=rfl
        rw [e,mk_congr (is':=(Dn++[x]).map (·.1)++is) (fun j=>by simp only [List.map_append,List.map_cons,List.map_nil,List.mem_append,List.mem_cons,List.not_mem_nil,or_false]; rw [← or_assoc,or_comm (a:=j=x.1),or_assoc])]
        exact this
      · rcases hT y hy with h3 | h3
        · exact .inl (List.mem_append_left _ h3)
        · by_cases e:y.1=x.1
          · left
            have:y=x:=fst_inj hnd hy hx e
            subst this; simp
          · exact .inr ((List.Nodup.mem_erase_iff hnd').2 ⟨e,h3⟩)
      · rcases List.mem_append.1 hy with h3 | h3
        · exact ⟨(hD y h3).1,fun h4=>(hD y h3).2 (List.mem_of_mem_erase h4)⟩
        · obtain rfl:y=x:=by simpa using h3
          exact ⟨hx,fun h4=>((List.Nodup.mem_erase_iff hnd').1 h4).1 rfl⟩
      · rw [List.map_append] at hr ⊢
        rcases List.mem_append.1 hr with h3 | h3
        · exact List.mem_append_left _ (hdc r h3 e he heT)
        · obtain rfl:r=x.1:=by simpa using h3
          exact List.mem_append_left _ (hxd e he heT)
  intro w hS a ha
  rw [hF]
  have:=key T.length [] (T.map (·.1)) a w (by simp) hnd (fun x hx=>.inr (List.mem_map.2 ⟨x,hx,rfl⟩)) (by simp) (fun r hr=>by obtain ⟨x,hx,rfl⟩:=List.mem_map.1 hr; exact ⟨x,hx,rfl⟩) (by simp) (h0 w hS a ha)
  simpa using this
end
inductive Job where
  | val (d:Nat) (v:Value)
  | row (d e k n:Nat) (xs:List Value)
def Job.d : Job → Nat
  | .val d _=>d
  | .row d ..=>d
def Job.is (u : Value) : Job → Value
  | .val _ v=>v
  | .row ..=>u
def Job.own (u : Value) : Job → List Own
  | .val ..=>[]
  | .row _ e k n xs=>[.row u e k n xs]
section
variable {P:Program} {N n:Nat} {D:List Deferred} {E:Env} {S0:World→Prop} {Q:Exit→Act→World→Prop} {w0:World} {M:Fp} {L:List Own} {ops:Array Oper} {f F:Nat} {is:List Nat} {T:List (Nat × Job)}
theorem nodup_inj {α β : Type} {g : α → β} : ∀ {T : List α}, (T.map g).Nodup → ∀ {x y : α}, y ∈ T → x ∈ T → g y = g x → y = x
  | [],_,_,_,h,_,_=>by cases h
  | z :: T, hp, x, y, hy, hx, e => by
    rw [List.map_cons,List.nodup_cons] at hp
    rcases List.mem_cons.1 hy with rfl | hy'
    · rcases List.mem_cons.1 hx with rfl | hx'
      · rfl
      · exact absurd (List.mem_map.2 ⟨x,hx',e.symm⟩) hp.1
    · rcases List.mem_cons.1 hx with rfl | hx'
      · exact absurd (List.mem_map.2 ⟨y,hy',e⟩) hp.1
      · exact nodup_inj hp.2 hy' hx' e
theorem nodup_of_map {α β : Type} {g : α → β} {T : List α} (h : (T.map g).Nodup) : T.Nodup := by
  induction T with
  | nil=>simp
  | cons x T ih =>
    rw [List.map_cons,List.nodup_cons] at h
    exact List.nodup_cons.2 ⟨fun hx=>h.1 (List.mem_map_of_mem hx),ih h.2⟩
theorem Mem.swap {w : World} (A : List Own) {x y : Own} (h : Mem w0 M (A ++ x :: y :: L) w) : Mem w0 M (A ++ y :: x :: L) w :=
  h.emb (fun i => if i = A.length then A.length + 1 else if i = A.length + 1 then A.length else i) (fun i j e => by split at e <;> split at e <;> (try split at e) <;> (try split at e) <;> omega) fun j o hj => by
    by_cases h1:j=A.length
    · rw [if_pos h1]; subst h1
      rw [List.getElem?_append_right (by omega)] at hj ⊢
      simp at hj ⊢; exact hj
    · rw [if_neg h1]
      by_cases h2:j=A.length + 1
      · rw [if_pos h2]; subst h2
        rw [List.getElem?_append_right (by omega)] at hj ⊢
        simp at hj ⊢; exact hj
      · rw [if_neg h2]
        rcases Nat.lt_or_ge j A.length with h3 | h3
        · rw [List.getElem?_append_left h3] at hj ⊢; exact hj
        · rw [List.getElem?_append_right h3] at hj ⊢
          obtain ⟨k,hk⟩:∃ k,j - A.length=k + 2:=⟨j - A.length - 2,by omega⟩
          rw [hk] at hj ⊢
          simpa using hj
theorem Mem.perm {w : World} {B C : List Own} (hp : B.Perm C) : ∀ (A : List Own), Mem w0 M (A ++ B) w → Mem w0 M (A ++ C) w := by
  induction hp with
  | nil=>exact fun _ h=>h
  | cons x _ ih=>intro A h; have:=ih (A++[x]) (by simpa using h); simpa using this
  | swap x y l=>exact fun A h=>h.swap A
  | trans _ _ ih1 ih2=>exact fun A h=>ih2 A (ih1 A h)
theorem Mem.tail {w : World} {A : List Own} (h : Mem w0 M (A ++ L) w) : Mem w0 M L w :=
  h.emb (fun i=>A.length + i) (fun i j e=>by omega) fun j o hj=>by rw [List.getElem?_append_right (by omega)]; simpa using hj
theorem Has.same {a : Act} (h : Has N D a E) {d : Nat} (hd : look E d = none) (v : Value) : Has N D (a.put (some d) v) E := by
  refine ⟨h.d,by simp [Act.put,h.n],fun t u hu=>?_⟩
  have hne:d≠t:=fun e=>by subst e; rw [hd] at hu; cases hu
  simp only [Act.put]
  rw [Array.getElem?_setIfInBounds_ne hne]
  exact h.h t u hu
theorem Has.all {a : Act} : ∀ {E1 : Env}, Has N D a E → (∀ p ∈ E1, a.tmps[p.1]? = some p.2) → Has N D a (E1 ++ E)
  | [],h,_=>h
  | p :: r, h, h1 => by
    have ih:=Has.all (E1:=r) h fun q hq=>h1 q (List.mem_cons_of_mem _ hq)
    refine ⟨ih.d,ih.n,fun t v hv=>?_⟩
    rw [List.cons_append,look_cons] at hv
    by_cases e:p.1=t
    · rw [if_pos e] at hv; rw [← e,h1 p (List.mem_cons_self ..)]; exact hv
    · rw [if_neg e] at hv; exact ih.h t v hv
def preOk (ops : Array Oper) (T : List (Nat × Job)) (i : Nat) : List (Nat × Nat × Value) → Prop
  | []=>True
  | y::r=>(∃ j:Nat,T[j]?=some (y.1,.val y.2.1 y.2.2))∧(bdeps ops i).contains y.1=true∧preOk ops T i r
def envP (pre:List (Nat × Nat × Value)):Env:=pre.map (·.2)
def jobAt (P : Program) (N : Nat) (D : List Deferred) (ops : Array Oper) (E : Env) (w0 : World) (M : Fp) (L : List Own) (T : List (Nat × Job)) (x : Nat × Job) : Prop :=
  look E x.2.d=none∧Nat.blt x.2.d N=true∧∃ pre,preOk ops T x.1 pre∧match x.2 with
  | .val d v=>∃ op ty pos aft,ops[x.1]?=some ⟨some d,op,ty,pos,aft,none⟩∧Runs P N D (envP pre++E) (Mem w0 M L) op ty v
  | .row d e k n xs => ∃ c args ts vs ty pos aft, ops[x.1]? = some ⟨some d, .call { callee := .value (.func c), args := args, argTypes := ts }, ty, pos, aft, none⟩ ∧ evs (envP pre ++ E) args.toList = some vs ∧ (∀ vs w, (callFunc c vs).run P w = .ok (.enter c vs) w) ∧
    ∀ w,Mem w0 M L w→Calls P c vs.toArray w (RetRow w e k n xs)
def jobAll (P : Program) (N : Nat) (D : List Deferred) (ops : Array Oper) (E : Env) (w0 : World) (M : Fp) (L : List Own) (T : List (Nat × Job)) : List (Nat × Job) → Prop
  | []=>True
  | x::r=>jobAt P N D ops E w0 M L T x∧jobAll P N D ops E w0 M L T r
theorem jv_ {i d : Nat} {v : Value} {op : Op} {ty : TypeId} {pos : String} {aft : Array Edge} (pre : List (Nat × Nat × Value)) (hp : preOk ops T i pre) (hl : look E d = none) (hd : Nat.blt d N = true) (h : ops[i]? = some ⟨some d, op, ty, pos, aft, none⟩) (hr : Runs P N D (envP pre ++ E) (Mem w0 M L) op ty v) : jobAt P N D ops E w0 M L T (i, .val d v) :=
  ⟨hl,hd,pre,hp,op,ty,pos,aft,h,hr⟩
theorem jr_ {i c d e k n : Nat} {xs : List Value} {args : Array Operand} {ts : Array TypeId} {vs : List Value} {ty : TypeId} {pos : String} {aft : Array Edge} (pre : List (Nat × Nat × Value)) (hp : preOk ops T i pre) (hl : look E d = none) (hd : Nat.blt d N = true) (h : ops[i]? = some ⟨some d, .call { callee := .value (.func c), args := args, argTypes := ts }, ty, pos, aft, none⟩) (ha : evs (envP pre ++ E) args.toList = some vs) (hcall : ∀ vs w, (callFunc c vs).run P w = .ok (.enter c vs) w)
    (hc:∀ w,Mem w0 M L w→Calls P c vs.toArray w (RetRow w e k n xs)):jobAt P N D ops E w0 M L T (i,.row d e k n xs):=⟨hl,hd,pre,hp,c,args,ts,vs,ty,pos,aft,h,ha,hcall,hc⟩
theorem jobAll.at : ∀ {T' : List (Nat × Job)}, jobAll P N D ops E w0 M L T T' → ∀ x ∈ T', jobAt P N D ops E w0 M L T x
  | [],_,x,hx=>by cases hx
  | y :: T', h, x, hx => by
    rcases List.mem_cons.1 hx with rfl | hx
    · exact h.1
    · exact jobAll.at h.2 x hx
theorem gO (T : List (Nat × Job)) (hsz : ops.size = n) (hB : dagB ops n is (T.map (·.1)) = true) (hnd : (T.map (·.1)).Nodup) (hdd : (T.map (·.2.d)).Nodup) (hF : F = f + T.length)
    (hI:jobAll P N D ops E w0 M L T T) (hS0:∀ w,Mem w0 M L w→S0 w)
    (h:∀ val:Nat→Value,WN P N D ops n Q S0 f (T.map (·.1)++is) (T.map (fun x=>(x.2.d,x.2.is (val x.1)))++E) (Mem w0 M (T.flatMap (fun x=>x.2.own (val x.1))++L))):WN P N D ops n Q S0 F is E (Mem w0 M L):=by
  refine n_dag T (fun Dn a w=>Dn.Nodup∧∃ val:Nat→Value,Has N D a E∧(∀ x ∈ Dn,a.tmps[x.2.d]?=some (x.2.is (val x.1)))∧Mem w0 M (Dn.flatMap (fun x=>x.2.own (val x.1))++L) w) hsz hB hnd hF (fun w hw a ha=>⟨by simp,fun _=>undef,ha,by simp,hw⟩) (fun Dn a w hw=>by obtain ⟨_,val,_,_,hm⟩:=hw; exact hS0 w hm.tail) (fun Dn x hx hDn hdep w a hJ=>?_) fun Dn hDn a w hJ=>?_
  · obtain ⟨hdn,val,ha,hv,hm⟩:=hJ
    obtain ⟨hl,hd,pre,hpre,hjob⟩:=hI.at x hx
    have hd':x.2.d < N:=by simpa [Nat.blt_eq] using hd
    have hxn:x ∉ Dn:=fun h1=>(hDn x h1).2 rfl
    have hdne : ∀ y ∈ Dn, y.2.d ≠ x.2.d := fun y hy e => by
      have:=nodup_inj hdd (hDn y hy).1 hx e
      exact (hDn y hy).2 (by rw [this])
    have hnd2 : (Dn ++ [x]).Nodup := List.nodup_append.2 ⟨hdn, by simp, fun y hy z hz => by
      obtain rfl:z=x:=by simpa using hz
      exact fun e=>hxn (e ▸ hy)⟩
    have hap : Has N D a (envP pre ++ E) := by
      refine ha.all fun p hp=>?_
      have key : ∀ l, preOk ops T x.1 l → ∀ y ∈ l, a.tmps[y.2.1]? = some y.2.2 := by
        intro l
        induction l with
        | nil=>intro _ y hy; cases hy
        | cons z r ih =>
          intro hz y hy
          rcases List.mem_cons.1 hy with rfl | hy
          · obtain ⟨⟨j,hj⟩,hc,_⟩:=hz
            have hyT:(y.1,Job.val y.2.1 y.2.2) ∈ T:=List.mem_of_getElem? hj
            have h3:=hdep y.1 (by simpa using hc) (List.mem_map.2 ⟨_,hyT,rfl⟩)
            obtain ⟨q,hq,hqe⟩:=List.mem_map.1 h3
            have:q=(y.1,Job.val y.2.1 y.2.2):=nodup_inj hnd (hDn q hq).1 hyT hqe
            subst this
            exact hv _ hq
          · exact ih hz.2.2 y hy
      obtain ⟨y,hy,rfl⟩:=List.mem_map.1 hp
      exact key pre hpre y hy
    have fin : ∀ (u : Value) (w' : World), Mem w0 M (x.2.own u ++ (Dn.flatMap (fun y => y.2.own (val y.1)) ++ L)) w' → (Dn ++ [x]).Nodup ∧ ∃ val : Nat → Value, Has N D (a.put (some x.2.d) (x.2.is u)) E ∧ (∀ y ∈ Dn ++ [x], (a.put (some x.2.d) (x.2.is u)).tmps[y.2.d]? = some (y.2.is (val y.1))) ∧ Mem w0 M ((Dn ++ [x]).flatMap (fun y => y.2.own (val y.1)) ++ L) w' := fun u w' h2 => by
      refine ⟨hnd2,fun i=>if i=x.1 then u else val i,ha.same hl _,fun y hy=>?_,?_⟩
      · show _=some (y.2.is (if y.1=x.1 then u else val y.1))
        rcases List.mem_append.1 hy with h1 | h1
        · rw [if_neg (hDn y h1).2]
          simp only [Act.put]
          rw [Array.getElem?_setIfInBounds_ne (fun e=>hdne y h1 e.symm)]
          exact hv y h1
        · obtain rfl:y=x:=by simpa using h1
          rw [if_pos rfl]
          simp only [Act.put]
          rw [Array.getElem?_setIfInBounds_self_of_lt (by rw [ha.n]; exact hd')]
      · have e1 : (Dn ++ [x]).flatMap (fun y => y.2.own (if y.1 = x.1 then u else val y.1)) = Dn.flatMap (fun y => y.2.own (val y.1)) ++ x.2.own u := by
          rw [List.flatMap_append]
          congr 1
          · rw [List.flatMap_def,List.flatMap_def]
            congr 1
            exact List.map_congr_left fun y hy=>by rw [if_neg (hDn y hy).2]
          · simp
        rw [e1]
        refine Mem.perm (B:=x.2.own u++(Dn.flatMap (fun y=>y.2.own (val y.1))++L)) ?_ [] (by simpa using h2)
        rw [← List.append_assoc]
        exact List.Perm.append_right L List.perm_append_comm
    unfold wpOp
    match hxx:x.2,hjob with
    | .val d v, hjob =>
      obtain ⟨op,ty,pos,aft,ho,hr⟩:=hjob
      simp only [ho]
      have hwn:Region.wanted (⟨some d,op,ty,pos,aft,none⟩:Oper) (yielded ops a.tmps)=true:=rfl
      rw [if_pos hwn]
      left
      unfold Oper.wp
      rw [hr _ rfl rfl a w hap hm.tail]
      have:=fin undef w (by rw [hxx]; exact hm)
      rw [hxx] at this
      exact this
    | .row d e k n' xs, hjob =>
      obtain ⟨c,args,ts,vs,ty,pos,aft,ho,hargs,hcall,hc⟩:=hjob
      simp only [ho]
      have hwn:Region.wanted (⟨some d,.call { callee:=.value (.func c),args:=args,argTypes:=ts },ty,pos,aft,none⟩:Oper) (yielded ops a.tmps)=true:=rfl
      rw [if_pos hwn]
      left
      unfold Oper.wp
      rw [run_call hap (by rfl) hargs hcall rfl,Oper.upon_enter,Array.append_empty]
      refine (hc w hm.tail).mono ?_
      rintro e' w' ⟨v,rfl,hf,hr⟩
      have:=fin v w' (by rw [hxx]; exact hm.addRow hf hr)
      rw [hxx] at this
      exact this
  · obtain ⟨hdn,val,ha,hv,hm⟩:=hJ
    have hp:Dn.Perm T:=(List.perm_ext_iff_of_nodup hdn (nodup_of_map hnd)).2 hDn
    refine h val w (Mem.perm (B:=Dn.flatMap (fun x=>x.2.own (val x.1))++L) (List.Perm.append_right L (hp.flatMap_right _)) [] hm) a (ha.all fun p hp'=>?_)
    obtain ⟨x,hx,rfl⟩:=List.mem_map.1 hp'
    exact hv x ((hDn x).2 hx)
theorem jw {S S':World→Prop} {E':Env} (hs:subB E E') (hS:∀ w,S w→S' w) (h:WN P N D ops n Q S0 f is E' S'):WN P N D ops n Q S0 f is E S:=fun w hw a ha=>h w (hS w hw) a (ha.less hs.all)
theorem jO {α : Type} {enc : α → List Value} {e k : Nat} {v : Value} {l : List α} (i : Nat) (hL : L[i]? = some (Row v e k enc l)) (h : ∀ A c, v = .slice A l.length c → l.length ≤ c → c ≤ 9223372036854775807 → (l ≠ [] → ∃ ad, A = some ad) → WN P N D ops n Q S0 f is E (Mem w0 M L)) : WN P N D ops n Q S0 f is E (Mem w0 M L) :=
  fun w hS=>by obtain ⟨A,c,h1,h2,h3,h4⟩:=row_form' (hS.row hL); exact h A c h1 h2 h3 h4 w hS
end
def WLp (P : Program) (N : Nat) (D : List Deferred) (c : Code) (Q : Exit → Act → World → Prop) (E : Env) (S : World → Prop) : Prop :=
  ∀ w,S w→∀ a,Has N D a E→∀ b k cs,∃ e a' w',Q e a' w'∧Arrives P (lone (b.at a (.code c::.inLoop c::k)) cs w) b k cs e a' w'
section
variable {P:Program} {N:Nat} {D:List Deferred} {E:Env} {S:World→Prop} {Q:Exit→Act→World→Prop} {K:Act→World→Prop} {c:Code}
theorem c_enter (h : WLp P N D c Q E S) : WC P N D (.loop c) Q E S := fun w hw a ha b k cs => by
  obtain ⟨e',a',w',hq',harr'⟩:=h w hw a ha b k cs
  exact ⟨e',a',w',hq',.of_steps (.one step_loop) harr'⟩
theorem jS (h : ∀ K : Act → World → Prop, (∀ E S, WLp P N D c Q E S → ∀ w, S w → ∀ a, Has N D a E → K a w) → WC P N D c (Exit.then K Q) E S) : WLp P N D c Q E S := by
  intro w hw a ha b k cs
  obtain ⟨e,a₁,w₁,hq,harr⟩:=h (fun a w=>∀ b k cs,∃ e a' w',Q e a' w'∧Arrives P (lone (b.at a (.code c::.inLoop c::k)) cs w) b k cs e a' w') (fun _ _ h' w' hw' a' ha'=>h' w' hw' a' ha') w hw a ha b (.inLoop c::k) cs
  cases e with
  | normal =>
    obtain ⟨e₂,a₂,w₂,hq₂,harr₂⟩:=(show ∀ b k cs,∃ e a' w',Q e a' w'∧Arrives P (lone (b.at a₁ (.code c::.inLoop c::k)) cs w₁) b k cs e a' w' from hq) b k cs
    exact ⟨e₂,a₂,w₂,hq₂,.of_steps (Steps.trans harr (.one step_inLoop)) harr₂⟩
  | exit id=>exact ⟨_,a₁,w₁,hq,.pass (x:=.inLoop c) rfl (fun _ _=>.inl (by simp)) harr⟩
  | goto l=>exact ⟨_,a₁,w₁,hq,.pass (x:=.inLoop c) rfl (fun _ _=>.inl (by simp)) harr⟩
  | ret=>exact ⟨_,a₁,w₁,hq,.pass (x:=.inLoop c) rfl (fun _ _=>.inl (by simp)) harr⟩
  | panic ch=>exact ⟨_,a₁,w₁,hq,.pass (x:=.inLoop c) rfl (fun _ _=>.inl (by simp)) harr⟩
  | outgrown=>exact ⟨_,a₁,w₁,hq,.pass (x:=.inLoop c) rfl (fun _ _=>.inl (by simp)) harr⟩
theorem gP (hK:∀ E S,WLp P N D c Q E S→∀ w,S w→∀ a,Has N D a E→K a w) (h:WLp P N D c Q E S):WE N D (Exit.then K Q) .normal E S:=fun w hw a ha=>hK E S h w hw a ha
end
section
variable {P:Program} {N:Nat} {D:List Deferred} {E:Env} {Q:Exit→Act→World→Prop} {w0 w w':World} {M:Fp} {L:List Own} {ops:Array Oper} {rest:List Oper} {d:Nat} {ty:TypeId} {pos:String} {aft:Array Edge} {g:Option (Nat × Bool)} {u v:Value}
def ShLAt (S:Nat→Prop) (v:Value) (s:Shelf) (l:List Sample) (w:World):Prop:=∃ a r,v=.tuple (List.toArray [a,r])∧ShelfAt S a s w∧zJ S 2 zo r l w
theorem ShLAt.loc (v:Value) (s:Shelf) (l:List Sample):Loc (fun S=>ShLAt S v s l):=fun S S' u u' hs hk ⟨a,r,e,h1,h2⟩=>⟨a,r,e,ShelfAt.loc a s S S' u u' hs hk h1,zJ.loc _ _ _ _ S S' u u' hs hk h2⟩
end
end Ex
end
section
open Tryz
open Ex
set_option linter.unusedVariables false
set_option linter.unusedSimpArgs false
theorem uM (lv : Value) (l : List Label) (w : World) (hl : zJ (In w) 2 zj lv l w) (hl1 : l.length ≤ 1048576) :
    Calls prog 61 #[lv] w (RetL w 74 2 zj l):=by
 obtain ⟨lA,lc,rfl,hlc,hlm,hlA⟩:=hl.form
 refine fstart (N:=8) (vals:=[.slice lA l.length lc]) (S:=Mem w no [slO (In w) 2 zj (.slice lA l.length lc) l]) func61 rfl rfl rfl (Mem.ofDats (dc (dl hl) dn)) (zG fun _ hK1=>zP rfl (zD hK1 (zS fun _ hK2=>zG fun _ hK3=>zE rfl (zB (jl rfl rfl underlying39) (zD hK3 (yp rfl (fun h1=>?_) (fun h1=>?_)))))))
 · refine zG fun _ hK4=>zP rfl (zD hK4 (zX (zK (zY (.inl rfl) results61 (zR rfl) fun w1 hM=>?_))))
   have hM:=hM.uP Label 74 2 zj
   exact hM.uh 0 rfl (Sh.isNone_nil hlA h1)
 refine yK hK2 (zG fun _ hK5=>ju zj wn underlying39 inf74 rfl fun b5=>zE rfl (vG 0 ([]:List Label) l encLabel wn rfl rfl rfl (fun _ hM=>(hM.sl 1 rfl)) underlying39 inf74 rfl rfl (by simp only [List.length_append,List.length_cons,List.length_nil]; omega) rfl fun A1 cp1 hc1 hm1 hA1=>zP rfl (zD hK5 (zX (zY (.inl rfl) results61 (zR rfl) fun w1 hM=>?_)))))
 exact hM.uh 0 rfl rfl
theorem c_cloneSample (lv : Value) (l : List Sample) (w : World) (hl : zJ (In w) 2 zo lv l w) (hl1 : l.length ≤ 1048576) :
    Calls prog 166 #[lv] w (RetL w 41 2 zo l):=by
 obtain ⟨lA,lc,rfl,hlc,hlm,hlA⟩:=hl.form
 refine fstart (N:=8) (vals:=[.slice lA l.length lc]) (S:=Mem w no [slO (In w) 2 zo (.slice lA l.length lc) l]) func166 rfl rfl rfl (Mem.ofDats (dc (dl hl) dn)) (zG fun _ hK1=>zP rfl (zD hK1 (zS fun _ hK2=>zG fun _ hK3=>zE rfl (zB (jl rfl rfl underlying47) (zD hK3 (yp rfl (fun h1=>?_) (fun h1=>?_)))))))
 · refine zG fun _ hK4=>zP rfl (zD hK4 (zX (zK (zY (.inl rfl) results166 (zR rfl) fun w1 hM=>?_))))
   have hM:=hM.uP Sample 41 2 zo
   exact hM.uh 0 rfl (Sh.isNone_nil hlA h1)
 refine yK hK2 (zG fun _ hK5=>ju zo wn underlying47 inf41 rfl fun b5=>zE rfl (vG 0 ([]:List Sample) l encSample wn rfl rfl rfl (fun _ hM=>(hM.sl 1 rfl)) underlying47 inf41 rfl rfl (by simp only [List.length_append,List.length_cons,List.length_nil]; omega) rfl fun A1 cp1 hc1 hm1 hA1=>zP rfl (zD hK5 (zX (zY (.inl rfl) results166 (zR rfl) fun w1 hM=>?_)))))
 exact hM.uh 0 rfl rfl
theorem c_cloneBucket (lv : Value) (l : List Bucket) (w : World) (hl : zJ (In w) 8 zU lv l w) (hl1 : l.length ≤ 1048576) :
    Calls prog 167 #[lv] w (RetL w 163 8 zU l):=by
 obtain ⟨lA,lc,rfl,hlc,hlm,hlA⟩:=hl.form
 refine fstart (N:=8) (vals:=[.slice lA l.length lc]) (S:=Mem w no [slO (In w) 8 zU (.slice lA l.length lc) l]) func167 rfl rfl rfl (Mem.ofDats (dc (dl hl) dn)) (zG fun _ hK1=>zP rfl (zD hK1 (zS fun _ hK2=>zG fun _ hK3=>zE rfl (zB (jl rfl rfl underlying48) (zD hK3 (yp rfl (fun h1=>?_) (fun h1=>?_)))))))
 · refine zG fun _ hK4=>zP rfl (zD hK4 (zX (zK (zY (.inl rfl) results167 (zR rfl) fun w1 hM=>?_))))
   have hM:=hM.uP Bucket 163 8 zU
   exact hM.uh 0 rfl (Sh.isNone_nil hlA h1)
 refine yK hK2 (zG fun _ hK5=>ju zU wn underlying48 inf163 rfl fun b5=>zE rfl (vG 0 ([]:List Bucket) l encBucket wn rfl rfl rfl (fun _ hM=>(hM.sl 1 rfl)) underlying48 inf163 rfl rfl (by simp only [List.length_append,List.length_cons,List.length_nil]; omega) rfl fun A1 cp1 hc1 hm1 hA1=>zP rfl (zD hK5 (zX (zY (.inl rfl) results167 (zR rfl) fun w1 hM=>?_)))))
 exact hM.uh 0 rfl rfl
theorem gE (z0 : Value) (z1 : Value) (z2 : Value) (z3 : Value) (z : Shelf) (P0 : Nat → Prop) (w : World) (hP0 : ∀ b, P0 b → b < w.heap.size) (hz0 : zJ P0 2 zj z0 z.zV w) (hz1 : zJ P0 2 zo z1 z.raw w) (hz2 : zJ P0 8 zU z2 z.fine w) (hz3 : zJ P0 8 zU z3 z.coarse w) (hs1 : z.zV.length ≤ 1048576 ∧ z.raw.length ≤ 1048576 ∧ z.fine.length ≤ 1048576 ∧ z.coarse.length ≤ 1048576) :
    Calls prog 119 #[.agg (List.toArray [z0,z1,z2,z3,iV z.ze,iV z.zW,iV z.zI,iV z.zN,iV z.zH])] w (RetOwn w 74 41 163 163 z):=by
 obtain ⟨z0A,z0c,rfl,hz0c,hz0m,hz0A⟩:=hz0.form
 obtain ⟨z1A,z1c,rfl,hz1c,hz1m,hz1A⟩:=hz1.form
 obtain ⟨z2A,z2c,rfl,hz2c,hz2m,hz2A⟩:=hz2.form
 obtain ⟨z3A,z3c,rfl,hz3c,hz3m,hz3A⟩:=hz3.form
 refine fstart (N:=20) (vals:=[.agg (List.toArray [.slice z0A z.zV.length z0c,.slice z1A z.raw.length z1c,.slice z2A z.fine.length z2c,.slice z3A z.coarse.length z3c,iV z.ze,iV z.zW,iV z.zI,iV z.zN,iV z.zH])]) (S:=Mem w ⟨no,P0⟩ [slP 2 zj (.slice z0A z.zV.length z0c) z.zV,slP 2 zo (.slice z1A z.raw.length z1c) z.raw,slP 8 zU (.slice z2A z.fine.length z2c) z.fine,slP 8 zU (.slice z3A z.coarse.length z3c) z.coarse]) func119 rfl rfl rfl (Mem.ofDatsP hP0 (dc (dlp hz0) (dc (dlp hz1) (dc (dlp hz2) (dc (dlp hz3) dn))))) (zG fun _ hK1=>vS wn rfl rfl fun b1=>yC wn inf50 rfl fun b2=>zD hK1 (zS fun _ hK2=>vL (Mem w ⟨no,P0⟩ [.blk b2 [Zs,Zs,Zs,Zs,iV 0,iV 0,iV 0,iV 0,iV 0] 50,slP 2 zj (.slice z0A z.zV.length z0c) z.zV,slP 2 zo (.slice z1A z.raw.length z1c) z.raw,slP 8 zU (.slice z2A z.fine.length z2c) z.fine,slP 8 zU (.slice z3A z.coarse.length z3c) z.coarse]) mix (fun _ h=>h.drew) rfl (vK 16 [0,3,6,9] [0,2,3,4,5] rfl fun KS hKS=>yD (za rfl fld50_0) (yD (za rfl fld50_1) (yD (za rfl fld50_2) (yD (za rfl fld50_3) ?_))))))
 refine yd hKS (gO (f:=7) [(1,.val 4 (.slice z0A z.zV.length z0c)),(2,.row 5 74 2 z.zV.length (z.zV.flatMap zj)),(4,.val 7 (.slice z1A z.raw.length z1c)),(5,.row 8 41 2 z.raw.length (z.raw.flatMap zo)),(7,.val 10 (.slice z2A z.fine.length z2c)),(8,.row 11 163 8 z.fine.length (z.fine.flatMap zU)),(10,.val 13 (.slice z3A z.coarse.length z3c)),(11,.row 14 163 8 z.coarse.length (z.coarse.flatMap zU)),(12,.val 15 (.pointer (some ⟨b1,0,none⟩)))] rfl (by kernel_rfl) (nd [1,2,4,5,7,8,10,11,12] rfl (by decide)) (nd [4,5,7,8,10,11,13,14,15] rfl (by decide)) rfl ⟨jv_ [] trivial rfl rfl rfl (zg 1 rfl rfl rfl flat39),jr_ [(1,4,.slice z0A z.zV.length z0c)] (⟨⟨0,rfl⟩,rfl,trivial⟩) rfl rfl rfl rfl call61 (fun w1 hM=>uM _ z.zV w1 (hM.slp 2 rfl) (by omega)),jv_ [] trivial rfl rfl rfl (zg 1 rfl rfl rfl flat47),jr_ [(4,7,.slice z1A z.raw.length z1c)] (⟨⟨2,rfl⟩,rfl,trivial⟩) rfl rfl rfl rfl call166 (fun w1 hM=>c_cloneSample _ z.raw w1 (hM.slp 3 rfl) (by omega)),jv_ [] trivial rfl rfl rfl (zg 1 rfl rfl rfl flat48),jr_ [(7,10,.slice z2A z.fine.length z2c)] (⟨⟨4,rfl⟩,rfl,trivial⟩) rfl rfl rfl rfl call167 (fun w1 hM=>c_cloneBucket _ z.fine w1 (hM.slp 4 rfl) (by omega)),jv_ [] trivial rfl rfl rfl (zg 1 rfl rfl rfl flat48),jr_ [(10,13,.slice z3A z.coarse.length z3c)] (⟨⟨6,rfl⟩,rfl,trivial⟩) rfl rfl rfl rfl call167 (fun w1 hM=>c_cloneBucket _ z.coarse w1 (hM.slp 5 rfl) (by omega)),jv_ [] trivial rfl rfl rfl (za rfl fld50_0),trivial⟩ (S9 [0,2,3,4,5]) fun val1=>jw (E':=[(0,.agg (List.toArray [.slice z0A z.zV.length z0c,.slice z1A z.raw.length z1c,.slice z2A z.fine.length z2c,.slice z3A z.coarse.length z3c,iV z.ze,iV z.zW,iV z.zI,iV z.zN,iV z.zH])),(1,.pointer (some ⟨b1,0,none⟩)),(2,.pointer (some ⟨b2,0,none⟩)),(3,.pointer (some ⟨b1,0,none⟩)),(4,.slice z0A z.zV.length z0c),(5,(val1 2)),(6,.pointer (some ⟨b1,1,none⟩)),(7,.slice z1A z.raw.length z1c),(8,(val1 5)),(9,.pointer (some ⟨b1,2,none⟩)),(10,.slice z2A z.fine.length z2c),(11,(val1 8)),(12,.pointer (some ⟨b1,3,none⟩)),(13,.slice z3A z.coarse.length z3c),(14,(val1 11)),(15,.pointer (some ⟨b1,0,none⟩))]) (S':=Mem w ⟨no,P0⟩ [Row (val1 2) 74 2 zj z.zV,Row (val1 5) 41 2 zo z.raw,Row (val1 8) 163 8 zU z.fine,Row (val1 11) 163 8 zU z.coarse,.blk b2 [Zs,Zs,Zs,Zs,iV 0,iV 0,iV 0,iV 0,iV 0] 50,.blk b1 [.slice z0A z.zV.length z0c,.slice z1A z.raw.length z1c,.slice z2A z.fine.length z2c,.slice z3A z.coarse.length z3c,iV z.ze,iV z.zW,iV z.zI,iV z.zN,iV z.zH] 50,slP 2 zj (.slice z0A z.zV.length z0c) z.zV,slP 2 zo (.slice z1A z.raw.length z1c) z.raw,slP 8 zU (.slice z2A z.fine.length z2c) z.fine,slP 8 zU (.slice z3A z.coarse.length z3c) z.coarse]) (sc rfl (sc rfl (sc rfl (sc rfl (sc rfl (sc rfl (sc rfl (sc rfl (sc rfl (sc rfl (sc rfl (sc rfl (sc rfl (sc rfl (sc rfl (sc rfl sn)))))))))))))))) (fun _ h=>h) (jO 0 (l:=z.zV) (enc:=zj) rfl fun A1 cp1 hv1 hc1 hm1 hA1=>?_))
 rw [hv1]
 refine jO 1 (l:=z.raw) (enc:=zo) rfl fun A2 cp2 hv2 hc2 hm2 hA2=>?_
 rw [hv2]
 refine jO 2 (l:=z.fine) (enc:=zU) rfl fun A3 cp3 hv3 hc3 hm3 hA3=>?_
 rw [hv3]
 refine jO 3 (l:=z.coarse) (enc:=zU) rfl fun A4 cp4 hv4 hc4 hm4 hA4=>?_
 rw [hv4]
 refine yY 6 13 (yb (i:=13) rfl fun KN hKN=>yt 5 wn rfl rfl rfl rfl inf39 rfl rfl (yP hKN [4,6,7,8,9] (vK 5 [14] [4,6,7,8,9] rfl fun KS hKS=>yD (za rfl fld50_1) (yd hKS (yY 4 15 (yb (i:=15) rfl fun KN hKN=>yt 5 wn rfl rfl rfl rfl inf47 rfl rfl (yP hKN [4,6,7,8,9] (vK 3 [16] [4,6,7,8,9] rfl fun KS hKS=>?_))))))))
 refine yD (za rfl fld50_2) (yd hKS (yY 2 17 (yb (i:=17) rfl fun KN hKN=>yt 5 wn rfl rfl rfl rfl inf48 rfl rfl (yP hKN [4,6,7,8,9] (vK 1 [18] [4,6,7,8,9] rfl fun KS hKS=>yD (za rfl fld50_3) (yd hKS (yY 0 19 (yb (i:=19) rfl fun KN hKN=>yt 5 wn rfl rfl rfl rfl inf48 rfl rfl ?_))))))))
 refine yP hKN [4,6,7,8,9] (yu (by kernel_rfl) (zy hK2 (zG fun _ hK3=>zB (yM 5 [.slice A1 z.zV.length cp1,.slice A2 z.raw.length cp2,.slice A3 z.fine.length cp3,.slice A4 z.coarse.length cp4,iV z.ze,iV z.zW,iV z.zI,iV z.zN,iV z.zH] rfl rfl rfl rfl agg50 inf50) (zr 4 wn rfl rfl rfl inf50 rfl rfl rfl (zD hK3 (zX (zY (.inl rfl) results119 (zt 4 rfl rfl agg50 inf50 rfl) fun w1 hM=>?_)))))))
 exact (hM.sel [0,1,2,3] (by decide) rfl).retOwn
end
section
open Tryz
open Ex
set_option linter.unusedVariables false
set_option linter.unusedSimpArgs false
theorem c_new (lv : Value) (l : List Label) (P0 : Nat → Prop) (w : World) (hP0 : ∀ b, P0 b → b < w.heap.size) (hl : zJ P0 2 zj lv l w) (hl1 : l.length ≤ 1048576) :
    Calls prog 113 #[lv] w (RetSh w P0 (fun u=>u) ⟨l,[],[],[],0,0,0,0,0⟩):=by
 obtain ⟨lA,lc,rfl,hlc,hlm,hlA⟩:=hl.form
 refine fstart (N:=6) (vals:=[.slice lA l.length lc]) (S:=Mem w ⟨no,P0⟩ [slP 2 zj (.slice lA l.length lc) l]) func113 rfl rfl rfl (Mem.ofDatsP hP0 (dc (dlp hl) dn)) (zG fun _ hK1=>yC wn inf50 rfl fun b2=>zD hK1 (zG fun _ hK2=>zE rfl (uU l wn rfl call61 rfl (fun w1 hM=>uM _ l w1 (hM.slp 1 rfl) (by omega)) fun A1 cp1 hc1 hm1 hA1=>zB (zz [.slice A1 l.length cp1,Zs,Zs,Zs,iV 0,iV 0,iV 0,iV 0,iV 0] pl50 inf50 rfl rfl) (zr 1 wn rfl rfl rfl inf50 rfl rfl rfl (zD hK2 (zX (zY (.inl rfl) results113 (zt 1 rfl rfl agg50 inf50 rfl) fun w1 hM=>?_)))))))
 have hM:=hM.yh encLabel (i:=0) rfl rfl
 exact hM.vl (s':=(⟨l,([]:List Sample),([]:List Bucket),([]:List Bucket),0,0,0,0,0⟩:Shelf)) (fun u=>u) rfl (rfl) (fun _ pp=>pp.sl 0 rfl) (fun _ _=>zJ.yq _ _ _ _) (fun _ _=>zJ.yq _ _ _ _) (fun _ _=>zJ.yq _ _ _ _)
theorem jm (n : Int) (st : Int) (w : World)  (hn : 0 ≤ n ∧ n ≤ 9223372036854775807) (hst : 0 < st) :
    Calls prog 124 #[iV n,iV st] w (Ret w (iV (n - n % st))):=by
 obtain ⟨hm1,hm2⟩:=Sh.emod_le hn.1 hst
 refine fstart (N:=10) (vals:=[iV n,iV st]) (S:=Mem w no []) func124 rfl rfl rfl (Mem.ofDats dn) (zG fun _ hK1=>zP rfl (zD hK1 (zG fun _ hK2=>zE rfl (zE rfl (zE rfl (zB (jV rfl rfl (by omega) (by omega)) (zB (vw rfl rfl (by omega)) (zP rfl (zD hK2 ?_)))))))))
 refine zX (zY (.inl rfl) results124 (zR rfl) fun w1 hM=>?_)
 exact zn rfl hM
theorem c_append (z0 : Value) (z1 : Value) (z2 : Value) (z3 : Value) (z : Shelf) (x : Sample) (P0 : Nat → Prop) (w : World) (hP0 : ∀ b, P0 b → b < w.heap.size) (hz0 : zJ P0 2 zj z0 z.zV w) (hz1 : zJ P0 2 zo z1 z.raw w) (hz2 : zJ P0 8 zU z2 z.fine w) (hz3 : zJ P0 8 zU z3 z.coarse w)  :
    Calls prog 114 #[.agg (List.toArray [z0,z1,z2,z3,iV z.ze,iV z.zW,iV z.zI,iV z.zN,iV z.zH]),.agg (zo x).toArray] w (RetSh w P0 (fun u=>.tuple (List.toArray [u,iV (Sh.append z x).2])) (Sh.append z x).1):=by
 obtain ⟨z0A,z0c,rfl,hz0c,hz0m,hz0A⟩:=hz0.form
 obtain ⟨z1A,z1c,rfl,hz1c,hz1m,hz1A⟩:=hz1.form
 obtain ⟨z2A,z2c,rfl,hz2c,hz2m,hz2A⟩:=hz2.form
 obtain ⟨z3A,z3c,rfl,hz3c,hz3m,hz3A⟩:=hz3.form
 refine fstart (N:=64) (vals:=[.agg (List.toArray [.slice z0A z.zV.length z0c,.slice z1A z.raw.length z1c,.slice z2A z.fine.length z2c,.slice z3A z.coarse.length z3c,iV z.ze,iV z.zW,iV z.zI,iV z.zN,iV z.zH]),.agg (zo x).toArray]) (S:=Mem w ⟨no,P0⟩ [slP 2 zj (.slice z0A z.zV.length z0c) z.zV,slP 2 zo (.slice z1A z.raw.length z1c) z.raw,slP 8 zU (.slice z2A z.fine.length z2c) z.fine,slP 8 zU (.slice z3A z.coarse.length z3c) z.coarse]) func114 rfl rfl rfl (Mem.ofDatsP hP0 (dc (dlp hz0) (dc (dlp hz1) (dc (dlp hz2) (dc (dlp hz3) dn))))) (zG fun _ hK1=>vS wn rfl rfl fun b2=>vS wn rfl rfl fun b3=>yC wn inf50 rfl fun b4=>zP rfl (zD hK1 (zS fun _ hK2=>zG fun _ hK3=>zB (yM 2 [.slice z0A z.zV.length z0c,.slice z1A z.raw.length z1c,.slice z2A z.fine.length z2c,.slice z3A z.coarse.length z3c,iV z.ze,iV z.zW,iV z.zI,iV z.zN,iV z.zH] rfl rfl rfl rfl agg50 inf50) (yF wn rfl call21 rfl (fun w1 hM=>ua _ _ _ _ z (In w1) w1 (fun _ h=>h) (hM.slp 3 rfl) (hM.slp 4 rfl) (hM.slp 5 rfl) (hM.slp 6 rfl)) (zP rfl ?_)))))
 refine zD hK3 (zG fun _ hK4=>zE rfl (zB (vD rfl rfl) (zD hK4 (zZ rfl (fun h1=>?_) (fun h1=>?_)))))
 · refine zG fun _ hK5=>zB (zz [Zs,Zs,Zs,Zs,iV 0,iV 0,iV 0,iV 0,iV 0] pl50 inf50 rfl rfl) (zE rfl (zr 0 wn rfl rfl rfl inf50 rfl rfl rfl (zP rfl (zD hK5 (zX (zK (yT (.inl rfl) results114 (zt 0 rfl rfl agg50 inf50 rfl) (zR rfl) fun w1 hM=>?_)))))))
   have he:Sh.append z x=((⟨([]:List Label),([]:List Sample),([]:List Bucket),([]:List Bucket),0,0,0,0,0⟩:Shelf),(Sh.wrong z)):=Sh.append_wrong h1
   rw [he]
   exact hM.vl (s':=(⟨([]:List Label),([]:List Sample),([]:List Bucket),([]:List Bucket),0,0,0,0,0⟩:Shelf)) (fun u=>.tuple (List.toArray [u,iV (Sh.wrong z)])) rfl (rfl) (fun _ _=>zJ.yq _ _ _ _) (fun _ _=>zJ.yq _ _ _ _) (fun _ _=>zJ.yq _ _ _ _) (fun _ _=>zJ.yq _ _ _ _)
 obtain ⟨l1,l2,l3,l4⟩:=(Sh.ok_of h1).lens
 refine yK hK2 (zS fun _ hK6=>zG fun _ hK7=>zB (yM 1 [iV x.time,iV x.value] rfl rfl rfl rfl agg41 inf41) (yw zo ([x]:List Sample) wn underlying47 inf41 rfl rfl rfl rfl (by decide) (by decide) rfl fun b17=>yF wn rfl call43 rfl (fun w1 hM=>ue _ ([x]:List Sample) w1 (RowSl encSample hM 0 rfl)) (yC wn inf61 rfl fun b7=>zr 0 wn rfl rfl rfl inf61 rfl rfl rfl (zD hK7 (zG fun _ hK8=>zB (za rfl fld61_0) (zB (zg 0 rfl rfl rfl flat27) ?_))))))
 refine zB (vD rfl rfl) (zD hK8 (zZ rfl (fun h2=>?_) (fun h2=>?_)))
 · refine zS fun _ hK9=>vL (Mem w ⟨no,P0⟩ [.blk b7 [iV ((Codec.wrong ([x]:List Sample)).err),iV ((Codec.wrong ([x]:List Sample)).at_)] 61,Row (.slice (some ⟨b17,0,none⟩) 1 1) 41 2 zo ([x]:List Sample),.blk b4 [Zs,Zs,Zs,Zs,iV 0,iV 0,iV 0,iV 0,iV 0] 50,.blk b3 [iV x.time,iV x.value] 41,.blk b2 [.slice z0A z.zV.length z0c,.slice z1A z.raw.length z1c,.slice z2A z.fine.length z2c,.slice z3A z.coarse.length z3c,iV z.ze,iV z.zW,iV z.zI,iV z.zN,iV z.zH] 50,slP 2 zj (.slice z0A z.zV.length z0c) z.zV,slP 2 zo (.slice z1A z.raw.length z1c) z.raw,slP 8 zU (.slice z2A z.fine.length z2c) z.fine,slP 8 zU (.slice z3A z.coarse.length z3c) z.coarse]) mix (fun _ h=>h.drew) rfl (u6 (f:=2) [0,1,2] rfl rfl (by kernel_rfl) (by kernel_rfl) (fun _ h=>h) fun KS hKS=>yD (zz [Zs,Zs,Zs,Zs,iV 0,iV 0,iV 0,iV 0,iV 0] pl50 inf50 rfl rfl) (yD (za rfl fld61_0) (yD (zg 0 rfl rfl rfl flat27) (yd hKS (yY 1 3 (yb (i:=3) rfl fun KN hKN=>zr 2 wn rfl rfl rfl inf50 rfl rfl rfl (zl (hKN _ _ (fun _ h=>h) (u6 (f:=0) [4] rfl rfl (by kernel_rfl) (by kernel_rfl) (fun _ h=>h) fun KS hKS=>?_)))))))))
   refine yD (yk rfl) (yd hKS (yu (by kernel_rfl) (zy hK9 (zX (zK (yT (.inl rfl) results114 (zt 2 rfl rfl agg50 inf50 rfl) (zR rfl) fun w1 hM=>?_))))))
   have he:Sh.append z x=((⟨([]:List Label),([]:List Sample),([]:List Bucket),([]:List Bucket),0,0,0,0,0⟩:Shelf),(Codec.wrong ([x]:List Sample)).err):=Sh.append_bad h1 h2
   rw [he]
   exact hM.vl (s':=(⟨([]:List Label),([]:List Sample),([]:List Bucket),([]:List Bucket),0,0,0,0,0⟩:Shelf)) (fun u=>.tuple (List.toArray [u,iV ((Codec.wrong ([x]:List Sample)).err)])) rfl (rfl) (fun _ _=>zJ.yq _ _ _ _) (fun _ _=>zJ.yq _ _ _ _) (fun _ _=>zJ.yq _ _ _ _) (fun _ _=>zJ.yq _ _ _ _)
 refine yK hK6 (zG fun _ hK10=>zB (za rfl fld50_1) (zB (zg 4 rfl rfl rfl flat47) (zB (yW rfl underlying47) (zB (vw rfl rfl (by omega)) (zP rfl (zD hK10 (zS fun _ hK11=>zS fun _ hK12=>vN mix (by kernel_rfl) (fun _ h=>h.drew) (zq (za rfl fld41_0) ?_))))))))
 refine zq (zg 3 rfl rfl rfl flat3) (zq (za rfl fld50_6) (zq (zg 4 rfl rfl rfl flat3) (zq (yR rfl rfl) (yn rfl (vh (t:=34) rfl (fun h3=>?_) (fun h3=>?_))))))
 · refine yB (yB (yB (yx (wu rfl rfl) rfl (yx (wu rfl rfl) rfl (yx (wu rfl rfl) rfl (yx (wu rfl rfl) rfl (yx (wu rfl rfl) rfl (yx (wu rfl rfl) rfl (yx (wu rfl rfl) rfl (yx (wu rfl rfl) rfl (yx (wu rfl rfl) rfl ?_)))))))))))
   refine yB (zq (zM rfl rfl) (vJ (zy hK12 (vM rfl rfl (zG fun _ hK13=>zB (zz [Zs,Zs,Zs,Zs,iV 0,iV 0,iV 0,iV 0,iV 0] pl50 inf50 rfl rfl) (zr 2 wn rfl rfl rfl inf50 rfl rfl rfl (zP rfl (zD hK13 (zX (zK (yT (.inl rfl) results114 (zt 2 rfl rfl agg50 inf50 rfl) (zR rfl) fun w1 hM=>?_)))))))))))
   have he:Sh.append z x=((⟨([]:List Label),([]:List Sample),([]:List Bucket),([]:List Bucket),0,0,0,0,0⟩:Shelf),9):=Sh.append_late h1 h2 (.inl h3)
   rw [he]
   exact hM.vl (s':=(⟨([]:List Label),([]:List Sample),([]:List Bucket),([]:List Bucket),0,0,0,0,0⟩:Shelf)) (fun u=>.tuple (List.toArray [u,iV 9])) rfl (rfl) (fun _ _=>zJ.yq _ _ _ _) (fun _ _=>zJ.yq _ _ _ _) (fun _ _=>zJ.yq _ _ _ _) (fun _ _=>zJ.yq _ _ _ _)
 refine yL (zi rfl) (yL (vn rfl rfl) (yL (zi rfl) (vh (t:=37) rfl (fun h4=>?_) (fun h4=>?_))))
 · refine yL (za rfl fld41_0) (yL (zg 3 rfl rfl rfl flat3) (yL (za rfl fld50_1) (yL (zg 4 rfl rfl rfl flat47) (yL (zi rfl) ?_))))
   obtain ⟨ad1,hd1⟩:=hz1A (ne_nil (i:=(z.raw.length - 1)) (by first | omega | (simp <;> omega)))
   refine yL (y6 (i:=(z.raw.length - 1)) rfl hd1 rfl (by omega) (by first | omega | (simp <;> omega)) underlying47 inf41) (yL (yy rfl fld41_0) ?_)
   obtain ⟨s1,hs1⟩:∃ x,z.raw[(z.raw.length - 1)]?=some x:=⟨_,List.getElem?_eq_getElem (by first | omega | (simp <;> omega))⟩
   refine yL (jY 6 rfl rfl hd1 hs1 rfl flat3) (yL (u4 rfl rfl) (yL (zM rfl rfl) (zq (zM rfl rfl) (vJ (zy hK12 (zZ rfl (fun h5=>?_) (fun h5=>?_)))))))
   · refine zG fun _ hK14=>zB (zz [Zs,Zs,Zs,Zs,iV 0,iV 0,iV 0,iV 0,iV 0] pl50 inf50 rfl rfl) (zr 2 wn rfl rfl rfl inf50 rfl rfl rfl (zP rfl (zD hK14 (zX (zK (yT (.inl rfl) results114 (zt 2 rfl rfl agg50 inf50 rfl) (zR rfl) fun w1 hM=>?_))))))
     have he:Sh.append z x=((⟨([]:List Label),([]:List Sample),([]:List Bucket),([]:List Bucket),0,0,0,0,0⟩:Shelf),9):=Sh.append_late h1 h2 (.inr (by rw [Sh.late_some hs1]; exact decide_eq_true h5))
     rw [he]
     exact hM.vl (s':=(⟨([]:List Label),([]:List Sample),([]:List Bucket),([]:List Bucket),0,0,0,0,0⟩:Shelf)) (fun u=>.tuple (List.toArray [u,iV 9])) rfl (rfl) (fun _ _=>zJ.yq _ _ _ _) (fun _ _=>zJ.yq _ _ _ _) (fun _ _=>zJ.yq _ _ _ _) (fun _ _=>zJ.yq _ _ _ _)
   refine yK hK11 (zS fun _ hK15=>zG fun _ hK16=>zB (za rfl fld50_1) (zB (zg 4 rfl rfl rfl flat47) (zB (yW rfl underlying47) (zB (yf rfl rfl) (zD hK16 (zZ rfl (fun h6=>?_) (fun h6=>?_)))))))
   · refine zG fun _ hK17=>zB (zz [Zs,Zs,Zs,Zs,iV 0,iV 0,iV 0,iV 0,iV 0] pl50 inf50 rfl rfl) (zr 2 wn rfl rfl rfl inf50 rfl rfl rfl (zP rfl (zD hK17 (zX (zK (yT (.inl rfl) results114 (zt 2 rfl rfl agg50 inf50 rfl) (zR rfl) fun w1 hM=>?_))))))
     have he:Sh.append z x=((⟨([]:List Label),([]:List Sample),([]:List Bucket),([]:List Bucket),0,0,0,0,0⟩:Shelf),5):=Sh.append_many h1 h2 (fun g=>g.elim h3 (fun g=>by rw [Sh.late_some hs1] at g; exact h5 (of_decide_eq_true g))) h6
     rw [he]
     exact hM.vl (s':=(⟨([]:List Label),([]:List Sample),([]:List Bucket),([]:List Bucket),0,0,0,0,0⟩:Shelf)) (fun u=>.tuple (List.toArray [u,iV 5])) rfl (rfl) (fun _ _=>zJ.yq _ _ _ _) (fun _ _=>zJ.yq _ _ _ _) (fun _ _=>zJ.yq _ _ _ _) (fun _ _=>zJ.yq _ _ _ _)
   refine yK hK15 (zG fun _ hK18=>zB (yM 4 [.slice z0A z.zV.length z0c,.slice z1A z.raw.length z1c,.slice z2A z.fine.length z2c,.slice z3A z.coarse.length z3c,iV z.ze,iV z.zW,iV z.zI,iV z.zN,iV z.zH] rfl rfl rfl rfl agg50 inf50) (uw z wn rfl call119 rfl (fun w1 hM=>gE _ _ _ _ z (In w1) w1 (fun _ h=>h) (hM.slp 5 rfl) (hM.slp 6 rfl) (hM.slp 7 rfl) (hM.slp 8 rfl) (Sh.wrong_lens (by assumption))) fun A1 cp1 A2 cp2 A3 cp3 A4 cp4 hb1 hA1 hA2 hA3 hA4=>yC wn inf50 rfl fun b9=>zr 0 wn rfl rfl rfl inf50 rfl rfl rfl (zD hK18 (zG fun _ hK19=>zB (za rfl fld50_1) (zB (zg 0 rfl rfl rfl flat47) (zB (yM 8 [iV x.time,iV x.value] rfl rfl rfl rfl agg41 inf41) (yw zo ([x]:List Sample) wn underlying47 inf41 rfl rfl rfl rfl (by decide) (by decide) rfl fun b60=>?_)))))))
   refine vG 3 z.raw ([x]:List Sample) encSample wn rfl rfl rfl (fun _ hM=>(RowSl encSample hM 0 rfl)) underlying47 inf41 rfl rfl (by simp only [List.length_append,List.length_cons,List.length_nil]; omega) rfl fun A5 cp5 hc1 hm1 hA5=>zB (za rfl fld50_1) (yt 1 wn rfl rfl rfl rfl inf47 rfl rfl (zD hK19 (zG fun _ hK20=>zB (yM 1 [.slice A1 z.zV.length cp1,.slice A5 ((z.raw++([x]:List Sample)).length) cp5,.slice A3 z.fine.length cp3,.slice A4 z.coarse.length cp4,iV z.ze,iV z.zW,iV z.zI,iV z.zN,iV z.zH] rfl rfl rfl rfl agg50 inf50) (zr 8 wn rfl rfl rfl inf50 rfl rfl rfl (zP rfl (zD hK20 (zX (yT (.inl rfl) results114 (zt 8 rfl rfl agg50 inf50 rfl) (zR rfl) fun w1 hM=>?_))))))))
   have he:Sh.append z x=((⟨z.zV,(z.raw++([x]:List Sample)),z.fine,z.coarse,z.ze,z.zW,z.zI,z.zN,z.zH⟩:Shelf),0):=Sh.append_ok h1 h2 (fun g=>g.elim h3 (fun g=>by rw [Sh.late_some hs1] at g; exact h5 (of_decide_eq_true g))) h6
   rw [he]
   have hM:=hM.yh encLabel (i:=2) rfl rfl
   have hM:=hM.yh encSample (i:=3) rfl rfl
   have hM:=hM.yh encBucket (i:=4) rfl rfl
   have hM:=hM.yh encBucket (i:=5) rfl rfl
   exact hM.vl (s':=(⟨z.zV,(z.raw++([x]:List Sample)),z.fine,z.coarse,z.ze,z.zW,z.zI,z.zN,z.zH⟩:Shelf)) (fun u=>.tuple (List.toArray [u,iV 0])) rfl (rfl) (fun _ pp=>pp.sl 2 rfl) (fun _ pp=>pp.sl 3 rfl) (fun _ pp=>pp.sl 4 rfl) (fun _ pp=>pp.sl 5 rfl)
 refine yB (yB (yB (yB (yB (yB (yB (yB (yB (yL (zM rfl rfl) (zq (zM rfl rfl) (vJ (zy hK12 ?_))))))))))))
 refine yr rfl rfl (yK hK11 (zS fun _ hK21=>zG fun _ hK22=>zB (za rfl fld50_1) (zB (zg 4 rfl rfl rfl flat47) (zB (yW rfl underlying47) (zB (yf rfl rfl) (zD hK22 (zZ rfl (fun h7=>?_) (fun h7=>?_))))))))
 · refine zG fun _ hK23=>zB (zz [Zs,Zs,Zs,Zs,iV 0,iV 0,iV 0,iV 0,iV 0] pl50 inf50 rfl rfl) (zr 2 wn rfl rfl rfl inf50 rfl rfl rfl (zP rfl (zD hK23 (zX (zK (yT (.inl rfl) results114 (zt 2 rfl rfl agg50 inf50 rfl) (zR rfl) fun w1 hM=>?_))))))
   have he:Sh.append z x=((⟨([]:List Label),([]:List Sample),([]:List Bucket),([]:List Bucket),0,0,0,0,0⟩:Shelf),5):=Sh.append_many h1 h2 (fun g=>g.elim h3 (fun g=>by rw [Sh.late_none h4] at g; cases g)) h7
   rw [he]
   exact hM.vl (s':=(⟨([]:List Label),([]:List Sample),([]:List Bucket),([]:List Bucket),0,0,0,0,0⟩:Shelf)) (fun u=>.tuple (List.toArray [u,iV 5])) rfl (rfl) (fun _ _=>zJ.yq _ _ _ _) (fun _ _=>zJ.yq _ _ _ _) (fun _ _=>zJ.yq _ _ _ _) (fun _ _=>zJ.yq _ _ _ _)
 refine yK hK21 (zG fun _ hK24=>zB (yM 4 [.slice z0A z.zV.length z0c,.slice z1A z.raw.length z1c,.slice z2A z.fine.length z2c,.slice z3A z.coarse.length z3c,iV z.ze,iV z.zW,iV z.zI,iV z.zN,iV z.zH] rfl rfl rfl rfl agg50 inf50) (uw z wn rfl call119 rfl (fun w1 hM=>gE _ _ _ _ z (In w1) w1 (fun _ h=>h) (hM.slp 5 rfl) (hM.slp 6 rfl) (hM.slp 7 rfl) (hM.slp 8 rfl) (Sh.wrong_lens (by assumption))) fun A6 cp6 A7 cp7 A8 cp8 A9 cp9 hb2 hA6 hA7 hA8 hA9=>yC wn inf50 rfl fun b9=>zr 0 wn rfl rfl rfl inf50 rfl rfl rfl (zD hK24 (zG fun _ hK25=>zB (za rfl fld50_1) (zB (zg 0 rfl rfl rfl flat47) (zB (yM 8 [iV x.time,iV x.value] rfl rfl rfl rfl agg41 inf41) (yw zo ([x]:List Sample) wn underlying47 inf41 rfl rfl rfl rfl (by decide) (by decide) rfl fun b60=>?_)))))))
 refine vG 3 z.raw ([x]:List Sample) encSample wn rfl rfl rfl (fun _ hM=>(RowSl encSample hM 0 rfl)) underlying47 inf41 rfl rfl (by simp only [List.length_append,List.length_cons,List.length_nil]; omega) rfl fun A10 cp10 hc2 hm2 hA10=>zB (za rfl fld50_1) (yt 1 wn rfl rfl rfl rfl inf47 rfl rfl (zD hK25 (zG fun _ hK26=>zB (yM 1 [.slice A6 z.zV.length cp6,.slice A10 ((z.raw++([x]:List Sample)).length) cp10,.slice A8 z.fine.length cp8,.slice A9 z.coarse.length cp9,iV z.ze,iV z.zW,iV z.zI,iV z.zN,iV z.zH] rfl rfl rfl rfl agg50 inf50) (zr 8 wn rfl rfl rfl inf50 rfl rfl rfl (zP rfl (zD hK26 (zX (yT (.inl rfl) results114 (zt 8 rfl rfl agg50 inf50 rfl) (zR rfl) fun w1 hM=>?_))))))))
 have he:Sh.append z x=((⟨z.zV,(z.raw++([x]:List Sample)),z.fine,z.coarse,z.ze,z.zW,z.zI,z.zN,z.zH⟩:Shelf),0):=Sh.append_ok h1 h2 (fun g=>g.elim h3 (fun g=>by rw [Sh.late_none h4] at g; cases g)) h7
 rw [he]
 have hM:=hM.yh encLabel (i:=2) rfl rfl
 have hM:=hM.yh encSample (i:=3) rfl rfl
 have hM:=hM.yh encBucket (i:=4) rfl rfl
 have hM:=hM.yh encBucket (i:=5) rfl rfl
 exact hM.vl (s':=(⟨z.zV,(z.raw++([x]:List Sample)),z.fine,z.coarse,z.ze,z.zW,z.zI,z.zN,z.zH⟩:Shelf)) (fun u=>.tuple (List.toArray [u,iV 0])) rfl (rfl) (fun _ pp=>pp.sl 2 rfl) (fun _ pp=>pp.sl 3 rfl) (fun _ pp=>pp.sl 4 rfl) (fun _ pp=>pp.sl 5 rfl)
set_option maxHeartbeats 1000000 in
theorem c_roll (z0 : Value) (z1 : Value) (z2 : Value) (z3 : Value) (z : Shelf) (to : Int) (P0 : Nat → Prop) (w : World) (hP0 : ∀ b, P0 b → b < w.heap.size) (hz0 : zJ P0 2 zj z0 z.zV w) (hz1 : zJ P0 2 zo z1 z.raw w) (hz2 : zJ P0 8 zU z2 z.fine w) (hz3 : zJ P0 8 zU z3 z.coarse w)  :
    Calls prog 74 #[.agg (List.toArray [z0,z1,z2,z3,iV z.ze,iV z.zW,iV z.zI,iV z.zN,iV z.zH]),iV to] w (RetSh w P0 (fun u=>.tuple (List.toArray [u,iV (Sh.roll z to).2])) (Sh.roll z to).1):=by
 obtain ⟨z0A,z0c,rfl,hz0c,hz0m,hz0A⟩:=hz0.form
 obtain ⟨z1A,z1c,rfl,hz1c,hz1m,hz1A⟩:=hz1.form
 obtain ⟨z2A,z2c,rfl,hz2c,hz2m,hz2A⟩:=hz2.form
 obtain ⟨z3A,z3c,rfl,hz3c,hz3m,hz3A⟩:=hz3.form
 refine fstart (N:=115) (vals:=[.agg (List.toArray [.slice z0A z.zV.length z0c,.slice z1A z.raw.length z1c,.slice z2A z.fine.length z2c,.slice z3A z.coarse.length z3c,iV z.ze,iV z.zW,iV z.zI,iV z.zN,iV z.zH]),iV to]) (S:=Mem w ⟨no,P0⟩ [slP 2 zj (.slice z0A z.zV.length z0c) z.zV,slP 2 zo (.slice z1A z.raw.length z1c) z.raw,slP 8 zU (.slice z2A z.fine.length z2c) z.fine,slP 8 zU (.slice z3A z.coarse.length z3c) z.coarse]) func74 rfl rfl rfl (Mem.ofDatsP hP0 (dc (dlp hz0) (dc (dlp hz1) (dc (dlp hz2) (dc (dlp hz3) dn))))) (zG fun _ hK1=>vS wn rfl rfl fun b2=>yC wn inf50 rfl fun b4=>zP rfl (zD hK1 (zS fun _ hK2=>zG fun _ hK3=>zB (yM 1 [.slice z0A z.zV.length z0c,.slice z1A z.raw.length z1c,.slice z2A z.fine.length z2c,.slice z3A z.coarse.length z3c,iV z.ze,iV z.zW,iV z.zI,iV z.zN,iV z.zH] rfl rfl rfl rfl agg50 inf50) (yF wn rfl call21 rfl (fun w1 hM=>ua _ _ _ _ z (In w1) w1 (fun _ h=>h) (hM.slp 2 rfl) (hM.slp 3 rfl) (hM.slp 4 rfl) (hM.slp 5 rfl)) (zP rfl (zD hK3 ?_))))))
 refine zG fun _ hK4=>zE rfl (zB (vD rfl rfl) (zD hK4 (zZ rfl (fun h1=>?_) (fun h1=>?_))))
 · refine zG fun _ hK5=>zB (zz [Zs,Zs,Zs,Zs,iV 0,iV 0,iV 0,iV 0,iV 0] pl50 inf50 rfl rfl) (zE rfl (zr 0 wn rfl rfl rfl inf50 rfl rfl rfl (zP rfl (zD hK5 (zX (zK (yT (.inl rfl) results74 (zt 0 rfl rfl agg50 inf50 rfl) (zR rfl) fun w1 hM=>?_)))))))
   have he:Sh.roll z to=((⟨([]:List Label),([]:List Sample),([]:List Bucket),([]:List Bucket),0,0,0,0,0⟩:Shelf),(Sh.wrong z)):=Sh.roll_wrong h1
   rw [he]
   exact hM.vl (s':=(⟨([]:List Label),([]:List Sample),([]:List Bucket),([]:List Bucket),0,0,0,0,0⟩:Shelf)) (fun u=>.tuple (List.toArray [u,iV (Sh.wrong z)])) rfl (rfl) (fun _ _=>zJ.yq _ _ _ _) (fun _ _=>zJ.yq _ _ _ _) (fun _ _=>zJ.yq _ _ _ _) (fun _ _=>zJ.yq _ _ _ _)
 obtain ⟨l1,l2,l3,l4⟩:=(Sh.ok_of h1).lens
 obtain ⟨⟨g1,g2,g3,g4⟩,⟨g5,g6,g7,g8,g9⟩,g10,g11,g12,g13,g14⟩:=(Sh.ok_of h1).rng
 refine yK hK2 (zS fun _ hK6=>zG fun _ hK7=>zE rfl (zB (yR rfl rfl) (zE rfl (yQ (t:=24) rfl (fun h2=>?_) (fun h2=>?_)))))
 · refine zQ (zQ (zB (zM rfl rfl) (zD hK7 (vM rfl rfl (zG fun _ hK8=>zB (zz [Zs,Zs,Zs,Zs,iV 0,iV 0,iV 0,iV 0,iV 0] pl50 inf50 rfl rfl) (zr 0 wn rfl rfl rfl inf50 rfl rfl rfl (zP rfl (zD hK8 (zX (zK (yT (.inl rfl) results74 (zt 0 rfl rfl agg50 inf50 rfl) (zR rfl) fun w1 hM=>?_)))))))))))
   have he:Sh.roll z to=((⟨([]:List Label),([]:List Sample),([]:List Bucket),([]:List Bucket),0,0,0,0,0⟩:Shelf),3):=Sh.roll_range h1 (by omega)
   rw [he]
   exact hM.vl (s':=(⟨([]:List Label),([]:List Sample),([]:List Bucket),([]:List Bucket),0,0,0,0,0⟩:Shelf)) (fun u=>.tuple (List.toArray [u,iV 3])) rfl (rfl) (fun _ _=>zJ.yq _ _ _ _) (fun _ _=>zJ.yq _ _ _ _) (fun _ _=>zJ.yq _ _ _ _) (fun _ _=>zJ.yq _ _ _ _)
 refine zb (zi rfl) (zb (vH rfl rfl) (zB (zM rfl rfl) (zD hK7 (zZ rfl (fun h3=>?_) (fun h3=>?_)))))
 · refine zG fun _ hK9=>zB (zz [Zs,Zs,Zs,Zs,iV 0,iV 0,iV 0,iV 0,iV 0] pl50 inf50 rfl rfl) (zr 0 wn rfl rfl rfl inf50 rfl rfl rfl (zP rfl (zD hK9 (zX (zK (yT (.inl rfl) results74 (zt 0 rfl rfl agg50 inf50 rfl) (zR rfl) fun w1 hM=>?_))))))
   have he:Sh.roll z to=((⟨([]:List Label),([]:List Sample),([]:List Bucket),([]:List Bucket),0,0,0,0,0⟩:Shelf),3):=Sh.roll_range h1 (by omega)
   rw [he]
   exact hM.vl (s':=(⟨([]:List Label),([]:List Sample),([]:List Bucket),([]:List Bucket),0,0,0,0,0⟩:Shelf)) (fun u=>.tuple (List.toArray [u,iV 3])) rfl (rfl) (fun _ _=>zJ.yq _ _ _ _) (fun _ _=>zJ.yq _ _ _ _) (fun _ _=>zJ.yq _ _ _ _) (fun _ _=>zJ.yq _ _ _ _)
 obtain ⟨ft1,ft2,ft3,ft4⟩:=Sh.fineTo_rng (Sh.ok_of h1) (to:=to) (by omega) (by omega)
 obtain ⟨ct1,ct2,ct3⟩:=Sh.coarseTo_rng (Sh.ok_of h1) (to:=to) (by omega) (by omega)
 have hu0:=Roll.inT_len z.raw z.zI (Sh.zI z to)
 have hb0:=Sh.bIn_len (z.fine++(Roll.up (Roll.inT z.raw z.zI (Sh.zI z to)) 1)) z.zH (Sh.zH z to)
 have hlen2:(z.fine++(Roll.up (Roll.inT z.raw z.zI (Sh.zI z to)) 1)).length=z.fine.length + _:=List.length_append
 have hu1:=Nat.le_trans (Roll.up_len (Roll.inT z.raw z.zI (Sh.zI z to)) 1) hu0
 have hu2:=Nat.le_trans (Roll.greater_len (Sh.bIn (z.fine++(Roll.up (Roll.inT z.raw z.zI (Sh.zI z to)) 1)) z.zH (Sh.zH z to))) hb0
 refine yK hK6 (zG fun _ hK10=>zB (yM 1 [.slice z0A z.zV.length z0c,.slice z1A z.raw.length z1c,.slice z2A z.fine.length z2c,.slice z3A z.coarse.length z3c,iV z.ze,iV z.zW,iV z.zI,iV z.zN,iV z.zH] rfl rfl rfl rfl agg50 inf50) (uw z wn rfl call119 rfl (fun w1 hM=>gE _ _ _ _ z (In w1) w1 (fun _ h=>h) (hM.slp 2 rfl) (hM.slp 3 rfl) (hM.slp 4 rfl) (hM.slp 5 rfl) (Sh.wrong_lens (by assumption))) fun A1 cp1 A2 cp2 A3 cp3 A4 cp4 hb1 hA1 hA2 hA3 hA4=>yC wn inf50 rfl fun b7=>zr 0 wn rfl rfl rfl inf50 rfl rfl rfl (zD hK10 (zS fun _ hK11=>vN mix (by kernel_rfl) (fun _ h=>h.drew) (zq (za rfl fld50_6) (zq (zg 6 rfl rfl rfl flat3) (yn rfl ?_)))))))
 refine vP wn rfl call124 rfl (fun w1 hM=>jm to 10 w1 (by omega) (by omega)) (zq (js (show _=(Sh.zI z to) from rfl) (uj rfl rfl)) (zq (yk rfl) (vJ (zy hK11 (zS fun _ hK12=>vN mix (by kernel_rfl) (fun _ h=>h.drew) (zq (za rfl fld50_8) (zq (zg 6 rfl rfl rfl flat3) (yn rfl (vP wn rfl call124 rfl (fun w1 hM=>jm (Sh.zI z to) 60 w1 (by omega) (by omega)) (zq (js (show _=(Sh.zH z to) from rfl) (uj rfl rfl)) (zq (yk rfl) ?_)))))))))))
 refine vJ (zy hK12 (zG fun _ hK13=>vE (zo:Sample→List Value) 41 2 (zP rfl (zD hK13 (zS fun _ hK14=>zG fun _ hK15=>zB (za rfl fld50_1) (zB (zg 7 rfl rfl rfl flat47) (zB (yW rfl underlying47) (zE rfl (zD hK15 ?_)))))))))
 refine zk (uS (fun (k:Nat) (vr:Value)=>[(2,.pointer (some ⟨b2,0,none⟩)),(4,.pointer (some ⟨b4,0,none⟩)),(7,.pointer (some ⟨b7,0,none⟩)),(8,iV (Sh.zI z to)),(9,iV (Sh.zH z to)),(10,vr),(42,.slice z1A z.raw.length z1c),(43,iV z.raw.length),(44,iV k)]) (fun (k:Nat) (vr:Value)=>[Row vr 41 2 zo (Roll.inT (z.raw.take k) z.zI (Sh.zI z to)),.blk b7 [.slice A1 z.zV.length cp1,.slice A2 z.raw.length cp2,.slice A3 z.fine.length cp3,.slice A4 z.coarse.length cp4,iV z.ze,iV z.zW,iV z.zI,iV z.zN,iV z.zH] 50,Row (.slice A1 z.zV.length cp1) 74 2 zj z.zV,Row (.slice A2 z.raw.length cp2) 41 2 zo z.raw,Row (.slice A3 z.fine.length cp3) 163 8 zU z.fine,Row (.slice A4 z.coarse.length cp4) 163 8 zU z.coarse,.blk b4 [Zs,Zs,Zs,Zs,iV 0,iV 0,iV 0,iV 0,iV 0] 50,.blk b2 [.slice z0A z.zV.length z0c,.slice z1A z.raw.length z1c,.slice z2A z.fine.length z2c,.slice z3A z.coarse.length z3c,iV z.ze,iV z.zW,iV z.zI,iV z.zN,iV z.zH] 50,slP 2 zj (.slice z0A z.zV.length z0c) z.zV,slP 2 zo (.slice z1A z.raw.length z1c) z.raw,slP 8 zU (.slice z2A z.fine.length z2c) z.fine,slP 8 zU (.slice z3A z.coarse.length z3c) z.coarse]) (fun (k:Nat) (vr:Value)=>k≤z.raw.length) (fun (k:Nat) (vr:Value)=>z.raw.length - k) 0 (Zs) (sc rfl (sc rfl (sc rfl (sc rfl (sc rfl (sc rfl (sc rfl (sc rfl (sc (ji (by omega)) sn))))))))) (fun _ h=>h) ?_ (fun k vr hI1=>?_))
 · omega
 have hlen:=Nat.le_trans (Roll.inT_len (z.raw.take k) z.zI (Sh.zI z to)) (List.length_take_le k z.raw)
 refine vW 0 (l:=(Roll.inT (z.raw.take k) z.zI (Sh.zI z to))) rfl fun A5 cp5 hv1 hc1 hm1 hA5=>?_
 subst hv1
 refine zG fun _ hK16=>zB (yR rfl rfl) (zD hK16 (zS fun _ hK17=>zZ rfl (fun h4=>?_) (fun h4=>?_)))
 · refine yK hK17 (zS fun _ hK18=>zk (zG fun _ hK19=>?_))
   obtain ⟨ad1,hd1⟩:=hz1A (ne_nil (i:=k) (by first | omega | (simp <;> omega)))
   refine zB (y6 (i:=k) rfl hd1 rfl (by omega) (by first | omega | (simp <;> omega)) underlying47 inf41) ?_
   obtain ⟨s1,hs1⟩:∃ x,z.raw[k]?=some x:=⟨_,List.getElem?_eq_getElem (by first | omega | (simp <;> omega))⟩
   refine zB (vy 9 [iV s1.time,iV s1.value] rfl rfl hd1 hs1 rfl rfl agg41 inf41) (yC wn inf41 rfl fun b12=>zr 0 wn rfl rfl rfl inf41 rfl rfl rfl (zD hK19 (zG fun _ hK20=>zB (za rfl fld41_0) (zB (zg 0 rfl rfl rfl flat3) (zB (za rfl fld50_6) (zB (zg 8 rfl rfl rfl flat3) (zB (vn rfl rfl) (zE rfl (yQ (t:=53) rfl (fun h5=>?_) (fun h5=>?_))))))))))
   · refine zb (za rfl fld41_0) (zb (zg 0 rfl rfl rfl flat3) (zb (zi rfl) (zb (yR rfl rfl) (zB (zM rfl rfl) (zD hK20 (zZ rfl (fun h6=>?_) (fun h6=>?_)))))))
     · refine zL (zE rfl (zB (yM 0 [iV s1.time,iV s1.value] rfl rfl rfl rfl agg41 inf41) (yw zo ([s1]:List Sample) wn underlying47 inf41 rfl rfl rfl rfl (by decide) (by decide) rfl fun b61=>vG 2 (Roll.inT (z.raw.take k) z.zI (Sh.zI z to)) ([s1]:List Sample) encSample wn rfl rfl rfl (fun _ hM=>(RowSl encSample hM 0 rfl)) underlying47 inf41 rfl rfl (by first | omega | (simp only [List.length_append,List.length_cons,List.length_nil]; omega)) rfl fun A6 cp6 hc2 hm2 hA6=>zP rfl (zl (zm (zy hK18 (zL (zB (zw rfl rfl (by omega)) (zE rfl (zl (vb (k + 1) (.slice A6 (((Roll.inT (z.raw.take k) z.zI (Sh.zI z to))++([s1]:List Sample)).length) cp6) (sc rfl (sc rfl (sc rfl (sc rfl (sc rfl (sc rfl (sc rfl (sc rfl (sc (ji (by omega)) sn))))))))) (fun _ h=>by rw [(Roll.inT_succ (a:=z.zI) (b:=Sh.zI z to) hs1).trans (if_pos (by omega))]; exact (h.sel [2,3,4,5,6,7,8,9,10,11,12,13] (by decide) rfl)) ?_ ?_)))))))))))
       · omega
       omega
     refine yU (zm (zy hK18 (zL (zB (zw rfl rfl (by omega)) (zE rfl (zl (vb (k + 1) (.slice A5 ((Roll.inT (z.raw.take k) z.zI (Sh.zI z to)).length) cp5) (sc rfl (sc rfl (sc rfl (sc rfl (sc rfl (sc rfl (sc rfl (sc rfl (sc (ji (by omega)) sn))))))))) (fun _ h=>by rw [(Roll.inT_succ (a:=z.zI) (b:=Sh.zI z to) hs1).trans (if_neg (by omega))]; exact (h.sel [1,2,3,4,5,6,7,8,9,10,11,12] (by decide) rfl)) ?_ ?_)))))))
     · omega
     omega
   refine zQ (zQ (zQ (zQ (zB (zM rfl rfl) (zD hK20 (yr rfl rfl (yU (zm (zy hK18 (zL (zB (zw rfl rfl (by omega)) (zE rfl (zl (vb (k + 1) (.slice A5 ((Roll.inT (z.raw.take k) z.zI (Sh.zI z to)).length) cp5) (sc rfl (sc rfl (sc rfl (sc rfl (sc rfl (sc rfl (sc rfl (sc rfl (sc (ji (by omega)) sn))))))))) (fun _ h=>by rw [(Roll.inT_succ (a:=z.zI) (b:=Sh.zI z to) hs1).trans (if_neg (by omega))]; exact (h.sel [1,2,3,4,5,6,7,8,9,10,11,12] (by decide) rfl)) ?_ ?_))))))))))))))
   · omega
   omega
 have hk1:z.raw.take k=z.raw:=List.take_of_length_le (by omega)
 rw [hk1]
 rw [hk1] at hA5
 refine yZ (yH (uB (yI (zy hK14 (zS fun _ hK21=>vL (Mem w ⟨no,P0⟩ [Row (.slice A5 ((Roll.inT z.raw z.zI (Sh.zI z to)).length) cp5) 41 2 zo (Roll.inT z.raw z.zI (Sh.zI z to)),Row (.slice A1 z.zV.length cp1) 74 2 zj z.zV,Row (.slice A2 z.raw.length cp2) 41 2 zo z.raw,Row (.slice A4 z.coarse.length cp4) 163 8 zU z.coarse,.blk b4 [Zs,Zs,Zs,Zs,iV 0,iV 0,iV 0,iV 0,iV 0] 50,.blk b2 [.slice z0A z.zV.length z0c,.slice z1A z.raw.length z1c,.slice z2A z.fine.length z2c,.slice z3A z.coarse.length z3c,iV z.ze,iV z.zW,iV z.zI,iV z.zN,iV z.zH] 50,slP 2 zj (.slice z0A z.zV.length z0c) z.zV,slP 2 zo (.slice z1A z.raw.length z1c) z.raw,slP 8 zU (.slice z2A z.fine.length z2c) z.fine,slP 8 zU (.slice z3A z.coarse.length z3c) z.coarse]) mix (fun _ h=>h.drew) rfl (vK 5 [0,2] [0,2,3,5,6,7,8,9,10,11] rfl fun KS hKS=>yD (za rfl fld50_2) (yD (zi rfl) (yd hKS (gO (f:=3) [(1,.val 65 (.slice A3 z.fine.length cp3)),(3,.row 67 163 8 (Roll.up (Roll.inT z.raw z.zI (Sh.zI z to)) 1).length ((Roll.up (Roll.inT z.raw z.zI (Sh.zI z to)) 1).flatMap zU))] rfl (by kernel_rfl) (nd [1,3] rfl (by decide)) (nd [65,67] rfl (by decide)) rfl ⟨jv_ [] trivial rfl rfl rfl (zg 1 rfl rfl rfl flat48),jr_ [] trivial rfl rfl rfl rfl call126 (fun w1 hM=>c_Up _ (Roll.inT z.raw z.zI (Sh.zI z to)) 1 w1 (RowSl encSample hM 0 rfl) (by first | assumption | omega | (simp only [List.length_cons,List.length_nil]; omega) | exact Nat.le_trans (Roll.up_len _ _) (by first | omega | simp))),trivial⟩ (S9 [0,2,3,5,6,7,8,9,10,11]) fun val1=>jw (E':=[(2,.pointer (some ⟨b2,0,none⟩)),(4,.pointer (some ⟨b4,0,none⟩)),(7,.pointer (some ⟨b7,0,none⟩)),(8,iV (Sh.zI z to)),(9,iV (Sh.zH z to)),(10,.slice A5 ((Roll.inT z.raw z.zI (Sh.zI z to)).length) cp5),(42,.slice z1A z.raw.length z1c),(43,iV z.raw.length),(44,iV k),(45,.bool (decide ((k:Int) < (z.raw.length:Int)))),(64,.pointer (some ⟨b7,2,none⟩)),(65,.slice A3 z.fine.length cp3),(66,.slice A5 ((Roll.inT z.raw z.zI (Sh.zI z to)).length) cp5),(67,(val1 3))]) (S':=Mem w ⟨no,P0⟩ [Row (val1 3) 163 8 zU (Roll.up (Roll.inT z.raw z.zI (Sh.zI z to)) 1),Row (.slice A5 ((Roll.inT z.raw z.zI (Sh.zI z to)).length) cp5) 41 2 zo (Roll.inT z.raw z.zI (Sh.zI z to)),.blk b7 [.slice A1 z.zV.length cp1,.slice A2 z.raw.length cp2,.slice A3 z.fine.length cp3,.slice A4 z.coarse.length cp4,iV z.ze,iV z.zW,iV z.zI,iV z.zN,iV z.zH] 50,Row (.slice A1 z.zV.length cp1) 74 2 zj z.zV,Row (.slice A2 z.raw.length cp2) 41 2 zo z.raw,Row (.slice A3 z.fine.length cp3) 163 8 zU z.fine,Row (.slice A4 z.coarse.length cp4) 163 8 zU z.coarse,.blk b4 [Zs,Zs,Zs,Zs,iV 0,iV 0,iV 0,iV 0,iV 0] 50,.blk b2 [.slice z0A z.zV.length z0c,.slice z1A z.raw.length z1c,.slice z2A z.fine.length z2c,.slice z3A z.coarse.length z3c,iV z.ze,iV z.zW,iV z.zI,iV z.zN,iV z.zH] 50,slP 2 zj (.slice z0A z.zV.length z0c) z.zV,slP 2 zo (.slice z1A z.raw.length z1c) z.raw,slP 8 zU (.slice z2A z.fine.length z2c) z.fine,slP 8 zU (.slice z3A z.coarse.length z3c) z.coarse]) (sc rfl (sc rfl (sc rfl (sc rfl (sc rfl (sc rfl (sc rfl (sc rfl (sc rfl (sc rfl (sc rfl (sc rfl (sc rfl (sc rfl sn)))))))))))))) (fun _ h=>h) (jO 0 (l:=(Roll.up (Roll.inT z.raw z.zI (Sh.zI z to)) 1)) (enc:=zU) rfl fun A7 cp7 hv2 hc3 hm3 hA7=>?_))))))))))
 rw [hv2]
 refine yY 2 4 (yb (i:=4) rfl fun KN hKN=>vG 5 z.fine (Roll.up (Roll.inT z.raw z.zI (Sh.zI z to)) 1) encBucket wn rfl rfl rfl (fun _ hM=>(RowSl encBucket hM 0 rfl)) underlying48 inf163 rfl rfl (by first | omega | (simp only [List.length_append,List.length_cons,List.length_nil]; omega)) rfl fun A8 cp8 hc4 hm4 hA8=>yP hKN [1,3,4,6,7,8,9,10,11,12] (vK 1 [5] [1,3,4,6,7,8,9,10,11,12] rfl fun KS hKS=>yD (za rfl fld50_2) (yd hKS (yY 0 6 (yb (i:=6) rfl fun KN hKN=>yt 2 wn rfl rfl rfl rfl inf48 rfl rfl (yP hKN [1,3,4,6,7,8,9,10,11,12] (yu (by kernel_rfl) (zy hK21 ?_))))))))
 refine zG fun _ hK22=>vE (zU:Bucket→List Value) 163 8 (zP rfl (zD hK22 (zS fun _ hK23=>zG fun _ hK24=>zB (za rfl fld50_2) (zB (zg 3 rfl rfl rfl flat48) (zB (yW rfl underlying48) (zE rfl (zD hK24 (zk ?_))))))))
 refine uS (fun (k:Nat) (vr2:Value)=>[(2,.pointer (some ⟨b2,0,none⟩)),(4,.pointer (some ⟨b4,0,none⟩)),(7,.pointer (some ⟨b7,0,none⟩)),(8,iV (Sh.zI z to)),(9,iV (Sh.zH z to)),(13,vr2),(71,.slice A8 ((z.fine++(Roll.up (Roll.inT z.raw z.zI (Sh.zI z to)) 1)).length) cp8),(72,iV ((z.fine++(Roll.up (Roll.inT z.raw z.zI (Sh.zI z to)) 1)).length:Int)),(73,iV k)]) (fun (k:Nat) (vr2:Value)=>[Row vr2 163 8 zU (Sh.bIn ((z.fine++(Roll.up (Roll.inT z.raw z.zI (Sh.zI z to)) 1)).take k) z.zH (Sh.zH z to)),Row (.slice A7 ((Roll.up (Roll.inT z.raw z.zI (Sh.zI z to)) 1).length) cp7) 163 8 zU (Roll.up (Roll.inT z.raw z.zI (Sh.zI z to)) 1),Row (.slice A5 ((Roll.inT z.raw z.zI (Sh.zI z to)).length) cp5) 41 2 zo (Roll.inT z.raw z.zI (Sh.zI z to)),.blk b7 [.slice A1 z.zV.length cp1,.slice A2 z.raw.length cp2,.slice A8 ((z.fine++(Roll.up (Roll.inT z.raw z.zI (Sh.zI z to)) 1)).length) cp8,.slice A4 z.coarse.length cp4,iV z.ze,iV z.zW,iV z.zI,iV z.zN,iV z.zH] 50,Row (.slice A1 z.zV.length cp1) 74 2 zj z.zV,Row (.slice A2 z.raw.length cp2) 41 2 zo z.raw,Row (.slice A8 ((z.fine++(Roll.up (Roll.inT z.raw z.zI (Sh.zI z to)) 1)).length) cp8) 163 8 zU (z.fine++(Roll.up (Roll.inT z.raw z.zI (Sh.zI z to)) 1)),Row (.slice A4 z.coarse.length cp4) 163 8 zU z.coarse,.blk b4 [Zs,Zs,Zs,Zs,iV 0,iV 0,iV 0,iV 0,iV 0] 50,.blk b2 [.slice z0A z.zV.length z0c,.slice z1A z.raw.length z1c,.slice z2A z.fine.length z2c,.slice z3A z.coarse.length z3c,iV z.ze,iV z.zW,iV z.zI,iV z.zN,iV z.zH] 50,slP 2 zj (.slice z0A z.zV.length z0c) z.zV,slP 2 zo (.slice z1A z.raw.length z1c) z.raw,slP 8 zU (.slice z2A z.fine.length z2c) z.fine,slP 8 zU (.slice z3A z.coarse.length z3c) z.coarse]) (fun (k:Nat) (vr2:Value)=>k≤(z.fine++(Roll.up (Roll.inT z.raw z.zI (Sh.zI z to)) 1)).length) (fun (k:Nat) (vr2:Value)=>(z.fine++(Roll.up (Roll.inT z.raw z.zI (Sh.zI z to)) 1)).length - k) 0 (Zs) (sc rfl (sc rfl (sc rfl (sc rfl (sc rfl (sc rfl (sc rfl (sc rfl (sc (ji (by omega)) sn))))))))) (fun _ h=>h) ?_ (fun k vr2 hI2=>?_)
 · omega
 have hlen:=Nat.le_trans (Sh.bIn_len ((z.fine++(Roll.up (Roll.inT z.raw z.zI (Sh.zI z to)) 1)).take k) z.zH (Sh.zH z to)) (List.length_take_le k (z.fine++(Roll.up (Roll.inT z.raw z.zI (Sh.zI z to)) 1)))
 refine vW 0 (l:=(Sh.bIn ((z.fine++(Roll.up (Roll.inT z.raw z.zI (Sh.zI z to)) 1)).take k) z.zH (Sh.zH z to))) rfl fun A9 cp9 hv3 hc5 hm5 hA9=>?_
 subst hv3
 refine zG fun _ hK25=>zB (yR rfl rfl) (zD hK25 (zS fun _ hK26=>zZ rfl (fun h7=>?_) (fun h7=>?_)))
 · refine yK hK26 (zS fun _ hK27=>zk (zG fun _ hK28=>?_))
   obtain ⟨ad2,hd2⟩:=hA8 (ne_nil (i:=k) (by first | omega | (simp <;> omega)))
   refine zB (y6 (i:=k) rfl hd2 rfl (by omega) (by first | omega | (simp <;> omega)) underlying48 inf163) ?_
   obtain ⟨s2,hs2⟩:∃ x,(z.fine++(Roll.up (Roll.inT z.raw z.zI (Sh.zI z to)) 1))[k]?=some x:=⟨_,List.getElem?_eq_getElem (by first | omega | (simp <;> omega))⟩
   refine zB (jE 6 [iV s2.at_,iV s2.sum.count,iV s2.sum.total,iV s2.sum.min,iV s2.sum.max,iV s2.sum.first,iV s2.sum.last,iV s2.sum.rise] encBucket rfl rfl hd2 hs2 rfl rfl agg163 inf163) (yC wn inf163 rfl fun b15=>zr 0 wn rfl rfl rfl inf163 rfl rfl rfl (zD hK28 (zG fun _ hK29=>zB (za rfl fld163_0) (zB (zg 0 rfl rfl rfl flat3) (zB (za rfl fld50_8) (zB (zg 10 rfl rfl rfl flat3) (zB (vn rfl rfl) (zE rfl (yQ (t:=82) rfl (fun h8=>?_) (fun h8=>?_))))))))))
   · refine zb (za rfl fld163_0) (zb (zg 0 rfl rfl rfl flat3) (zb (zi rfl) (zb (yR rfl rfl) (zB (zM rfl rfl) (zD hK29 (zZ rfl (fun h9=>?_) (fun h9=>?_)))))))
     · refine zL (zE rfl (zB (yM 0 [iV s2.at_,iV s2.sum.count,iV s2.sum.total,iV s2.sum.min,iV s2.sum.max,iV s2.sum.first,iV s2.sum.last,iV s2.sum.rise] rfl rfl rfl rfl agg163 inf163) (yw zU ([s2]:List Bucket) wn underlying48 inf163 rfl rfl rfl rfl (by decide) (by decide) rfl fun b90=>vG 2 (Sh.bIn ((z.fine++(Roll.up (Roll.inT z.raw z.zI (Sh.zI z to)) 1)).take k) z.zH (Sh.zH z to)) ([s2]:List Bucket) encBucket wn rfl rfl rfl (fun _ hM=>(RowSl encBucket hM 0 rfl)) underlying48 inf163 rfl rfl (by first | omega | (simp only [List.length_append,List.length_cons,List.length_nil]; omega)) rfl fun A10 cp10 hc6 hm6 hA10=>zP rfl (zl (zm (zy hK27 (zL (zB (zw rfl rfl (by omega)) (zE rfl (zl (vb (k + 1) (.slice A10 (((Sh.bIn ((z.fine++(Roll.up (Roll.inT z.raw z.zI (Sh.zI z to)) 1)).take k) z.zH (Sh.zH z to))++([s2]:List Bucket)).length) cp10) (sc rfl (sc rfl (sc rfl (sc rfl (sc rfl (sc rfl (sc rfl (sc rfl (sc (ji (by omega)) sn))))))))) (fun _ h=>by rw [(Sh.bIn_succ (a:=z.zH) (b:=Sh.zH z to) hs2).trans (if_pos (by omega))]; exact (h.sel [2,3,4,5,6,7,8,9,10,11,12,13,14,15] (by decide) rfl)) ?_ ?_)))))))))))
       · omega
       omega
     refine yU (zm (zy hK27 (zL (zB (zw rfl rfl (by omega)) (zE rfl (zl (vb (k + 1) (.slice A9 ((Sh.bIn ((z.fine++(Roll.up (Roll.inT z.raw z.zI (Sh.zI z to)) 1)).take k) z.zH (Sh.zH z to)).length) cp9) (sc rfl (sc rfl (sc rfl (sc rfl (sc rfl (sc rfl (sc rfl (sc rfl (sc (ji (by omega)) sn))))))))) (fun _ h=>by rw [(Sh.bIn_succ (a:=z.zH) (b:=Sh.zH z to) hs2).trans (if_neg (by omega))]; exact (h.sel [1,2,3,4,5,6,7,8,9,10,11,12,13,14] (by decide) rfl)) ?_ ?_)))))))
     · omega
     omega
   refine zQ (zQ (zQ (zQ (zB (zM rfl rfl) (zD hK29 (yr rfl rfl (yU (zm (zy hK27 (zL (zB (zw rfl rfl (by omega)) (zE rfl (zl (vb (k + 1) (.slice A9 ((Sh.bIn ((z.fine++(Roll.up (Roll.inT z.raw z.zI (Sh.zI z to)) 1)).take k) z.zH (Sh.zH z to)).length) cp9) (sc rfl (sc rfl (sc rfl (sc rfl (sc rfl (sc rfl (sc rfl (sc rfl (sc (ji (by omega)) sn))))))))) (fun _ h=>by rw [(Sh.bIn_succ (a:=z.zH) (b:=Sh.zH z to) hs2).trans (if_neg (by omega))]; exact (h.sel [1,2,3,4,5,6,7,8,9,10,11,12,13,14] (by decide) rfl)) ?_ ?_))))))))))))))
   · omega
   omega
 have hk2:(z.fine++(Roll.up (Roll.inT z.raw z.zI (Sh.zI z to)) 1)).take k=(z.fine++(Roll.up (Roll.inT z.raw z.zI (Sh.zI z to)) 1)):=List.take_of_length_le (by omega)
 rw [hk2]
 rw [hk2] at hA9
 refine yZ (yH (uB (yI (zy hK23 (zS fun _ hK30=>vL (Mem w ⟨no,P0⟩ [Row (.slice A9 ((Sh.bIn (z.fine++(Roll.up (Roll.inT z.raw z.zI (Sh.zI z to)) 1)) z.zH (Sh.zH z to)).length) cp9) 163 8 zU (Sh.bIn (z.fine++(Roll.up (Roll.inT z.raw z.zI (Sh.zI z to)) 1)) z.zH (Sh.zH z to)),Row (.slice A7 ((Roll.up (Roll.inT z.raw z.zI (Sh.zI z to)) 1).length) cp7) 163 8 zU (Roll.up (Roll.inT z.raw z.zI (Sh.zI z to)) 1),Row (.slice A5 ((Roll.inT z.raw z.zI (Sh.zI z to)).length) cp5) 41 2 zo (Roll.inT z.raw z.zI (Sh.zI z to)),Row (.slice A1 z.zV.length cp1) 74 2 zj z.zV,Row (.slice A2 z.raw.length cp2) 41 2 zo z.raw,Row (.slice A8 ((z.fine++(Roll.up (Roll.inT z.raw z.zI (Sh.zI z to)) 1)).length) cp8) 163 8 zU (z.fine++(Roll.up (Roll.inT z.raw z.zI (Sh.zI z to)) 1)),.blk b4 [Zs,Zs,Zs,Zs,iV 0,iV 0,iV 0,iV 0,iV 0] 50,.blk b2 [.slice z0A z.zV.length z0c,.slice z1A z.raw.length z1c,.slice z2A z.fine.length z2c,.slice z3A z.coarse.length z3c,iV z.ze,iV z.zW,iV z.zI,iV z.zN,iV z.zH] 50,slP 2 zj (.slice z0A z.zV.length z0c) z.zV,slP 2 zo (.slice z1A z.raw.length z1c) z.raw,slP 8 zU (.slice z2A z.fine.length z2c) z.fine,slP 8 zU (.slice z3A z.coarse.length z3c) z.coarse]) mix (fun _ h=>h.drew) rfl (vK 5 [0,2] [0,1,2,4,5,6,8,9,10,11,12,13] rfl fun KS hKS=>yD (za rfl fld50_3) (yD (zi rfl) (yd hKS (gO (f:=3) [(1,.val 94 (.slice A4 z.coarse.length cp4)),(3,.row 96 163 8 (Roll.greater (Sh.bIn (z.fine++(Roll.up (Roll.inT z.raw z.zI (Sh.zI z to)) 1)) z.zH (Sh.zH z to))).length ((Roll.greater (Sh.bIn (z.fine++(Roll.up (Roll.inT z.raw z.zI (Sh.zI z to)) 1)) z.zH (Sh.zH z to))).flatMap zU))] rfl (by kernel_rfl) (nd [1,3] rfl (by decide)) (nd [94,96] rfl (by decide)) rfl ⟨jv_ [] trivial rfl rfl rfl (zg 3 rfl rfl rfl flat48),jr_ [] trivial rfl rfl rfl rfl call127 (fun w1 hM=>c_Greater _ (Sh.bIn (z.fine++(Roll.up (Roll.inT z.raw z.zI (Sh.zI z to)) 1)) z.zH (Sh.zH z to)) w1 (RowSl encBucket hM 0 rfl) (by first | assumption | omega | (simp only [List.length_cons,List.length_nil]; omega) | exact Nat.le_trans (Roll.up_len _ _) (by first | omega | simp))),trivial⟩ (S9 [0,1,2,4,5,6,8,9,10,11,12,13]) fun val2=>jw (E':=[(2,.pointer (some ⟨b2,0,none⟩)),(4,.pointer (some ⟨b4,0,none⟩)),(7,.pointer (some ⟨b7,0,none⟩)),(8,iV (Sh.zI z to)),(9,iV (Sh.zH z to)),(13,.slice A9 ((Sh.bIn (z.fine++(Roll.up (Roll.inT z.raw z.zI (Sh.zI z to)) 1)) z.zH (Sh.zH z to)).length) cp9),(71,.slice A8 ((z.fine++(Roll.up (Roll.inT z.raw z.zI (Sh.zI z to)) 1)).length) cp8),(72,iV ((z.fine++(Roll.up (Roll.inT z.raw z.zI (Sh.zI z to)) 1)).length:Int)),(73,iV k),(74,.bool (decide ((k:Int) < ((z.fine++(Roll.up (Roll.inT z.raw z.zI (Sh.zI z to)) 1)).length:Int)))),(93,.pointer (some ⟨b7,3,none⟩)),(94,.slice A4 z.coarse.length cp4),(95,.slice A9 ((Sh.bIn (z.fine++(Roll.up (Roll.inT z.raw z.zI (Sh.zI z to)) 1)) z.zH (Sh.zH z to)).length) cp9),(96,(val2 3))]) (S':=Mem w ⟨no,P0⟩ [Row (val2 3) 163 8 zU (Roll.greater (Sh.bIn (z.fine++(Roll.up (Roll.inT z.raw z.zI (Sh.zI z to)) 1)) z.zH (Sh.zH z to))),Row (.slice A9 ((Sh.bIn (z.fine++(Roll.up (Roll.inT z.raw z.zI (Sh.zI z to)) 1)) z.zH (Sh.zH z to)).length) cp9) 163 8 zU (Sh.bIn (z.fine++(Roll.up (Roll.inT z.raw z.zI (Sh.zI z to)) 1)) z.zH (Sh.zH z to)),Row (.slice A7 ((Roll.up (Roll.inT z.raw z.zI (Sh.zI z to)) 1).length) cp7) 163 8 zU (Roll.up (Roll.inT z.raw z.zI (Sh.zI z to)) 1),Row (.slice A5 ((Roll.inT z.raw z.zI (Sh.zI z to)).length) cp5) 41 2 zo (Roll.inT z.raw z.zI (Sh.zI z to)),.blk b7 [.slice A1 z.zV.length cp1,.slice A2 z.raw.length cp2,.slice A8 ((z.fine++(Roll.up (Roll.inT z.raw z.zI (Sh.zI z to)) 1)).length) cp8,.slice A4 z.coarse.length cp4,iV z.ze,iV z.zW,iV z.zI,iV z.zN,iV z.zH] 50,Row (.slice A1 z.zV.length cp1) 74 2 zj z.zV,Row (.slice A2 z.raw.length cp2) 41 2 zo z.raw,Row (.slice A8 ((z.fine++(Roll.up (Roll.inT z.raw z.zI (Sh.zI z to)) 1)).length) cp8) 163 8 zU (z.fine++(Roll.up (Roll.inT z.raw z.zI (Sh.zI z to)) 1)),Row (.slice A4 z.coarse.length cp4) 163 8 zU z.coarse,.blk b4 [Zs,Zs,Zs,Zs,iV 0,iV 0,iV 0,iV 0,iV 0] 50,.blk b2 [.slice z0A z.zV.length z0c,.slice z1A z.raw.length z1c,.slice z2A z.fine.length z2c,.slice z3A z.coarse.length z3c,iV z.ze,iV z.zW,iV z.zI,iV z.zN,iV z.zH] 50,slP 2 zj (.slice z0A z.zV.length z0c) z.zV,slP 2 zo (.slice z1A z.raw.length z1c) z.raw,slP 8 zU (.slice z2A z.fine.length z2c) z.fine,slP 8 zU (.slice z3A z.coarse.length z3c) z.coarse]) (sc rfl (sc rfl (sc rfl (sc rfl (sc rfl (sc rfl (sc rfl (sc rfl (sc rfl (sc rfl (sc rfl (sc rfl (sc rfl (sc rfl sn)))))))))))))) (fun _ h=>h) (jO 0 (l:=(Roll.greater (Sh.bIn (z.fine++(Roll.up (Roll.inT z.raw z.zI (Sh.zI z to)) 1)) z.zH (Sh.zH z to)))) (enc:=zU) rfl fun A11 cp11 hv4 hc7 hm7 hA11=>?_))))))))))
 rw [hv4]
 refine yY 2 4 (yb (i:=4) rfl fun KN hKN=>vG 8 z.coarse (Roll.greater (Sh.bIn (z.fine++(Roll.up (Roll.inT z.raw z.zI (Sh.zI z to)) 1)) z.zH (Sh.zH z to))) encBucket wn rfl rfl rfl (fun _ hM=>(RowSl encBucket hM 0 rfl)) underlying48 inf163 rfl rfl (by first | omega | (simp only [List.length_append,List.length_cons,List.length_nil]; omega)) rfl fun A12 cp12 hc8 hm8 hA12=>yP hKN [1,2,3,5,6,7,9,10,11,12,13,14] (vK 1 [5] [1,2,3,5,6,7,9,10,11,12,13,14] rfl fun KS hKS=>yD (za rfl fld50_3) (yd hKS (yY 0 6 (yb (i:=6) rfl fun KN hKN=>yt 4 wn rfl rfl rfl rfl inf48 rfl rfl (yP hKN [1,2,3,5,6,7,9,10,11,12,13,14] (yu (by kernel_rfl) (zy hK30 ?_))))))))
 refine zS fun _ hK31=>zG fun _ hK32=>zB (za rfl fld50_2) (zB (zg 4 rfl rfl rfl flat48) (zB (yW rfl underlying48) (zB (vH rfl rfl) (zE rfl (yQ (t:=103) rfl (fun h10=>?_) (fun h10=>?_))))))
 · refine zQ (zQ (zQ (zQ (zB (zM rfl rfl) (zD hK32 (vM rfl rfl (zG fun _ hK33=>zB (zz [Zs,Zs,Zs,Zs,iV 0,iV 0,iV 0,iV 0,iV 0] pl50 inf50 rfl rfl) (zr 9 wn rfl rfl rfl inf50 rfl rfl rfl (zP rfl (zD hK33 ?_))))))))))
   refine zX (zK (yT (.inl rfl) results74 (zt 9 rfl rfl agg50 inf50 rfl) (zR rfl) fun w1 hM=>?_))
   have he:Sh.roll z to=((⟨([]:List Label),([]:List Sample),([]:List Bucket),([]:List Bucket),0,0,0,0,0⟩:Shelf),5):=Sh.roll_many h1 (fun g=>by omega) (.inl h10)
   rw [he]
   exact hM.vl (s':=(⟨([]:List Label),([]:List Sample),([]:List Bucket),([]:List Bucket),0,0,0,0,0⟩:Shelf)) (fun u=>.tuple (List.toArray [u,iV 5])) rfl (rfl) (fun _ _=>zJ.yq _ _ _ _) (fun _ _=>zJ.yq _ _ _ _) (fun _ _=>zJ.yq _ _ _ _) (fun _ _=>zJ.yq _ _ _ _)
 refine zb (za rfl fld50_3) (zb (zg 4 rfl rfl rfl flat48) (zb (yW rfl underlying48) (zb (vH rfl rfl) (zB (zM rfl rfl) (zD hK32 (zZ rfl (fun h11=>?_) (fun h11=>?_)))))))
 · refine zG fun _ hK34=>zB (zz [Zs,Zs,Zs,Zs,iV 0,iV 0,iV 0,iV 0,iV 0] pl50 inf50 rfl rfl) (zr 9 wn rfl rfl rfl inf50 rfl rfl rfl (zP rfl (zD hK34 (zX (zK (yT (.inl rfl) results74 (zt 9 rfl rfl agg50 inf50 rfl) (zR rfl) fun w1 hM=>?_))))))
   have he:Sh.roll z to=((⟨([]:List Label),([]:List Sample),([]:List Bucket),([]:List Bucket),0,0,0,0,0⟩:Shelf),5):=Sh.roll_many h1 (fun g=>by omega) (.inr h11)
   rw [he]
   exact hM.vl (s':=(⟨([]:List Label),([]:List Sample),([]:List Bucket),([]:List Bucket),0,0,0,0,0⟩:Shelf)) (fun u=>.tuple (List.toArray [u,iV 5])) rfl (rfl) (fun _ _=>zJ.yq _ _ _ _) (fun _ _=>zJ.yq _ _ _ _) (fun _ _=>zJ.yq _ _ _ _) (fun _ _=>zJ.yq _ _ _ _)
 refine yK hK31 (zG fun _ hK35=>zE rfl (zE rfl (zB (za rfl fld50_6) (yt 4 wn rfl rfl rfl rfl inf3 rfl rfl (zB (za rfl fld50_8) (yt 4 wn rfl rfl rfl rfl inf3 rfl rfl (zD hK35 (zG fun _ hK36=>zB (yM 4 [.slice A1 z.zV.length cp1,.slice A2 z.raw.length cp2,.slice A8 ((z.fine++(Roll.up (Roll.inT z.raw z.zI (Sh.zI z to)) 1)).length) cp8,.slice A12 ((z.coarse++(Roll.greater (Sh.bIn (z.fine++(Roll.up (Roll.inT z.raw z.zI (Sh.zI z to)) 1)) z.zH (Sh.zH z to)))).length) cp12,iV z.ze,iV z.zW,iV (Sh.zI z to),iV z.zN,iV (Sh.zH z to)] rfl rfl rfl rfl agg50 inf50) (zr 9 wn rfl rfl rfl inf50 rfl rfl rfl ?_)))))))))
 refine zP rfl (zD hK36 (zX (yT (.inl rfl) results74 (zt 9 rfl rfl agg50 inf50 rfl) (zR rfl) fun w1 hM=>?_)))
 have he:Sh.roll z to=((⟨z.zV,z.raw,(z.fine++(Roll.up (Roll.inT z.raw z.zI (Sh.zI z to)) 1)),(z.coarse++(Roll.greater (Sh.bIn (z.fine++(Roll.up (Roll.inT z.raw z.zI (Sh.zI z to)) 1)) z.zH (Sh.zH z to)))),z.ze,z.zW,(Sh.zI z to),z.zN,(Sh.zH z to)⟩:Shelf),0):=Sh.roll_ok h1 (fun g=>by omega) h10 h11
 rw [he]
 have hM:=hM.yh encLabel (i:=5) rfl rfl
 have hM:=hM.yh encSample (i:=6) rfl rfl
 have hM:=hM.yh encBucket (i:=7) rfl rfl
 have hM:=hM.yh encBucket (i:=8) rfl rfl
 exact hM.vl (s':=(⟨z.zV,z.raw,(z.fine++(Roll.up (Roll.inT z.raw z.zI (Sh.zI z to)) 1)),(z.coarse++(Roll.greater (Sh.bIn (z.fine++(Roll.up (Roll.inT z.raw z.zI (Sh.zI z to)) 1)) z.zH (Sh.zH z to)))),z.ze,z.zW,(Sh.zI z to),z.zN,(Sh.zH z to)⟩:Shelf)) (fun u=>.tuple (List.toArray [u,iV 0])) rfl (rfl) (fun _ pp=>pp.sl 5 rfl) (fun _ pp=>pp.sl 6 rfl) (fun _ pp=>pp.sl 7 rfl) (fun _ pp=>pp.sl 8 rfl)
theorem ub (x : Bucket) (fp : Nat) (f : Int) (w : World) (hfp : w.heap[fp]? = some (.cells [iV f].toArray 3 (0, 0)))  :
    Calls prog 121 #[.agg (zU x).toArray,.pointer (some ⟨fp,0,none⟩)] w (Ret w (.bool (decide (x.at_ < f)))):=by
 refine fstart (N:=8) (vals:=[.agg (zU x).toArray,.pointer (some ⟨fp,0,none⟩)]) (S:=Mem w no [datB fp [iV f] 3]) func121 rfl rfl rfl (Mem.ofDats (dc (ddb hfp) dn)) (zG fun _ hK1=>vS wn rfl rfl fun b2=>zP rfl (zD hK1 (zG fun _ hK2=>zB (za rfl fld163_0) (zB (zg 0 rfl rfl rfl flat3) (zB (vz 1 rfl rfl rfl flat3) (zB (yR rfl rfl) (zP rfl (zD hK2 ?_))))))))
 refine zX (zY (.inl rfl) results121 (zR rfl) fun w1 hM=>?_)
 exact zn rfl hM
theorem c_forget2 (x : Sample) (zp : Nat) (z0 : Value) (z1 : Value) (z2 : Value) (z3 : Value) (z : Shelf) (w : World) (hzp : w.heap[zp]? = some (.cells [z0, z1, z2, z3, iV z.ze, iV z.zW, iV z.zI, iV z.zN, iV z.zH].toArray 50 (0, 0)))  :
    Calls prog 123 #[.agg (zo x).toArray,.pointer (some ⟨zp,0,none⟩)] w (Ret w (.bool (decide (x.time < z.ze)))):=by
 refine fstart (N:=9) (vals:=[.agg (zo x).toArray,.pointer (some ⟨zp,0,none⟩)]) (S:=Mem w no [datB zp [z0,z1,z2,z3,iV z.ze,iV z.zW,iV z.zI,iV z.zN,iV z.zH] 50]) func123 rfl rfl rfl (Mem.ofDats (dc (ddb hzp) dn)) (zG fun _ hK1=>vS wn rfl rfl fun b2=>zP rfl (zD hK1 (zG fun _ hK2=>zB (za rfl fld41_0) (zB (zg 0 rfl rfl rfl flat3) (zB (za rfl fld50_4) (zB (vz 1 rfl rfl rfl flat3) (zB (yR rfl rfl) (zP rfl ?_))))))))
 refine zD hK2 (zX (zY (.inl rfl) results123 (zR rfl) fun w1 hM=>?_))
 exact zn rfl hM
theorem ux (f : Int) (w : World)   :
    Calls prog 120 #[iV f] w (RetMk w (fun b=>.func (.func 121) #[] #[.pointer (some ⟨b,0,none⟩)]) (fun b=>.blk b [iV f] 3)):=by
 refine fstart (N:=4) (vals:=[iV f]) (S:=Mem w no []) func120 rfl rfl rfl (Mem.ofDats dn) (zG fun _ hK1=>jJ wn rfl rfl rfl fun b1=>zP rfl (zD hK1 (zG fun _ hK2=>zB (vg rfl rfl) (zP rfl (zD hK2 (zX (zY (.inl rfl) results120 (zR rfl) fun w1 hM=>?_)))))))
 exact ⟨b1,rfl,hM⟩
set_option maxHeartbeats 1000000 in
theorem c_forget (z0 : Value) (z1 : Value) (z2 : Value) (z3 : Value) (z : Shelf) (tier : Int) (to : Int) (P0 : Nat → Prop) (w : World) (hP0 : ∀ b, P0 b → b < w.heap.size) (hz0 : zJ P0 2 zj z0 z.zV w) (hz1 : zJ P0 2 zo z1 z.raw w) (hz2 : zJ P0 8 zU z2 z.fine w) (hz3 : zJ P0 8 zU z3 z.coarse w)  :
    Calls prog 72 #[.agg (List.toArray [z0,z1,z2,z3,iV z.ze,iV z.zW,iV z.zI,iV z.zN,iV z.zH]),iV tier,iV to] w (RetSh w P0 (fun u=>.tuple (List.toArray [u,iV (Sh.forget z tier to).2])) (Sh.forget z tier to).1):=by
 obtain ⟨z0A,z0c,rfl,hz0c,hz0m,hz0A⟩:=hz0.form
 obtain ⟨z1A,z1c,rfl,hz1c,hz1m,hz1A⟩:=hz1.form
 obtain ⟨z2A,z2c,rfl,hz2c,hz2m,hz2A⟩:=hz2.form
 obtain ⟨z3A,z3c,rfl,hz3c,hz3m,hz3A⟩:=hz3.form
 refine fstart (N:=82) (vals:=[.agg (List.toArray [.slice z0A z.zV.length z0c,.slice z1A z.raw.length z1c,.slice z2A z.fine.length z2c,.slice z3A z.coarse.length z3c,iV z.ze,iV z.zW,iV z.zI,iV z.zN,iV z.zH]),iV tier,iV to]) (S:=Mem w ⟨no,P0⟩ [slP 2 zj (.slice z0A z.zV.length z0c) z.zV,slP 2 zo (.slice z1A z.raw.length z1c) z.raw,slP 8 zU (.slice z2A z.fine.length z2c) z.fine,slP 8 zU (.slice z3A z.coarse.length z3c) z.coarse]) func72 rfl rfl rfl (Mem.ofDatsP hP0 (dc (dlp hz0) (dc (dlp hz1) (dc (dlp hz2) (dc (dlp hz3) dn))))) (zG fun _ hK1=>vS wn rfl rfl fun b3=>yC wn inf50 rfl fun b6=>zP rfl (zD hK1 (zS fun _ hK2=>zG fun _ hK3=>zB (yM 1 [.slice z0A z.zV.length z0c,.slice z1A z.raw.length z1c,.slice z2A z.fine.length z2c,.slice z3A z.coarse.length z3c,iV z.ze,iV z.zW,iV z.zI,iV z.zN,iV z.zH] rfl rfl rfl rfl agg50 inf50) (yF wn rfl call21 rfl (fun w1 hM=>ua _ _ _ _ z (In w1) w1 (fun _ h=>h) (hM.slp 2 rfl) (hM.slp 3 rfl) (hM.slp 4 rfl) (hM.slp 5 rfl)) (zP rfl (zD hK3 ?_))))))
 refine zG fun _ hK4=>zE rfl (zB (vD rfl rfl) (zD hK4 (zZ rfl (fun h1=>?_) (fun h1=>?_))))
 · refine zG fun _ hK5=>zB (zz [Zs,Zs,Zs,Zs,iV 0,iV 0,iV 0,iV 0,iV 0] pl50 inf50 rfl rfl) (zE rfl (zr 0 wn rfl rfl rfl inf50 rfl rfl rfl (zP rfl (zD hK5 (zX (zK (yT (.inl rfl) results72 (zt 0 rfl rfl agg50 inf50 rfl) (zR rfl) fun w1 hM=>?_)))))))
   have he:Sh.forget z tier to=((⟨([]:List Label),([]:List Sample),([]:List Bucket),([]:List Bucket),0,0,0,0,0⟩:Shelf),(Sh.wrong z)):=Sh.forget_wrong h1
   rw [he]
   exact hM.vl (s':=(⟨([]:List Label),([]:List Sample),([]:List Bucket),([]:List Bucket),0,0,0,0,0⟩:Shelf)) (fun u=>.tuple (List.toArray [u,iV (Sh.wrong z)])) rfl (rfl) (fun _ _=>zJ.yq _ _ _ _) (fun _ _=>zJ.yq _ _ _ _) (fun _ _=>zJ.yq _ _ _ _) (fun _ _=>zJ.yq _ _ _ _)
 obtain ⟨l1,l2,l3,l4⟩:=(Sh.ok_of h1).lens
 obtain ⟨⟨g1,g2,g3,g4⟩,⟨g5,g6,g7,g8,g9⟩,g10,g11,g12,g13,g14⟩:=(Sh.ok_of h1).rng
 refine yK hK2 (zS fun _ hK6=>zG fun _ hK7=>zE rfl (zB (yR rfl rfl) (zE rfl (yQ (t:=19) rfl (fun h2=>?_) (fun h2=>?_)))))
 · refine zQ (zQ (zB (zM rfl rfl) (zD hK7 (vM rfl rfl (zG fun _ hK8=>zB (zz [Zs,Zs,Zs,Zs,iV 0,iV 0,iV 0,iV 0,iV 0] pl50 inf50 rfl rfl) (zr 0 wn rfl rfl rfl inf50 rfl rfl rfl (zP rfl (zD hK8 (zX (zK (yT (.inl rfl) results72 (zt 0 rfl rfl agg50 inf50 rfl) (zR rfl) fun w1 hM=>?_)))))))))))
   have he:Sh.forget z tier to=((⟨([]:List Label),([]:List Sample),([]:List Bucket),([]:List Bucket),0,0,0,0,0⟩:Shelf),3):=Sh.forget_range h1 (by omega)
   rw [he]
   exact hM.vl (s':=(⟨([]:List Label),([]:List Sample),([]:List Bucket),([]:List Bucket),0,0,0,0,0⟩:Shelf)) (fun u=>.tuple (List.toArray [u,iV 3])) rfl (rfl) (fun _ _=>zJ.yq _ _ _ _) (fun _ _=>zJ.yq _ _ _ _) (fun _ _=>zJ.yq _ _ _ _) (fun _ _=>zJ.yq _ _ _ _)
 refine zb (zi rfl) (zb (vH rfl rfl) (zB (zM rfl rfl) (zD hK7 (zZ rfl (fun h3=>?_) (fun h3=>?_)))))
 · refine zG fun _ hK9=>zB (zz [Zs,Zs,Zs,Zs,iV 0,iV 0,iV 0,iV 0,iV 0] pl50 inf50 rfl rfl) (zr 0 wn rfl rfl rfl inf50 rfl rfl rfl (zP rfl (zD hK9 (zX (zK (yT (.inl rfl) results72 (zt 0 rfl rfl agg50 inf50 rfl) (zR rfl) fun w1 hM=>?_))))))
   have he:Sh.forget z tier to=((⟨([]:List Label),([]:List Sample),([]:List Bucket),([]:List Bucket),0,0,0,0,0⟩:Shelf),3):=Sh.forget_range h1 (by omega)
   rw [he]
   exact hM.vl (s':=(⟨([]:List Label),([]:List Sample),([]:List Bucket),([]:List Bucket),0,0,0,0,0⟩:Shelf)) (fun u=>.tuple (List.toArray [u,iV 3])) rfl (rfl) (fun _ _=>zJ.yq _ _ _ _) (fun _ _=>zJ.yq _ _ _ _) (fun _ _=>zJ.yq _ _ _ _) (fun _ _=>zJ.yq _ _ _ _)
 refine yK hK6 (zG fun _ hK10=>zB (yM 1 [.slice z0A z.zV.length z0c,.slice z1A z.raw.length z1c,.slice z2A z.fine.length z2c,.slice z3A z.coarse.length z3c,iV z.ze,iV z.zW,iV z.zI,iV z.zN,iV z.zH] rfl rfl rfl rfl agg50 inf50) (uw z wn rfl call119 rfl (fun w1 hM=>gE _ _ _ _ z (In w1) w1 (fun _ h=>h) (hM.slp 2 rfl) (hM.slp 3 rfl) (hM.slp 4 rfl) (hM.slp 5 rfl) (Sh.wrong_lens (by assumption))) fun A1 cp1 A2 cp2 A3 cp3 A4 cp4 hb1 hA1 hA2 hA3 hA4=>yC wn inf50 rfl fun b9=>zr 0 wn rfl rfl rfl inf50 rfl rfl rfl (zD hK10 (zG fun _ hK11=>zP rfl (zD hK11 (zS fun _ hK12=>zG fun _ hK13=>?_))))))
 refine zE rfl (zD hK13 (zk (zG fun _ hK14=>zB (yf rfl rfl) (zP rfl (zD hK14 (zZ rfl (fun h4=>?_) (fun h4=>?_)))))))
 · refine zG fun _ hK15=>zB (za rfl fld50_4) (zB (zg 6 rfl rfl rfl flat3) (zE rfl (zB (za rfl fld50_6) (zB (zg 6 rfl rfl rfl flat3) (zB (jd rfl rfl) (zB (js (show _=(Sh.rawF z to) from rfl) (uj rfl rfl)) (zB (za rfl fld50_4) (yt 0 wn rfl rfl rfl rfl inf3 rfl rfl (zD hK15 (zL ?_))))))))))
   refine zB (za rfl fld50_1) (zB (zg 0 rfl rfl rfl flat47) (zB (vg rfl rfl) (uL 2 (Sh.fromS z.raw (Sh.rawF z to)) rfl wn rfl call122 rfl (fun w1 hM=>c_delS _ z.raw 123 #[.pointer (some ⟨b9,0,none⟩)] (fun x=>decide (x.time < (Sh.rawF z to))) w1 (hM.row (i:=2) rfl) call123 (fun x w2 h2=>c_forget2 x b9 _ _ _ _ (⟨z.zV,z.raw,z.fine,z.coarse,(Sh.rawF z to),z.zW,z.zI,z.zN,z.zH⟩:Shelf) w2 (hM.blkStay (i:=0) (j:=2) rfl rfl h2))) fun A5 cp5 hc1 hm1 hA5=>zB (za rfl fld50_1) (yt 0 wn rfl rfl rfl rfl inf47 rfl rfl (zl (zm (zy hK12 (zG fun _ hK16=>zB (yM 0 [.slice A1 z.zV.length cp1,.slice A5 ((Sh.fromS z.raw (Sh.rawF z to)).length) cp5,.slice A3 z.fine.length cp3,.slice A4 z.coarse.length cp4,iV (Sh.rawF z to),iV z.zW,iV z.zI,iV z.zN,iV z.zH] rfl rfl rfl rfl agg50 inf50) (zr 5 wn rfl rfl rfl inf50 rfl rfl rfl (zP rfl (zD hK16 ?_)))))))))))
   refine zX (yT (.inl rfl) results72 (zt 5 rfl rfl agg50 inf50 rfl) (zR rfl) fun w1 hM=>?_)
   have he:Sh.forget z tier to=((⟨z.zV,(Sh.fromS z.raw (Sh.rawF z to)),z.fine,z.coarse,(Sh.rawF z to),z.zW,z.zI,z.zN,z.zH⟩:Shelf),0):=Sh.forget_raw h1 (fun g=>by omega) h4
   rw [he]
   have hM:=hM.yh encLabel (i:=1) rfl rfl
   have hM:=hM.yh encSample (i:=2) rfl rfl
   have hM:=hM.yh encBucket (i:=3) rfl rfl
   have hM:=hM.yh encBucket (i:=4) rfl rfl
   exact hM.vl (s':=(⟨z.zV,(Sh.fromS z.raw (Sh.rawF z to)),z.fine,z.coarse,(Sh.rawF z to),z.zW,z.zI,z.zN,z.zH⟩:Shelf)) (fun u=>.tuple (List.toArray [u,iV 0])) rfl (rfl) (fun _ pp=>pp.sl 1 rfl) (fun _ pp=>pp.sl 2 rfl) (fun _ pp=>pp.sl 3 rfl) (fun _ pp=>pp.sl 4 rfl)
 refine zG fun _ hK17=>zB (yf rfl rfl) (zP rfl (zD hK17 (zZ rfl (fun h5=>?_) (fun h5=>?_))))
 · refine zS fun _ hK18=>va 9 mix (by kernel_rfl) (fun _ h=>h.drew) fun _ hT1=>zq (za rfl fld50_5) (zq (zg 6 rfl rfl rfl flat3) (yn rfl (zq (za rfl fld50_8) (zq (zg 6 rfl rfl rfl flat3) (zq (jd rfl rfl) (vP wn rfl call124 rfl (fun w1 hM=>jm (if z.zH < to then z.zH else to) 10 w1 (by omega) (by omega)) (zq (js (show _=(Sh.fineF z to) from rfl) (uj rfl rfl)) (zq (za rfl fld50_5) (v8 hT1 ?_)))))))))
   refine yt 0 wn rfl rfl rfl rfl inf3 rfl rfl (zD hK18 (vL (Mem w ⟨no,P0⟩ [Row (.slice A1 z.zV.length cp1) 74 2 zj z.zV,Row (.slice A2 z.raw.length cp2) 41 2 zo z.raw,Row (.slice A4 z.coarse.length cp4) 163 8 zU z.coarse,.blk b6 [Zs,Zs,Zs,Zs,iV 0,iV 0,iV 0,iV 0,iV 0] 50,.blk b3 [.slice z0A z.zV.length z0c,.slice z1A z.raw.length z1c,.slice z2A z.fine.length z2c,.slice z3A z.coarse.length z3c,iV z.ze,iV z.zW,iV z.zI,iV z.zN,iV z.zH] 50,slP 2 zj (.slice z0A z.zV.length z0c) z.zV,slP 2 zo (.slice z1A z.raw.length z1c) z.raw,slP 8 zU (.slice z2A z.fine.length z2c) z.fine,slP 8 zU (.slice z3A z.coarse.length z3c) z.coarse]) mix (fun _ h=>h.drew) rfl (vK 6 [0,2,3] [1,2,4,5,6,7,8,9,10] rfl fun KS hKS=>yD (za rfl fld50_2) (yD (zi rfl) (yD (za rfl fld50_5) (yd hKS (vX (f:=5) (i:=1) (j:=4) rfl (by kernel_rfl) ?_ ?_)))))))
   · refine yb (i:=1) rfl fun KN hKN=>zB (zg 0 rfl rfl rfl flat48) (yP hKN [1,2,4,5,6,7,8,9,10] (yY 4 4 (yb (i:=4) rfl fun KN hKN=>zB (zg 0 rfl rfl rfl flat3) (yP hKN [1,2,4,5,6,7,8,9,10] (yY 3 5 (yb (i:=5) rfl fun KN hKN=>uZ (fun b=>.func (.func 121) #[] #[.pointer (some ⟨b,0,none⟩)]) (fun b=>.blk b [iV (Sh.fineF z to)] 3) (fun _=>rfl) wn rfl rfl call120 rfl (fun w1 hM=>ux (Sh.fineF z to) w1) fun be1=>yP hKN [2,3,5,6,7,8,9,10,11] (yY 2 6 ?_)))))))
     refine yb (i:=6) rfl fun KN hKN=>uL 4 (Sh.fromB z.fine (Sh.fineF z to)) rfl wn rfl call125 rfl (fun w1 hM=>jN _ z.fine 121 #[.pointer (some ⟨be1,0,none⟩)] (fun x=>decide (x.at_ < (Sh.fineF z to))) w1 (hM.row (i:=4) rfl) call121 (fun x w2 h2=>ub x be1 (Sh.fineF z to) w2 (hM.blkStay (i:=0) (j:=4) rfl rfl h2))) fun A6 cp6 hc2 hm2 hA6=>yP hKN [2,3,5,6,7,8,9,10,11] (vK 1 [7] [2,3,5,6,7,8,9,10,11] rfl fun KS hKS=>yD (za rfl fld50_2) (yd hKS (yY 0 8 (yb (i:=8) rfl fun KN hKN=>yt 1 wn rfl rfl rfl rfl inf48 rfl rfl (yP hKN [2,3,5,6,7,8,9,10,11] (yu (by kernel_rfl) (zm (zy hK12 (zG fun _ hK19=>?_)))))))))
     refine zB (yM 1 [.slice A1 z.zV.length cp1,.slice A2 z.raw.length cp2,.slice A6 ((Sh.fromB z.fine (Sh.fineF z to)).length) cp6,.slice A4 z.coarse.length cp4,iV z.ze,iV (Sh.fineF z to),iV z.zI,iV z.zN,iV z.zH] rfl rfl rfl rfl agg50 inf50) (zr 6 wn rfl rfl rfl inf50 rfl rfl rfl (zP rfl (zD hK19 (zX (yT (.inl rfl) results72 (zt 6 rfl rfl agg50 inf50 rfl) (zR rfl) fun w1 hM=>?_)))))
     have he:Sh.forget z tier to=((⟨z.zV,z.raw,(Sh.fromB z.fine (Sh.fineF z to)),z.coarse,z.ze,(Sh.fineF z to),z.zI,z.zN,z.zH⟩:Shelf),0):=Sh.forget_fine h1 (fun g=>by omega) h4 h5
     rw [he]
     have hM:=hM.yh encLabel (i:=2) rfl rfl
     have hM:=hM.yh encSample (i:=3) rfl rfl
     have hM:=hM.yh encBucket (i:=4) rfl rfl
     have hM:=hM.yh encBucket (i:=5) rfl rfl
     exact hM.vl (s':=(⟨z.zV,z.raw,(Sh.fromB z.fine (Sh.fineF z to)),z.coarse,z.ze,(Sh.fineF z to),z.zI,z.zN,z.zH⟩:Shelf)) (fun u=>.tuple (List.toArray [u,iV 0])) rfl (rfl) (fun _ pp=>pp.sl 2 rfl) (fun _ pp=>pp.sl 3 rfl) (fun _ pp=>pp.sl 4 rfl) (fun _ pp=>pp.sl 5 rfl)
   refine yb (i:=4) rfl fun KN hKN=>zB (zg 0 rfl rfl rfl flat3) (yP hKN [1,2,4,5,6,7,8,9,10] (vX (f:=4) (i:=1) (j:=5) rfl (by kernel_rfl) ?_ ?_))
   · refine yb (i:=1) rfl fun KN hKN=>zB (zg 0 rfl rfl rfl flat48) (yP hKN [1,2,4,5,6,7,8,9,10] (yY 3 5 (yb (i:=5) rfl fun KN hKN=>uZ (fun b=>.func (.func 121) #[] #[.pointer (some ⟨b,0,none⟩)]) (fun b=>.blk b [iV (Sh.fineF z to)] 3) (fun _=>rfl) wn rfl rfl call120 rfl (fun w1 hM=>ux (Sh.fineF z to) w1) fun be2=>yP hKN [2,3,5,6,7,8,9,10,11] (yY 2 6 (yb (i:=6) rfl fun KN hKN=>uL 4 (Sh.fromB z.fine (Sh.fineF z to)) rfl wn rfl call125 rfl (fun w1 hM=>jN _ z.fine 121 #[.pointer (some ⟨be2,0,none⟩)] (fun x=>decide (x.at_ < (Sh.fineF z to))) w1 (hM.row (i:=4) rfl) call121 (fun x w2 h2=>ub x be2 (Sh.fineF z to) w2 (hM.blkStay (i:=0) (j:=4) rfl rfl h2))) fun A7 cp7 hc3 hm3 hA7=>yP hKN [2,3,5,6,7,8,9,10,11] (vK 1 [7] [2,3,5,6,7,8,9,10,11] rfl fun KS hKS=>?_))))))
     refine yD (za rfl fld50_2) (yd hKS (yY 0 8 (yb (i:=8) rfl fun KN hKN=>yt 1 wn rfl rfl rfl rfl inf48 rfl rfl (yP hKN [2,3,5,6,7,8,9,10,11] (yu (by kernel_rfl) (zm (zy hK12 (zG fun _ hK20=>zB (yM 1 [.slice A1 z.zV.length cp1,.slice A2 z.raw.length cp2,.slice A7 ((Sh.fromB z.fine (Sh.fineF z to)).length) cp7,.slice A4 z.coarse.length cp4,iV z.ze,iV (Sh.fineF z to),iV z.zI,iV z.zN,iV z.zH] rfl rfl rfl rfl agg50 inf50) (zr 6 wn rfl rfl rfl inf50 rfl rfl rfl (zP rfl (zD hK20 ?_)))))))))))
     refine zX (yT (.inl rfl) results72 (zt 6 rfl rfl agg50 inf50 rfl) (zR rfl) fun w1 hM=>?_)
     have he:Sh.forget z tier to=((⟨z.zV,z.raw,(Sh.fromB z.fine (Sh.fineF z to)),z.coarse,z.ze,(Sh.fineF z to),z.zI,z.zN,z.zH⟩:Shelf),0):=Sh.forget_fine h1 (fun g=>by omega) h4 h5
     rw [he]
     have hM:=hM.yh encLabel (i:=2) rfl rfl
     have hM:=hM.yh encSample (i:=3) rfl rfl
     have hM:=hM.yh encBucket (i:=4) rfl rfl
     have hM:=hM.yh encBucket (i:=5) rfl rfl
     exact hM.vl (s':=(⟨z.zV,z.raw,(Sh.fromB z.fine (Sh.fineF z to)),z.coarse,z.ze,(Sh.fineF z to),z.zI,z.zN,z.zH⟩:Shelf)) (fun u=>.tuple (List.toArray [u,iV 0])) rfl (rfl) (fun _ pp=>pp.sl 2 rfl) (fun _ pp=>pp.sl 3 rfl) (fun _ pp=>pp.sl 4 rfl) (fun _ pp=>pp.sl 5 rfl)
   refine yb (i:=5) rfl fun KN hKN=>uZ (fun b=>.func (.func 121) #[] #[.pointer (some ⟨b,0,none⟩)]) (fun b=>.blk b [iV (Sh.fineF z to)] 3) (fun _=>rfl) wn rfl rfl call120 rfl (fun w1 hM=>ux (Sh.fineF z to) w1) fun be3=>yP hKN [2,3,5,6,7,8,9,10,11] (yY 3 1 (yb (i:=1) rfl fun KN hKN=>zB (zg 1 rfl rfl rfl flat48) (yP hKN [2,3,5,6,7,8,9,10,11] (yY 2 6 (yb (i:=6) rfl fun KN hKN=>uL 4 (Sh.fromB z.fine (Sh.fineF z to)) rfl wn rfl call125 rfl (fun w1 hM=>jN _ z.fine 121 #[.pointer (some ⟨be3,0,none⟩)] (fun x=>decide (x.at_ < (Sh.fineF z to))) w1 (hM.row (i:=4) rfl) call121 (fun x w2 h2=>ub x be3 (Sh.fineF z to) w2 (hM.blkStay (i:=0) (j:=4) rfl rfl h2))) fun A8 cp8 hc4 hm4 hA8=>yP hKN [2,3,5,6,7,8,9,10,11] (vK 1 [7] [2,3,5,6,7,8,9,10,11] rfl fun KS hKS=>?_))))))
   refine yD (za rfl fld50_2) (yd hKS (yY 0 8 (yb (i:=8) rfl fun KN hKN=>yt 1 wn rfl rfl rfl rfl inf48 rfl rfl (yP hKN [2,3,5,6,7,8,9,10,11] (yu (by kernel_rfl) (zm (zy hK12 (zG fun _ hK21=>zB (yM 1 [.slice A1 z.zV.length cp1,.slice A2 z.raw.length cp2,.slice A8 ((Sh.fromB z.fine (Sh.fineF z to)).length) cp8,.slice A4 z.coarse.length cp4,iV z.ze,iV (Sh.fineF z to),iV z.zI,iV z.zN,iV z.zH] rfl rfl rfl rfl agg50 inf50) (zr 6 wn rfl rfl rfl inf50 rfl rfl rfl (zP rfl (zD hK21 ?_)))))))))))
   refine zX (yT (.inl rfl) results72 (zt 6 rfl rfl agg50 inf50 rfl) (zR rfl) fun w1 hM=>?_)
   have he:Sh.forget z tier to=((⟨z.zV,z.raw,(Sh.fromB z.fine (Sh.fineF z to)),z.coarse,z.ze,(Sh.fineF z to),z.zI,z.zN,z.zH⟩:Shelf),0):=Sh.forget_fine h1 (fun g=>by omega) h4 h5
   rw [he]
   have hM:=hM.yh encLabel (i:=2) rfl rfl
   have hM:=hM.yh encSample (i:=3) rfl rfl
   have hM:=hM.yh encBucket (i:=4) rfl rfl
   have hM:=hM.yh encBucket (i:=5) rfl rfl
   exact hM.vl (s':=(⟨z.zV,z.raw,(Sh.fromB z.fine (Sh.fineF z to)),z.coarse,z.ze,(Sh.fineF z to),z.zI,z.zN,z.zH⟩:Shelf)) (fun u=>.tuple (List.toArray [u,iV 0])) rfl (rfl) (fun _ pp=>pp.sl 2 rfl) (fun _ pp=>pp.sl 3 rfl) (fun _ pp=>pp.sl 4 rfl) (fun _ pp=>pp.sl 5 rfl)
 refine zG fun _ hK22=>zB (yf rfl rfl) (zP rfl (zD hK22 (zZ rfl (fun h6=>?_) (fun h6=>?_))))
 · refine zS fun _ hK23=>va 9 mix (by kernel_rfl) (fun _ h=>h.drew) fun _ hT2=>zq (za rfl fld50_7) (zq (zg 6 rfl rfl rfl flat3) (yn rfl (zq (za rfl fld50_8) (zq (zg 6 rfl rfl rfl flat3) (zq (jd rfl rfl) (vP wn rfl call124 rfl (fun w1 hM=>jm (if z.zH < to then z.zH else to) 60 w1 (by omega) (by omega)) (zq (js (show _=(Sh.coarseF z to) from rfl) (uj rfl rfl)) (zq (za rfl fld50_7) (v8 hT2 ?_)))))))))
   refine yt 0 wn rfl rfl rfl rfl inf3 rfl rfl (zD hK23 (vL (Mem w ⟨no,P0⟩ [Row (.slice A1 z.zV.length cp1) 74 2 zj z.zV,Row (.slice A2 z.raw.length cp2) 41 2 zo z.raw,Row (.slice A3 z.fine.length cp3) 163 8 zU z.fine,.blk b6 [Zs,Zs,Zs,Zs,iV 0,iV 0,iV 0,iV 0,iV 0] 50,.blk b3 [.slice z0A z.zV.length z0c,.slice z1A z.raw.length z1c,.slice z2A z.fine.length z2c,.slice z3A z.coarse.length z3c,iV z.ze,iV z.zW,iV z.zI,iV z.zN,iV z.zH] 50,slP 2 zj (.slice z0A z.zV.length z0c) z.zV,slP 2 zo (.slice z1A z.raw.length z1c) z.raw,slP 8 zU (.slice z2A z.fine.length z2c) z.fine,slP 8 zU (.slice z3A z.coarse.length z3c) z.coarse]) mix (fun _ h=>h.drew) rfl (vK 6 [0,2,3] [1,2,3,5,6,7,8,9,10] rfl fun KS hKS=>yD (za rfl fld50_3) (yD (zi rfl) (yD (za rfl fld50_7) (yd hKS (vX (f:=5) (i:=1) (j:=4) rfl (by kernel_rfl) ?_ ?_)))))))
   · refine yb (i:=1) rfl fun KN hKN=>zB (zg 0 rfl rfl rfl flat48) (yP hKN [1,2,3,5,6,7,8,9,10] (yY 4 4 (yb (i:=4) rfl fun KN hKN=>zB (zg 0 rfl rfl rfl flat3) (yP hKN [1,2,3,5,6,7,8,9,10] (yY 3 5 (yb (i:=5) rfl fun KN hKN=>uZ (fun b=>.func (.func 121) #[] #[.pointer (some ⟨b,0,none⟩)]) (fun b=>.blk b [iV (Sh.coarseF z to)] 3) (fun _=>rfl) wn rfl rfl call120 rfl (fun w1 hM=>ux (Sh.coarseF z to) w1) fun be4=>yP hKN [2,3,4,6,7,8,9,10,11] (yY 2 6 ?_)))))))
     refine yb (i:=6) rfl fun KN hKN=>uL 5 (Sh.fromB z.coarse (Sh.coarseF z to)) rfl wn rfl call125 rfl (fun w1 hM=>jN _ z.coarse 121 #[.pointer (some ⟨be4,0,none⟩)] (fun x=>decide (x.at_ < (Sh.coarseF z to))) w1 (hM.row (i:=5) rfl) call121 (fun x w2 h2=>ub x be4 (Sh.coarseF z to) w2 (hM.blkStay (i:=0) (j:=5) rfl rfl h2))) fun A9 cp9 hc5 hm5 hA9=>yP hKN [2,3,4,6,7,8,9,10,11] (vK 1 [7] [2,3,4,6,7,8,9,10,11] rfl fun KS hKS=>yD (za rfl fld50_3) (yd hKS (yY 0 8 (yb (i:=8) rfl fun KN hKN=>yt 1 wn rfl rfl rfl rfl inf48 rfl rfl (yP hKN [2,3,4,6,7,8,9,10,11] (yu (by kernel_rfl) (zm (zy hK12 (zG fun _ hK24=>?_)))))))))
     refine zB (yM 1 [.slice A1 z.zV.length cp1,.slice A2 z.raw.length cp2,.slice A3 z.fine.length cp3,.slice A9 ((Sh.fromB z.coarse (Sh.coarseF z to)).length) cp9,iV z.ze,iV z.zW,iV z.zI,iV (Sh.coarseF z to),iV z.zH] rfl rfl rfl rfl agg50 inf50) (zr 6 wn rfl rfl rfl inf50 rfl rfl rfl (zP rfl (zD hK24 (zX (yT (.inl rfl) results72 (zt 6 rfl rfl agg50 inf50 rfl) (zR rfl) fun w1 hM=>?_)))))
     have he:Sh.forget z tier to=((⟨z.zV,z.raw,z.fine,(Sh.fromB z.coarse (Sh.coarseF z to)),z.ze,z.zW,z.zI,(Sh.coarseF z to),z.zH⟩:Shelf),0):=Sh.forget_coarse h1 (fun g=>by omega) h4 h5 h6
     rw [he]
     have hM:=hM.yh encLabel (i:=2) rfl rfl
     have hM:=hM.yh encSample (i:=3) rfl rfl
     have hM:=hM.yh encBucket (i:=4) rfl rfl
     have hM:=hM.yh encBucket (i:=5) rfl rfl
     exact hM.vl (s':=(⟨z.zV,z.raw,z.fine,(Sh.fromB z.coarse (Sh.coarseF z to)),z.ze,z.zW,z.zI,(Sh.coarseF z to),z.zH⟩:Shelf)) (fun u=>.tuple (List.toArray [u,iV 0])) rfl (rfl) (fun _ pp=>pp.sl 2 rfl) (fun _ pp=>pp.sl 3 rfl) (fun _ pp=>pp.sl 4 rfl) (fun _ pp=>pp.sl 5 rfl)
   refine yb (i:=4) rfl fun KN hKN=>zB (zg 0 rfl rfl rfl flat3) (yP hKN [1,2,3,5,6,7,8,9,10] (vX (f:=4) (i:=1) (j:=5) rfl (by kernel_rfl) ?_ ?_))
   · refine yb (i:=1) rfl fun KN hKN=>zB (zg 0 rfl rfl rfl flat48) (yP hKN [1,2,3,5,6,7,8,9,10] (yY 3 5 (yb (i:=5) rfl fun KN hKN=>uZ (fun b=>.func (.func 121) #[] #[.pointer (some ⟨b,0,none⟩)]) (fun b=>.blk b [iV (Sh.coarseF z to)] 3) (fun _=>rfl) wn rfl rfl call120 rfl (fun w1 hM=>ux (Sh.coarseF z to) w1) fun be5=>yP hKN [2,3,4,6,7,8,9,10,11] (yY 2 6 (yb (i:=6) rfl fun KN hKN=>uL 5 (Sh.fromB z.coarse (Sh.coarseF z to)) rfl wn rfl call125 rfl (fun w1 hM=>jN _ z.coarse 121 #[.pointer (some ⟨be5,0,none⟩)] (fun x=>decide (x.at_ < (Sh.coarseF z to))) w1 (hM.row (i:=5) rfl) call121 (fun x w2 h2=>ub x be5 (Sh.coarseF z to) w2 (hM.blkStay (i:=0) (j:=5) rfl rfl h2))) fun A10 cp10 hc6 hm6 hA10=>yP hKN [2,3,4,6,7,8,9,10,11] (vK 1 [7] [2,3,4,6,7,8,9,10,11] rfl fun KS hKS=>?_))))))
     refine yD (za rfl fld50_3) (yd hKS (yY 0 8 (yb (i:=8) rfl fun KN hKN=>yt 1 wn rfl rfl rfl rfl inf48 rfl rfl (yP hKN [2,3,4,6,7,8,9,10,11] (yu (by kernel_rfl) (zm (zy hK12 (zG fun _ hK25=>zB (yM 1 [.slice A1 z.zV.length cp1,.slice A2 z.raw.length cp2,.slice A3 z.fine.length cp3,.slice A10 ((Sh.fromB z.coarse (Sh.coarseF z to)).length) cp10,iV z.ze,iV z.zW,iV z.zI,iV (Sh.coarseF z to),iV z.zH] rfl rfl rfl rfl agg50 inf50) (zr 6 wn rfl rfl rfl inf50 rfl rfl rfl (zP rfl (zD hK25 ?_)))))))))))
     refine zX (yT (.inl rfl) results72 (zt 6 rfl rfl agg50 inf50 rfl) (zR rfl) fun w1 hM=>?_)
     have he:Sh.forget z tier to=((⟨z.zV,z.raw,z.fine,(Sh.fromB z.coarse (Sh.coarseF z to)),z.ze,z.zW,z.zI,(Sh.coarseF z to),z.zH⟩:Shelf),0):=Sh.forget_coarse h1 (fun g=>by omega) h4 h5 h6
     rw [he]
     have hM:=hM.yh encLabel (i:=2) rfl rfl
     have hM:=hM.yh encSample (i:=3) rfl rfl
     have hM:=hM.yh encBucket (i:=4) rfl rfl
     have hM:=hM.yh encBucket (i:=5) rfl rfl
     exact hM.vl (s':=(⟨z.zV,z.raw,z.fine,(Sh.fromB z.coarse (Sh.coarseF z to)),z.ze,z.zW,z.zI,(Sh.coarseF z to),z.zH⟩:Shelf)) (fun u=>.tuple (List.toArray [u,iV 0])) rfl (rfl) (fun _ pp=>pp.sl 2 rfl) (fun _ pp=>pp.sl 3 rfl) (fun _ pp=>pp.sl 4 rfl) (fun _ pp=>pp.sl 5 rfl)
   refine yb (i:=5) rfl fun KN hKN=>uZ (fun b=>.func (.func 121) #[] #[.pointer (some ⟨b,0,none⟩)]) (fun b=>.blk b [iV (Sh.coarseF z to)] 3) (fun _=>rfl) wn rfl rfl call120 rfl (fun w1 hM=>ux (Sh.coarseF z to) w1) fun be6=>yP hKN [2,3,4,6,7,8,9,10,11] (yY 3 1 (yb (i:=1) rfl fun KN hKN=>zB (zg 1 rfl rfl rfl flat48) (yP hKN [2,3,4,6,7,8,9,10,11] (yY 2 6 (yb (i:=6) rfl fun KN hKN=>uL 5 (Sh.fromB z.coarse (Sh.coarseF z to)) rfl wn rfl call125 rfl (fun w1 hM=>jN _ z.coarse 121 #[.pointer (some ⟨be6,0,none⟩)] (fun x=>decide (x.at_ < (Sh.coarseF z to))) w1 (hM.row (i:=5) rfl) call121 (fun x w2 h2=>ub x be6 (Sh.coarseF z to) w2 (hM.blkStay (i:=0) (j:=5) rfl rfl h2))) fun A11 cp11 hc7 hm7 hA11=>yP hKN [2,3,4,6,7,8,9,10,11] (vK 1 [7] [2,3,4,6,7,8,9,10,11] rfl fun KS hKS=>?_))))))
   refine yD (za rfl fld50_3) (yd hKS (yY 0 8 (yb (i:=8) rfl fun KN hKN=>yt 1 wn rfl rfl rfl rfl inf48 rfl rfl (yP hKN [2,3,4,6,7,8,9,10,11] (yu (by kernel_rfl) (zm (zy hK12 (zG fun _ hK26=>zB (yM 1 [.slice A1 z.zV.length cp1,.slice A2 z.raw.length cp2,.slice A3 z.fine.length cp3,.slice A11 ((Sh.fromB z.coarse (Sh.coarseF z to)).length) cp11,iV z.ze,iV z.zW,iV z.zI,iV (Sh.coarseF z to),iV z.zH] rfl rfl rfl rfl agg50 inf50) (zr 6 wn rfl rfl rfl inf50 rfl rfl rfl (zP rfl (zD hK26 ?_)))))))))))
   refine zX (yT (.inl rfl) results72 (zt 6 rfl rfl agg50 inf50 rfl) (zR rfl) fun w1 hM=>?_)
   have he:Sh.forget z tier to=((⟨z.zV,z.raw,z.fine,(Sh.fromB z.coarse (Sh.coarseF z to)),z.ze,z.zW,z.zI,(Sh.coarseF z to),z.zH⟩:Shelf),0):=Sh.forget_coarse h1 (fun g=>by omega) h4 h5 h6
   rw [he]
   have hM:=hM.yh encLabel (i:=2) rfl rfl
   have hM:=hM.yh encSample (i:=3) rfl rfl
   have hM:=hM.yh encBucket (i:=4) rfl rfl
   have hM:=hM.yh encBucket (i:=5) rfl rfl
   exact hM.vl (s':=(⟨z.zV,z.raw,z.fine,(Sh.fromB z.coarse (Sh.coarseF z to)),z.ze,z.zW,z.zI,(Sh.coarseF z to),z.zH⟩:Shelf)) (fun u=>.tuple (List.toArray [u,iV 0])) rfl (rfl) (fun _ pp=>pp.sl 2 rfl) (fun _ pp=>pp.sl 3 rfl) (fun _ pp=>pp.sl 4 rfl) (fun _ pp=>pp.sl 5 rfl)
 refine zG fun _ hK27=>zB (zz [Zs,Zs,Zs,Zs,iV 0,iV 0,iV 0,iV 0,iV 0] pl50 inf50 rfl rfl) (zr 5 wn rfl rfl rfl inf50 rfl rfl rfl (zP rfl (zD hK27 (zX (yA (zK (yT (.inl rfl) results72 (zt 5 rfl rfl agg50 inf50 rfl) (zR rfl) fun w1 hM=>?_)))))))
 have he:Sh.forget z tier to=((⟨([]:List Label),([]:List Sample),([]:List Bucket),([]:List Bucket),0,0,0,0,0⟩:Shelf),1):=Sh.forget_kind h1 (fun g=>by omega) h4 h5 h6
 rw [he]
 exact hM.vl (s':=(⟨([]:List Label),([]:List Sample),([]:List Bucket),([]:List Bucket),0,0,0,0,0⟩:Shelf)) (fun u=>.tuple (List.toArray [u,iV 1])) rfl (rfl) (fun _ _=>zJ.yq _ _ _ _) (fun _ _=>zJ.yq _ _ _ _) (fun _ _=>zJ.yq _ _ _ _) (fun _ _=>zJ.yq _ _ _ _)
end
section
namespace Roll
structure Tier (l : List Bucket) (st lo hi : Int) : Prop where
  ok:∀ x ∈ l,lo≤x.at_∧x.at_ < hi∧x.at_ % st=0∧1≤x.sum.count∧x.sum.count≤st
  inc:l.Pairwise (fun x y=>x.at_ < y.at_)
theorem Tier.rises {l:List Bucket} {st lo hi:Int} (h:Tier l st lo hi) (h0:0≤lo) (h1:hi≤1000001):Rises Bucket.at_ l:=⟨fun x hx=>by have:=h.ok x hx; omega,h.inc⟩
theorem Tier.append {a b : List Bucket} {st lo m hi : Int} (ha : Tier a st lo m) (hb : Tier b st m hi) (h1 : lo ≤ m) (h2 : m ≤ hi) : Tier (a ++ b) st lo hi :=
  ⟨fun x hx => by
    rcases List.mem_append.1 hx with h | h
    · have:=ha.ok x h; omega
    · have:=hb.ok x h; omega,List.pairwise_append.2 ⟨ha.inc,hb.inc,fun x hx y hy=>by have:=ha.ok x hx; have:=hb.ok y hy; omega⟩⟩
theorem RightB.tier {l : List Bucket} {st lo hi : Int} (h : RightB l st) (hs : st = 10 ∨ st = 60) (hw : Sh.within l lo hi = true) : Tier l st lo hi :=
  ⟨fun x hx => by
    have h1:=h.ok x hx
    rw [badB_iff hs] at h1
    have h2:=List.all_eq_true.1 hw x hx
    have h2:=of_decide_eq_true h2
    rcases hs with rfl | rfl <;> omega,h.inc⟩
theorem Tier.right {l : List Bucket} {st lo hi : Int} (h : Tier l st lo hi) (hs : st = 10 ∨ st = 60) (h0 : 0 ≤ lo) (h1 : hi ≤ 1000001) (hl : l.length ≤ 500) : RightB l st :=
  ⟨hl, fun x hx => by
    rw [badB_iff hs]
    have:=h.ok x hx
    rcases hs with rfl | rfl <;> omega,h.inc⟩
theorem Tier.within {l : List Bucket} {st lo hi : Int} (h : Tier l st lo hi) : Sh.within l lo hi = true :=
  List.all_eq_true.2 fun x hx=>by have:=h.ok x hx; exact decide_eq_true ⟨this.1,this.2.1⟩
theorem wrong_right {l : List Bucket} {tier : Int} (h : RightB l (step tier)) (ht : step tier ≠ 0) : (wrong l tier).err = 0 := by
  have hlen:=h.len
  rw [wrong,if_neg ht,if_neg (by omega),from_ok _ _ _ _ h.ok h.inc (by simp)]
theorem up_tier {l : List Sample} {a b : Int} (hr : Rises Sample.time l) (hl : l.length ≤ 1048576) (ha : a % 10 = 0) (hb : b % 10 = 0) : Tier (up (inT l a b) 1) 10 a b := by
  rw [up_win]
  obtain ⟨h1,h2⟩:=gf_to (s:=fun x=>Agg.one x.value) (.inl rfl) hr ha hb
  refine ⟨fun x hx=>?_,h2⟩
  obtain ⟨m,g1,g2,g3,g4,rfl⟩:=h1 x hx
  have hlen:=List.length_filter_le (fun x=>decide (m≤Sample.time x∧Sample.time x < m + 10)) l
  have hw:(win Sample.time l m (m + 10)).length≤l.length:=hlen
  have hc:=gsum_count (s:=fun x:Sample=>Agg.one x.value) 1 (by omega) (by omega) (win Sample.time l m (m + 10)) (by omega) (fun x _=>by simp [Agg.one])
  have hp:0 < (win Sample.time l m (m + 10)).length:=List.length_pos_iff.2 g4
  have hk:=rise_len (t:=Sample.time) (b:=m + 10) 1 (by decide) (win Sample.time l m (m + 10)) m (win_rises hr).inc (fun x hx=>by have:=win_mem.1 hx; omega) (by omega) (by omega) (by omega)
  simp only
  omega
theorem greater_tier {l : List Bucket} {a b lo hi : Int} (hr : Tier l 10 lo hi) (h0 : 0 ≤ lo) (h1 : hi ≤ 1000001) (hl : l.length ≤ 1048576) (ha : a % 60 = 0) (hb : b % 60 = 0) : Tier (greater (Sh.bIn l a b)) 60 a b := by
  rw [greater_win]
  have hR:=hr.rises h0 h1
  obtain ⟨h1,h2⟩:=gf_to (s:=Bucket.sum) (.inr rfl) hR ha hb
  refine ⟨fun x hx=>?_,h2⟩
  obtain ⟨m,g1,g2,g3,g4,rfl⟩:=h1 x hx
  have hlen:=List.length_filter_le (fun x=>decide (m≤Bucket.at_ x∧Bucket.at_ x < m + 60)) l
  have hw:(win Bucket.at_ l m (m + 60)).length≤l.length:=hlen
  have hc:=gsum_count (s:=Bucket.sum) 10 (by omega) (by omega) (win Bucket.at_ l m (m + 60)) (by omega) (fun x hx=>by have:=hr.ok x (win_mem.1 hx).1; omega)
  have hp:0 < (win Bucket.at_ l m (m + 60)).length:=List.length_pos_iff.2 g4
  have hk:=rise_len (t:=Bucket.at_) (b:=m + 60) 10 (by decide) (win Bucket.at_ l m (m + 60)) m (win_rises hR).inc (fun x hx=>by have h3:=win_mem.1 hx; have:=hr.ok x h3.1; omega) (by omega) (by omega) (by omega)
  simp only
  omega
end Roll
namespace Sh
section
variable {z:Shelf} {to:Int}
theorem OK.rawR (h:OK z):Codec.Right z.raw:=Codec.right_of h.raw
theorem OK.rawRises (h:OK z):Roll.Rises Sample.time z.raw:=Roll.rises_of h.rawR
theorem OK.fineT (h:OK z):Roll.Tier z.fine 10 z.zW z.zI:=(Roll.rightB_of h.fine).1.tier (.inl rfl) h.fit.2.2.1
theorem OK.coarseT (h:OK z):Roll.Tier z.coarse 60 z.zN z.zH:=(Roll.rightB_of h.coarse).1.tier (.inr rfl) h.fit.2.2.2
theorem fineL_len (h : OK z) : (uE z to).length ≤ 1000 := by
  have h1:=h.lens
  have h2:=Nat.le_trans (Roll.up_len (Roll.inT z.raw z.zI (zI z to)) 1) (Roll.inT_len _ _ _)
  unfold uE
  rw [List.length_append]
  omega
theorem fineL_tier (h : OK z) (h1 : 0 ≤ to) (h2 : to ≤ 1000000) : Roll.Tier (uE z to) 10 z.zW (zI z to) := by
  obtain ⟨⟨g1,g2,g3,g4⟩,⟨g5,g6,g7,g8,g9⟩,g10,g11,g12,g13,g14⟩:=h.rng
  obtain ⟨f1,f2,f3,f4⟩:=fineTo_rng h h1 h2
  have hl:=h.lens
  exact h.fineT.append (Roll.up_tier h.rawRises (by omega) g9 f4) g6 f1
theorem coarseL_tier (h : OK z) (h1 : 0 ≤ to) (h2 : to ≤ 1000000) : Roll.Tier (vt z to) 60 z.zN (zH z to) := by
  obtain ⟨⟨g1,g2,g3,g4⟩,⟨g5,g6,g7,g8,g9⟩,g10,g11,g12,g13,g14⟩:=h.rng
  obtain ⟨f1,f2,f3,f4⟩:=fineTo_rng h h1 h2
  obtain ⟨c1,c2,c3⟩:=coarseTo_rng h h1 h2
  have hl:=fineL_len (to:=to) h
  exact h.coarseT.append (Roll.greater_tier (fineL_tier h h1 h2) g5 (by omega) (by omega) g14 c3) g11 c1
end
theorem eq_iff {a b : Shelf} : a = b ↔ a.zV = b.zV ∧ a.raw = b.raw ∧ a.fine = b.fine ∧ a.coarse = b.coarse ∧ a.ze = b.ze ∧ a.zW = b.zW ∧ a.zI = b.zI ∧ a.zN = b.zN ∧ a.zH = b.zH := by
  cases a; cases b; simp
theorem fromB_len (l:List Bucket) (f:Int):(fromB l f).length≤l.length:=List.length_filter_le ..
end Sh
end
section
structure SlX (α:Type) where (A:Option Addr) (c:Nat) (l:List α)
structure vk where (sr:SlX Label) (sm:SlX Sample)
structure zO where (sr:SlX Label) (value:Int)
structure vF where (sr:SlX Label)
structure yO where (vec:Bool) (n:Int) (cells:SlX zO)
inductive zC where
  | mk (kind n range:Int) (word:ByteArray) (ms:SlX Match) (by_:SlX ByteArray) (kids:SlX zC)
namespace zC
def kind:zC→Int | .mk k _ _ _ _ _ _=>k
def n:zC→Int | .mk _ n _ _ _ _ _=>n
def range:zC→Int | .mk _ _ r _ _ _ _=>r
def word:zC→ByteArray | .mk _ _ _ w _ _ _=>w
def ms:zC→SlX Match | .mk _ _ _ _ m _ _=>m
def by_:zC→SlX ByteArray | .mk _ _ _ _ _ b _=>b
def kids:zC→SlX zC | .mk _ _ _ _ _ _ k=>k
theorem kid_lt {e k : zC} (h : k ∈ e.kids.l) : SizeOf.sizeOf k < SizeOf.sizeOf e := by
  cases e with
  | mk a b c d f g ks =>
    have h1:SizeOf.sizeOf k < SizeOf.sizeOf ks.l:=List.sizeOf_lt_of_mem h
    have h2:SizeOf.sizeOf ks.l < SizeOf.sizeOf ks:=by cases ks; simp; omega
    have h3:SizeOf.sizeOf ks < SizeOf.sizeOf (zC.mk a b c d f g ks):=by simp; omega
    omega
end zC
structure Line where (sr:List Label) (sm:List Sample)
structure Cell where (sr:List Label) (value:Int) deriving DecidableEq
inductive Expr where
  | mk (kind n range:Int) (word:ByteArray) (ms:List Match) (by_:List ByteArray) (kids:List Expr)
namespace Expr
def kind:Expr→Int | .mk k _ _ _ _ _ _=>k
def n:Expr→Int | .mk _ n _ _ _ _ _=>n
def range:Expr→Int | .mk _ _ r _ _ _ _=>r
def word:Expr→ByteArray | .mk _ _ _ w _ _ _=>w
def ms:Expr→List Match | .mk _ _ _ _ m _ _=>m
def by_:Expr→List ByteArray | .mk _ _ _ _ _ b _=>b
def kids:Expr→List Expr | .mk _ _ _ _ _ _ k=>k
theorem kid_lt {e k : Expr} (h : k ∈ e.kids) : SizeOf.sizeOf k < SizeOf.sizeOf e := by
  cases e with
  | mk a b c d f g ks =>
    have h1:SizeOf.sizeOf k < SizeOf.sizeOf ks:=List.sizeOf_lt_of_mem h
    have h3:SizeOf.sizeOf ks < SizeOf.sizeOf (Expr.mk a b c d f g ks):=by simp; omega
    omega
end Expr
def vk.e (x:vk):Line:=⟨x.sr.l,x.sm.l⟩
def zO.e (x:zO):Cell:=⟨x.sr.l,x.value⟩
structure Val where (vec:Bool) (n:Int) (cells:List Cell) deriving DecidableEq
def yO.e (x:yO):Val:=⟨x.vec,x.n,x.cells.l.map zO.e⟩
mutual
def zC.e : zC → Expr
  | .mk k n r w ms bs ks=>.mk k n r w ms.l bs.l (zC.es ks.l)
def zC.es : List zC → List Expr
  | []=>[]
  | x::xs=>zC.e x::zC.es xs
end
theorem zC.es_map : ∀ l, zC.es l = l.map zC.e
  | []=>rfl
  | x::xs=>by rw [zC.es,List.map_cons,zC.es_map xs]
theorem zC.gI : ∀ (x : zC), x.e = .mk x.kind x.n x.range x.word x.ms.l x.by_.l (x.kids.l.map zC.e)
  | .mk ..=>by rw [zC.e,zC.es_map]; rfl
namespace Ex
@[reducible] def SlX.v {α:Type} (s:SlX α):Value:=.slice s.A s.l.length s.c
@[reducible] def lineE (x:vk):List Value:=[.slice x.sr.A x.sr.l.length x.sr.c,.slice x.sm.A x.sm.l.length x.sm.c]
@[reducible] def yi (x:zO):List Value:=[.slice x.sr.A x.sr.l.length x.sr.c,.int .i64 x.value]
@[reducible] def serE (x:vF):List Value:=[.slice x.sr.A x.sr.l.length x.sr.c]
@[reducible] def yl (x:zC):List Value:=[.int .i64 x.kind,.int .i64 x.n,.int .i64 x.range,.string x.word,.slice x.ms.A x.ms.l.length x.ms.c,.slice x.by_.A x.by_.l.length x.by_.c,.slice x.kids.A x.kids.l.length x.kids.c]
@[reducible] def uY (x:yO):List Value:=[.bool x.vec,.int .i64 x.n,.slice x.cells.A x.cells.l.length x.cells.c]
theorem encValX:Enc uY 3:=.of (fun _=>rfl) (fun _=>rfl) rfl
theorem encCellX:Enc yi 2:=.of (fun _=>rfl) (fun _=>rfl) rfl
theorem encSerX:Enc serE 1:=.of (fun _=>rfl) (fun _=>rfl) rfl
theorem encExprX:Enc yl 7:=.of (fun _=>rfl) (fun _=>rfl) rfl
structure Wf {α : Type} (s : SlX α) : Prop where
  le:s.l.length≤s.c
  max:s.c≤9223372036854775807
  ad:s.l≠[]→∃ ad,s.A=some ad
theorem zJ.wf {α : Type} {S : Nat → Prop} {k : Nat} {enc : α → List Value} {s : SlX α} {w : World} (h : zJ S k enc (.slice s.A s.l.length s.c) s.l w) : Wf s := by
  obtain ⟨A,c,e,h1,h2,h3⟩:=h.form
  injection e with e1 e2 e3
  subst e1 e3
  exact ⟨h1,h2,h3⟩
theorem zJ.x {α : Type} {S : Nat → Prop} {k : Nat} {enc : α → List Value} {v : Value} {l : List α} {w : World} (h : zJ S k enc v l w) : ∃ s : SlX α, s.l = l ∧ v = .slice s.A s.l.length s.c := by
  obtain ⟨A,c,e,h1,h2,h3⟩:=h.form
  exact ⟨⟨A,c,l⟩,rfl,e⟩
def okLabels (l:List Label):Prop:=∀ x ∈ l,x.key.size≤9223372036854775807∧x.val.size≤9223372036854775807
structure zC.Str (e : zC) : Prop where
  word:e.word.size≤9223372036854775807
  ms:∀ x ∈ e.ms.l,x.key.size≤9223372036854775807∧x.val.size≤9223372036854775807
  by_:∀ x ∈ e.by_.l,x.size≤9223372036854775807
structure vk.Ok (S : Nat → Prop) (x : vk) (w : World) : Prop where
  str:okLabels x.sr.l
  sr:zJ S 2 zj (.slice x.sr.A x.sr.l.length x.sr.c) x.sr.l w
  sm:zJ S 2 zo (.slice x.sm.A x.sm.l.length x.sm.c) x.sm.l w
structure zO.Ok (S : Nat → Prop) (x : zO) (w : World) : Prop where
  sr:zJ S 2 zj (.slice x.sr.A x.sr.l.length x.sr.c) x.sr.l w
structure yO.Ok (S : Nat → Prop) (x : yO) (w : World) : Prop where
  cells:zJ S 2 yi (.slice x.cells.A x.cells.l.length x.cells.c) x.cells.l w
  all:∀ c ∈ x.cells.l,zO.Ok S c w
structure vF.Ok (S : Nat → Prop) (x : vF) (w : World) : Prop where
  sr:zJ S 2 zj (.slice x.sr.A x.sr.l.length x.sr.c) x.sr.l w
inductive zC.Ok (S : Nat → Prop) : zC → World → Prop where
  | mk {e : zC} {w : World} (ms : zJ S 3 yg (.slice e.ms.A e.ms.l.length e.ms.c) e.ms.l w) (by_ : zJ S 1 strE (.slice e.by_.A e.by_.l.length e.by_.c) e.by_.l w)
    (kids:zJ S 7 yl (.slice e.kids.A e.kids.l.length e.kids.c) e.kids.l w) (all:∀ k ∈ e.kids.l,zC.Ok S k w) (str:zC.Str e):zC.Ok S e w
inductive zC.Wf : zC → Prop where
  | mk {e:zC} (ms:Ex.Wf e.ms) (by_:Ex.Wf e.by_) (kids:Ex.Wf e.kids) (all:∀ k ∈ e.kids.l,zC.Wf k) (str:zC.Str e):zC.Wf e
theorem vk.Ok.loc (x:vk):Loc (fun S=>vk.Ok S x):=fun S S' u u' hs hk h=>⟨h.str,zJ.loc _ _ _ _ S S' u u' hs hk h.sr,zJ.loc _ _ _ _ S S' u u' hs hk h.sm⟩
theorem zO.Ok.loc (x:zO):Loc (fun S=>zO.Ok S x):=fun S S' u u' hs hk h=>⟨zJ.loc _ _ _ _ S S' u u' hs hk h.sr⟩
theorem vF.Ok.loc (x:vF):Loc (fun S=>vF.Ok S x):=fun S S' u u' hs hk h=>⟨zJ.loc _ _ _ _ S S' u u' hs hk h.sr⟩
theorem yO.Ok.loc (x:yO):Loc (fun S=>yO.Ok S x):=fun S S' u u' hs hk h=>⟨zJ.loc _ _ _ _ S S' u u' hs hk h.cells,fun c hc=>zO.Ok.loc c S S' u u' hs hk (h.all c hc)⟩
theorem zC.Ok.loc (x : zC) : Loc (fun S => zC.Ok S x) := fun S S' u u' hs hk h => by
  induction h with
  | mk ms bs kids _ str ih=>exact .mk (zJ.loc _ _ _ _ S S' _ u' hs hk ms) (zJ.loc _ _ _ _ S S' _ u' hs hk bs) (zJ.loc _ _ _ _ S S' _ u' hs hk kids) (fun k hk'=>ih k hk' hk) str
theorem zC.Ok.wf {S : Nat → Prop} {x : zC} {w : World} (h : zC.Ok S x w) : zC.Wf x := by
  induction h with
  | mk ms bs kids _ str ih=>exact .mk (zJ.wf ms) (zJ.wf bs) (zJ.wf kids) ih str
theorem zC.Wf.ms {e:zC} (h:zC.Wf e):Ex.Wf e.ms:=by cases h; assumption
theorem zC.Wf.by_ {e:zC} (h:zC.Wf e):Ex.Wf e.by_:=by cases h; assumption
theorem zC.Wf.kids {e:zC} (h:zC.Wf e):Ex.Wf e.kids:=by cases h; assumption
theorem zC.Wf.all {e:zC} (h:zC.Wf e):∀ k ∈ e.kids.l,zC.Wf k:=by cases h; assumption
theorem zC.Wf.str {e:zC} (h:zC.Wf e):zC.Str e:=by cases h; assumption
theorem zC.Ok.ms {S:Nat→Prop} {e:zC} {w:World} (h:zC.Ok S e w):zJ S 3 yg (.slice e.ms.A e.ms.l.length e.ms.c) e.ms.l w:=by cases h; assumption
theorem zC.Ok.by_ {S:Nat→Prop} {e:zC} {w:World} (h:zC.Ok S e w):zJ S 1 strE (.slice e.by_.A e.by_.l.length e.by_.c) e.by_.l w:=by cases h; assumption
theorem zC.Ok.kids {S:Nat→Prop} {e:zC} {w:World} (h:zC.Ok S e w):zJ S 7 yl (.slice e.kids.A e.kids.l.length e.kids.c) e.kids.l w:=by cases h; assumption
theorem zC.Ok.all {S:Nat→Prop} {e:zC} {w:World} (h:zC.Ok S e w):∀ k ∈ e.kids.l,zC.Ok S k w:=by cases h; assumption
theorem recX {C : zC → Prop} (h : ∀ e, (∀ k : zC, SizeOf.sizeOf k < SizeOf.sizeOf e → C k) → C e) (e : zC) : C e := by
  suffices ∀ n (e:zC),SizeOf.sizeOf e < n→C e from this _ e (Nat.lt_succ_self _)
  intro n
  induction n with
  | zero=>intro e he; omega
  | succ n ih=>intro e he; exact h e fun k hk=>ih k (by omega)
structure vk.Wf (x : vk) : Prop where
  str:okLabels x.sr.l
  sr:Ex.Wf x.sr
  sm:Ex.Wf x.sm
structure zO.Wf (x : zO) : Prop where
  sr:Ex.Wf x.sr
structure yO.Wf (x : yO) : Prop where
  cells:Ex.Wf x.cells
  all:∀ c ∈ x.cells.l,zO.Wf c
structure vF.Wf (x : vF) : Prop where
  sr:Ex.Wf x.sr
theorem zO.Ok.wf {S:Nat→Prop} {x:zO} {w:World} (h:zO.Ok S x w):zO.Wf x:=⟨zJ.wf h.sr⟩
theorem yO.Ok.wf {S:Nat→Prop} {x:yO} {w:World} (h:yO.Ok S x w):yO.Wf x:=⟨zJ.wf h.cells,fun c hc=>(h.all c hc).wf⟩
theorem vF.Ok.wf {S:Nat→Prop} {x:vF} {w:World} (h:vF.Ok S x w):vF.Wf x:=⟨zJ.wf h.sr⟩
def okP {α:Type} (ok:(Nat→Prop)→α→World→Prop) (x:α):Own:=.pub (fun S=>ok S x)
def allP {α:Type} (ok:(Nat→Prop)→α→World→Prop) (l:List α):Own:=.pub (fun S w=>∀ x ∈ l,ok S x w)
theorem all_loc {α:Type} {ok:(Nat→Prop)→α→World→Prop} (hl:∀ x,Loc (fun S=>ok S x)) (l:List α):Loc (fun S w=>∀ x ∈ l,ok S x w):=fun S S' u u' hs hk h x hx=>hl x S S' u u' hs hk (h x hx)
def ve (S:Nat→Prop) (ad:Addr) (cs:List Value) (w:World):Prop:=S ad.block∧∀ (j:Nat) (u:Value),cs[j]?=some u→w.cell? (ad.add j)=some u
def celP (ad:Addr) (cs:List Value):Own:=.pub (fun S=>ve S ad cs)
theorem cell_keep {ad : Addr} {w w' : World} (h : w'.heap[ad.block]? = w.heap[ad.block]?) : w'.cell? ad = w.cell? ad := by
  unfold World.cell?; rw [h]
theorem ve.loc (ad : Addr) (cs : List Value) : Loc (fun S => ve S ad cs) := fun S S' u u' hs hk h => ⟨hs _ h.1, fun j v hv => by
  have:u'.heap[(ad.add j).block]?=u.heap[(ad.add j).block]?:=by rw [add_block]; exact hk _ h.1
  rw [cell_keep this]; exact h.2 j v hv⟩
section
variable {P : Program} {N : Nat} {D : List Deferred} {E : Env} {S S' : World → Prop} {Q : Exit → Act → World → Prop} {K : Act → World → Prop} {w0 w w' : World} {M : Fp} {L L' : List Own}
  {ops:Array Oper} {rest:List Oper} {d:Nat} {ty T:TypeId} {pos:String} {aft:Array Edge} {g:Option (Nat × Bool)} {v u:Value} {x y:Operand} {α:Type} {ok:(Nat→Prop)→α→World→Prop} {F G:(Nat→Prop)→World→Prop}
theorem Mem.drop1 {o:Own} (h:Mem w0 M (o::L) w):Mem w0 M L w:=h.emb (· + 1) (fun i j e=>by omega) fun j o hj=>by simpa using hj
theorem Mem.imp (h:Mem w0 M L w) (q:Nat) (hi:L[q]?=some (.pub F)) (hG:Loc G) (f:∀ S,F S w→G S w):Mem w0 M (.pub G::L) w:=h.vU hG fun _ pp=>f _ (pp.at_ q _ hi)
theorem je {cd:Code} (f:∀ w,S w→S' w) (h:WC P N D cd Q E S'):WC P N D cd Q E S:=fun w hS=>h w (f w hS)
theorem yV (f:∀ w,S w→S' w) (h:WL P N D ops Q rest E S'):WL P N D ops Q rest E S:=fun w hS=>h w (f w hS)
theorem jg (f : ∀ w, S w → S' w) (f' : ∀ w, S' w → S w) (h : WQ P N D ops K rest E S') : WQ P N D ops K rest E S := by
  have:S=S':=funext fun w=>propext ⟨f w,f' w⟩
  rw [this]; exact h
theorem Mem.one (h : Mem w0 M L w) (q : Nat) {l : List α} {i : Nat} {a : α} (hl : ∀ x, Loc (fun S => ok S x)) (hi : L[q]? = some (allP ok l)) (ha : l[i]? = some a) : Mem w0 M (okP ok a :: L) w :=
  h.imp q hi (hl a) fun _ hF=>hF a (List.mem_of_getElem? ha)
theorem Mem.exprX (h : Mem w0 M L w) (q : Nat) {e : zC} (hi : L[q]? = some (okP zC.Ok e)) :
    Mem w0 M (slP 3 yg (.slice e.ms.A e.ms.l.length e.ms.c) e.ms.l::slP 1 strE (.slice e.by_.A e.by_.l.length e.by_.c) e.by_.l::slP 7 yl (.slice e.kids.A e.kids.l.length e.kids.c) e.kids.l::allP zC.Ok e.kids.l::L) w:=by
  have h1:=h.imp q hi (all_loc zC.Ok.loc e.kids.l) fun _ hF=>zC.Ok.all hF
  have h2:=h1.imp (q + 1) hi (zJ.loc 7 yl _ e.kids.l) fun _ hF=>zC.Ok.kids hF
  have h3:=h2.imp (q + 2) hi (zJ.loc 1 strE _ e.by_.l) fun _ hF=>zC.Ok.by_ hF
  exact h3.imp (q + 3) hi (zJ.loc 3 yg _ e.ms.l) fun _ hF=>zC.Ok.ms hF
theorem Mem.cellX (h : Mem w0 M L w) (q : Nat) {e : zO} (hi : L[q]? = some (okP zO.Ok e)) : Mem w0 M (slP 2 zj (.slice e.sr.A e.sr.l.length e.sr.c) e.sr.l :: L) w :=
  h.imp q hi (zJ.loc 2 zj _ e.sr.l) fun _ hF=>zO.Ok.sr hF
theorem Mem.valX (h : Mem w0 M L w) (q : Nat) {e : yO} (hi : L[q]? = some (okP yO.Ok e)) : Mem w0 M (slP 2 yi (.slice e.cells.A e.cells.l.length e.cells.c) e.cells.l :: allP zO.Ok e.cells.l :: L) w := by
  have h1:=h.imp q hi (all_loc zO.Ok.loc e.cells.l) fun _ hF=>yO.Ok.all hF
  exact h1.imp (q + 1) hi (zJ.loc 2 yi _ e.cells.l) fun _ hF=>yO.Ok.cells hF
theorem Mem.serX (h : Mem w0 M L w) (q : Nat) {e : vF} (hi : L[q]? = some (okP vF.Ok e)) : Mem w0 M (slP 2 zj (.slice e.sr.A e.sr.l.length e.sr.c) e.sr.l :: L) w :=
  h.imp q hi (zJ.loc 2 zj _ e.sr.l) fun _ hF=>vF.Ok.sr hF
theorem yz (q : Nat) {ad : Addr} {j : Nat} {cs : List Value} (hx : ev E x = some (.pointer (some ((ad.add 0).add j)))) (hL : L[q]? = some (celP ad cs)) (hu : cs[j]? = some u) (hf : flatT P T = true) : Runs P N D E (Mem w0 M L) (.load T x) ty u :=
  uq hx hf fun _ h=>(h.vQ hL).2 j u hu
theorem Mem.fact {F:Prop} (hF:F) (h:Mem w0 M L w):Mem w0 M (.pub (fun _ _=>F)::L) w:=h.vU (F:=fun _ _=>F) (fun _ _ _ _ _ _ h=>h) fun _ _=>hF
theorem c_fact {F : Prop} {cd : Code} (h : F → WC P N D cd Q E (Mem w0 M L)) : WC P N D cd Q E (Mem w0 M (.pub (fun _ _ => F) :: L)) := fun w hS => by
  obtain ⟨Pb,pp⟩:=hS.pb
  exact h (pp.at_ 0 _ rfl) w hS.drop1
theorem gR {op:Op} (h:u=v) (r:Runs P N D E S op ty u):Runs P N D E S op ty v:=h ▸ r
theorem rv_b {op:Op} {b c:Bool} (h:b=c) (r:Runs P N D E S op ty (.bool b)):Runs P N D E S op ty (.bool c):=h ▸ r
theorem cel_of {Sb : Nat → Prop} {k len c : Nat} {enc : α → List Value} {A : Option Addr} {l : List α} {ad : Addr} {i : Nat} {a : α} (h : zJ Sb k enc (.slice A len c) l w) (hA : A = some ad) (hi : l[i]? = some a) : ve Sb (ad.add (i * k)) (enc a) w := by
  obtain ⟨A',c',e,h1,h2,h3⟩:=h
  injection e with e1 e2 e3
  subst e1
  obtain ⟨ad',e,hb,hc⟩:=h3 (by intro e; subst e; cases hi)
  rw [hA] at e; injection e with e; subst e
  exact ⟨by rw [add_block]; exact hb,fun j u hu=>hc i a hi j u hu⟩
theorem Mem.ptrDats {P0 : Nat → Prop} {p : Nat} {cs : List Value} (hp : w.heap[p]? = some (.cells cs.toArray T (0, 0))) (hP : ∀ b, P0 b → b < w.heap.size ∧ b ≠ p) (h : datsL P0 L w) (hq : L.all Own.isPub = true := by rfl) : Mem w ⟨(· = p), P0⟩ (.blk p cs T :: L) w := by
  have hm:=Mem.args (w:=w) (P0:=P0) (fun b hb=>(hP b hb).1) fun i o hi=>h.at i o hi
  have hpub : ∀ (i : Nat) (o : Own), L[i]? = some o → ∃ F, o = .pub F := fun i o hi => by
    have:=List.all_eq_true.1 hq o (List.mem_of_getElem? hi)
    cases o <;> first | exact ⟨_,rfl⟩ | cases this
  refine ⟨Fr.refl _ _,fun i o hi=>?_,fun i j o o' hi hj hij hmm b hb hb'=>?_,P0,fun b hb=>.inl hb,fun b hb=>(hP b hb).1,fun i o hi hmu b hb hf=>?_,fun i F hi=>?_⟩
  · cases i with
    | zero =>
      obtain rfl:Own.blk p cs T=o:=by simpa using hi
      exact ⟨hp,fun b hb=>by have hb:b=p:=hb; subst hb; exact (Array.getElem?_eq_some_iff.1 hp).1,fun _ b hb=>.inr hb⟩
    | succ i =>
      have hi:L[i]?=some o:=by simpa using hi
      obtain ⟨h1,h2,h3⟩:=hm.ok i o hi
      obtain ⟨F,rfl⟩:=hpub i o hi
      exact ⟨h1,h2,fun e=>by cases e⟩
  · cases i with
    | zero =>
      cases j with
      | zero=>exact hij rfl
      | succ j =>
        have hj:L[j]?=some o':=by simpa using hj
        obtain ⟨F,rfl⟩:=hpub j o' hj
        exact hb'
    | succ i =>
      have hi:L[i]?=some o:=by simpa using hi
      obtain ⟨F,rfl⟩:=hpub i o hi
      exact hb
  · cases i with
    | zero =>
      obtain rfl:Own.blk p cs T=o:=by simpa using hi
      exact (hP b hb).2 hf
    | succ i =>
      have hi:L[i]?=some o:=by simpa using hi
      obtain ⟨F,rfl⟩:=hpub i o hi
      cases hmu
  · cases i with
    | zero=>simp at hi
    | succ i =>
      have hi:L[i]?=some (.pub F):=by simpa using hi
      exact (h.at i _ hi).2.2.2 F rfl
def RetM (w:World) (p:Nat) (T:TypeId) (v:Value) (cs:List Value):Ending→World→Prop:=fun e w'=>e=.returned v∧Fr (·=p) w w'∧w'.heap[p]?=some (.cells cs.toArray T (0,0))
theorem jn (i : Nat) {f p : Nat} {args : Array Operand} {ts : Array TypeId} {vs cs0 cs' : List Value} (hw : Want N D ops E g true) (hL : L[i]? = some (.blk p cs0 T)) (hargs : evs E args.toList = some vs)
    (hcall:∀ vs w,(callFunc f vs).run P w=.ok (.enter f vs) w) (hd:Nat.blt d N=true)
    (hc:∀ w Pb,Mem w0 M L w→Pubs w0 M L w Pb→Calls P f vs.toArray w (RetM w p T v cs'))
    (h:WL P N D ops Q rest ((d,v)::E) (Mem w0 M (L.set i (.blk p cs' T)))) :
    WL P N D ops Q (⟨some d,.call { callee:=.value (.func f),args:=args,argTypes:=ts },ty,pos,aft,g⟩::rest) E (Mem w0 M L) :=
  uc (Φ := fun u w' => u = v ∧ Mem w0 M (L.set i (.blk p cs' T)) w') hw (by rfl) hargs hcall hd (fun w hS => by
    obtain ⟨Pb,pp⟩:=hS.pb
    have hc':=hc w Pb hS pp
    simp only [Array.append_empty]
    refine hc'.mono fun e w' ⟨he,hf,hh⟩=>⟨v,he,rfl,?_⟩
    have hp:p < w.heap.size:=(hS.ok i _ hL).2.1 p rfl
    exact hS.upd (o:=.blk p cs0 T) (o':=.blk p cs' T) hL rfl hf hh fun b hb=>⟨.inl hb,by have hb':b=p:=hb; subst hb'; exact Nat.lt_of_lt_of_le hp hf.size⟩) (fun u w hw a ha=>by obtain ⟨rfl,hm⟩:=hw; exact h w hm a ha)
theorem Mem.gJ {w1 : World} {p : Nat} {P0 : Nat → Prop} {cs cs' : List Value} (h : Mem w ⟨(· = p), P0⟩ L w1) (i : Nat) (hL : L[i]? = some (.blk p cs T)) (hu : u = v) (hc : cs = cs') : RetM w p T v cs' (.returned u) w1 := by
  subst hu hc
  exact ⟨rfl,h.fr,h.blk hL⟩
theorem Mem.sealB {i b : Nat} {cs : List Value} (h : Mem w0 M L w) (hi : L[i]? = some (.blk b cs T)) (hM : M.m = no) : Mem w0 M (L.set i (celP ⟨b, 0, none⟩ cs)) w := by
  refine h.gG hi rfl (fun b' hb=>?_) (ve.loc _ _) fun Pb pp=>⟨.inr rfl,fun j u hu=>?_⟩
  · rcases (h.ok i _ hi).2.2 rfl b' hb with h1 | h1
    · exact .inl h1
    · rw [hM] at h1; exact h1.elim
  · rw [add_lit]
    have:=h.cell (j:=0 + j) hi
    rw [this]; simpa using hu
theorem l_sealB (i : Nat) {b : Nat} {cs : List Value} (hi : L[i]? = some (.blk b cs T)) (hM : M.m = no) (h : WL P N D ops Q rest E (Mem w0 M (L.set i (celP ⟨b, 0, none⟩ cs)))) : WL P N D ops Q rest E (Mem w0 M L) :=
  fun w hS=>h w (hS.sealB hi hM)
end
end Ex
end
section
namespace Ex
def fpOf (A:List Own):Nat→Prop:=fun b=>∃ o ∈ A,o.mut=true∧o.fp b
section
variable {P : Program} {N : Nat} {D : List Deferred} {E : Env} {S S' : World → Prop} {Q : Exit → Act → World → Prop} {K : Act → World → Prop} {w0 w w' : World} {M : Fp} {L A A' R : List Own} {Pb : Nat → Prop}
  {ops:Array Oper} {rest:List Oper} {d:Nat} {ty T:TypeId} {pos:String} {aft:Array Edge} {g:Option (Nat × Bool)} {v u:Value} {x y:Operand}
theorem Mem.give (h : Mem w0 M (A ++ R) w) (pp : Pubs w0 M (A ++ R) w Pb) : Mem w ⟨fpOf A, Pb⟩ A w := by
  have hin:∀ (i:Nat) (o:Own),A[i]?=some o→(A++R)[i]?=some o:=fun i o hi=>by rw [List.getElem?_append_left (List.getElem?_eq_some_iff.1 hi).1]; exact hi
  refine ⟨Fr.refl _ _,fun i o hi=>?_,fun i j o o' hi hj hij hm=>h.dj i j o o' (hin i o hi) (hin j o' hj) hij hm,Pb,fun b hb=>.inl hb,pp.lt,fun i o hi=>pp.dj i o (hin i o hi),fun i F hi=>pp.at_ i F (hin i _ hi)⟩
  obtain ⟨h1,h2,_⟩:=h.ok i o (hin i o hi)
  exact ⟨h1,h2,fun hm b hb=>.inr ⟨o,List.mem_of_getElem? hi,hm,hb⟩⟩
theorem Mem.take (h : Mem w0 M (A ++ R) w) (pp : Pubs w0 M (A ++ R) w Pb) (k : Mem w ⟨fpOf A, Pb⟩ A' w') (hq : A'.all (fun o => o.mut || o.isPub) = true) : Mem w0 M (A' ++ R) w' := by
  have hA : ∀ (o : Own), o ∈ A → ∃ i, (A ++ R)[i]? = some o ∧ i < A.length := fun o ho => by
    obtain ⟨i,hi,rfl⟩:=List.mem_iff_getElem.1 ho
    exact ⟨i,by rw [List.getElem?_append_left hi]; exact List.getElem?_eq_getElem hi,hi⟩
  have hR:∀ (j:Nat) (o:Own),R[j]?=some o→(A++R)[A.length + j]?=some o:=fun j o hj=>by rw [List.getElem?_append_right (by omega)]; simpa using hj
  have hfA : ∀ b, fpOf A b → b < w.heap.size ∧ (w0.heap.size ≤ b ∨ M.m b) ∧ ¬ Pb b ∧ ∀ (j : Nat) (o : Own), R[j]? = some o → ¬ o.fp b := by
    rintro b ⟨o,ho,hm,hb⟩
    obtain ⟨i,hi,hil⟩:=hA o ho
    obtain ⟨_,h2,h3⟩:=h.ok i o hi
    exact ⟨h2 b hb,h3 hm b hb,fun hp=>pp.dj i o hi hm b hp hb,fun j o' hj hb'=>h.dj i (A.length + j) o o' hi (hR j o' hj) (by omega) (.inl hm) b hb hb'⟩
  have hRk:∀ (j:Nat) (o:Own),R[j]?=some o→∀ b,o.fp b→w'.heap[b]?=w.heap[b]?:=fun j o hj b hb=>k.fr.block b ((h.ok _ o (hR j o hj)).2.1 b hb) fun hf=>(hfA b hf).2.2.2 j o hj hb
  have hsz:=k.fr.size
  have hsz0:=h.fr.size
  have key : ∀ (i : Nat) (o : Own), (A' ++ R)[i]? = some o → (i < A'.length ∧ A'[i]? = some o) ∨ (A'.length ≤ i ∧ R[i - A'.length]? = some o) := fun i o hi => by
    rcases Nat.lt_or_ge i A'.length with h1 | h1
    · rw [List.getElem?_append_left h1] at hi; exact .inl ⟨h1,hi⟩
    · rw [List.getElem?_append_right h1] at hi; exact .inr ⟨h1,hi⟩
  have hA' : ∀ (i : Nat) (o : Own), A'[i]? = some o → ∀ b, o.fp b → o.mut = true := fun i o hi b hb => by
    have:=List.all_eq_true.1 hq o (List.mem_of_getElem? hi)
    simp only [Bool.or_eq_true] at this
    rcases this with h1 | h1
    · exact h1
    · cases o <;> first | exact (show False from hb).elim | cases h1
  have hcross : ∀ (i j : Nat) (o o' : Own), A'[i]? = some o → R[j]? = some o' → ∀ b, o.fp b → ¬ o'.fp b := fun i j o o' hi hj b hb hb' => by
    rcases (k.ok i o hi).2.2 (hA' i o hi b hb) b hb with h1 | h1
    · have:=(h.ok _ o' (hR j o' hj)).2.1 b hb'; omega
    · exact (hfA b h1).2.2.2 j o' hj hb'
  refine ⟨h.fr.trans k.fr fun b hb hf=>(hfA b hf).2.1.resolve_left (by omega),fun i o hi=>?_,fun i j o o' hi hj hij hmm b hb hb'=>?_,?_⟩
  · rcases key i o hi with ⟨_,h1⟩ | ⟨_,h1⟩
    · obtain ⟨a1,a2,a3⟩:=k.ok i o h1
      exact ⟨a1,a2,fun hm b hb=>(a3 hm b hb).elim (fun e=>.inl (by omega)) fun e=>(hfA b e).2.1⟩
    · obtain ⟨a1,a2,a3⟩:=h.ok _ o (hR _ o h1)
      exact ⟨Own.holds_keep a1 (hRk _ o h1),fun b hb=>Nat.lt_of_lt_of_le (a2 b hb) hsz,a3⟩
  · rcases key i o hi with ⟨a1,h1⟩ | ⟨a1,h1⟩ <;> rcases key j o' hj with ⟨a2,h2⟩ | ⟨a2,h2⟩
    · exact k.dj i j o o' h1 h2 hij hmm b hb hb'
    · exact hcross _ _ o o' h1 h2 b hb hb'
    · exact hcross _ _ o' o h2 h1 b hb' hb
    · exact h.dj _ _ o o' (hR _ o h1) (hR _ o' h2) (by omega) hmm b hb hb'
  · obtain ⟨Pb',qq⟩:=k.pb
    refine ⟨fun b=>Pb b∨Pb' b,fun b hb=>?_,fun b hb=>?_,fun i o hi hm b hb hf=>?_,fun i F hi=>?_⟩
    · rcases hb with hb | hb
      · exact pp.sub b hb
      · rcases qq.sub b hb with h1 | h1
        · exact pp.sub b h1
        · exact .inr (by omega)
    · rcases hb with hb | hb
      · exact Nat.lt_of_lt_of_le (pp.lt b hb) hsz
      · exact qq.lt b hb
    · rcases key i o hi with ⟨_,h1⟩ | ⟨_,h1⟩
      · rcases hb with hb | hb
        · rcases (k.ok i o h1).2.2 hm b hf with h2 | h2
          · have:=pp.lt b hb; omega
          · exact (hfA b h2).2.2.1 hb
        · exact qq.dj i o h1 hm b hb hf
      · rcases hb with hb | hb
        · exact pp.dj _ o (hR _ o h1) hm b hb hf
        · rcases qq.sub b hb with h2 | h2
          · exact pp.dj _ o (hR _ o h1) hm b h2 hf
          · have:=(h.ok _ o (hR _ o h1)).2.1 b hf; omega
    · rcases key i _ hi with ⟨_,h1⟩ | ⟨_,h1⟩
      · exact (k.ok i _ h1).1 Pb' _ w' w' (fun b hb=>.inr hb) (fun _ _=>rfl) (qq.at_ i F h1)
      · exact (h.ok _ _ (hR _ _ h1)).1 Pb _ w w' (fun b hb=>.inl hb) (fun b hb=>k.fr.block b (pp.lt b hb) fun hf=>(hfA b hf).2.2.1 hb) (pp.at_ _ F (hR _ _ h1))
def RetA {α:Type} (w:World) (A:List Own) (Pb:Nat→Prop) (mk:α→Value) (pure:α→Prop) (A':α→List Own):Ending→World→Prop:=fun e w'=>∃ z,e=.returned (mk z)∧pure z∧Mem w ⟨fpOf A,Pb⟩ (A' z) w'
theorem l_callA {α : Type} {f : Nat} {args : Array Operand} {ts : Array TypeId} {vs : List Value} {cap : Array Value} (A R : List Own) (mk : α → Value) (pure : α → Prop) (A' : α → List Own) (hA : ∀ w, Mem w0 M L w → Mem w0 M (A ++ R) w) (hq : ∀ z, (A' z).all (fun o => o.mut || o.isPub) = true)
    (hw:Want N D ops E g true) (hx:ev E x=some (.func (.func f) #[] cap)) (hargs:evs E args.toList=some vs)
    (hcall:∀ vs w,(callFunc f vs).run P w=.ok (.enter f vs) w) (hd:Nat.blt d N=true)
    (hc:∀ w Pb,Mem w ⟨fpOf A,Pb⟩ A w→Calls P f (vs.toArray++cap) w (RetA w A Pb mk pure A'))
    (h:∀ z,pure z→WL P N D ops Q rest ((d,mk z)::E) (Mem w0 M (A' z++R))) :
    WL P N D ops Q (⟨some d,.call { callee:=.value x,args:=args,argTypes:=ts },ty,pos,aft,g⟩::rest) E (Mem w0 M L) :=
  uc (Φ := fun v w' => ∃ z, v = mk z ∧ pure z ∧ Mem w0 M (A' z ++ R) w') hw hx hargs hcall hd (fun w hS => by
    have hS:=hA w hS
    obtain ⟨Pb,pp⟩:=hS.pb
    exact (hc w Pb (hS.give pp)).mono fun e w' ⟨z,he,hz,hk⟩=>⟨mk z,he,z,rfl,hz,hS.take pp hk (hq z)⟩) (fun v w hw a ha=>by obtain ⟨z,rfl,hz,hm⟩:=hw; exact h z hz w hm a ha)
theorem vO {α : Type} {f : Nat} {args : Array Operand} {ts : Array TypeId} {vs cap : List Value} (A R : List Own) (mk : α → Value) (pure : α → Prop) (A' L' : α → List Own) (hL' : ∀ z, A' z ++ R = L' z) (hA : ∀ w, Mem w0 M L w → Mem w0 M (A ++ R) w) (hq : ∀ z, (A' z).all (fun o => o.mut || o.isPub) = true)
    (hw:Want N D ops E g true) (hx:ev E x=some (.func (.func f) #[] cap.toArray)) (hargs:evs E args.toList=some vs)
    (hcall:∀ vs w,(callFunc f vs).run P w=.ok (.enter f vs) w) (hd:Nat.blt d N=true)
    (hc:∀ w Pb,Mem w ⟨fpOf A,Pb⟩ A w→Calls P f (vs++cap).toArray w (RetA w A Pb mk pure A'))
    (h:∀ z,pure z→WL P N D ops Q rest ((d,mk z)::E) (Mem w0 M (L' z))) :
    WL P N D ops Q (⟨some d,.call { callee:=.value x,args:=args,argTypes:=ts },ty,pos,aft,g⟩::rest) E (Mem w0 M L) :=
  l_callA A R mk pure A' hA hq hw hx hargs hcall hd (fun w Pb hG=>by have:=hc w Pb hG; rwa [← List.append_toArray] at this) fun z hz=>by rw [hL' z]; exact h z hz
theorem Mem.all0 {α:Type} {ok:(Nat→Prop)→α→World→Prop} (hl:∀ x,Loc (fun S=>ok S x)) (h:Mem w0 M L w):Mem w0 M (allP ok []::L) w:=h.vU (all_loc hl []) fun _ _ x hx=>by cases hx
theorem Mem.allCell {l : List zO} {sA : Option Addr} {sc : Nat} {sl : List Label} {n : Int} (h : Mem w0 M L w) (q q2 : Nat) (hi : L[q]? = some (allP zO.Ok l)) (hi2 : L[q2]? = some (slP 2 zj (.slice sA sl.length sc) sl)) : Mem w0 M (allP zO.Ok (l ++ [zO.mk ⟨sA, sc, sl⟩ n]) :: L) w :=
  h.vU (all_loc zO.Ok.loc _) fun Pb pp x hx => by
    rcases List.mem_append.1 hx with h1 | h1
    · exact pp.at_ q _ hi x h1
    · obtain rfl:x=zO.mk ⟨sA,sc,sl⟩ n:=by simpa using h1
      exact ⟨pp.at_ q2 _ hi2⟩
theorem Mem.vV {α:Type} {L:List Own} {mk:α→Value} {pure:α→Prop} {A':α→List Own} (h:Mem w ⟨fpOf A,Pb⟩ L w') (z:α) (hv:v=mk z) (hz:pure z) (hs:Mem w ⟨fpOf A,Pb⟩ L w'→Mem w ⟨fpOf A,Pb⟩ (A' z) w'):RetA w A Pb mk pure A' (.returned v) w':=⟨z,by rw [hv],hz,hs h⟩
def RetE {β : Type} (w : World) (P0 : Nat → Prop) (mk : β → Value) (pure : β → Prop) (F : β → (Nat → Prop) → World → Prop) : Ending → World → Prop := fun e w' =>
  ∃ z Pb,e=.returned (mk z)∧pure z∧Fr no w w'∧(∀ b,Pb b→(P0 b∨w.heap.size≤b)∧b < w'.heap.size)∧F z Pb w'
theorem l_callE {β : Type} {f : Nat} {args : Array Operand} {ts : Array TypeId} {vs : List Value} {cap : Array Value} (mk : β → Value) (pure : β → Prop) (F : β → (Nat → Prop) → World → Prop) (hl : ∀ z, Loc (F z)) (hw : Want N D ops E g true) (hx : ev E x = some (.func (.func f) #[] cap)) (hargs : evs E args.toList = some vs)
    (hcall:∀ vs w,(callFunc f vs).run P w=.ok (.enter f vs) w) (hd:Nat.blt d N=true)
    (hc:∀ w Pb,Mem w0 M L w→Pubs w0 M L w Pb→Calls P f (vs.toArray++cap) w (RetE w Pb mk pure F))
    (h:∀ z,pure z→WL P N D ops Q rest ((d,mk z)::E) (Mem w0 M (.pub (F z)::L))) :
    WL P N D ops Q (⟨some d,.call { callee:=.value x,args:=args,argTypes:=ts },ty,pos,aft,g⟩::rest) E (Mem w0 M L) :=
  uc (Φ := fun v w' => ∃ z, v = mk z ∧ pure z ∧ Mem w0 M (.pub (F z) :: L) w') hw hx hargs hcall hd (fun w hS => by
    obtain ⟨Pb,pp⟩:=hS.pb
    refine (hc w Pb hS pp).mono fun e w' ⟨z,Pb',he,hz,hf,hPb,hF⟩=>⟨mk z,he,z,rfl,hz,?_⟩
    exact (hS.keep hf).lay' (hl z) w.heap.size hS.fr.size (fun j o hj hm b hb=>(hS.ok j o hj).2.1 b hb) (hS.keepP pp hf) hPb hF) (fun v w hw a ha=>by obtain ⟨z,rfl,hz,hm⟩:=hw; exact h z hz w hm a ha)
theorem Mem.uR {β : Type} {w1 : World} {P0 : Nat → Prop} {mk : β → Value} {pure : β → Prop} {F : β → (Nat → Prop) → World → Prop} (h : Mem w ⟨no, P0⟩ L w1) (z : β) (hv : v = mk z) (hz : pure z) (hF : ∀ Pb, Pubs w ⟨no, P0⟩ L w1 Pb → F z Pb w1) : RetE w P0 mk pure F (.returned v) w1 := by
  obtain ⟨Pb,pp⟩:=h.pb
  exact ⟨z,Pb,by rw [hv],hz,h.fr,fun b hb=>⟨pp.sub b hb,pp.lt b hb⟩,hF Pb pp⟩
end
end Ex
end
section
structure vu where (sr:SlX vF) (sm:SlX Sum)
namespace Ex
structure vu.Ok (S : Nat → Prop) (z : vu) (w : World) : Prop where
  sr:zJ S 1 serE (.slice z.sr.A z.sr.l.length z.sr.c) z.sr.l w
  all:∀ x ∈ z.sr.l,vF.Ok S x w
  sm:zJ S 7 sumE (.slice z.sm.A z.sm.l.length z.sm.c) z.sm.l w
theorem vu.Ok.loc (x:vu):Loc (fun S=>vu.Ok S x):=fun S S' u u' hs hk h=>⟨zJ.loc _ _ _ _ S S' u u' hs hk h.sr,fun c hc=>vF.Ok.loc c S S' u u' hs hk (h.all c hc),zJ.loc _ _ _ _ S S' u u' hs hk h.sm⟩
structure vu.Wf (x : vu) : Prop where
  sr:Ex.Wf x.sr
  sm:Ex.Wf x.sm
  all:∀ c ∈ x.sr.l,vF.Wf c
theorem vu.Ok.wf {S:Nat→Prop} {x:vu} {w:World} (h:vu.Ok S x w):vu.Wf x:=⟨zJ.wf h.sr,zJ.wf h.sm,fun c hc=>(h.all c hc).wf⟩
@[reducible] def winV (err:Int) (z:vu):Value:=.tuple #[.slice z.sr.A z.sr.l.length z.sr.c,.slice z.sm.A z.sm.l.length z.sm.c,.int .i64 err]
abbrev Look:=List Match→Int→Int→List (List Label × Sum) × Int
def vu.is (z:vu) (r:List (List Label × Sum)):Prop:=z.sr.l.map (fun x=>x.sr.l)=r.map (·.1)∧z.sm.l=r.map (·.2)
structure RefX where (cs:SlX zO) (sm:SlX Sum)
structure RefX.Ok (S : Nat → Prop) (z : RefX) (w : World) : Prop where
  cs:zJ S 2 yi (.slice z.cs.A z.cs.l.length z.cs.c) z.cs.l w
  all:∀ x ∈ z.cs.l,zO.Ok S x w
  sm:zJ S 7 sumE (.slice z.sm.A z.sm.l.length z.sm.c) z.sm.l w
theorem RefX.Ok.loc (x:RefX):Loc (fun S=>RefX.Ok S x):=fun S S' u u' hs hk h=>⟨zJ.loc _ _ _ _ S S' u u' hs hk h.cs,fun c hc=>zO.Ok.loc c S S' u u' hs hk (h.all c hc),zJ.loc _ _ _ _ S S' u u' hs hk h.sm⟩
structure RefX.Wf (x : RefX) : Prop where
  cs:Ex.Wf x.cs
  sm:Ex.Wf x.sm
  all:∀ c ∈ x.cs.l,zO.Wf c
def RefX.is (z:RefX) (r:List (List Label × Sum)):Prop:=z.cs.l.map (fun x=>x.sr.l)=r.map (·.1)∧z.sm.l=r.map (·.2)
section
variable {P : Program} {N : Nat} {D : List Deferred} {E : Env} {S S' : World → Prop} {Q : Exit → Act → World → Prop} {K : Act → World → Prop} {w0 w w' : World} {M : Fp} {L L' : List Own}
  {ops:Array Oper} {rest:List Oper} {d:Nat} {ty T:TypeId} {pos:String} {aft:Array Edge} {g:Option (Nat × Bool)} {v u:Value} {x y:Operand} {α:Type} {ok:(Nat→Prop)→α→World→Prop} {F G:(Nat→Prop)→World→Prop}
theorem v7 {p:Prop} (q:Nat) (hL:L[q]?=some (.pub F)) (hF:∀ S w,F S w→p) (h:p→WL P N D ops Q rest E (Mem w0 M L)):WL P N D ops Q rest E (Mem w0 M L):=fun w hS=>h (hF _ _ (hS.vQ hL)) w hS
theorem c_get {cd:Code} {p:Prop} (q:Nat) (hL:L[q]?=some (.pub F)) (hF:∀ S w,F S w→p) (h:p→WC P N D cd Q E (Mem w0 M L)):WC P N D cd Q E (Mem w0 M L):=fun w hS=>h (hF _ _ (hS.vQ hL)) w hS
theorem vi {β : Type} {f : Nat} {args : Array Operand} {ts : Array TypeId} {vs : List Value} (mk : β → Value) (pure : β → Prop) (F : β → (Nat → Prop) → World → Prop) (hl : ∀ z, Loc (F z)) (hw : Want N D ops E g true) (hargs : evs E args.toList = some vs)
    (hcall:∀ vs w,(callFunc f vs).run P w=.ok (.enter f vs) w) (hd:Nat.blt d N=true)
    (hc:∀ w Pb,Mem w0 M L w→Pubs w0 M L w Pb→Calls P f vs.toArray w (RetE w Pb mk pure F))
    (h:∀ z,pure z→WL P N D ops Q rest ((d,mk z)::E) (Mem w0 M (.pub (F z)::L))) :
    WL P N D ops Q (⟨some d,.call { callee:=.value (.func f),args:=args,argTypes:=ts },ty,pos,aft,g⟩::rest) E (Mem w0 M L) :=
  l_callE mk pure F hl hw (cap:=#[]) (by rfl) hargs hcall hd (fun w Pb hM pp=>by simpa only [Array.append_empty] using hc w Pb hM pp) h
theorem Mem.winX (h : Mem w0 M L w) (q : Nat) {e : vu} (hi : L[q]? = some (.pub (fun S => vu.Ok S e))) : Mem w0 M (slP 1 serE (.slice e.sr.A e.sr.l.length e.sr.c) e.sr.l :: allP vF.Ok e.sr.l :: slP 7 sumE (.slice e.sm.A e.sm.l.length e.sm.c) e.sm.l :: L) w := by
  have h1:=h.imp q hi (zJ.loc 7 sumE _ e.sm.l) fun _ hF=>vu.Ok.sm hF
  have h2:=h1.imp (q + 1) hi (all_loc vF.Ok.loc e.sr.l) fun _ hF=>vu.Ok.all hF
  exact h2.imp (q + 2) hi (zJ.loc 1 serE _ e.sr.l) fun _ hF=>vu.Ok.sr hF
theorem Mem.allSnoc {l : List α} {a : α} (h : Mem w0 M L w) (q q2 : Nat) (hl : ∀ x, Loc (fun S => ok S x)) (hi : L[q]? = some (allP ok l)) (hi2 : L[q2]? = some (okP ok a)) : Mem w0 M (allP ok (l ++ [a]) :: L) w :=
  h.vU (all_loc hl _) fun Pb pp x hx => by
    rcases List.mem_append.1 hx with h1 | h1
    · exact pp.at_ q _ hi x h1
    · rw [List.mem_singleton.1 h1]; exact pp.at_ q2 _ hi2
theorem Mem.allSer {l : List vF} {sA : Option Addr} {sc : Nat} {sl : List Label} (h : Mem w0 M L w) (q q2 : Nat) (hi : L[q]? = some (allP vF.Ok l)) (hi2 : L[q2]? = some (slP 2 zj (.slice sA sl.length sc) sl)) : Mem w0 M (allP vF.Ok (l ++ [vF.mk ⟨sA, sc, sl⟩]) :: L) w :=
  h.vU (all_loc vF.Ok.loc _) fun Pb pp x hx => by
    rcases List.mem_append.1 hx with h1 | h1
    · exact pp.at_ q _ hi x h1
    · obtain rfl:x=vF.mk ⟨sA,sc,sl⟩:=by simpa using h1
      exact ⟨pp.at_ q2 _ hi2⟩
end
theorem Mem.celAt {α : Type} {w0 w : World} {M : Fp} {L : List Own} {k len c i : Nat} {enc : α → List Value} {l : List α} {A : Option Addr} {ad : Addr} {a : α} (h : Mem w0 M L w) (q : Nat) (hL : L[q]? = some (slP k enc (.slice A len c) l)) (hA : A = some ad) (hi : l[i]? = some a) : Mem w0 M (celP (ad.add (i * k)) (enc a) :: L) w :=
  h.vU (ve.loc _ _) fun _ pp=>cel_of (pp.at_ q _ hL) hA hi
end Ex
end
end Go.Proofs.YtgojhpocpajmlaaGreatDoor
