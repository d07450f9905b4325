/- Laws and walks for the proof of BaseRefused, packed by program; each theorem bears its own conditions. -/
import Derived.Lib.Overlaps
import Derived.Lib.AppendZerosOnto
import Derived.Test.YtgojhpocpajmlaaGreatDoorKRef2
namespace Go.Proofs.YtgojhpocpajmlaaGreatDoor
section
namespace Lg
open Ex
mutual
def vector : Expr → Bool
  | .mk kind _ _ _ _ _ kids=>(decide (kind=2) || decide (kind=3)) || vectors kids
def vectors : List Expr → Bool
  | []=>false
  | x::xs=>vector x || vectors xs
end
theorem vectors_any : ∀ l, vectors l = l.any vector
  | []=>rfl
  | x::xs=>by rw [vectors,List.any_cons,vectors_any xs]
theorem vector_e (x : zC) : vector x.e = ((decide (x.kind = 2) || decide (x.kind = 3)) || x.kids.l.any fun k => vector k.e) := by
  rw [zC.gI,vector,vectors_any,List.any_map]; rfl
theorem vector_yes {x : zC} (h : x.kind = 2 ∨ x.kind = 3) : vector x.e = true := by
  rw [vector_e]; rcases h with h | h <;> simp [h]
theorem vector_no {x : zC} (h : ¬ (x.kind = 2 ∨ x.kind = 3)) : vector x.e = x.kids.l.any fun k => vector k.e := by
  rw [vector_e]; simp only [not_or] at h; simp [h.1,h.2]
mutual
def typed : Expr → Int
  | .mk kind _ _ _ _ _ kids=>if kind=3∧kids.length=1∧vectors kids=false then 8 else typeds kids
def typeds : List Expr → Int
  | []=>0
  | x::xs=>if typed x≠0 then typed x else typeds xs
end
theorem typed_e (x : zC) : typed x.e = if x.kind = 3 ∧ x.kids.l.length = 1 ∧ (x.kids.l.any fun k => vector k.e) = false then 8 else typeds (x.kids.l.map zC.e) := by
  rw [zC.gI,typed,vectors_any,List.any_map,List.length_map]; rfl
theorem typed_8 {x : zC} (h : x.kind = 3 ∧ ((x.kids.l.length : Int) = 1 ∧ (!(x.kids.l.any fun k => vector k.e)) = true)) : typed x.e = 8 := by
  rw [typed_e,if_pos ⟨h.1,by omega,by simpa using h.2.2⟩]
theorem typed_rest {x : zC} (h : ¬ (x.kind = 3 ∧ ((x.kids.l.length : Int) = 1 ∧ (!(x.kids.l.any fun k => vector k.e)) = true))) : typed x.e = typeds (x.kids.l.map zC.e) := by
  rw [typed_e,if_neg fun g=>h ⟨g.1,by omega,by simp [g.2.2]⟩]
theorem any_one {α : Type} {l : List α} {p : α → Bool} {s : α} (h : l.length = 1) (hs : l[0]? = some s) : l.any p = p s := by
  match l,h with
  | [a], _ => obtain rfl : a = s := by simpa using hs
              simp
theorem typeds_take {l : List Expr} {k : Nat} {x : Expr} (h : typeds (l.take k) = 0) (hx : l[k]? = some x) : typeds (l.take (k + 1)) = typed x ∧ (typed x ≠ 0 → typeds l = typed x) := by
  induction l generalizing k with
  | nil=>simp at hx
  | cons y l ih =>
    cases k with
    | zero =>
      obtain rfl:y=x:=by simpa using hx
      refine ⟨by simp only [List.take_succ_cons,List.take_zero,typeds]; split <;> simp_all,fun h=>by rw [typeds,if_pos h]⟩
    | succ k =>
      rw [List.take_succ_cons,typeds] at h
      have hy:¬ typed y≠0:=fun e=>by rw [if_pos e] at h; exact e h
      rw [if_neg hy] at h
      obtain ⟨h1,h2⟩:=ih h (by simpa using hx)
      rw [List.take_succ_cons,typeds,if_neg hy]
      refine ⟨h1,fun e=>by rw [typeds,if_neg hy]; exact h2 e⟩
theorem typeds_next {l : List zC} {k : Nat} {x : zC} (h : typeds ((l.take k).map zC.e) = 0) (hx : l[k]? = some x) : typeds ((l.take (k + 1)).map zC.e) = typed x.e ∧ (typed x.e ≠ 0 → typeds (l.map zC.e) = typed x.e) := by
  rw [List.map_take] at h ⊢
  exact typeds_take h (by rw [List.getElem?_map,hx]; rfl)
def totals:List ByteArray:=[⟨#[99,111,117,110,116]⟩,⟨#[109,97,120]⟩,⟨#[109,105,110]⟩,⟨#[115,117,109]⟩]
def signs:List ByteArray:=[⟨#[43]⟩,⟨#[45]⟩,⟨#[42]⟩]
def matchW (m:Match):Int:=if m.kind < 1∨4 < m.kind then 1 else if zc.named m.key=false∨((m.kind=1∨m.kind=2)∧zc.named m.val=false) then 7 else 0
def matchesW : List Match → Int
  | []=>0
  | m::r=>if matchW m≠0 then matchW m else matchesW r
theorem matchesW_step {l : List Match} {k : Nat} {x : Match} (h : l[k]? = some x) : matchesW (l.drop k) = if matchW x ≠ 0 then matchW x else matchesW (l.drop (k + 1)) := by
  obtain ⟨h1,rfl⟩:=List.getElem?_eq_some_iff.1 h
  rw [List.drop_eq_getElem_cons h1,matchesW]
theorem matchesW_end {l:List Match} {k:Nat} (h:l.length≤k):matchesW (l.drop k)=0:=by rw [List.drop_of_length_le h,matchesW]
def windowW (word : ByteArray) (ms : List Match) (range : Int) : Int :=
  if ¬ 0≤zc.indexOf Agg.words word 0 then 7 else if 5 < ms.length then 5 else if matchesW ms≠0 then matchesW ms else if range < 1∨100000 < range then 3 else 0
def ownW (kind n range : Int) (word : ByteArray) (ms : List Match) (by_ : List ByteArray) : Int :=
  if kind=1 then (if n < 0∨1000000 < n then 3 else 0)
  else if kind=2 then windowW word ms range
  else if kind=3 then (if ¬ 0≤zc.indexOf totals word 0 then 7 else if 4 < by_.length then 5 else if (by_.any fun k=>!zc.named k)=true then 7 else 0)
  else if ¬ 0≤zc.indexOf signs word 0 then 7 else 0
theorem signs_iff (v : ByteArray) : 0 ≤ zc.indexOf signs v 0 ↔ (v = ⟨#[43]⟩ ∨ v = ⟨#[45]⟩ ∨ v = ⟨#[42]⟩) := by
  rw [zc.index_mem]; simp [signs]
def arity (kind:Int):Int:=if kind=3 then 1 else if kind=4 then 2 else 0
theorem arity_at {kind x : Int} (h1 : 1 ≤ kind) (h2 : kind ≤ 4) (h : ([0,0,0,1,2] : List Int)[kind.toNat]? = some x) : x = arity kind := by
  have:kind=1∨kind=2∨kind=3∨kind=4:=by omega
  rcases this with rfl | rfl | rfl | rfl <;> simp [arity] at h ⊢ <;> omega
mutual
def shape : Expr → Int → Int → Int × Int
  | .mk kind n range word ms by_ kids, deep, c =>
    if 100 < c + 1∨20 < deep then (4,c + 1) else if kind < 1∨4 < kind then (1,c + 1) else if (kids.length:Int)≠arity kind then (5,c + 1)
    else if ownW kind n range word ms by_≠0 then (ownW kind n range word ms by_,c + 1) else shapes kids (deep + 1) (c + 1)
def shapes : List Expr → Int → Int → Int × Int
  | [],_,c=>(0,c)
  | x::xs,deep,c=>if (shape x deep c).1≠0 then shape x deep c else shapes xs deep (shape x deep c).2
end
theorem shape_e (x : zC) (deep c : Int) : shape x.e deep c = if 100 < c + 1 ∨ 20 < deep then (4, c + 1) else if x.kind < 1 ∨ 4 < x.kind then (1, c + 1) else if (x.kids.l.length : Int) ≠ arity x.kind then (5, c + 1)
    else if ownW x.kind x.n x.range x.word x.ms.l x.by_.l≠0 then (ownW x.kind x.n x.range x.word x.ms.l x.by_.l,c + 1) else shapes (x.kids.l.map zC.e) (deep + 1) (c + 1):=by
  rw [zC.gI,shape,List.length_map]
mutual
theorem shape_le : ∀ (e : Expr) (d c : Int), 0 ≤ c → c ≤ 100 → (shape e d c).1 = 0 → 0 ≤ (shape e d c).2 ∧ (shape e d c).2 ≤ 100
  | .mk kind n range word ms by_ kids, d, c, h0, h1, h => by
    rw [shape] at h ⊢
    split at h
    · cases h
    split at h
    · cases h
    split at h
    · cases h
    split at h
    · rename_i h2; exact absurd h h2
    rename_i a1 a2 a3 a4
    rw [if_neg a1,if_neg a2,if_neg a3,if_neg a4]
    exact shapes_le kids (d + 1) (c + 1) (by omega) (by omega) h
theorem shapes_le : ∀ (l : List Expr) (d c : Int), 0 ≤ c → c ≤ 100 → (shapes l d c).1 = 0 → 0 ≤ (shapes l d c).2 ∧ (shapes l d c).2 ≤ 100
  | [],d,c,h0,h1,h=>by rw [shapes]; exact ⟨h0,h1⟩
  | x :: xs, d, c, h0, h1, h => by
    rw [shapes] at h ⊢
    split at h
    · rename_i h2; exact absurd h h2
    rename_i h2
    rw [if_neg h2]
    have:=shape_le x d c h0 h1 (Classical.not_not.1 h2)
    exact shapes_le xs d _ this.1 this.2 h
end
theorem shapes_take {l : List Expr} {k : Nat} {x : Expr} {d c n : Int} (h : shapes (l.take k) d c = (0, n)) (hx : l[k]? = some x) :
    ((shape x d n).1=0→shapes (l.take (k + 1)) d c=(0,(shape x d n).2))∧((shape x d n).1≠0→shapes l d c=shape x d n):=by
  induction l generalizing k c with
  | nil=>simp at hx
  | cons y l ih =>
    cases k with
    | zero =>
      obtain rfl:y=x:=by simpa using hx
      obtain rfl:c=n:=by rw [List.take_zero,shapes] at h; exact congrArg (·.2) h
      refine ⟨fun h=>?_,fun h=>by rw [shapes,if_pos h]⟩
      rw [List.take_succ_cons,List.take_zero,shapes,if_neg (by simp [h]),shapes]
    | succ k =>
      rw [List.take_succ_cons,shapes] at h
      have hy:¬ (shape y d c).1≠0:=fun e=>by rw [if_pos e] at h; exact e (congrArg (·.1) h)
      rw [if_neg hy] at h
      obtain ⟨h1,h2⟩:=ih h (by simpa using hx)
      rw [List.take_succ_cons,shapes,if_neg hy,shapes,if_neg hy]
      exact ⟨h1,h2⟩
theorem shapes_next {l : List zC} {k : Nat} {x : zC} {d c n : Int} (h : shapes ((l.take k).map zC.e) d c = (0, n)) (hx : l[k]? = some x) :
    ((shape x.e d n).1=0→shapes ((l.take (k + 1)).map zC.e) d c=(0,(shape x.e d n).2))∧((shape x.e d n).1≠0→shapes (l.map zC.e) d c=shape x.e d n):=by
  rw [List.map_take] at h ⊢
  exact shapes_take h (by rw [List.getElem?_map,hx]; rfl)
def wrong (e:Expr):Int:=(shape e 1 0).1
end Lg
end
section
namespace Mn
open Ex
def check (e:Expr) (t:Int):Int:=if Lg.wrong e≠0 then Lg.wrong e else if Lg.typed e≠0 then Lg.typed e else if t < 0∨1000000 < t then 3 else 0
def behind (p : Option (List Label)) (s : List Label) : Prop := match p with
  | none=>False
  | some q=>0≤zc.compare q s
instance (p:Option (List Label)) (s:List Label):Decidable (behind p s):=by unfold behind; cases p <;> infer_instance
def linesFrom : Nat → Option (List Label) → List vk → Fault
  | _,_,[]=>⟨0,0⟩
  | i,p,x::r=>if zc.wrong x.sr.l≠0 then ⟨zc.wrong x.sr.l,i⟩ else if (Codec.wrong x.sm.l).err≠0 then ⟨(Codec.wrong x.sm.l).err,i⟩ else if behind p x.sr.l then ⟨2,i⟩ else linesFrom (i + 1) (some x.sr.l) r
def lines (l:List vk):Fault:=if 8 < l.length then ⟨5,0⟩ else linesFrom 0 none l
def prevOf (l:List vk) (k:Nat):Option (List Label):=if k=0 then none else (l[k - 1]?).map (·.sr.l)
def fits (n:Int):Bool:=decide (-1125899906842624≤n∧n≤1125899906842624)
def abs (n:Int):Int:=if n < 0 then -n else n
def tooBig (a b:Int):Prop:=0 < abs b∧1125899906842624 / abs b < abs a
instance (a b:Int):Decidable (tooBig a b):=by unfold tooBig; infer_instance
def op (w:ByteArray) (a b:Int):Int × Bool:=if w=⟨#[43]⟩ then (a + b,fits (a + b)) else if w=⟨#[45]⟩ then (a - b,fits (a - b)) else if tooBig a b then (0,false) else (a * b,true)
theorem abs_nat (n:Int):abs n=(n.natAbs:Int):=by unfold abs; split <;> omega
theorem abs_all (n:Int):0≤abs n∧(abs n=0↔n=0)∧(abs n=n∨abs n=-n):=by unfold abs; split <;> omega
theorem mul_rng {a b : Int} (h : ¬ tooBig a b) : -1125899906842624 ≤ a * b ∧ a * b ≤ 1125899906842624 := by
  unfold tooBig at h
  rw [abs_nat,abs_nat] at h
  by_cases hb:b=0
  · subst hb; omega
  have hb':0 < b.natAbs:=by omega
  have h1 : (a.natAbs : Int) ≤ 1125899906842624 / (b.natAbs : Int) := by
    refine Int.not_lt.1 fun g=>h ⟨by omega,g⟩
  have h2 : (a.natAbs : Int) * (b.natAbs : Int) ≤ 1125899906842624 := by
    have:=Int.mul_le_mul_of_nonneg_right h1 (show (0:Int)≤b.natAbs by omega)
    have h3:=Int.ediv_mul_le 1125899906842624 (show (b.natAbs:Int)≠0 by omega)
    omega
  have h4:((a * b).natAbs:Int)=(a.natAbs:Int) * (b.natAbs:Int):=by rw [Int.natAbs_mul]; push_cast; rfl
  omega
theorem fits_op {w : ByteArray} {a b : Int} (h : (op w a b).2 = true) : -1125899906842624 ≤ (op w a b).1 ∧ (op w a b).1 ≤ 1125899906842624 := by
  unfold op at h ⊢
  split at h
  · rename_i h1; rw [if_pos h1]; simpa [fits] using h
  rename_i h1
  split at h
  · rename_i h2; rw [if_neg h1,if_pos h2]; simpa [fits] using h
  rename_i h2
  split at h
  · cases h
  rename_i h3
  rw [if_neg h1,if_neg h2,if_neg h3]
  exact mul_rng h3
def zero:Val:=⟨false,0,[]⟩
def pairs (a b : Val) : List (List Label × Int × Int) :=
  if b.vec=false then a.cells.map fun c=>(c.sr,c.value,b.n)
  else if a.vec=false then b.cells.map fun c=>(c.sr,a.n,c.value)
  else a.cells.filterMap fun c=>(b.cells.find? fun d=>decide (c.sr=d.sr)).map fun d=>(c.sr,c.value,d.value)
def done (w:ByteArray) (l:List (List Label × Int × Int)):List Cell:=l.map fun t=>⟨t.1,(op w t.2.1 t.2.2).1⟩
def fine (w:ByteArray) (l:List (List Label × Int × Int)):Bool:=l.all fun t=>(op w t.2.1 t.2.2).2
def bin (w : ByteArray) (a b : Val) : Val × Int :=
  if a.vec=false∧b.vec=false then (if (op w a.n b.n).2=true then (⟨false,(op w a.n b.n).1,[]⟩,0) else (zero,3))
  else if fine w (pairs a b)=true then (⟨true,0,done w (pairs a b)⟩,0) else (zero,3)
def put (w : ByteArray) (l : List Cell) (s : List Label) (x : Int) : List Cell :=
  match l with
  | []=>[⟨s,x⟩]
  | c :: r =>
    if c.sr=s then ⟨s,if w=⟨#[109,97,120]⟩ then max c.value x else if w=⟨#[109,105,110]⟩ then min c.value x else c.value + x⟩::r
    else if zc.compare c.sr s < 0 then c::put w r s x else ⟨s,x⟩::c::r
def unit (w:ByteArray) (x:Int):Int:=if w=⟨#[99,111,117,110,116]⟩ then 1 else x
def allFrom (w : ByteArray) (by_ : List ByteArray) : List Cell → List Cell → Val × Int
  | out,[]=>(⟨true,0,out⟩,0)
  | out,c::r=>if (put w out (zc.only c.sr by_) (unit w c.value)).all (fun d=>fits d.value)=true then allFrom w by_ (put w out (zc.only c.sr by_) (unit w c.value)) r else (zero,3)
def all (w:ByteArray) (by_:List ByteArray) (l:List Cell):Val × Int:=allFrom w by_ [] l
def Bnd (v:Val):Prop:=(-1125899906842624≤v.n∧v.n≤1125899906842624)∧∀ c ∈ v.cells,-1125899906842624≤c.value∧c.value≤1125899906842624
theorem Bnd.at_ {x:yO} {k:Nat} {c:zO} (h:Bnd x.e) (hc:x.cells.l[k]?=some c):-1125899906842624≤c.value∧c.value≤1125899906842624:=h.2 c.e (List.mem_map.2 ⟨c,List.mem_of_getElem? hc,rfl⟩)
abbrev Pr:=List Label × Int × Int
def p1 (a b:yO) (k:Nat):List Pr:=(a.cells.l.take k).map fun c=>(c.sr.l,c.value,b.n)
def p2 (a b:yO) (k:Nat):List Pr:=(b.cells.l.take k).map fun c=>(c.sr.l,a.n,c.value)
def p3 (a b:yO) (k:Nat):List Pr:=(a.cells.l.take k).filterMap fun c=>(b.cells.l.find? fun d=>decide (c.sr.l=d.sr.l)).map fun d=>(c.sr.l,c.value,d.value)
theorem p1_at {a b : yO} {k : Nat} {s : zO} (h : a.cells.l[k]? = some s) : p1 a b (k + 1) = p1 a b k ++ [(s.sr.l, s.value, b.n)] := by
  unfold p1; rw [List.take_add_one,h,List.map_append]; rfl
theorem p2_at {a b : yO} {k : Nat} {s : zO} (h : b.cells.l[k]? = some s) : p2 a b (k + 1) = p2 a b k ++ [(s.sr.l, a.n, s.value)] := by
  unfold p2; rw [List.take_add_one,h,List.map_append]; rfl
theorem find_at {α : Type} {p : α → Bool} : ∀ {l : List α} {j : Nat} {y : α}, l[j]? = some y → p y = true → (∀ z ∈ l.take j, p z = false) → l.find? p = some y
  | [],j,y,h,_,_=>by simp at h
  | x :: l, 0, y, h, hp, _ => by
    obtain rfl:x=y:=by simpa using h
    rw [List.find?_cons_of_pos hp]
  | x :: l, j + 1, y, h, hp, hb => by
    rw [List.find?_cons_of_neg (by rw [hb x (by simp)]; decide)]
    exact find_at (by simpa using h) hp fun z hz=>hb z (by simp [hz])
theorem p3_at {a b : yO} {k j : Nat} {s y : zO} (h : a.cells.l[k]? = some s) (hy : b.cells.l[j]? = some y) (hp : decide (s.sr.l = y.sr.l) = true) (hb : ∀ z ∈ b.cells.l.take j, decide (s.sr.l = z.sr.l) = false) : p3 a b (k + 1) = p3 a b k ++ [(s.sr.l, s.value, y.value)] := by
  unfold p3; rw [List.take_add_one,h,List.filterMap_append]
  simp [find_at (p:=fun d=>decide (s.sr.l=d.sr.l)) hy hp hb]
theorem p3_no {a b : yO} {k : Nat} {s : zO} (h : a.cells.l[k]? = some s) (hn : ∀ z ∈ b.cells.l, decide (s.sr.l = z.sr.l) = false) : p3 a b (k + 1) = p3 a b k := by
  have h1:(b.cells.l.find? fun d=>decide (s.sr.l=d.sr.l))=none:=List.find?_eq_none.2 fun z hz=>by rw [hn z hz]; decide
  unfold p3; rw [List.take_add_one,h,List.filterMap_append]
  simp [h1]
theorem done_at {w : ByteArray} {cs : List zO} {p p' : List Pr} {z : SlX Label} {x y : Int} (h : cs.map zO.e = done w p) (hp : p' = p ++ [(z.l, x, y)]) : (cs ++ [zO.mk z (op w x y).1]).map zO.e = done w p' := by
  rw [hp,List.map_append,h,done,done,List.map_append]; rfl
theorem fine_t {w : ByteArray} {p p' : List Pr} {s : List Label} {x y : Int} {ok : Bool} (h : ok = fine w p) (hp : p' = p ++ [(s, x, y)]) (h1 : (op w x y).2 = true) : ok = fine w p' := by
  rw [hp,h,fine,fine,List.all_append]; simp [h1]
theorem fine_f {w : ByteArray} {p p' : List Pr} {s : List Label} {x y : Int} (hp : p' = p ++ [(s, x, y)]) (h1 : ¬ (op w x y).2 = true) : false = fine w p' := by
  rw [hp,fine,List.all_append]; simp [h1]
theorem bin_num {w : ByteArray} {a b : yO} (ha : ¬ a.vec = true) (hb : ¬ b.vec = true) : bin w a.e b.e = if (op w a.n b.n).2 = true then (⟨false, (op w a.n b.n).1, []⟩, 0) else (zero, 3) := by
  rw [bin,if_pos ⟨by simpa [yO.e] using ha,by simpa [yO.e] using hb⟩]; rfl
theorem bin_vec {w : ByteArray} {a b : yO} {cs : List zO} {ok : Bool} {p : List Pr} (hv : a.vec = true ∨ b.vec = true) (hp : p = pairs a.e b.e) (hc : cs.map zO.e = done w p) (ho : ok = fine w p) : bin w a.e b.e = if ok = true then (⟨true, 0, cs.map zO.e⟩, 0) else (zero, 3) := by
  rw [bin,if_neg (by rintro ⟨h1,h2⟩; rcases hv with h | h <;> simp_all [yO.e]),← hp,← hc,← ho]
theorem p1_end {a b : yO} {k : Nat} (hb : ¬ b.vec = true) (hk : a.cells.l.length ≤ k) : p1 a b k = pairs a.e b.e := by
  rw [p1,List.take_of_length_le hk,pairs,if_pos (by simpa [yO.e] using hb)]; simp [yO.e,zO.e]
theorem p2_end {a b : yO} {k : Nat} (hb : b.vec = true) (ha : ¬ a.vec = true) (hk : b.cells.l.length ≤ k) : p2 a b k = pairs a.e b.e := by
  rw [p2,List.take_of_length_le hk,pairs,if_neg (by simp [yO.e,hb]),if_pos (by simpa [yO.e] using ha)]; simp [yO.e,zO.e]
theorem p3_end {a b : yO} {k : Nat} (hb : b.vec = true) (ha : a.vec = true) (hk : a.cells.l.length ≤ k) : p3 a b k = pairs a.e b.e := by
  rw [p3,List.take_of_length_le hk,pairs,if_neg (by simp [yO.e,hb]),if_neg (by simp [yO.e,ha])]
  simp only [yO.e,List.filterMap_map,List.find?_map,Option.map_map]
  rfl
end Mn
end
section
namespace Ex
section
variable {P : Program} {N : Nat} {D : List Deferred} {E : Env} {S S' : World → Prop} {Q : Exit → Act → World → Prop} {K : Act → World → Prop} {w0 w w' : World} {M : Fp} {L : List Own}
  {ops:Array Oper} {rest:List Oper} {d:Nat} {dst:Option Tmp} {ty T T' e:TypeId} {pos:String} {aft:Array Edge} {g:Option (Nat × Bool)} {v u:Value} {x:Operand} {α:Type} {enc:α→List Value} {k n c lo hi:Nat} {A:Option Addr} {ad:Addr} {xs:List Value}
theorem r_cap {len cap : Nat} (hx : ev E x = some (.slice A len cap)) (hu : P.underlying T = some (.slice T')) : Runs P N D E S (.call { callee := .builtin .cap, args := #[x], argTypes := #[T] }) ty (.int .i64 cap) := fun o ho hty a w ha _ => by
  unfold execOp; rw [ho]; simp [resolve,invoke,builtin,ha.eval hx,Builtin.cap_,run_underlying hu,goInt]
theorem vp {len by1 : Nat} {zv : Value} {y z : Option Operand} (hx : ev E x = some (.slice A len c)) (hy : lob E y lo) (hz : hib E len z hi) (h1 : lo ≤ hi) (h2 : hi ≤ c) (hu : P.underlying T = some (.slice e)) (hs : Inf P e k by1 zv) : Runs P N D E S (.slice T x y z none) ty (.slice (subA A k c lo) (hi - lo) (c - lo)) := fun o ho hty a w ha _ => by
  have hb : (Instr.sliceBounds true len c (y.map a.eval) (z.map a.eval) none).run P w = .ok (lo, hi, c) w := by
    cases y with
    | none =>
      obtain rfl:lo=0:=hy
      cases z with
      | none =>
        obtain rfl:hi=len:=hz
        simp [Instr.sliceBounds]
      | some z =>
        obtain ⟨k2,m2,hz1,rfl⟩:=hz
        simp [Instr.sliceBounds,ha.eval hz1,Instr.sliceBound,asIntOf,h2]
    | some y =>
      obtain ⟨k1,m1,hy1,rfl⟩:=hy
      cases z with
      | none =>
        obtain rfl:hi=len:=hz
        simp [Instr.sliceBounds,ha.eval hy1,Instr.sliceBound,asIntOf,h1]
      | some z =>
        obtain ⟨k2,m2,hz1,rfl⟩:=hz
        simp [Instr.sliceBounds,ha.eval hy1,ha.eval hz1,Instr.sliceBound,asIntOf,h1,h2]
  unfold execOp; rw [ho]
  simp only [ha.eval hx,Option.map_none,Sem.run_bind,Instr.sliceAt,run_underlying hu,Result.andThen_ok]
  simp only [Instr.slice,Sem.run_bind,run_underlying hu,Result.andThen_ok,hb,run_sizeOf' hs,Sem.run_pure,subA]
theorem r_ext {f : Nat} {args : Array Operand} {ts : Array TypeId} {vs : List Value} (hargs : evs E args.toList = some vs) (hc : ∀ w, S w → (callFunc f vs.toArray).run P w = .ok (.value v) w) :
    Runs P N D E S (.call { callee:=.value (.func f),args:=args,argTypes:=ts }) ty v:=fun o ho hty a w ha hS=>by
  have h1 : args.map a.eval = vs.toArray := by
    apply Array.toList_inj.1
    rw [Array.toList_map]
    exact evs_map ha hargs
  have hx:a.eval (.func f)=.func (.func f) #[] #[]:=ha.eval (by rfl)
  unfold execOp; rw [ho]
  simp [resolve,Deferred.ofValue,hx,h1,invoke,hc w hS]
theorem Mem.more (h : Mem w0 M L w) {q m : Nat} (hL : L[q]? = some (.row (.slice (some ad) n c) e k n xs)) (hc : n + m ≤ c) : ∃ ys : List Value, ys.length = m * k ∧ Mem w0 M (L.set q (.row (.slice (some ad) (n + m) c) e k (n + m) (xs ++ ys))) w := by
  have hown:=h.row hL
  rcases hown.2 with ⟨h0,_⟩ | ⟨gb,cap,cur,h0,hbg,hg,hnc,hcm,hcs,htk⟩
  · cases h0
  injection h0 with e1 e2 e3
  injection e1 with e1
  subst e1 e3
  have hle:(n + m) * k≤c * k:=Nat.mul_le_mul_right k hc
  have hcl:cur.toList.length=c * k:=by simpa using hcs
  have hsp : cur.toList.take ((n + m) * k) = xs ++ (cur.toList.drop (n * k)).take (m * k) := by
    rw [← htk,Nat.add_mul,List.take_add]
  have hyl : ((cur.toList.drop (n * k)).take (m * k)).length = m * k := by
    rw [List.length_take,List.length_drop,hcl]; rw [Nat.add_mul] at hle; omega
  refine ⟨(cur.toList.drop (n * k)).take (m * k),hyl,h.wk hL ?_ (fun b hb=>hb) (fun _=>rfl)⟩
  refine ⟨?_,.inr ⟨gb,c,cur,rfl,hbg,hg,hc,hcm,hcs,hsp⟩⟩
  rw [List.length_append,hyl,hown.1,Nat.add_mul]
theorem l_more (q m : Nat) (hL : L[q]? = some (.row (.slice A n c) e k n xs)) (hA : A = some ad) (hc : n + m ≤ c) (h : ∀ ys : List Value, ys.length = m * k → WL P N D ops Q rest E (Mem w0 M (L.set q (.row (.slice A (n + m) c) e k (n + m) (xs ++ ys))))) : WL P N D ops Q rest E (Mem w0 M L) := fun w hS => by
  subst hA
  obtain ⟨ys,h1,h2⟩:=hS.more hL hc
  exact h ys h1 w h2
theorem rowCells (q : Nat) (hL : L[q]? = some (.row (.slice A n c) e k n xs)) (hA : A = some ad) : ∀ w, Mem w0 M L w → ∀ (p : Nat) (u : Value), xs[p]? = some u → w.cell? (ad.add p) = some u := fun w hS p u hu => by
  subst hA
  rcases (hS.row hL).2 with ⟨h0,_⟩ | ⟨gb,cap,cur,h0,_⟩
  · cases h0
  injection h0 with e1 e2 e3
  injection e1 with e1
  subst e1
  exact (hS.row hL).cells (g:=gb) rfl p u hu
theorem subCells {cs : List Value} {o : Nat} (h : ∀ w, Mem w0 M L w → ∀ (p : Nat) (u : Value), xs[p]? = some u → w.cell? (ad.add p) = some u) (hs : ∀ (p : Nat) (u : Value), cs[p]? = some u → xs[o + p]? = some u) : ∀ w, Mem w0 M L w → ∀ (p : Nat) (u : Value), cs[p]? = some u → w.cell? ((ad.add o).add p) = some u := fun w hS p u hu => by
  rw [add_add]; exact h w hS _ _ (hs p u hu)
theorem run_copyN {g o dLen dCap k by1 : Nat} {zv : Value} {a : Addr} {sLen sCap : Nat} {cur : Array Value} {t : TypeId} {cs : List Value}
    (hu:P.underlying T=some (.slice e)) (hs:Inf P e k by1 zv) (hg:w.heap[g]?=some (.cells cur t (0,0))) (hn:cs.length=Nat.min sLen dLen * k)
    (hsrc:∀ (j:Nat) (v:Value),cs[j]?=some v→w.cell? (a.add j)=some v) (hfit:o + cs.length≤cur.size) (h1:∀ v ∈ cs,v.oneCell'=true) :
    (Builtin.copy_ #[T, T'] ty #[.slice (some ⟨g, o, none⟩) dLen dCap, .slice (some a) sLen sCap]).run P w =
      .ok (goInt (Nat.min sLen dLen)) (w.setRow g (cur.toList.take o++cs++cur.toList.drop (o + cs.length)).toArray):=by
  have hl:=run_loadCells_list (P:=P) w a cs hsrc
  have hst:=run_storeCells_at P g o t cs 0 cur w hg (by simpa using hfit) h1
  simp [Builtin.copy_,run_underlying hu,Builtin.lenOf,Builtin.firstCells,run_sizeOf' hs,← hn,hl,hst]
theorem jx (q : Nat) {j dl dc sl sc by1 : Nat} {zv : Value} {DA B : Option Addr} {a2 : Addr} {cs : List Value} {y : Operand} (xs' : List Value) (hw : Want N D ops E g true) (hx : ev E x = some (.slice DA dl dc)) (hD : DA = some (ad.add (j * k))) (hy : ev E y = some (.slice B sl sc)) (hB : B = some a2)
    (hL:L[q]?=some (.row (.slice A n c) e k n xs)) (hA:A=some ad) (hu:P.underlying T=some (.slice e)) (hs:Inf P e k by1 zv) (hn:cs.length=Nat.min sl dl * k) (hfit:j * k + cs.length≤n * k)
    (hsrc:∀ w,Mem w0 M L w→∀ (p:Nat) (u:Value),cs[p]?=some u→w.cell? (a2.add p)=some u) (h1:∀ v ∈ cs,v.oneCell'=true) (hxs:xs.take (j * k)++cs++xs.drop (j * k + cs.length)=xs') (hd:Nat.blt d N=true)
    (h:WL P N D ops Q rest ((d,.int .i64 (Nat.min sl dl:Nat))::E) (Mem w0 M (L.set q (.row (.slice A n c) e k n xs')))) :
    WL P N D ops Q (⟨some d,.call { callee:=.builtin .copy,args:=#[x,y],argTypes:=#[T,T'] },ty,pos,aft,g⟩::rest) E (Mem w0 M L):=by
  subst hA hD hB hxs
  refine l_gen (S':=Mem w0 M (L.set q (.row (.slice (some ad) n c) e k n (xs.take (j * k)++cs++xs.drop (j * k + cs.length))))) hw hd fun o ho hty a w ha hS=>?_
  have hown:=hS.row hL
  rcases hown.2 with ⟨h0,_⟩ | ⟨gb,cap,cur,h0,hbg,hg,hnc,hcm,hcs,htk⟩
  · cases h0
  injection h0 with e1 e2 e3
  injection e1 with e1
  subst e1 e3
  have hle:n * k≤c * k:=Nat.mul_le_mul_right k hnc
  have hcl:cur.toList.length=c * k:=by simpa using hcs
  have hxl:=hown.1
  have hadd:(⟨gb,0,none⟩:Addr).add (j * k)=⟨gb,j * k,none⟩:=by rw [add_lit,Nat.zero_add]
  have hst:=run_copyN (P:=P) (T':=T') (ty:=o.type) (sLen:=sl) (sCap:=sc) (dLen:=dl) (dCap:=dc) (o:=j * k) (a:=a2) hu hs hg hn (hsrc w hS) (by omega) h1
  refine ⟨_,w.setRow gb (cur.toList.take (j * k)++cs++cur.toList.drop (j * k + cs.length)).toArray,?_,?_,h⟩
  · unfold execOp; rw [ho]
    simp only [ha.eval hx,ha.eval hy,hadd,resolve,invoke,builtin,Sem.run_bind,Sem.run_pure,Result.andThen_ok,List.map_toArray,List.map_cons,List.map_nil]
    simp [hst,goInt]
  · refine hS.upd hL rfl ⟨rfl,rfl,rfl,by simp,fun b _ hk=>setRow_other w gb b _ (fun e=>hk (by simp [Own.fp,Value.ownBlock,e]))⟩ ?_ (fun b hb=>⟨.inl hb,?_⟩)
    · refine ⟨?_,.inr ⟨gb,c,_,rfl,hbg,setRow_heap w gb _ _ e _ hg,hnc,hcm,?_,?_⟩⟩
      · simp; omega
      · simp; omega
      · have h9:=take_splice (cs:=cur.toList) (vs:=cs) (o:=j * k) (m:=n * k) hfit (by omega)
        rw [splice,splice,htk] at h9
        simpa using h9
    · have:=(hS.ok q _ hL).2.1 b hb
      simpa using this
theorem l_appZ (l2 : List α) (n2 : Nat) {i kk c0 by1 : Nat} {m : Int} {zv : Value} {A0 : Option Addr} {y : Operand} {olds : List Value} {T2 : TypeId} (hw : Want N D ops E g true) (hx : ev E x = some (.slice A0 i c0)) (hy : ev E y = some (.int .i64 m)) (hm : m = (kk : Int)) (h0 : 0 < kk) (hol : olds.length = i * k) (hA0 : A0 = none → i = 0)
    (hsrc:∀ ad,A0=some ad→∀ w,Mem w0 M L w→∀ (p:Nat) (u:Value),olds[p]?=some u→w.cell? (ad.add p)=some u) (hg:c0 < i + kk) (hb:(i + kk) * by1≤140737488355328) (hp:Nat.blt 0 by1=true) (hk:0 < k)
    (hu:P.underlying T=some (.slice e)) (hu2:P.underlying T2=some (.int .i64)) (hs:Inf P e k by1 zv) (hzc:zv.cells.size=k) (hl2:olds++(Builtin.zeroCells zv.cells kk).toList=l2.flatMap enc) (hll:n2=i + kk) (hd:Nat.blt d N=true)
    (h:∀ b C,n2≤C→C≤9223372036854775807→WL P N D ops Q rest ((d,.slice (some ⟨b,0,none⟩) n2 C)::E) (Mem w0 M (.row (.slice (some ⟨b,0,none⟩) n2 C) e k n2 (l2.flatMap enc)::L))) :
    WL P N D ops Q (⟨some d,.call { callee:=.builtin .append,args:=#[x,y],argTypes:=#[T,T2] },ty,pos,aft,g⟩::rest) E (Mem w0 M L):=by
  subst hm
  refine jW hw hd fun o ho hty a w ha hS=>?_
  obtain ⟨ti,hi,hz,h3,h4⟩:=hs.get
  have hbp:0 < by1:=by simpa using hp
  have hbb:=Nat.le_mul_of_pos_right (i + kk) hbp
  have hkb:kk * by1≤(i + kk) * by1:=Nat.mul_le_mul_right by1 (by omega)
  have hS':=hS.drew
  have hold : (Builtin.firstCells ti.size i (.slice A0 i c0)).run P w.drew = .ok olds.toArray w.drew := by
    cases A0 with
    | none =>
      have:=hA0 rfl
      subst this
      have:olds=[]:=List.eq_nil_of_length_eq_zero (by omega)
      subst this
      simp [Builtin.firstCells]
    | some ad=>exact run_firstCells_some w.drew ti.size i ad i c0 olds (by rw [h3]; exact hol) (hsrc ad rfl w.drew hS')
  have hr:=Lib.run_append_grow_zeros (P:=P) w T T2 o.type e ti zv .i64 .i64 hu hu2 hi hz A0 i c0 olds hold kk h0 (by omega) hg (by omega) (by rw [h4]; omega) (by rw [h4]; exact growslice_fits hg hb)
  have hcut:i + kk≤grownCap w (i + kk) c0 e∧grownCap w (i + kk) c0 e≤9223372036854775807:=⟨grownCap_ge w _ _ _,grownCap_le_maxLen w _ _ _ (by simp only [maxLen]; omega)⟩
  refine ⟨_,w.drew.alloc (.cells (olds.toArray++Builtin.zeroCells zv.cells kk++Builtin.zeroCells zv.cells (grownCap w (i + kk) c0 e - (i + kk))) e),?_,_,?_,h w.heap.size (grownCap w (i + kk) c0 e) (by rw [hll]; exact hcut.1) hcut.2⟩
  · unfold execOp; rw [ho,hll]
    simp [resolve,invoke,builtin,ha.eval hx,ha.eval hy,hr]
  · have hzl:∀ q,(Builtin.zeroCells zv.cells q).size=q * k:=fun q=>by simp [Builtin.zeroCells,hzc]
    refine hS'.add (o:=Own.row (.slice (some ⟨w.heap.size,0,none⟩) n2 (grownCap w (i + kk) c0 e)) e k n2 (l2.flatMap enc)) (Fr.alloc _ _ _) ?_ (fun b hb=>?_)
    · refine ⟨?_,.inr ⟨w.heap.size,_,_,rfl,Nat.zero_le _,heap_alloc_new w.drew _,by rw [hll]; exact hcut.1,hcut.2,?_,?_⟩⟩
      · rw [← hl2,List.length_append,hol,hll,Array.length_toList,hzl,Nat.add_mul]
      · simp only [Array.size_append,hzl,List.size_toArray,hol]
        rw [← Nat.add_mul,← Nat.add_mul]; congr 1; omega
      · rw [← hl2,Array.toList_append,Array.toList_append,hll]
        apply List.take_left'
        simp only [List.length_append,Array.length_toList,hzl,hol,Nat.add_mul]
    · have hb:(Value.slice (some ⟨w.heap.size,0,none⟩) n2 (grownCap w (i + kk) c0 e)).ownBlock=some b:=hb
      simp [Value.ownBlock] at hb
      subst hb
      simp
theorem add0 (ad:Addr):ad.add 0=ad:=by unfold Addr.add; split <;> simp_all
theorem subA_zero : subA A k c 0 = A := by
  unfold subA; split
  · rfl
  · cases A <;> simp [add0]
theorem subA_some (hA:A=some ad) (h:lo < c):subA A k c lo=some (ad.add (lo * k)):=by rw [subA,if_neg (by omega),hA]; rfl
theorem flat_pre {l : List α} {i p : Nat} {u : Value} (hu : ((l.take i).flatMap enc)[p]? = some u) : (l.flatMap enc)[0 * k + p]? = some u := by
  rw [Nat.zero_mul,Nat.zero_add]
  rw [← List.take_append_drop i l,List.flatMap_append,List.getElem?_append_left (List.getElem?_eq_some_iff.1 hu).1]; exact hu
theorem flat_suf (he : ∀ a, (enc a).length = k) {l : List α} {i p : Nat} {u : Value} (hi : i ≤ l.length) (hu : ((l.drop i).flatMap enc)[p]? = some u) : (l.flatMap enc)[i * k + p]? = some u := by
  have h1:((l.take i).flatMap enc).length=i * k:=by rw [flat_len he,List.length_take,Nat.min_eq_left hi]
  rw [← List.take_append_drop i l,List.flatMap_append,List.getElem?_append_right (by omega),h1,Nat.add_sub_cancel_left]; exact hu
theorem flat_take (he : ∀ a, (enc a).length = k) (l : List α) (j : Nat) (hj : j ≤ l.length) : (l.flatMap enc).take (j * k) = (l.take j).flatMap enc := by
  have h1:((l.take j).flatMap enc).length=j * k:=by rw [flat_len he,List.length_take,Nat.min_eq_left hj]
  have h2:l.flatMap enc=(l.take j).flatMap enc++(l.drop j).flatMap enc:=by rw [← List.flatMap_append,List.take_append_drop]
  rw [h2]
  exact List.take_left' h1
theorem flat_drop (he : ∀ a, (enc a).length = k) (l : List α) (j : Nat) (hj : j ≤ l.length) : (l.flatMap enc).drop (j * k) = (l.drop j).flatMap enc := by
  have h1:((l.take j).flatMap enc).length=j * k:=by rw [flat_len he,List.length_take,Nat.min_eq_left hj]
  have h2:l.flatMap enc=(l.take j).flatMap enc++(l.drop j).flatMap enc:=by rw [← List.flatMap_append,List.take_append_drop]
  rw [h2]
  exact List.drop_left' h1
theorem uy (q : Nat) {j dl dc sl sc by1 : Nat} {zv : Value} {DA B : Option Addr} {a2 : Addr} {y : Operand} (l s2 : List α) (he : Enc enc k) (hw : Want N D ops E g true) (hx : ev E x = some (.slice DA dl dc)) (hD : DA = some (ad.add (j * k))) (hy : ev E y = some (.slice B sl sc)) (hB : B = some a2)
    (hL:L[q]?=some (.row (.slice A n c) e k n (l.flatMap enc))) (hA:A=some ad) (hu:P.underlying T=some (.slice e)) (hs:Inf P e k by1 zv) (hn:s2.length=Nat.min sl dl) (hfit:j + s2.length≤n) (hl:l.length=n)
    (hsrc:∀ w,Mem w0 M L w→∀ (p:Nat) (u:Value),(s2.flatMap enc)[p]?=some u→w.cell? (a2.add p)=some u) (hd:Nat.blt d N=true)
    (h:WL P N D ops Q rest ((d,.int .i64 (Nat.min sl dl:Nat))::E) (Mem w0 M (L.set q (.row (.slice A n c) e k n ((l.take j++s2++l.drop (j + s2.length)).flatMap enc))))) :
    WL P N D ops Q (⟨some d,.call { callee:=.builtin .copy,args:=#[x,y],argTypes:=#[T,T'] },ty,pos,aft,g⟩::rest) E (Mem w0 M L):=by
  have h1:(s2.flatMap enc).length=s2.length * k:=flat_len he.len s2
  have h2:(j + s2.length) * k≤n * k:=Nat.mul_le_mul_right k hfit
  rw [Nat.add_mul] at h2
  refine jx q (cs:=s2.flatMap enc) _ hw hx hD hy hB hL hA hu hs (by rw [h1,hn]) (by omega) hsrc (fun u hu=>by obtain ⟨a,_,ha⟩:=List.mem_flatMap.1 hu; exact he.one a u ha) ?_ hd h
  rw [h1,← Nat.add_mul,flat_take he.len l j (by omega),flat_drop he.len l _ (by omega),← List.flatMap_append,← List.flatMap_append]
theorem row_as {l l' : List α} (h1 : l'.length = n) (h2 : l = l') (h : Mem w0 M [.row v e k n (l.flatMap enc)] w) : Mem w0 M [Row v e k enc l'] w := by
  subst h2 h1; exact h
theorem ins_len {l:List α} {i:Nat} {a:α} (hi:i≤l.length):(l.take i++a::l.drop i).length=l.length + 1:=by simp; omega
theorem ins_end {l:List α} {i:Nat} {a:α} (hi:i=l.length):l++[a]=l.take i++a::l.drop i:=by subst hi; simp
theorem ins_place {l : List α} {i : Nat} {a : α} (hi : i < l.length) : (l.take (i + 1) ++ l.drop i).take i ++ [a] ++ (l.take (i + 1) ++ l.drop i).drop (i + [a].length) = l.take i ++ a :: l.drop i := by
  have h1:(l.take (i + 1)).length=i + 1:=by rw [List.length_take]; omega
  rw [List.take_append_of_le_length (by omega),List.take_take,Nat.min_eq_left (by omega),List.length_singleton,List.drop_left' h1,List.append_assoc]; rfl
theorem ins_grow {l z : List α} {i : Nat} {a : α} (hi : i < l.length) (hz : z.length = l.length + 1 - i) : ((l.take i ++ z).take i ++ [a] ++ (l.take i ++ z).drop (i + [a].length)).take (i + 1) ++ l.drop i ++ ((l.take i ++ z).take i ++ [a] ++ (l.take i ++ z).drop (i + [a].length)).drop (i + 1 + (l.drop i).length) = l.take i ++ a :: l.drop i := by
  have h1:(l.take i).length=i:=by rw [List.length_take]; omega
  have h2:(l.take i++z).take i=l.take i:=List.take_left' h1
  have h3:(l.take i++[a]).length=i + 1:=by rw [List.length_append,h1]; rfl
  rw [h2,List.take_left' h3]
  have h4:(l.take i++[a]++(l.take i++z).drop (i + [a].length)).drop (i + 1 + (l.drop i).length)=[]:=List.drop_of_length_le (by simp only [List.length_append,List.length_drop,h1,hz,List.length_singleton]; omega)
  rw [h4]; simp
theorem ins_shift (he : ∀ a, (enc a).length = k) {l : List α} {i : Nat} {ys : List Value} (hi : i < l.length) (hy : ys.length = 1 * k) : (l.flatMap enc ++ ys).take ((i + 1) * k) ++ (l.drop i).flatMap enc ++ (l.flatMap enc ++ ys).drop ((i + 1) * k + ((l.drop i).flatMap enc).length) = (l.take (i + 1) ++ l.drop i).flatMap enc := by
  have h1:(l.flatMap enc).length=l.length * k:=flat_len he l
  have h2:(i + 1) * k≤l.length * k:=Nat.mul_le_mul_right k (by omega)
  have h3:((l.drop i).flatMap enc).length=(l.length - i) * k:=by rw [flat_len he,List.length_drop]
  have h4 : (l.flatMap enc ++ ys).drop ((i + 1) * k + ((l.drop i).flatMap enc).length) = [] := by
    refine List.drop_of_length_le ?_
    rw [List.length_append,h1,h3,hy,← Nat.add_mul,← Nat.add_mul]
    exact Nat.mul_le_mul_right k (by omega)
  rw [h4,List.append_nil,List.take_append_of_le_length (by omega),flat_take he l _ (by omega),← List.flatMap_append]
theorem zero_cells (q : Nat) : (Builtin.zeroCells (Value.agg #[.slice none 0 0, .int .i64 0]).cells q).toList = (List.replicate q (zO.mk ⟨none, 0, []⟩ 0)).flatMap yi := by
  apply List.ext_getElem?
  intro j
  have hl:(Builtin.zeroCells (Value.agg #[.slice none 0 0,.int .i64 0]).cells q).size=q * 2:=by simp [Builtin.zeroCells,Value.cells]
  have hr:((List.replicate q (zO.mk ⟨none,0,[]⟩ 0)).flatMap yi).length=q * 2:=by rw [flat_len encCellX.len,List.length_replicate]
  by_cases hj:j < q * 2
  · have h1:(List.replicate q (zO.mk ⟨none,0,[]⟩ 0))[j / 2]?=some (zO.mk ⟨none,0,[]⟩ 0):=by rw [List.getElem?_replicate,if_pos (by omega)]
    have h2:j=j / 2 * 2 + j % 2:=by omega
    have h3:(yi (zO.mk ⟨none,0,[]⟩ 0))[j % 2]?=some ((yi (zO.mk ⟨none,0,[]⟩ 0))[j % 2]'(by show j % 2 < 2; omega)):=List.getElem?_eq_getElem _
    rw [show ((List.replicate q (zO.mk ⟨none,0,[]⟩ 0)).flatMap yi)[j]?=_ from (congrArg _ h2).trans (flat_get encCellX.len _ _ _ _ _ h1 h3)]
    rw [Array.getElem?_toList,Array.getElem?_eq_getElem (by omega)]
    rcases Nat.mod_two_eq_zero_or_one j with h4 | h4 <;> simp [Builtin.zeroCells,Value.cells,h4]
  · exact (List.getElem?_eq_none (by rw [Array.length_toList,hl]; omega)).trans (List.getElem?_eq_none (by rw [hr]; omega)).symm
theorem over_apart {fn : Func} {f qa qb : Nat} {A1 A2 B2 : Option Addr} {n1 n2 c1 c2 lb cb o by1 e2 k2 : Nat} {zv : Value} {xs1 xs2 : List Value} (hq : qa ≠ qb) (ha : L[qa]? = some (.row (.slice A1 n1 c1) e k n1 xs1)) (hb : L[qb]? = some (.row (.slice A2 n2 c2) e2 k2 n2 xs2))
    (hn1 : 0 < n1) (hn2 : 0 < n2) (hk2 : 0 < k2) (ad2 : Addr) (hA2 : A2 = some ad2) (hB2 : B2 = some (ad2.add o)) (hf : P.funcs[f]? = some fn) (hname : (fn.name == "runtime.NumGoroutine") = false) (hbn : fn.body.isNone = true) (hn : Extern.findNext fn = none) (hfe : Extern.find fn = some (Extern.SlicesOverlaps.overlaps #[T, T] #[T']))
    (hu:P.underlying T=some (.slice e)) (hs:Inf P e k by1 zv):∀ w,Mem w0 M L w→(callFunc f (#[.slice A1 n1 c1,.slice B2 lb cb]:Array Value)).run P w=.ok (.value (.bool false)) w:=fun w hS=>by
  subst hA2 hB2
  rcases (hS.row ha).2 with ⟨_,h0⟩ | ⟨g1,cap1,cur1,h1,_,hg1,hnc1,_,hcs1,_⟩
  · omega
  rcases (hS.row hb).2 with ⟨_,h0⟩ | ⟨g2,cap2,cur2,h2,_,hg2,hnc2,_,hcs2,_⟩
  · omega
  injection h1 with f1 f2 f3
  injection h2 with f4 f5 f6
  injection f4 with f4
  subst f1 f3 f4 f6
  have hne : g1 ≠ g2 := fun e => by
    subst e
    exact hS.dj qa qb _ _ ha hb hq (.inl rfl) g1 rfl rfl
  have hz2 : cur2.size ≠ 0 := by
    rw [hcs2]
    have:=Nat.mul_pos (show 0 < c2 by omega) hk2
    omega
  rw [run_callFunc_extern hf hname hbn hn hfe]
  have:=Lib.run_overlaps_apart (P:=P) w T T' e hu k (fun w=>run_sizeOf' hs w) ⟨g1,0,none⟩ ((⟨g2,0,none⟩:Addr).add o) n1 c1 lb cb (by rw [add_block]; exact hne) e e2 cur1.size cur2.size (by simp [World.shape?,hg1]) (by rw [add_block]; simp [World.shape?,hg2]) hz2 (by simp [World.frozen?,hg1]) (by simp [World.frozen?,hg1])
  rw [this]; rfl
end
end Ex
end
section
namespace Mn
open Ex
def Asc (l:List Cell):Prop:=l.Pairwise fun c d=>zc.compare c.sr d.sr < 0
def pos (l:List Cell) (s:List Label):Nat:=(l.takeWhile fun c=>decide (zc.compare c.sr s < 0)).length
def has (l:List Cell) (s:List Label):Bool:=l.any fun c=>decide (c.sr=s)
def comb (w:ByteArray) (a x:Int):Int:=if w=⟨#[109,97,120]⟩ then max a x else if w=⟨#[109,105,110]⟩ then min a x else a + x
theorem cmp_lt_ne {a b : List Label} (h : zc.compare a b < 0) : a ≠ b := fun e => by
  have:=(zc.compare_is.zero a b).2 e; omega
theorem pos_eq {l : List Cell} {s : List Label} {i : Nat} (hi : i ≤ l.length) (h1 : ∀ (q : Nat) (y : Cell), l[q]? = some y → q < i → zc.compare y.sr s < 0) (h2 : ∀ (q : Nat) (y : Cell), l[q]? = some y → i ≤ q → ¬ zc.compare y.sr s < 0) : pos l s = i := by
  induction l generalizing i with
  | nil=>simp at hi; subst hi; rfl
  | cons c r ih =>
    cases i with
    | zero =>
      have:=h2 0 c rfl (Nat.le_refl _)
      simp [pos,this]
    | succ i =>
      have h3:=h1 0 c rfl (by omega)
      have:=ih (i:=i) (by simpa using hi) (fun q y hq hlt=>h1 (q + 1) y (by simpa using hq) (by omega)) (fun q y hq hle=>h2 (q + 1) y (by simpa using hq) (by omega))
      simp only [pos] at this ⊢
      rw [List.takeWhile_cons,if_pos (by simpa using h3),List.length_cons,this]
theorem pos_le (l : List Cell) (s : List Label) : pos l s ≤ l.length := by
  unfold pos
  induction l with
  | nil=>simp
  | cons c r ih=>rw [List.takeWhile_cons]; split <;> simp; exact ih
theorem Asc.at_ {l : List Cell} (h : Asc l) {i j : Nat} {x y : Cell} (hx : l[i]? = some x) (hy : l[j]? = some y) (hij : i < j) : zc.compare x.sr y.sr < 0 := by
  obtain ⟨h1,rfl⟩:=List.getElem?_eq_some_iff.1 hx
  obtain ⟨h2,rfl⟩:=List.getElem?_eq_some_iff.1 hy
  exact List.pairwise_iff_getElem.1 h i j h1 h2 hij
theorem asc_lt {l : List Cell} {s : List Label} (h : Asc l) {k : Nat} {x : Cell} (hx : l[k]? = some x) (hc : zc.compare x.sr s < 0) : ∀ (q : Nat) (y : Cell), l[q]? = some y → q < k + 1 → zc.compare y.sr s < 0 := fun q y hy hq => by
  by_cases hqk:q=k
  · subst hqk; rw [hx] at hy; injection hy with hy; subst hy; exact hc
  · exact zc.compare_is.trans _ _ _ (h.at_ hy hx (by omega)) hc
theorem asc_ge {l : List Cell} {s : List Label} (h : Asc l) {k : Nat} {x : Cell} (hx : l[k]? = some x) (hc : ¬ zc.compare x.sr s < 0) : ∀ (q : Nat) (y : Cell), l[q]? = some y → k ≤ q → ¬ zc.compare y.sr s < 0 := fun q y hy hq hlt => by
  by_cases hqk:q=k
  · subst hqk; rw [hx] at hy; injection hy with hy; subst hy; exact hc hlt
  · exact hc (zc.compare_is.trans _ _ _ (h.at_ hx hy (by omega)) hlt)
theorem bs_has {l : List Cell} {s : List Label} (h : Asc l) {i : Nat} {x : Cell} (hx : l[i]? = some x) (h1 : ∀ (q : Nat) (y : Cell), l[q]? = some y → q < i → zc.compare y.sr s < 0) (h2 : ¬ zc.compare x.sr s < 0) : has l s = decide (zc.compare x.sr s = 0) := by
  rw [Bool.eq_iff_iff,decide_eq_true_iff,has,List.any_eq_true]
  constructor
  · rintro ⟨y,hy,hs⟩
    obtain ⟨q,hq⟩:=List.mem_iff_getElem?.1 hy
    have hs:y.sr=s:=by simpa using hs
    rcases Nat.lt_trichotomy q i with h3 | h3 | h3
    · exact absurd hs (cmp_lt_ne (h1 q y hq h3))
    · subst h3; rw [hx] at hq; injection hq with hq; subst hq; exact (zc.compare_is.zero _ _).2 hs
    · have h4:=h.at_ hx hq h3
      rw [hs] at h4; exact absurd h4 h2
  · intro h3
    exact ⟨x,List.mem_of_getElem? hx,by simpa using (zc.compare_is.zero _ _).1 h3⟩
theorem bs_no {l : List Cell} {s : List Label} {i : Nat} (hi : l.length ≤ i) (h1 : ∀ (q : Nat) (y : Cell), l[q]? = some y → q < i → zc.compare y.sr s < 0) : has l s = false := by
  rw [Bool.eq_false_iff]
  intro h
  obtain ⟨y,hy,hs⟩:=List.any_eq_true.1 h
  obtain ⟨q,hq⟩:=List.mem_iff_getElem?.1 hy
  have:=(List.getElem?_eq_some_iff.1 hq).1
  exact cmp_lt_ne (h1 q y hq (by omega)) (by simpa using hs)
theorem Asc.tail {c:Cell} {r:List Cell} (h:Asc (c::r)):Asc r:=(List.pairwise_cons.1 h).2
theorem Asc.head {c:Cell} {r:List Cell} (h:Asc (c::r)):∀ d ∈ r,zc.compare c.sr d.sr < 0:=(List.pairwise_cons.1 h).1
theorem put_ins (w : ByteArray) {l : List Cell} {s : List Label} (x : Int) (hh : has l s = false) : put w l s x = l.take (pos l s) ++ ⟨s, x⟩ :: l.drop (pos l s) := by
  induction l with
  | nil=>rfl
  | cons c r ih =>
    have h1:¬ c.sr=s:=fun e=>by simp [has,e] at hh
    have h2:has r s=false:=by simp only [has,List.any_cons,Bool.or_eq_false_iff] at hh; exact hh.2
    have ih:=ih h2
    by_cases hc:zc.compare c.sr s < 0
    · have hp:pos (c::r) s=pos r s + 1:=by simp [pos,hc]
      rw [put,if_neg h1,if_pos hc,hp,ih]; rfl
    · have hp:pos (c::r) s=0:=by simp [pos,hc]
      rw [put,if_neg h1,if_neg hc,hp]; rfl
theorem put_set (w : ByteArray) {l : List Cell} {s : List Label} (x : Int) (h : Asc l) (hh : has l s = true) : ∃ c, l[pos l s]? = some c ∧ c.sr = s ∧ put w l s x = l.set (pos l s) ⟨s, comb w c.value x⟩ := by
  induction l with
  | nil=>cases hh
  | cons c r ih =>
    by_cases h1:c.sr=s
    · have hn:¬ zc.compare c.sr s < 0:=fun g=>cmp_lt_ne g h1
      have hp:pos (c::r) s=0:=by simp [pos,hn]
      refine ⟨c,by rw [hp]; rfl,h1,?_⟩
      rw [hp,put,if_pos h1]; rfl
    · have h2:has r s=true:=by simp only [has,List.any_cons,Bool.or_eq_true] at hh; exact hh.resolve_left (by simpa using h1)
      obtain ⟨d,hd1,hd2,hd3⟩:=ih h.tail h2
      have hc : zc.compare c.sr s < 0 := by
        have:=h.head d (List.mem_of_getElem? hd1)
        rwa [hd2] at this
      have hp:pos (c::r) s=pos r s + 1:=by simp [pos,hc]
      refine ⟨d,by rw [hp]; simpa using hd1,hd2,?_⟩
      rw [put,if_neg h1,if_pos hc,hp,hd3]; rfl
theorem put_mem {w : ByteArray} {l : List Cell} {s : List Label} {x : Int} : ∀ d ∈ put w l s x, d.sr = s ∨ ∃ c ∈ l, c.sr = d.sr := by
  induction l with
  | nil=>intro d hd; simp [put] at hd; exact .inl (by rw [hd])
  | cons c r ih =>
    intro d hd
    rw [put] at hd
    split at hd
    · rcases List.mem_cons.1 hd with h | h
      · exact .inl (by rw [h])
      · exact .inr ⟨d,List.mem_cons_of_mem _ h,rfl⟩
    · split at hd
      · rcases List.mem_cons.1 hd with h | h
        · exact .inr ⟨c,List.mem_cons_self,by rw [h]⟩
        · rcases ih d h with h1 | ⟨e,h1,h2⟩
          · exact .inl h1
          · exact .inr ⟨e,List.mem_cons_of_mem _ h1,h2⟩
      · rcases List.mem_cons.1 hd with h | h
        · exact .inl (by rw [h])
        · exact .inr ⟨d,h,rfl⟩
theorem cmp_gt {a b : List Label} (h1 : ¬ a = b) (h2 : ¬ zc.compare a b < 0) : zc.compare b a < 0 := by
  have h3:=zc.compare_is.anti a b
  have h4:zc.compare a b≠0:=fun e=>h1 ((zc.compare_is.zero _ _).1 e)
  omega
theorem put_asc {w : ByteArray} {l : List Cell} {s : List Label} {x : Int} (h : Asc l) : Asc (put w l s x) := by
  induction l with
  | nil=>simp [put,Asc]
  | cons c r ih =>
    rw [put]
    split
    · rename_i h1
      refine List.pairwise_cons.2 ⟨fun d hd=>?_,h.tail⟩
      rw [← h1]; exact h.head d hd
    · rename_i h1
      split
      · rename_i h2
        refine List.pairwise_cons.2 ⟨fun d hd=>?_,ih h.tail⟩
        rcases put_mem d hd with h3 | ⟨e,h3,h4⟩
        · rw [h3]; exact h2
        · rw [← h4]; exact h.head e h3
      · rename_i h2
        have h3:=cmp_gt h1 h2
        refine List.pairwise_cons.2 ⟨fun d hd=>?_,h⟩
        rcases List.mem_cons.1 hd with h4 | h4
        · rw [h4]; exact h3
        · exact zc.compare_is.trans _ _ _ h3 (h.head d h4)
theorem fits_iff {n:Int}:fits n=true↔-1125899906842624≤n∧n≤1125899906842624:=by simp [fits]
def Fit (l:List Cell):Prop:=∀ c ∈ l,fits c.value=true
theorem unit_rng {w:ByteArray} {x:Int} (h:-1125899906842624≤x∧x≤1125899906842624):-1125899906842624≤unit w x∧unit w x≤1125899906842624:=by unfold unit; split <;> omega
theorem all_ins {w : ByteArray} {by_ : List ByteArray} {cs : List zO} {c : Cell} {r : List Cell} {s : List Label} {x : Int} {z : zO} (hs : s = zc.only c.sr by_) (hx : x = unit w c.value) (hz : z.e = ⟨s, x⟩) (hh : has (cs.map zO.e) s = false) (hf : Fit (cs.map zO.e)) (hr : -1125899906842624 ≤ c.value ∧ c.value ≤ 1125899906842624) :
    (cs.take (pos (cs.map zO.e) s)++z::cs.drop (pos (cs.map zO.e) s)).map zO.e=put w (cs.map zO.e) s x∧Fit (put w (cs.map zO.e) s x)∧allFrom w by_ (cs.map zO.e) (c::r)=allFrom w by_ (put w (cs.map zO.e) s x) r:=by
  have h1:=put_ins w x hh
  have h2 : Fit (put w (cs.map zO.e) s x) := fun d hd => by
    rw [h1] at hd
    rcases List.mem_append.1 hd with h3 | h3
    · exact hf d (List.mem_of_mem_take h3)
    · rcases List.mem_cons.1 h3 with h4 | h4
      · rw [h4]; exact fits_iff.2 (by rw [hx]; exact unit_rng hr)
      · exact hf d (List.mem_of_mem_drop h4)
  refine ⟨?_,h2,?_⟩
  · rw [h1,List.map_append,List.map_take,List.map_cons,List.map_drop,hz]
  · subst hs hx
    rw [allFrom,if_pos (List.all_eq_true.2 h2)]
theorem all_set {w : ByteArray} {by_ : List ByteArray} {cs : List zO} {c : Cell} {r : List Cell} {s : List Label} {x : Int} {d z : zO} (hs : s = zc.only c.sr by_) (hx : x = unit w c.value) (ha : Asc (cs.map zO.e)) (hh : has (cs.map zO.e) s = true) (hf : Fit (cs.map zO.e)) (hd : cs[pos (cs.map zO.e) s]? = some d) (hzs : z.sr.l = d.sr.l) (hz : z.value = comb w d.value x) :
    (cs.set (pos (cs.map zO.e) s) z).map zO.e=put w (cs.map zO.e) s x∧(fits z.value=true→Fit (put w (cs.map zO.e) s x)∧allFrom w by_ (cs.map zO.e) (c::r)=allFrom w by_ (put w (cs.map zO.e) s x) r)∧(fits z.value=false→allFrom w by_ (cs.map zO.e) (c::r)=(zero,3)):=by
  obtain ⟨e,h1,h2,h3⟩:=put_set w x ha hh
  rw [List.getElem?_map,hd] at h1
  have h1:d.e=e:=by simpa using h1
  have hze:z.e=⟨s,comb w e.value x⟩:=by rw [← h1,zO.e,hz,hzs,← h2,← h1]; rfl
  have h4:(cs.set (pos (cs.map zO.e) s) z).map zO.e=put w (cs.map zO.e) s x:=by rw [h3,List.map_set,hze]
  have hlt:pos (cs.map zO.e) s < cs.length:=(List.getElem?_eq_some_iff.1 hd).1
  have hm:z ∈ cs.set (pos (cs.map zO.e) s) z:=List.mem_set hlt z
  refine ⟨h4,fun hfz=>?_,fun hfz=>?_⟩
  · have h5 : Fit (put w (cs.map zO.e) s x) := fun y hy => by
      rw [← h4] at hy
      obtain ⟨t,ht,rfl⟩:=List.mem_map.1 hy
      rcases List.mem_or_eq_of_mem_set ht with h6 | h6
      · exact hf _ (List.mem_map_of_mem h6)
      · rw [h6]; exact hfz
    refine ⟨h5,?_⟩
    subst hs hx
    rw [allFrom,if_pos (List.all_eq_true.2 h5)]
  · subst hs hx
    rw [allFrom,if_neg]
    intro h6
    have h7:=List.all_eq_true.1 h6 z.e (by rw [← h4]; exact List.mem_map_of_mem hm)
    rw [show z.e.value=z.value from rfl,hfz] at h7; cases h7
theorem drop_map {l : List zO} {k : Nat} {s : zO} (h : l[k]? = some s) : (l.drop k).map zO.e = s.e :: (l.drop (k + 1)).map zO.e := by
  obtain ⟨h1,rfl⟩:=List.getElem?_eq_some_iff.1 h
  rw [List.drop_eq_getElem_cons h1,List.map_cons]
theorem drop_end {l:List zO} {k:Nat} (h:l.length≤k):(l.drop k).map zO.e=[]:=by rw [List.drop_of_length_le h]; rfl
theorem pos_lt {cs : List zO} {s : List Label} (ha : Asc (cs.map zO.e)) (hh : has (cs.map zO.e) s = true) : pos (cs.map zO.e) s < cs.length := by
  obtain ⟨c,h1,_⟩:=put_set ⟨#[]⟩ 0 ha hh
  have:=(List.getElem?_eq_some_iff.1 h1).1
  simpa using this
theorem pos_le' {cs:List zO} {s:List Label}:pos (cs.map zO.e) s≤cs.length:=by have:=pos_le (cs.map zO.e) s; simpa using this
theorem Fit.at_ {cs:List zO} {i:Nat} {d:zO} (h:Fit (cs.map zO.e)) (hd:cs[i]?=some d):-1125899906842624≤d.value∧d.value≤1125899906842624:=fits_iff.1 (h d.e (List.mem_map.2 ⟨d,List.mem_of_getElem? hd,rfl⟩))
end Mn
namespace Ex
variable {w0 w:World} {M:Fp} {L:List Own}
theorem Mem.allOf {l l' : List zO} (h : Mem w0 M L w) (q : Nat) (hi : L[q]? = some (allP zO.Ok l)) (hs : ∀ y ∈ l', ∃ x ∈ l, y.sr = x.sr) : Mem w0 M (allP zO.Ok l' :: L) w :=
  h.vU (all_loc zO.Ok.loc _) fun Pb pp x hx => by
    obtain ⟨y,hy,e⟩:=hs x hx
    exact ⟨by rw [e]; exact (pp.at_ q _ hi y hy).sr⟩
theorem Mem.allIns {l l' : List zO} {sA : Option Addr} {sc : Nat} {sl : List Label} (h : Mem w0 M L w) (q q2 : Nat) (hi : L[q]? = some (allP zO.Ok l)) (hi2 : L[q2]? = some (slP 2 zj (.slice sA sl.length sc) sl)) (hs : ∀ y ∈ l', y ∈ l ∨ y.sr = ⟨sA, sc, sl⟩) : Mem w0 M (allP zO.Ok l' :: L) w :=
  h.vU (all_loc zO.Ok.loc _) fun Pb pp x hx => by
    rcases hs x hx with h1 | h1
    · exact pp.at_ q _ hi x h1
    · exact ⟨by rw [h1]; exact pp.at_ q2 _ hi2⟩
theorem set_at {α : Type} {l : List α} {i : Nat} {a b : α} (h : l[i]? = some a) : (l.set i b)[i]? = some b := by
  rw [List.getElem?_set_self (List.getElem?_eq_some_iff.1 h).1]
theorem ins_of {l : List zO} {i : Nat} {z : zO} : ∀ y ∈ l.take i ++ z :: l.drop i, y ∈ l ∨ y.sr = z.sr := fun y hy => by
  rcases List.mem_append.1 hy with h | h
  · exact .inl (List.mem_of_mem_take h)
  · rcases List.mem_cons.1 h with h | h
    · exact .inr (by rw [h])
    · exact .inl (List.mem_of_mem_drop h)
theorem set_of {l : List zO} {i : Nat} {d z : zO} (hd : l[i]? = some d) (hz : z.sr = d.sr) : ∀ y ∈ l.set i z, ∃ x ∈ l, y.sr = x.sr := fun y hy => by
  rcases List.mem_or_eq_of_mem_set hy with h | h
  · exact ⟨y,h,rfl⟩
  · exact ⟨d,List.mem_of_getElem? hd,by rw [h,hz]⟩
end Ex
end
section
namespace Mn
open Ex
def winCells (word:ByteArray) (r:List (List Label × Sum)):List Cell:=r.filterMap fun t=>if (Agg.value word t.2).2=true then some ⟨t.1,(Agg.value word t.2).1⟩ else none
def frm (t r:Int):Int:=if t - r < 0 then 0 else t - r
theorem frm_nn (t r:Int):0≤frm t r:=by unfold frm; split <;> omega
def window (lk : Look) (t : Int) (word : ByteArray) (ms : List Match) (range : Int) : Val × Int :=
  if (lk ms (frm t range) t).2≠0 then (zero,(lk ms (frm t range) t).2) else (⟨true,0,winCells word (lk ms (frm t range) t).1⟩,0)
def close (k : Int) (w : ByteArray) (bs : List ByteArray) : List Val → Val × Int
  | a :: r => if k = 3 then all w bs a.cells else match r with
    | b::_=>bin w a b
    | []=>(zero,0)
  | []=>(zero,0)
mutual
def eval (lk : Look) (t : Int) : Expr → Val × Int
  | .mk k n r w ms bs ks=>if k=1 then (⟨false,n,[]⟩,0) else if k=2 then window lk t w ms r else if (evals lk t ks).2≠0 then (zero,(evals lk t ks).2) else close k w bs (evals lk t ks).1
def evals (lk : Look) (t : Int) : List Expr → List Val × Int
  | []=>([],0)
  | x::xs=>if (eval lk t x).2≠0 then ([],(eval lk t x).2) else ((eval lk t x).1::(evals lk t xs).1,(evals lk t xs).2)
end
theorem eval_e (lk : Look) (t : Int) (x : zC) : eval lk t x.e = if x.kind = 1 then (⟨false, x.n, []⟩, 0) else if x.kind = 2 then window lk t x.word x.ms.l x.range else if (evals lk t (x.kids.l.map zC.e)).2 ≠ 0 then (zero, (evals lk t (x.kids.l.map zC.e)).2) else close x.kind x.word x.by_.l (evals lk t (x.kids.l.map zC.e)).1 := by
  rw [zC.gI,eval]
mutual
def right : Expr → Prop
  | .mk k n r _ _ _ ks=>((k=1∧0≤n∧n≤1000000)∨(k=2∧1≤r∧r≤100000)∨(k=3∧ks.length=1)∨(k=4∧ks.length=2))∧rights ks
def rights : List Expr → Prop
  | []=>True
  | x::xs=>right x∧rights xs
end
theorem rights_mem : ∀ {l : List Expr}, rights l → ∀ x ∈ l, right x
  | [],_,x,hx=>by cases hx
  | y :: l, h, x, hx => by
    rw [rights] at h
    rcases List.mem_cons.1 hx with h1 | h1
    · rw [h1]; exact h.1
    · exact rights_mem h.2 x h1
theorem right_e {x : zC} (h : right x.e) : ((x.kind = 1 ∧ 0 ≤ x.n ∧ x.n ≤ 1000000) ∨ (x.kind = 2 ∧ 1 ≤ x.range ∧ x.range ≤ 100000) ∨ (x.kind = 3 ∧ x.kids.l.length = 1) ∨ (x.kind = 4 ∧ x.kids.l.length = 2)) ∧ ∀ k ∈ x.kids.l, right k.e := by
  rw [zC.gI,right,List.length_map] at h
  exact ⟨h.1,fun k hk=>rights_mem h.2 _ (List.mem_map_of_mem hk)⟩
mutual
theorem shape_right : ∀ (e : Expr) (d c : Int), (Lg.shape e d c).1 = 0 → right e
  | .mk kind n range word ms by_ kids, d, c, h => by
    rw [Lg.shape] at h
    split at h
    · cases h
    split at h
    · cases h
    split at h
    · cases h
    split at h
    · rename_i h2; exact absurd h h2
    rename_i a1 a2 a3 a4
    rw [right]
    refine ⟨?_,shapes_right kids _ _ h⟩
    have h5:kind=1∨kind=2∨kind=3∨kind=4:=by omega
    rcases h5 with rfl | rfl | rfl | rfl
    · simp [Lg.ownW] at a4; exact .inl ⟨rfl,by omega,by omega⟩
    · simp only [Lg.ownW,Lg.windowW] at a4
      right; left
      refine ⟨rfl,?_⟩
      by_cases h6:range < 1∨100000 < range
      · exfalso; revert a4; simp only [h6]
        intro a4; apply a4; intro h7
        grind
      · omega
    · right; right; left; exact ⟨rfl,by simp [Lg.arity] at a3; omega⟩
    · right; right; right; exact ⟨rfl,by simp [Lg.arity] at a3; omega⟩
theorem shapes_right : ∀ (l : List Expr) (d c : Int), (Lg.shapes l d c).1 = 0 → rights l
  | [],_,_,_=>by rw [rights]; trivial
  | x :: xs, d, c, h => by
    rw [Lg.shapes] at h
    split at h
    · rename_i h2; exact absurd h h2
    rename_i h2
    rw [rights]
    exact ⟨shape_right x d c (Classical.not_not.1 h2),shapes_right xs _ _ h⟩
end
theorem check_right {e : Expr} {t : Int} (h : check e t = 0) : right e ∧ 0 ≤ t ∧ t ≤ 1000000 := by
  unfold check at h
  split at h
  · rename_i h1; exact absurd h h1
  rename_i h1
  split at h
  · rename_i h2; exact absurd h h2
  split at h
  · cases h
  exact ⟨shape_right e 1 0 (Classical.not_not.1 h1),by omega,by omega⟩
structure Good (v : Val) : Prop where
  bnd:Bnd v
  sr:∀ c ∈ v.cells,c.sr.length≤1048576
  len:v.cells.length≤1048576
theorem z_rng:(-1125899906842624:Int)≤0∧(0:Int)≤1125899906842624:=by decide
def GoodLook (lk:Look):Prop:=∀ m a b,(lk m a b).1.length≤1048576∧∀ t ∈ (lk m a b).1,t.1.length≤1048576∧∀ word,-1125899906842624≤(Agg.value word t.2).1∧(Agg.value word t.2).1≤1125899906842624
theorem good_zero:Good zero:=⟨⟨z_rng,fun c hc=>(by cases hc)⟩,fun c hc=>(by cases hc),by decide⟩
theorem good_window {lk : Look} (hl : GoodLook lk) (t : Int) (w : ByteArray) (ms : List Match) (r : Int) : Good (window lk t w ms r).1 := by
  unfold window
  split
  · exact good_zero
  obtain ⟨h1,h2⟩:=hl ms (frm t r) t
  have hm : ∀ c ∈ winCells w (lk ms (frm t r) t).1, ∃ u ∈ (lk ms (frm t r) t).1, c.sr = u.1 ∧ c.value = (Agg.value w u.2).1 := fun c hc => by
    obtain ⟨u,hu,he⟩:=List.mem_filterMap.1 hc
    split at he
    · injection he with he; exact ⟨u,hu,by rw [← he],by rw [← he]⟩
    · cases he
  refine ⟨⟨z_rng,fun c hc=>?_⟩,fun c hc=>?_,?_⟩
  · obtain ⟨u,hu,_,h4⟩:=hm c hc
    rw [h4]; exact (h2 u hu).2 w
  · obtain ⟨u,hu,h3,_⟩:=hm c hc
    rw [h3]; exact (h2 u hu).1
  · exact Nat.le_trans (List.length_filterMap_le _ _) h1
theorem good_bin {w : ByteArray} {a b : Val} (ha : Good a) (hb : Good b) : Good (bin w a b).1 := by
  unfold bin
  split
  · split
    · rename_i h; exact ⟨⟨fits_op h,fun c hc=>(by cases hc)⟩,fun c hc=>(by cases hc),Nat.zero_le _⟩
    · exact good_zero
  split
  · rename_i h
    have hp : ∀ p ∈ pairs a b, p.1.length ≤ 1048576 := fun p hp => by
      unfold pairs at hp
      split at hp
      · obtain ⟨c,hc,rfl⟩:=List.mem_map.1 hp; exact ha.sr c hc
      split at hp
      · obtain ⟨c,hc,rfl⟩:=List.mem_map.1 hp; exact hb.sr c hc
      · obtain ⟨c,hc,h1⟩:=List.mem_filterMap.1 hp
        obtain ⟨d,_,rfl⟩:=Option.map_eq_some_iff.1 h1
        exact ha.sr c hc
    have hn : (pairs a b).length ≤ 1048576 := by
      unfold pairs
      split
      · rw [List.length_map]; exact ha.len
      split
      · rw [List.length_map]; exact hb.len
      · exact Nat.le_trans (List.length_filterMap_le _ _) ha.len
    refine ⟨⟨z_rng,fun c hc=>?_⟩,fun c hc=>?_,by simp only [done,List.length_map]; exact hn⟩
    · obtain ⟨p,hpm,rfl⟩:=List.mem_map.1 hc
      exact fits_op (by simpa using List.all_eq_true.1 h p hpm)
    · obtain ⟨p,hpm,rfl⟩:=List.mem_map.1 hc
      exact hp p hpm
  · exact good_zero
theorem put_len {w : ByteArray} {s : List Label} {x : Int} : ∀ (l : List Cell), (put w l s x).length ≤ l.length + 1
  | []=>by simp [put]
  | c :: r => by
    rw [put]
    split
    · simp
    split
    · have:=put_len (w:=w) (s:=s) (x:=x) r; simp; omega
    · simp
theorem only_len (l : List Label) (by_ : List ByteArray) : (zc.only l by_).length ≤ l.length := by
  unfold zc.only
  exact List.length_filter_le _ _
theorem good_all {w : ByteArray} {by_ : List ByteArray} : ∀ {l out : List Cell}, (∀ c ∈ l, c.sr.length ≤ 1048576) → (∀ c ∈ out, c.sr.length ≤ 1048576) → Fit out → l.length + out.length ≤ 1048576 → Good (allFrom w by_ out l).1
  | [], out, _, h2, h3, h4 => by
    rw [allFrom]
    exact ⟨⟨z_rng,fun c hc=>fits_iff.1 (h3 c hc)⟩,h2,by simp at h4; exact h4⟩
  | c :: r, out, h1, h2, h3, h4 => by
    rw [allFrom]
    split
    · rename_i h5
      have hp:=put_len (w:=w) (s:=zc.only c.sr by_) (x:=unit w c.value) out
      refine good_all (fun d hd=>h1 d (List.mem_cons_of_mem _ hd)) (fun d hd=>?_) (fun d hd=>List.all_eq_true.1 h5 d hd) (by simp at h4; omega)
      rcases put_mem d hd with h6 | ⟨e,he,h6⟩
      · rw [h6]; exact Nat.le_trans (only_len _ _) (h1 c List.mem_cons_self)
      · rw [← h6]; exact h2 e he
    · exact good_zero
mutual
theorem eval_good {lk : Look} (hl : GoodLook lk) (t : Int) : ∀ (e : Expr), right e → Good (eval lk t e).1
  | .mk k n r w ms bs ks, h => by
    rw [right] at h
    rw [eval]
    split
    · rename_i h1
      exact ⟨⟨by rcases h.1 with h2 | h2 | h2 | h2 <;> simp <;> omega,fun c hc=>(by cases hc)⟩,fun c hc=>(by cases hc),by simp⟩
    split
    · exact good_window hl _ _ _ _
    split
    · exact good_zero
    have h3:=evals_good hl t ks h.2
    unfold close
    split
    · rename_i a rr he
      have ha:Good a:=h3 a (by rw [he]; exact List.mem_cons_self)
      split
      · exact good_all ha.sr (fun c hc=>(by cases hc)) (fun c hc=>(by cases hc)) (by simp; exact ha.len)
      split
      · rename_i b hb
        exact good_bin ha (h3 _ (by rw [he]; exact List.mem_cons_of_mem _ List.mem_cons_self))
      · exact good_zero
    · exact good_zero
theorem evals_good {lk : Look} (hl : GoodLook lk) (t : Int) : ∀ (l : List Expr), rights l → ∀ v ∈ (evals lk t l).1, Good v
  | [],_,v,hv=>by rw [evals] at hv; cases hv
  | x :: xs, h, v, hv => by
    rw [rights] at h
    rw [evals] at hv
    split at hv
    · cases hv
    rcases List.mem_cons.1 hv with h1 | h1
    · rw [h1]; exact eval_good hl t x h.1
    · exact evals_good hl t xs h.2 v h1
end
theorem evals_0 (lk : Look) (t : Int) (l : List zC) : evals lk t (l.map zC.e) = (([] : List yO).map yO.e ++ (evals lk t ((l.drop 0).map zC.e)).1, (evals lk t ((l.drop 0).map zC.e)).2) := by
  simp
theorem kids_at {l : List zC} {k : Nat} {s : zC} (h : l[k]? = some s) : (l.drop k).map zC.e = s.e :: (l.drop (k + 1)).map zC.e := by
  obtain ⟨h1,rfl⟩:=List.getElem?_eq_some_iff.1 h
  rw [List.drop_eq_getElem_cons h1,List.map_cons]
theorem evals_next {lk : Look} {t : Int} {l : List zC} {k : Nat} {s : zC} {vs : List yO} {z : yO} (h : evals lk t (l.map zC.e) = (vs.map yO.e ++ (evals lk t ((l.drop k).map zC.e)).1, (evals lk t ((l.drop k).map zC.e)).2)) (hs : l[k]? = some s) (hz : z.e = (eval lk t s.e).1) (h0 : (eval lk t s.e).2 = 0) :
    evals lk t (l.map zC.e)=((vs++[z]).map yO.e++(evals lk t ((l.drop (k + 1)).map zC.e)).1,(evals lk t ((l.drop (k + 1)).map zC.e)).2):=by
  rw [h,kids_at hs,evals,if_neg (by simp [h0]),List.map_append,List.map_cons,List.map_nil,hz]
  simp
theorem evals_bad {lk : Look} {t : Int} {l : List zC} {k : Nat} {s : zC} {vs : List yO} (h : evals lk t (l.map zC.e) = (vs.map yO.e ++ (evals lk t ((l.drop k).map zC.e)).1, (evals lk t ((l.drop k).map zC.e)).2)) (hs : l[k]? = some s) (h0 : (eval lk t s.e).2 ≠ 0) :
    (evals lk t (l.map zC.e)).2=(eval lk t s.e).2:=by
  rw [h,kids_at hs,evals,if_pos h0]
theorem evals_end {lk : Look} {t : Int} {l : List zC} {k : Nat} {vs : List yO} (h : evals lk t (l.map zC.e) = (vs.map yO.e ++ (evals lk t ((l.drop k).map zC.e)).1, (evals lk t ((l.drop k).map zC.e)).2)) (hk : l.length ≤ k) : evals lk t (l.map zC.e) = (vs.map yO.e, 0) := by
  rw [h,List.drop_of_length_le hk]; simp [evals]
theorem rights_of : ∀ {l : List zC}, (∀ k ∈ l, right k.e) → rights (l.map zC.e)
  | [],_=>by rw [List.map_nil,rights]; trivial
  | x::xs,h=>by rw [List.map_cons,rights]; exact ⟨h x List.mem_cons_self,rights_of fun k hk=>h k (List.mem_cons_of_mem _ hk)⟩
theorem good_of {lk : Look} (hl : GoodLook lk) {t : Int} {l : List zC} {vs : List yO} (he : evals lk t (l.map zC.e) = (vs.map yO.e, 0)) (hr : ∀ k ∈ l, right k.e) : ∀ s ∈ vs, Good s.e := fun s hs =>
  evals_good hl t _ (rights_of hr) s.e (by rw [he]; exact List.mem_map_of_mem hs)
theorem Good.x {x : yO} (h : Good x.e) : Bnd x.e ∧ (∀ c ∈ x.cells.l, -1125899906842624 ≤ c.value ∧ c.value ≤ 1125899906842624) ∧ (∀ c ∈ x.cells.l, c.sr.l.length ≤ 1048576) ∧ x.cells.l.length ≤ 1048576 :=
  ⟨h.bnd,fun c hc=>h.bnd.2 c.e (List.mem_map_of_mem hc),fun c hc=>h.sr c.e (List.mem_map_of_mem hc),by have:=h.len; simpa [yO.e] using this⟩
theorem close_all {k : Int} {w : ByteArray} {bs : List ByteArray} {vs : List yO} {s : yO} (hk : k = 3) (hs : vs[0]? = some s) : close k w bs (vs.map yO.e) = all w bs (s.cells.l.map zO.e) := by
  match vs,hs with
  | a :: r, hs =>
    obtain rfl:a=s:=by simpa using hs
    simp only [List.map_cons,close,if_pos hk]; rfl
theorem close_bin {k : Int} {w : ByteArray} {bs : List ByteArray} {vs : List yO} {s u : yO} (hk : ¬ k = 3) (hs : vs[0]? = some s) (hu : vs[1]? = some u) : close k w bs (vs.map yO.e) = bin w s.e u.e := by
  match vs,hs,hu with
  | a :: b :: r, hs, hu =>
    obtain rfl:a=s:=by simpa using hs
    obtain rfl:b=u:=by simpa using hu
    simp only [List.map_cons,close,if_neg hk]
theorem winCells_at {word : ByteArray} {r : List (List Label × Sum)} {k : Nat} {s : List Label} {m : Sum} (h1 : (r.map (·.1))[k]? = some s) (h2 : (r.map (·.2))[k]? = some m) : winCells word (r.take (k + 1)) = winCells word (r.take k) ++ if (Agg.value word m).2 = true then [⟨s, (Agg.value word m).1⟩] else [] := by
  rw [List.getElem?_map] at h1 h2
  cases hr:r[k]? with
  | none=>rw [hr] at h1; cases h1
  | some u =>
    rw [hr] at h1 h2
    obtain rfl:u.1=s:=by simpa using h1
    obtain rfl:u.2=m:=by simpa using h2
    rw [winCells,List.take_add_one,hr,List.filterMap_append]
    congr 1
    simp only [Option.toList,List.filterMap_cons,List.filterMap_nil]
    split <;> simp_all
end Mn
end
section
namespace Mn
open Ex
structure OkLines (l : List vk) : Prop where
  len:l.length≤8
  sr:∀ x ∈ l,zc.wrong x.sr.l=0
  sm:∀ x ∈ l,(Codec.wrong x.sm.l).err=0
  inc:l.Pairwise fun x y=>zc.compare x.sr.l y.sr.l < 0
theorem from_ok : ∀ (l : List vk) (i : Nat) (p : Option (List Label)), (linesFrom i p l).err = 0 → (∀ x ∈ l, zc.wrong x.sr.l = 0 ∧ (Codec.wrong x.sm.l).err = 0) ∧ l.Pairwise (fun x y => zc.compare x.sr.l y.sr.l < 0) ∧ (∀ q, p = some q → ∀ x ∈ l, zc.compare q x.sr.l < 0)
  | [],_,_,_=>⟨by simp,List.Pairwise.nil,by simp⟩
  | x :: r, i, p, h => by
    rw [linesFrom] at h
    split at h
    · rename_i h1; exact absurd h h1
    rename_i h1
    split at h
    · rename_i h2; exact absurd h h2
    rename_i h2
    split at h
    · cases h
    rename_i h3
    obtain ⟨a1,a2,a3⟩:=from_ok r (i + 1) (some x.sr.l) h
    have h4:=a3 _ rfl
    refine ⟨fun y hy=>?_,List.pairwise_cons.2 ⟨h4,a2⟩,?_⟩
    · rcases List.mem_cons.1 hy with rfl | hy
      · exact ⟨Classical.not_not.1 h1,Classical.not_not.1 h2⟩
      · exact a1 y hy
    · rintro q rfl y hy
      have h5:zc.compare q x.sr.l < 0:=by simp only [behind] at h3; omega
      rcases List.mem_cons.1 hy with rfl | hy
      · exact h5
      · exact zc.compare_is.trans _ _ _ h5 (h4 y hy)
theorem names_len {l : List Label} (h : zc.wrong l = 0) : l.length ≤ 4 := by
  unfold zc.wrong at h
  split at h
  · cases h
  · omega
theorem OkLines.vals {l : List vk} (h : OkLines l) : ∀ x ∈ l, ∀ s ∈ x.sm.l, -1000000000 ≤ s.value ∧ s.value ≤ 1000000000 := fun x hx s hs => by
  have:=(Codec.right_of (h.sm x hx)).rng s hs; omega
def inWin (a b:Int) (s:Sample):Bool:=decide (a≤s.time∧s.time < b)
def lookL (l:List Line):Look:=fun m a b=>((l.filter fun x=>zc.vB x.sr m).map fun x=>(x.sr,Agg.of (x.sm.filter (inWin a b))),0)
theorem look_at {l : List vk} {k : Nat} {s : vk} {m : List Match} {a b : Int} (h : l[k]? = some s) : (lookL ((l.take (k + 1)).map vk.e) m a b).1 = if zc.vB s.sr.l m = true then (lookL ((l.take k).map vk.e) m a b).1 ++ [(s.sr.l, Agg.of (s.sm.l.filter (inWin a b)))] else (lookL ((l.take k).map vk.e) m a b).1 := by
  unfold lookL
  rw [List.take_add_one,h,List.map_append,List.filter_append,List.map_append]
  simp only [Option.toList,List.map_cons,List.map_nil,List.filter_cons,List.filter_nil]
  split
  · rename_i h1; rw [if_pos (show zc.vB s.sr.l m=true from h1)]; rfl
  · rename_i h1; rw [if_neg (show ¬ zc.vB s.sr.l m=true from h1)]; simp
theorem rise_rng {a b : Int} (ha : -1000000000 ≤ a ∧ a ≤ 1000000000) (hb : -1000000000 ≤ b ∧ b ≤ 1000000000) : -2000000000 ≤ Agg.rise a b ∧ Agg.rise a b ≤ 2000000000 := by
  unfold Agg.rise
  split
  · omega
  · rw [wr_id (by omega) (by omega)]; omega
theorem rise_bnd : ∀ (l : List Sample), l.length ≤ 500 → (∀ x ∈ l, -1000000000 ≤ x.value ∧ x.value ≤ 1000000000) → -2000000000 * (l.length : Int) ≤ (Agg.of l).rise ∧ (Agg.of l).rise ≤ 2000000000 * (l.length : Int) := by
  intro l
  induction l using List.reverseRecOn' with
  | nil=>intro _ _; decide
  | snoc l x ih =>
    intro hl hb
    have hlen:(l++[x]).length=l.length + 1:=by simp
    rw [hlen] at hl ⊢
    have h:=ih (by omega) (fun y hy=>hb y (by simp [hy]))
    have hx:=hb x (by simp)
    rw [Agg.of_snoc]
    by_cases hne:l=[]
    · subst hne
      have:Agg.join (Agg.of []) (Agg.one x.value)=Agg.one x.value:=by simp [Agg.of,Agg.join,Sum.zero]
      rw [this]; simp [Agg.one]
    · have hf:=Agg.fits l hne (by omega) (fun y hy=>hb y (by simp [hy]))
      have hpos:=List.length_pos_iff.2 hne
      have h4:=hf.l1; have h5:=hf.l2; have h6:=hf.m1; have h7:=hf.m2
      have hr:=rise_rng (a:=(Agg.of l).last) (b:=x.value) (by omega) hx
      unfold Agg.join
      rw [if_neg (by rw [hf.count]; omega),if_neg (by simp [Agg.one])]
      simp only [Agg.one]
      have hw1:wr ((Agg.of l).rise + Agg.rise (Agg.of l).last x.value)=(Agg.of l).rise + Agg.rise (Agg.of l).last x.value:=wr_id (by omega) (by omega)
      rw [hw1,Int.add_zero,wr_id (by omega) (by omega)]
      omega
theorem value_bnd {l : List Sample} (hl : l.length ≤ 500) (hb : ∀ x ∈ l, -1000000000 ≤ x.value ∧ x.value ≤ 1000000000) (word : ByteArray) : -1125899906842624 ≤ (Agg.value word (Agg.of l)).1 ∧ (Agg.value word (Agg.of l)).1 ≤ 1125899906842624 := by
  by_cases hne:l=[]
  · subst hne
    have:(Agg.value word (Agg.of [])).1=0:=by unfold Agg.value; rw [if_pos (by decide)]
    rw [this]; decide
  have h:=Agg.fits l hne (by omega) hb
  have hr:=rise_bnd l hl hb
  have hpos:=List.length_pos_iff.2 hne
  have hc:¬ (Agg.of l).count < 1:=by rw [h.count]; omega
  have hd:=Agg.tdiv_between (t:=(Agg.of l).total) (c:=(Agg.of l).count) (by omega) h.s1 h.s2
  have h1:=h.m1; have h2:=h.m2; have h3:=h.f1; have h4:=h.f2; have h5:=h.l1; have h6:=h.l2; have h7:=h.count; have h8:=h.t1; have h9:=h.t2
  unfold Agg.value
  rw [if_neg hc,wr_id (by omega) (by omega)]
  (repeat' split) <;> dsimp only <;> omega
def out (r:Val × Int):List Cell × Int:=if r.2≠0 then ([],r.2) else if r.1.vec=true then (r.1.cells,0) else ([⟨[],r.1.n⟩],0)
def ask (l:List vk) (e:Expr) (t:Int):List Cell × Int:=if (lines l).err≠0 then ([],(lines l).err) else if check e t≠0 then ([],check e t) else out (eval (lookL (l.map vk.e)) t e)
end Mn
namespace Ex
structure CelsX.Ok (S : Nat → Prop) (z : SlX zO) (w : World) : Prop where
  cells:zJ S 2 yi (.slice z.A z.l.length z.c) z.l w
  all:∀ c ∈ z.l,zO.Ok S c w
theorem CelsX.Ok.loc (x:SlX zO):Loc (fun S=>CelsX.Ok S x):=fun S S' u u' hs hk h=>⟨zJ.loc _ _ _ _ S S' u u' hs hk h.cells,fun c hc=>zO.Ok.loc c S S' u u' hs hk (h.all c hc)⟩
structure CelsX.Wf (z : SlX zO) : Prop where
  cells:Ex.Wf z
  all:∀ c ∈ z.l,zO.Wf c
theorem CelsX.Ok.wf {S:Nat→Prop} {x:SlX zO} {w:World} (h:CelsX.Ok S x w):CelsX.Wf x:=⟨zJ.wf h.cells,fun c hc=>(h.all c hc).wf⟩
@[reducible] def celsV (err:Int) (z:SlX zO):Value:=.tuple #[.slice z.A z.l.length z.c,.int .i64 err]
structure LinesAt (lad : Addr) (A : Option Addr) (c : Nat) (l : List vk) (S : Nat → Prop) (w : World) : Prop where
  cel:ve S lad [.slice A l.length c] w
  sl:zJ S 2 lineE (.slice A l.length c) l w
  all:∀ x ∈ l,vk.Ok S x w
theorem LinesAt.loc (lad:Addr) (A:Option Addr) (c:Nat) (l:List vk):Loc (LinesAt lad A c l):=fun S S' u u' hs hk h=>⟨ve.loc _ _ S S' u u' hs hk h.cel,zJ.loc _ _ _ _ S S' u u' hs hk h.sl,fun c hc=>vk.Ok.loc c S S' u u' hs hk (h.all c hc)⟩
end Ex
end
section
namespace Ex
abbrev Sk:=List Match→Int→Int→Int→Int
structure WinG (P : Program) (f : Nat) (cap : Array Value) (o : Int → Own) (S : Nat → Prop) (C : World → Prop) (lk : Look) (sk : Sk) : Prop where
  call:∀ vs w,(callFunc f vs).run P w=.ok (.enter f vs) w
  ok:∀ n,(o n).mut=true∨(o n).isPub=true
  fpc:∀ n m b,(o n).fp b→(o m).fp b
  run : ∀ (ms : SlX Match) (a b n : Int) (w : World) (Pb : Nat → Prop), Mem w ⟨fpOf [o n, .dat S C, slP 3 yg (.slice ms.A ms.l.length ms.c) ms.l], Pb⟩ [o n, .dat S C, slP 3 yg (.slice ms.A ms.l.length ms.c) ms.l] w → 0 ≤ a → b ≤ 1000000 →
    Calls P f (#[.slice ms.A ms.l.length ms.c,.int .i64 a,.int .i64 b]++cap) w (RetA w [o n,.dat S C,slP 3 yg (.slice ms.A ms.l.length ms.c) ms.l] Pb (winV (lk ms.l a b).2) (fun z=>vu.is z (lk ms.l a b).1) (fun z=>[.pub (fun S=>vu.Ok S z),o (sk ms.l a b n)]))
theorem hq2 {F : (Nat → Prop) → World → Prop} {o : Own} (h : o.mut = true ∨ o.isPub = true) : ([Own.pub F, o]).all (fun o => o.mut || o.isPub) = true := by
  simp only [List.all_cons,List.all_nil,Bool.and_true,Bool.and_eq_true,Bool.or_eq_true]
  exact ⟨.inr rfl,h⟩
theorem hq5 {F G H I : (Nat → Prop) → World → Prop} {o : Own} (h : o.mut = true ∨ o.isPub = true) : ([Own.pub F, o, .pub G, .pub H, .pub I]).all (fun o => o.mut || o.isPub) = true := by
  simp only [List.all_cons,List.all_nil,Bool.and_true,Bool.and_eq_true,Bool.or_eq_true]
  exact ⟨.inr rfl,h,.inr rfl,.inr rfl,.inr rfl⟩
theorem only5 {o : Own} {S : Nat → Prop} {C : World → Prop} {F G H : (Nat → Prop) → World → Prop} (b : Nat) (h : fpOf [o, .dat S C, .pub F, .pub G, .pub H] b) : o.fp b := by
  obtain ⟨x,hx,hm,hb⟩:=h
  simp only [List.mem_cons,List.not_mem_nil,or_false] at hx
  rcases hx with rfl | rfl | rfl | rfl | rfl
  · exact hb
  all_goals cases hm
theorem only3 {o : Own} {S : Nat → Prop} {C : World → Prop} {F : (Nat → Prop) → World → Prop} (b : Nat) (h : fpOf [o, .dat S C, .pub F] b) : o.fp b := by
  obtain ⟨x,hx,hm,hb⟩:=h
  simp only [List.mem_cons,List.not_mem_nil,or_false] at hx
  rcases hx with rfl | rfl | rfl
  · exact hb
  all_goals cases hm
section
variable {w0 w:World} {M:Fp} {L:List Own} {o:Own}
theorem Mem.sealBO {i j b : Nat} {cs : List Value} {T : TypeId} {o' : Own} (h : Mem w0 M L w) (hi : L[i]? = some (.blk b cs T)) (hj : L[j]? = some o') (hij : Nat.beq i j = false) (hM : ∀ b, M.m b → o'.fp b) : Mem w0 M (L.set i (celP ⟨b, 0, none⟩ cs)) w := by
  refine h.gG hi rfl (fun b' hb=>?_) (ve.loc _ _) fun Pb pp=>⟨.inr rfl,fun j u hu=>?_⟩
  · rcases (h.ok i _ hi).2.2 rfl b' hb with h1 | h1
    · exact .inl h1
    · exact absurd (hM b' h1) (h.dj i j _ _ hi hj (Nat.ne_of_beq_eq_false hij) (.inl rfl) b' hb)
  rw [add_lit]
  have:=h.cell (j:=0 + j) hi
  rw [this]; simpa using hu
theorem Mem.um {α : Type} {enc : α → List Value} {k : Nat} {e : TypeId} {l : List α} {v : Value} (he : Enc enc k) (h : Mem w0 M L w) {i j : Nat} {o' : Own} (hi : L[i]? = some (Row v e k enc l)) (hj : L[j]? = some o') (hij : i ≠ j) (hM : ∀ b, M.m b → o'.fp b) : Mem w0 M (L.set i (slP k enc v l)) w := by
  refine h.gG hi rfl (fun b hb=>?_) (zJ.loc _ _ _ _) fun Pb pp=>?_
  · rcases (h.ok i _ hi).2.2 rfl b hb with h1 | h1
    · exact .inl h1
    · exact absurd (hM b h1) (h.dj i j _ _ hi hj hij (.inl rfl) b hb)
  have hrow:=h.row hi
  obtain ⟨A,c,rfl,e2,e3,e4⟩:=row_form' hrow
  refine ⟨A,c,rfl,e2,by simpa [maxLen] using e3,fun hne=>?_⟩
  obtain ⟨ad,rfl⟩:=e4 hne
  have hb : (Value.slice (some ad) l.length c).ownBlock = some ad.block := by
    rcases hrow.2 with ⟨h1,h2⟩ | ⟨gb,cap,cur,h1,_⟩
    · cases h1
    · injection h1 with h1 _ _; injection h1 with h1; subst h1; rfl
  refine ⟨ad,rfl,.inr hb,fun i' x hx j u hu=>?_⟩
  exact (RowSl he h i hi).cell rfl hx hu
theorem Mem.dup (h : Mem w0 M L w) (q : Nat) (hi : L[q]? = some o) (hm : o.mut = false) : Mem w0 M (o :: L) w := by
  have key : ∀ (i : Nat) (x : Own), (o :: L)[i]? = some x → ∃ j, L[j]? = some x ∧ ((i = 0 ∧ x = o) ∨ (1 ≤ i ∧ j = i - 1)) := fun i x hx => by
    cases i with
    | zero=>exact ⟨q,by rw [hi]; simpa using hx,.inl ⟨rfl,by simpa using hx.symm⟩⟩
    | succ i=>exact ⟨i,by simpa using hx,.inr ⟨by omega,rfl⟩⟩
  refine ⟨h.fr,fun i x hx=>?_,fun i j x y hx hy hij hmm=>?_,?_⟩
  · obtain ⟨j,hj,_⟩:=key i x hx; exact h.ok j x hj
  · obtain ⟨i',hi',hc⟩:=key i x hx
    obtain ⟨j',hj',hd⟩:=key j y hy
    by_cases he:i'=j'
    · subst he
      have hxy:x=y:=Option.some.inj (hi'.symm.trans hj')
      subst hxy
      exfalso
      rcases hc with ⟨_,rfl⟩ | ⟨h1,h2⟩
      · rw [hm] at hmm; simp at hmm
      · rcases hd with ⟨_,rfl⟩ | ⟨h3,h4⟩
        · rw [hm] at hmm; simp at hmm
        · omega
    · exact h.dj i' j' x y hi' hj' he hmm
  · obtain ⟨Pb,pp⟩:=h.pb
    refine ⟨Pb,pp.sub,pp.lt,fun i x hx=>?_,fun i F hx=>?_⟩
    · obtain ⟨j,hj,_⟩:=key i x hx; exact pp.dj j x hj
    · obtain ⟨j,hj,_⟩:=key i _ hx; exact pp.at_ j F hj
end
section
variable {P:Program} {N:Nat} {D:List Deferred} {E:Env} {Q:Exit→Act→World→Prop} {w0 w:World} {M:Fp} {L:List Own} {ops:Array Oper} {rest:List Oper} {T:TypeId}
theorem l_sealBO (i j : Nat) {b : Nat} {cs : List Value} {o' : Own} (hi : L[i]? = some (.blk b cs T)) (hj : L[j]? = some o') (hij : Nat.beq i j = false) (hM : ∀ b, M.m b → o'.fp b) (h : WL P N D ops Q rest E (Mem w0 M (L.set i (celP ⟨b, 0, none⟩ cs)))) : WL P N D ops Q rest E (Mem w0 M L) :=
  fun w hS=>h w (hS.sealBO hi hj hij hM)
theorem jT {α : Type} {enc : α → List Value} {k : Nat} {e : TypeId} {l : List α} {v : Value} (i j : Nat) {o' : Own} (he : Enc enc k) (hi : L[i]? = some (Row v e k enc l)) (hj : L[j]? = some o') (hij : Nat.beq i j = false) (hM : ∀ b, M.m b → o'.fp b) (h : WL P N D ops Q rest E (Mem w0 M (L.set i (slP k enc v l)))) : WL P N D ops Q rest E (Mem w0 M L) :=
  fun w hS=>h w (hS.um he hi hj (Nat.ne_of_beq_eq_false hij) hM)
end
end Ex
namespace Mn
open Ex
mutual
def evalN (lk : Look) (sk : Sk) (t : Int) : Expr → Int → Int
  | .mk k _ r _ ms _ ks,c=>if k=1 then c else if k=2 then sk ms (frm t r) t c else evalsN lk sk t ks c
def evalsN (lk : Look) (sk : Sk) (t : Int) : List Expr → Int → Int
  | [],c=>c
  | x::xs,c=>if (eval lk t x).2≠0 then evalN lk sk t x c else evalsN lk sk t xs (evalN lk sk t x c)
end
theorem evalN_e (lk : Look) (sk : Sk) (t : Int) (x : zC) (c : Int) : evalN lk sk t x.e c = if x.kind = 1 then c else if x.kind = 2 then sk x.ms.l (frm t x.range) t c else evalsN lk sk t (x.kids.l.map zC.e) c := by
  rw [zC.gI,evalN]
theorem evalsN_next {lk : Look} {sk : Sk} {t : Int} {l : List zC} {k : Nat} {s : zC} {c n : Int} (h : evalsN lk sk t (l.map zC.e) n = evalsN lk sk t ((l.drop k).map zC.e) c) (hs : l[k]? = some s) (h0 : (eval lk t s.e).2 = 0) :
    evalsN lk sk t (l.map zC.e) n=evalsN lk sk t ((l.drop (k + 1)).map zC.e) (evalN lk sk t s.e c):=by
  rw [h,kids_at hs,evalsN,if_neg (by simp [h0])]
theorem evalsN_bad {lk : Look} {sk : Sk} {t : Int} {l : List zC} {k : Nat} {s : zC} {c n : Int} (h : evalsN lk sk t (l.map zC.e) n = evalsN lk sk t ((l.drop k).map zC.e) c) (hs : l[k]? = some s) (h0 : (eval lk t s.e).2 ≠ 0) :
    evalsN lk sk t (l.map zC.e) n=evalN lk sk t s.e c:=by
  rw [h,kids_at hs,evalsN,if_pos h0]
theorem evalsN_end {lk : Look} {sk : Sk} {t : Int} {l : List zC} {k : Nat} {c n : Int} (h : evalsN lk sk t (l.map zC.e) n = evalsN lk sk t ((l.drop k).map zC.e) c) (hk : l.length ≤ k) : evalsN lk sk t (l.map zC.e) n = c := by
  rw [h,List.drop_of_length_le hk]; rfl
end Mn
end
section
structure zF where (sr:SlX Label) (raw:SlX Sample) (fine coarse:SlX Bucket) (ze zW zI zN zH:Int)
def zF.e (x:zF):Shelf:=⟨x.sr.l,x.raw.l,x.fine.l,x.coarse.l,x.ze,x.zW,x.zI,x.zN,x.zH⟩
structure Do where (kind tier to:Int) (sr:List Label) (zf:Sample) (text:ByteArray)
structure yo where (kind tier to:Int) (sr:SlX Label) (zf:Sample) (text:ByteArray)
def yo.e (x:yo):Do:=⟨x.kind,x.tier,x.to,x.sr.l,x.zf,x.text⟩
structure Ans where (err at_:Int) (cells:List Cell) (cost:Int)
structure yc where (err at_:Int) (cells:SlX zO) (cost:Int)
def yc.e (x:yc):Ans:=⟨x.err,x.at_,x.cells.l.map zO.e,x.cost⟩
structure Base where (zA:List Shelf) (zh:Int)
structure ya where (zA:SlX zF) (zh:Int)
def ya.e (x:ya):Base:=⟨x.zA.l.map zF.e,x.zh⟩
namespace Ex
set_option linter.unusedVariables false
@[reducible] def zx (x:zF):List Value:=[.slice x.sr.A x.sr.l.length x.sr.c,.slice x.raw.A x.raw.l.length x.raw.c,.slice x.fine.A x.fine.l.length x.fine.c,.slice x.coarse.A x.coarse.l.length x.coarse.c,.int .i64 x.ze,.int .i64 x.zW,.int .i64 x.zI,.int .i64 x.zN,.int .i64 x.zH]
theorem encShelfX:Enc zx 9:=.of (fun _=>rfl) (fun _=>rfl) rfl
structure zF.Ok (S : Nat → Prop) (x : zF) (w : World) : Prop where
  sr:zJ S 2 zj (.slice x.sr.A x.sr.l.length x.sr.c) x.sr.l w
  raw:zJ S 2 zo (.slice x.raw.A x.raw.l.length x.raw.c) x.raw.l w
  fine:zJ S 8 zU (.slice x.fine.A x.fine.l.length x.fine.c) x.fine.l w
  coarse:zJ S 8 zU (.slice x.coarse.A x.coarse.l.length x.coarse.c) x.coarse.l w
theorem zF.Ok.loc (x:zF):Loc (fun S=>zF.Ok S x):=fun S S' u u' hs hk h=>⟨zJ.loc _ _ _ _ S S' u u' hs hk h.sr,zJ.loc _ _ _ _ S S' u u' hs hk h.raw,zJ.loc _ _ _ _ S S' u u' hs hk h.fine,zJ.loc _ _ _ _ S S' u u' hs hk h.coarse⟩
structure zF.Wf (x : zF) : Prop where
  sr:Ex.Wf x.sr
  raw:Ex.Wf x.raw
  fine:Ex.Wf x.fine
  coarse:Ex.Wf x.coarse
theorem zF.Ok.wf {S:Nat→Prop} {x:zF} {w:World} (h:zF.Ok S x w):zF.Wf x:=⟨zJ.wf h.sr,zJ.wf h.raw,zJ.wf h.fine,zJ.wf h.coarse⟩
theorem Mem.shelfX {w0 w : World} {M : Fp} {L : List Own} (h : Mem w0 M L w) (q : Nat) {e : zF} (hi : L[q]? = some (okP zF.Ok e)) : Mem w0 M (slP 2 zj (.slice e.sr.A e.sr.l.length e.sr.c) e.sr.l :: slP 2 zo (.slice e.raw.A e.raw.l.length e.raw.c) e.raw.l :: slP 8 zU (.slice e.fine.A e.fine.l.length e.fine.c) e.fine.l :: slP 8 zU (.slice e.coarse.A e.coarse.l.length e.coarse.c) e.coarse.l :: L) w := by
  have h1:=h.imp (q + 0) hi (zJ.loc 8 zU _ e.coarse.l) fun _ hF=>zF.Ok.coarse hF
  have h2:=h1.imp (q + 1) hi (zJ.loc 8 zU _ e.fine.l) fun _ hF=>zF.Ok.fine hF
  have h3:=h2.imp (q + 2) hi (zJ.loc 2 zo _ e.raw.l) fun _ hF=>zF.Ok.raw hF
  exact h3.imp (q + 3) hi (zJ.loc 2 zj _ e.sr.l) fun _ hF=>zF.Ok.sr hF
@[reducible] def uI (x:yo):List Value:=[.int .i64 x.kind,.int .i64 x.tier,.int .i64 x.to,.slice x.sr.A x.sr.l.length x.sr.c,.int .i64 x.zf.time,.int .i64 x.zf.value,.string x.text]
theorem encDoX:Enc uI 7:=.of (fun _=>rfl) (fun _=>rfl) rfl
structure yo.Ok (S : Nat → Prop) (x : yo) (w : World) : Prop where
  sr:zJ S 2 zj (.slice x.sr.A x.sr.l.length x.sr.c) x.sr.l w
theorem yo.Ok.loc (x:yo):Loc (fun S=>yo.Ok S x):=fun S S' u u' hs hk h=>⟨zJ.loc _ _ _ _ S S' u u' hs hk h.sr⟩
structure yo.Wf (x : yo) : Prop where
  sr:Ex.Wf x.sr
theorem yo.Ok.wf {S:Nat→Prop} {x:yo} {w:World} (h:yo.Ok S x w):yo.Wf x:=⟨zJ.wf h.sr⟩
theorem Mem.doX {w0 w : World} {M : Fp} {L : List Own} (h : Mem w0 M L w) (q : Nat) {e : yo} (hi : L[q]? = some (okP yo.Ok e)) : Mem w0 M (slP 2 zj (.slice e.sr.A e.sr.l.length e.sr.c) e.sr.l :: L) w := by
  exact h.imp (q + 0) hi (zJ.loc 2 zj _ e.sr.l) fun _ hF=>yo.Ok.sr hF
@[reducible] def uH (x:yc):List Value:=[.int .i64 x.err,.int .i64 x.at_,.slice x.cells.A x.cells.l.length x.cells.c,.int .i64 x.cost]
theorem encAnsX:Enc uH 4:=.of (fun _=>rfl) (fun _=>rfl) rfl
structure yc.Ok (S : Nat → Prop) (x : yc) (w : World) : Prop where
  cells:zJ S 2 yi (.slice x.cells.A x.cells.l.length x.cells.c) x.cells.l w
  all:∀ c ∈ x.cells.l,zO.Ok S c w
theorem yc.Ok.loc (x:yc):Loc (fun S=>yc.Ok S x):=fun S S' u u' hs hk h=>⟨zJ.loc _ _ _ _ S S' u u' hs hk h.cells,fun c hc=>zO.Ok.loc c S S' u u' hs hk (h.all c hc)⟩
structure yc.Wf (x : yc) : Prop where
  cells:Ex.Wf x.cells
  all:∀ c ∈ x.cells.l,zO.Wf c
theorem yc.Ok.wf {S:Nat→Prop} {x:yc} {w:World} (h:yc.Ok S x w):yc.Wf x:=⟨zJ.wf h.cells,fun c hc=>(h.all c hc).wf⟩
theorem Mem.ansX {w0 w : World} {M : Fp} {L : List Own} (h : Mem w0 M L w) (q : Nat) {e : yc} (hi : L[q]? = some (okP yc.Ok e)) : Mem w0 M (slP 2 yi (.slice e.cells.A e.cells.l.length e.cells.c) e.cells.l :: allP zO.Ok e.cells.l :: L) w := by
  have h1:=h.imp (q + 0) hi (all_loc zO.Ok.loc e.cells.l) fun _ hF=>yc.Ok.all hF
  exact h1.imp (q + 1) hi (zJ.loc 2 yi _ e.cells.l) fun _ hF=>yc.Ok.cells hF
@[reducible] def un (x:ya):List Value:=[.slice x.zA.A x.zA.l.length x.zA.c,.int .i64 x.zh]
structure ya.Ok (S : Nat → Prop) (x : ya) (w : World) : Prop where
  zA:zJ S 9 zx (.slice x.zA.A x.zA.l.length x.zA.c) x.zA.l w
  all:∀ c ∈ x.zA.l,zF.Ok S c w
theorem ya.Ok.loc (x:ya):Loc (fun S=>ya.Ok S x):=fun S S' u u' hs hk h=>⟨zJ.loc _ _ _ _ S S' u u' hs hk h.zA,fun c hc=>zF.Ok.loc c S S' u u' hs hk (h.all c hc)⟩
structure ya.Wf (x : ya) : Prop where
  zA:Ex.Wf x.zA
  all:∀ c ∈ x.zA.l,zF.Wf c
theorem ya.Ok.wf {S:Nat→Prop} {x:ya} {w:World} (h:ya.Ok S x w):ya.Wf x:=⟨zJ.wf h.zA,fun c hc=>(h.all c hc).wf⟩
theorem Mem.baseX {w0 w : World} {M : Fp} {L : List Own} (h : Mem w0 M L w) (q : Nat) {e : ya} (hi : L[q]? = some (okP ya.Ok e)) : Mem w0 M (slP 9 zx (.slice e.zA.A e.zA.l.length e.zA.c) e.zA.l :: allP zF.Ok e.zA.l :: L) w := by
  have h1:=h.imp (q + 0) hi (all_loc zF.Ok.loc e.zA.l) fun _ hF=>ya.Ok.all hF
  exact h1.imp (q + 1) hi (zJ.loc 9 zx _ e.zA.l) fun _ hF=>ya.Ok.zA hF
structure DosX.Ok (S : Nat → Prop) (z : SlX yo) (w : World) : Prop where
  sl:zJ S 7 uI (.slice z.A z.l.length z.c) z.l w
  all:∀ c ∈ z.l,yo.Ok S c w
theorem DosX.Ok.loc (x:SlX yo):Loc (fun S=>DosX.Ok S x):=fun S S' u u' hs hk h=>⟨zJ.loc _ _ _ _ S S' u u' hs hk h.sl,fun c hc=>yo.Ok.loc c S S' u u' hs hk (h.all c hc)⟩
structure DosX.Wf (z : SlX yo) : Prop where
  sl:Ex.Wf z
  all:∀ c ∈ z.l,yo.Wf c
structure AnssX.Ok (S : Nat → Prop) (z : SlX yc) (w : World) : Prop where
  sl:zJ S 4 uH (.slice z.A z.l.length z.c) z.l w
  all:∀ c ∈ z.l,yc.Ok S c w
theorem AnssX.Ok.loc (x:SlX yc):Loc (fun S=>AnssX.Ok S x):=fun S S' u u' hs hk h=>⟨zJ.loc _ _ _ _ S S' u u' hs hk h.sl,fun c hc=>yc.Ok.loc c S S' u u' hs hk (h.all c hc)⟩
structure AnssX.Wf (z : SlX yc) : Prop where
  sl:Ex.Wf z
  all:∀ c ∈ z.l,yc.Wf c
theorem AnssX.Ok.wf {S:Nat→Prop} {x:SlX yc} {w:World} (h:AnssX.Ok S x w):AnssX.Wf x:=⟨zJ.wf h.sl,fun c hc=>(h.all c hc).wf⟩
end Ex
end
section
namespace Codec
theorem wrong_right {l : List Sample} (h : Right l) : (wrong l).err = 0 := by
  have key : ∀ (l : List Sample) (k : Nat) (p : Option Sample), (∀ x ∈ l, ¬ badRange x) → l.Pairwise (fun x y => x.time < y.time) → (∀ q, p = some q → ∀ x ∈ l, q.time < x.time) → wrongFrom k p l = ⟨0, 0⟩ := by
    intro l
    induction l with
    | nil=>intros; rfl
    | cons s r ih =>
      intro k p h1 h2 h3
      unfold wrongFrom
      rw [if_neg (h1 s (by simp))]
      have hb : ¬ (notAhead p s = true) := by
        cases p with
        | none=>simp [notAhead]
        | some q=>have:=h3 q rfl s (by simp); simp [notAhead]; omega
      rw [if_neg hb]
      have hp:=List.pairwise_cons.1 h2
      exact ih (k + 1) (some s) (fun x hx=>h1 x (by simp [hx])) hp.2 (by rintro q ⟨⟩ x hx; exact hp.1 x hx)
  have hl:=h.len
  rw [wrong,if_neg (by omega),key l 0 none (fun x hx=>by have:=h.rng x hx; unfold badRange; omega) h.inc (by simp)]
theorem Right.filter {l : List Sample} (h : Right l) (p : Sample → Bool) : Right (l.filter p) :=
  ⟨Nat.le_trans (List.length_filter_le ..) h.len,fun x hx=>h.rng x (List.mem_filter.1 hx).1,h.inc.sublist List.filter_sublist⟩
theorem one_right {x:Sample} (h:(wrong [x]).err=0):0≤x.time∧x.time≤1000000∧-1000000000≤x.value∧x.value≤1000000000:=(right_of h).rng x (by simp)
end Codec
namespace Sh
section
variable {z:Shelf} {x:Sample} {to tier:Int}
theorem mk_ok (h1 : zc.wrong z.zV = 0) (h2 : Codec.Right z.raw) (h3 : Roll.Tier z.fine 10 z.zW z.zI) (h4 : Roll.Tier z.coarse 60 z.zN z.zH) (h5 : z.fine.length ≤ 500) (h6 : z.coarse.length ≤ 500) (h7 : times z) (h8 : ∀ x ∈ z.raw, z.ze ≤ x.time) : OK z := by
  obtain ⟨⟨t1,t2⟩,t3⟩:=h7
  have t1':=t1; have t2':=t2
  unfold badT at t1 t2
  simp only at t1 t2
  exact ⟨h1, Codec.wrong_right h2, Roll.wrong_right (h3.right (.inl rfl) (by omega) (by omega) h5) (by decide), Roll.wrong_right (h4.right (.inr rfl) (by omega) (by omega) h6) (by decide),
    ⟨⟨⟨t1',t2'⟩,t3⟩,by rw [head_all (Roll.rises_of h2)]; exact List.all_eq_true.2 fun x hx=>decide_eq_true (h8 x hx),h3.within,h4.within⟩⟩
theorem OK.rawAll (h : OK z) : ∀ x ∈ z.raw, z.ze ≤ x.time := by
  have:=h.fit.2.1
  rw [head_all h.rawRises] at this
  exact fun x hx=>of_decide_eq_true (List.all_eq_true.1 this x hx)
theorem times_iff {z : Shelf} : times z ↔ (0 ≤ z.ze ∧ z.ze ≤ z.zI ∧ z.zW ≤ z.zH ∧ z.zH ≤ z.zI) ∧ (0 ≤ z.zW ∧ z.zW ≤ z.zI ∧ z.zI ≤ 1000000 ∧ z.zW % 10 = 0 ∧ z.zI % 10 = 0) ∧ 0 ≤ z.zN ∧ z.zN ≤ z.zH ∧ z.zH ≤ 1000000 ∧ z.zN % 60 = 0 ∧ z.zH % 60 = 0 := by
  unfold times badT; simp only; omega
theorem append_done (h : (append z x).2 = 0) : OK z ∧ (Codec.wrong [x]).err = 0 ∧ ¬ (x.time < z.zI ∨ late z.raw x = true) ∧ z.raw.length ≠ 500 ∧ append z x = (⟨z.zV, z.raw ++ [x], z.fine, z.coarse, z.ze, z.zW, z.zI, z.zN, z.zH⟩, 0) := by
  unfold append at h ⊢
  by_cases h1:wrong z≠0
  · rw [if_pos h1] at h; exact absurd h h1
  rw [if_neg h1] at h ⊢
  by_cases h2:(Codec.wrong [x]).err≠0
  · rw [if_pos h2] at h; exact absurd h h2
  rw [if_neg h2] at h ⊢
  by_cases h3:x.time < z.zI∨late z.raw x=true
  · rw [if_pos h3] at h; exact absurd h (by decide)
  rw [if_neg h3] at h ⊢
  by_cases h4:z.raw.length=500
  · rw [if_pos h4] at h; exact absurd h (by decide)
  rw [if_neg h4]
  exact ⟨ok_of h1,Classical.not_not.1 h2,h3,h4,rfl⟩
def rolled (z:Shelf) (to:Int):Shelf:=⟨z.zV,z.raw,uE z to,vt z to,z.ze,z.zW,zI z to,z.zN,zH z to⟩
theorem roll_done (h : (roll z to).2 = 0) : OK z ∧ 0 ≤ to ∧ to ≤ 1000000 ∧ (uE z to).length ≤ 500 ∧ (vt z to).length ≤ 500 ∧ roll z to = (rolled z to, 0) := by
  unfold roll at h ⊢
  by_cases h1:wrong z≠0
  · rw [if_pos h1] at h; exact absurd h h1
  rw [if_neg h1] at h ⊢
  by_cases h2:to < 0∨1000000 < to
  · rw [if_pos h2] at h; exact absurd h (by decide)
  rw [if_neg h2] at h ⊢
  by_cases h3:500 < (uE z to).length∨500 < (vt z to).length
  · rw [if_pos h3] at h; exact absurd h (by decide)
  rw [if_neg h3]
  exact ⟨ok_of h1,by omega,by omega,by omega,by omega,rfl⟩
theorem roll_mk (h : OK z) (h1 : 0 ≤ to) (h2 : to ≤ 1000000) (h3 : (uE z to).length ≤ 500) (h4 : (vt z to).length ≤ 500) : roll z to = (rolled z to, 0) := by
  rw [roll,if_neg (by simp [h.wrong]),if_neg (by omega),if_neg (by omega)]; rfl
def forgot (z : Shelf) (tier to : Int) : Shelf :=
  if tier=0 then ⟨z.zV,fromS z.raw (rawF z to),z.fine,z.coarse,rawF z to,z.zW,z.zI,z.zN,z.zH⟩
  else if tier=1 then ⟨z.zV,z.raw,fromB z.fine (fineF z to),z.coarse,z.ze,fineF z to,z.zI,z.zN,z.zH⟩
  else ⟨z.zV,z.raw,z.fine,fromB z.coarse (coarseF z to),z.ze,z.zW,z.zI,coarseF z to,z.zH⟩
theorem forget_done (h : (forget z tier to).2 = 0) : OK z ∧ 0 ≤ to ∧ to ≤ 1000000 ∧ (tier = 0 ∨ tier = 1 ∨ tier = 2) ∧ forget z tier to = (forgot z tier to, 0) := by
  unfold forget forgot at *
  by_cases h1:wrong z≠0
  · rw [if_pos h1] at h; exact absurd h h1
  rw [if_neg h1] at h ⊢
  by_cases h2:to < 0∨1000000 < to
  · rw [if_pos h2] at h; exact absurd h (by decide)
  rw [if_neg h2] at h ⊢
  by_cases h3:tier=0
  · rw [if_pos h3,if_pos h3]; exact ⟨ok_of h1,by omega,by omega,.inl h3,rfl⟩
  rw [if_neg h3] at h ⊢
  by_cases h4:tier=1
  · rw [if_pos h4,if_neg h3,if_pos h4]; exact ⟨ok_of h1,by omega,by omega,.inr (.inl h4),rfl⟩
  rw [if_neg h4] at h ⊢
  by_cases h5:tier=2
  · rw [if_pos h5,if_neg h3,if_neg h4]; exact ⟨ok_of h1,by omega,by omega,.inr (.inr h5),rfl⟩
  rw [if_neg h5] at h; exact absurd h (by decide)
def Ahead (a b:Shelf):Prop:=a.ze≤b.ze∧a.zW≤b.zW∧a.zI≤b.zI∧a.zN≤b.zN∧a.zH≤b.zH
theorem append_right (h : (append z x).2 = 0) : OK (append z x).1 ∧ Ahead z (append z x).1 := by
  obtain ⟨ho,hx,hl,hn,e⟩:=append_done h
  rw [e]
  have hr:=ho.rawR
  have hx':=Codec.one_right hx
  have hln:=ho.lens
  obtain ⟨⟨g1,g2,g3,g4⟩,_⟩:=ho.rng
  have hall : ∀ y ∈ z.raw, y.time < x.time := fun y hy => by
    have h1:=late_any ho.rawRises x
    have h2:¬ (late z.raw x=true):=fun g=>hl (.inr g)
    rw [h1,List.any_eq_true] at h2
    have:¬ (x.time≤y.time):=fun g=>h2 ⟨y,hy,decide_eq_true g⟩
    omega
  refine ⟨mk_ok ho.zV ⟨by simp; omega,fun y hy=>?_,?_⟩ ho.fineT ho.coarseT hln.2.2.1 hln.2.2.2 ho.fit.1 fun y hy=>?_,⟨by simp,by simp,by simp,by simp,by simp⟩⟩
  · rcases List.mem_append.1 hy with h1 | h1
    · exact hr.rng y h1
    · obtain rfl:y=x:=by simpa using h1
      exact hx'
  · exact List.pairwise_append.2 ⟨hr.inc, by simp, fun y hy w hw => by obtain rfl : w = x := by simpa using hw
                                                                       exact hall y hy⟩
  · rcases List.mem_append.1 hy with h1 | h1
    · exact ho.rawAll y h1
    · obtain rfl:y=x:=by simpa using h1
      simp only; omega
theorem rolled_ok (h : OK z) (h1 : 0 ≤ to) (h2 : to ≤ 1000000) (h3 : (uE z to).length ≤ 500) (h4 : (vt z to).length ≤ 500) : OK (rolled z to) := by
  obtain ⟨⟨g1,g2,g3,g4⟩,⟨g5,g6,g7,g8,g9⟩,g10,g11,g12,g13,g14⟩:=h.rng
  obtain ⟨f1,f2,f3,f4⟩:=fineTo_rng h h1 h2
  obtain ⟨c1,c2,c3⟩:=coarseTo_rng h h1 h2
  exact mk_ok h.zV h.rawR (fineL_tier h h1 h2) (coarseL_tier h h1 h2) h3 h4 (times_iff.2 (by simp only [rolled]; omega)) h.rawAll
theorem roll_right (h : (roll z to).2 = 0) : OK (roll z to).1 ∧ Ahead z (roll z to).1 := by
  obtain ⟨ho,h1,h2,h3,h4,e⟩:=roll_done h
  rw [e]
  obtain ⟨f1,f2,f3,f4⟩:=fineTo_rng ho h1 h2
  obtain ⟨c1,c2,c3⟩:=coarseTo_rng ho h1 h2
  exact ⟨rolled_ok ho h1 h2 h3 h4,by simp [rolled],by simp [rolled],by simpa [rolled] using f1,by simp [rolled],by simpa [rolled] using c1⟩
theorem fromB_tier {l : List Bucket} {st lo hi f : Int} (h : Roll.Tier l st lo hi) : Roll.Tier (fromB l f) st f hi :=
  ⟨fun x hx => by
    obtain ⟨h1,h2⟩:=List.mem_filter.1 hx
    have:=h.ok x h1
    simp at h2
    omega,h.inc.sublist List.filter_sublist⟩
theorem rawF_rng (h : OK z) : z.ze ≤ rawF z to ∧ rawF z to ≤ z.zI := by
  have:=h.rng
  unfold rawF mx mn; split <;> split <;> omega
theorem fineF_rng (h : OK z) : z.zW ≤ fineF z to ∧ fineF z to ≤ z.zH ∧ fineF z to % 10 = 0 := by
  have:=h.rng
  unfold fineF mx mn; split <;> split <;> omega
theorem coarseF_rng (h : OK z) : z.zN ≤ coarseF z to ∧ coarseF z to ≤ z.zH ∧ coarseF z to % 60 = 0 := by
  have:=h.rng
  unfold coarseF mx mn; split <;> split <;> omega
theorem forgot_ok (h : OK z) (ht : tier = 0 ∨ tier = 1 ∨ tier = 2) : OK (forgot z tier to) ∧ Ahead z (forgot z tier to) := by
  obtain ⟨⟨g1,g2,g3,g4⟩,⟨g5,g6,g7,g8,g9⟩,g10,g11,g12,g13,g14⟩:=h.rng
  have hln:=h.lens
  have a1:=rawF_rng (to:=to) h; have a2:=fineF_rng (to:=to) h; have a3:=coarseF_rng (to:=to) h
  unfold forgot
  rcases ht with rfl | rfl | rfl
  · rw [if_pos rfl]
    refine ⟨mk_ok h.zV (h.rawR.filter _) h.fineT h.coarseT hln.2.2.1 hln.2.2.2 (times_iff.2 (by simp only; omega)) fun x hx=>?_,by unfold Ahead; simp only; omega⟩
    have:=(List.mem_filter.1 hx).2
    simpa using this
  · rw [if_neg (by decide),if_pos rfl]
    exact ⟨mk_ok h.zV h.rawR (fromB_tier h.fineT) h.coarseT (Nat.le_trans (fromB_len _ _) hln.2.2.1) hln.2.2.2 (times_iff.2 (by simp only; omega)) h.rawAll,by unfold Ahead; simp only; omega⟩
  · rw [if_neg (by decide),if_neg (by decide)]
    exact ⟨mk_ok h.zV h.rawR h.fineT (fromB_tier h.coarseT) hln.2.2.1 (Nat.le_trans (fromB_len _ _) hln.2.2.2) (times_iff.2 (by simp only; omega)) h.rawAll,by unfold Ahead; simp only; omega⟩
theorem forget_right (h : (forget z tier to).2 = 0) : OK (forget z tier to).1 ∧ Ahead z (forget z tier to).1 := by
  obtain ⟨ho,h1,h2,h3,e⟩:=forget_done h
  rw [e]
  exact forgot_ok ho h3
end
end Sh
end
section
namespace Roll
section
variable {α:Type} {t:α→Int} {s:α→Sum} {st:Int} {l:List α} {a b m:Int}
theorem fold_out : ∀ (B : List α) (out : List Bucket), (∀ b, out.getLast? = some b → ∀ x ∈ B, b.at_ ≠ at' (t x) st) → B.foldl (fun b x => add b (t x) st (s x)) out = out ++ gf t s st B := by
  intro B
  induction B using List.reverseRecOn' with
  | nil=>intro out _; simp [gf]
  | snoc B x ih =>
    intro out h
    rw [List.foldl_append,ih out (fun b hb y hy=>h b hb y (by simp [hy])),gf_snoc]
    simp only [List.foldl_cons,List.foldl_nil]
    rcases hg:gf t s st B with _ | ⟨c,r⟩
    · rw [List.append_nil]
      have hx:=fun b hb=>h b hb x (by simp)
      show add out (t x) st (s x)=out++add [] (t x) st (s x)
      rw [add_empty]
      unfold add
      split
      · rename_i b hl
        rw [if_neg (hx b hl)]
      · rename_i hl
        have:out=[]:=List.getLast?_eq_none_iff.1 hl
        subst this; rfl
    · unfold add
      have e1:(out++c::r).getLast?=(c::r).getLast?:=by rw [List.getLast?_append]; simp [List.getLast?_cons]
      rw [e1]
      cases hl:(c::r).getLast? with
      | none=>simp at hl
      | some b =>
        simp only
        split
        · rw [List.set_append]; simp; omega
        · rw [List.append_assoc]
theorem gf_append (hst : st = 10 ∨ st = 60) (hr : Rises t l) (h1 : a ≤ m) (h2 : m ≤ b) (hm : m % st = 0) : gf t s st (win t l a b) = gf t s st (win t l a m) ++ gf t s st (win t l m b) := by
  have hq:m / st * st=m:=by rcases hst with rfl | rfl <;> omega
  rw [win_split h1 h2 hr.inc]
  conv=>lhs; unfold gf
  rw [List.foldl_append]
  refine fold_out _ _ fun c hc x hx=>?_
  obtain ⟨y,hy,e⟩:=gf_ats (t:=t) (s:=s) (st:=st) _ c (List.mem_of_getLast? hc)
  obtain ⟨y1,y2,y3⟩:=win_mem.1 hy
  obtain ⟨x1,x2,x3⟩:=win_mem.1 hx
  have h3:=at_le hst (hr.rng y y1)
  have h4 : m ≤ at' (t x) st := by
    have hx0:=hr.rng x x1
    unfold at'
    rw [Int.tmod_eq_emod_of_nonneg hx0.1]
    rcases hst with rfl | rfl <;> (rw [wr_id (by omega) (by omega)]; omega)
  omega
end
theorem greater_ups2 : ∀ (l : List Sample), l.length ≤ 1000000 → (∀ x ∈ l, 0 ≤ x.time ∧ x.time ≤ 1000000) → greater (ups l 10) = ups l 60 := by
  intro l
  induction l using List.reverseRecOn' with
  | nil=>intro _ _; rfl
  | snoc l x ih =>
    intro hl hr
    have hlen:(l++[x]).length=l.length + 1:=by simp
    rw [hlen] at hl
    have hx:=hr x (by simp)
    have ih':=ih (by omega) (fun y hy=>hr y (by simp [hy]))
    rw [ups_snoc,ups_snoc,← ih']
    have hc:=ups_counts l 10 (by omega)
    have hat:=at_at hx.1 hx.2
    rcases add_cases (ups l 10) x.time 10 (Agg.one x.value) with e | ⟨l0,b,e0,hb,e⟩
    · rw [e,greater_snoc]
      exact add_time (by exact hat)
    · rw [e0] at hc
      rw [e,e0,greater_snoc,greater_snoc]
      have hci:=hc.init
      have hg:=greater_counts hci (by have:=hc.pos b (by simp); omega)
      have h1:=hc.pos b (by simp)
      show add (greater l0) b.at_ 60 (Agg.join b.sum (Agg.one x.value))=_
      rw [add_add hg (by simp [Agg.one]; omega) h1 (by simp [Agg.one]) (by rw [hb]; exact hat)]
theorem up2_win (l:List Sample) (a b:Int):up (inT l a b) 2=gf Sample.time (fun x=>Agg.one x.value) 60 (win Sample.time l a b):=rfl
section
variable {l:List Sample} {a b m:Int}
theorem up_append (hr:Rises Sample.time l) (h1:a≤m) (h2:m≤b) (hm:m % 10=0):up (inT l a b) 1=up (inT l a m) 1++up (inT l m b) 1:=gf_append (.inl rfl) hr h1 h2 hm
theorem up2_append (hr:Rises Sample.time l) (h1:a≤m) (h2:m≤b) (hm:m % 60=0):up (inT l a b) 2=up (inT l a m) 2++up (inT l m b) 2:=gf_append (.inr rfl) hr h1 h2 hm
theorem rises_len (hr : Rises Sample.time l) : l.length ≤ 1000001 := by
  have:=rise_len (t:=Sample.time) (b:=1000001) 1 (by decide) l 0 hr.inc (fun x hx=>by have:=hr.rng x hx; omega) (by omega) (by omega) (by omega)
  omega
theorem win_len (hr : Rises Sample.time l) (h0 : 0 ≤ a) (h1 : b ≤ 1000000) : (inT l a b).length ≤ 1000000 := by
  rcases Int.lt_or_le a b with h | h
  · have:=rise_len (t:=Sample.time) (b:=b) 1 (by decide) (win Sample.time l a b) a (win_rises hr).inc (fun x hx=>by have:=win_mem.1 hx; omega) (by omega) (by omega) (by omega)
    rw [win_inT]; omega
  · rw [win_inT,win_self h]; simp
theorem greater_up2 (hr : Rises Sample.time l) (h0 : 0 ≤ a) (h1 : b ≤ 1000000) : greater (up (inT l a b) 1) = up (inT l a b) 2 :=
  greater_ups2 _ (win_len hr h0 h1) fun x hx=>hr.rng x (win_mem.1 hx).1
theorem Tier.bIn_all {l:List Bucket} {st lo hi a b:Int} (h:Tier l st lo hi) (h1:a≤lo) (h2:hi≤b):Sh.bIn l a b=l:=List.filter_eq_self.2 fun x hx=>by have:=h.ok x hx; exact decide_eq_true ⟨by omega,by omega⟩
theorem Tier.bIn_none {l:List Bucket} {st lo hi a b:Int} (h:Tier l st lo hi) (h1:hi≤a∨b≤lo):Sh.bIn l a b=[]:=List.filter_eq_nil_iff.2 fun x hx=>by have:=h.ok x hx; simp; omega
theorem Tier.from_all {l:List Bucket} {st lo hi a:Int} (h:Tier l st lo hi) (h1:a≤lo):Sh.fromB l a=l:=List.filter_eq_self.2 fun x hx=>by have:=h.ok x hx; simp; omega
theorem Tier.from_none {l:List Bucket} {st lo hi a:Int} (h:Tier l st lo hi) (h1:hi≤a):Sh.fromB l a=[]:=List.filter_eq_nil_iff.2 fun x hx=>by have:=h.ok x hx; simp; omega
theorem up2_tier (hr : Rises Sample.time l) (ha : a % 60 = 0) (hb : b % 60 = 0) : Tier (up (inT l a b) 2) 60 a b := by
  rw [up2_win]
  obtain ⟨h1,h2⟩:=gf_to (s:=fun x=>Agg.one x.value) (.inr rfl) hr ha hb
  refine ⟨fun x hx=>?_,h2⟩
  obtain ⟨m,g1,g2,g3,g4,rfl⟩:=h1 x hx
  have hl:=rises_len hr
  have hw:(win Sample.time l m (m + 60)).length≤l.length:=List.length_filter_le ..
  have hc:=gsum_count (s:=fun x:Sample=>Agg.one x.value) 1 (by omega) (by omega) (win Sample.time l m (m + 60)) (by omega) (fun x _=>by simp [Agg.one])
  have hp:0 < (win Sample.time l m (m + 60)).length:=List.length_pos_iff.2 g4
  have hk:=rise_len (t:=Sample.time) (b:=m + 60) 1 (by decide) (win Sample.time l m (m + 60)) m (win_rises hr).inc (fun x hx=>by have:=win_mem.1 hx; omega) (by omega) (by omega) (by omega)
  simp only
  omega
theorem bIn_append (x y:List Bucket) (a b:Int):Sh.bIn (x++y) a b=Sh.bIn x a b++Sh.bIn y a b:=List.filter_append ..
theorem fromB_append (x y:List Bucket) (a:Int):Sh.fromB (x++y) a=Sh.fromB x a++Sh.fromB y a:=List.filter_append ..
theorem up_bIn {c d : Int} (hr : Rises Sample.time l) (ha : a % 10 = 0) (hb : b % 10 = 0) (hc : c % 10 = 0) (hd : d % 10 = 0) (h1 : a ≤ c) (h2 : c ≤ d) (h3 : d ≤ b) : Sh.bIn (up (inT l a b) 1) c d = up (inT l c d) 1 := by
  have hl:=rises_len hr
  rw [up_append hr h1 (by omega : c ≤ b) hc, up_append hr h2 h3 hd, bIn_append, bIn_append,
    (up_tier hr (by omega) ha hc).bIn_none (.inl (Int.le_refl _)),(up_tier hr (by omega) hc hd).bIn_all (Int.le_refl _) (Int.le_refl _),(up_tier hr (by omega) hd hb).bIn_none (.inr (Int.le_refl _)),List.nil_append,List.append_nil]
theorem up_from {c : Int} (hr : Rises Sample.time l) (ha : a % 10 = 0) (hb : b % 10 = 0) (hc : c % 10 = 0) (h1 : a ≤ c) (h2 : c ≤ b) : Sh.fromB (up (inT l a b) 1) c = up (inT l c b) 1 := by
  have hl:=rises_len hr
  rw [up_append hr h1 h2 hc,fromB_append,(up_tier hr (by omega) ha hc).from_none (Int.le_refl _),(up_tier hr (by omega) hc hb).from_all (Int.le_refl _),List.nil_append]
theorem up2_from {c : Int} (hr : Rises Sample.time l) (ha : a % 60 = 0) (hb : b % 60 = 0) (hc : c % 60 = 0) (h1 : a ≤ c) (h2 : c ≤ b) : Sh.fromB (up (inT l a b) 2) c = up (inT l c b) 2 := by
  rw [up2_append hr h1 h2 hc,fromB_append,(up2_tier hr ha hc).from_none (Int.le_refl _),(up2_tier hr hc hb).from_all (Int.le_refl _),List.nil_append]
theorem inT_from {f : Int} (h : f ≤ a) : inT (Sh.fromS l f) a b = inT l a b := by
  unfold inT Sh.fromS
  rw [List.filter_filter]
  exact List.filter_congr fun x _ => by
    rw [Bool.eq_iff_iff]; simp; omega
theorem inT_app_none {x : Sample} (h : b ≤ x.time) : inT (l ++ [x]) a b = inT l a b := by
  unfold inT
  rw [List.filter_append]
  have:¬ (a≤x.time∧x.time < b):=by omega
  simp [this]
end
end Roll
namespace Sh
structure Keep (z : Shelf) (all : List Sample) : Prop where
  ok:OK z
  rises:Roll.Rises Sample.time all
  vals:∀ x ∈ all,-1000000000≤x.value∧x.value≤1000000000
  raw:z.raw=fromS all z.ze
  fine:z.fine=Roll.up (Roll.inT all z.zW z.zI) 1
  coarse:z.coarse=Roll.up (Roll.inT all z.zN z.zH) 2
section
variable {z:Shelf} {all:List Sample} {x:Sample} {to tier:Int}
theorem Keep.append (h : Keep z all) (ha : (append z x).2 = 0) : Keep (append z x).1 (all ++ [x]) := by
  have hok:=(append_right ha).1
  obtain ⟨ho,hx,hl,hn,e⟩:=append_done ha
  rw [e] at hok ⊢
  have hx':=Codec.one_right hx
  obtain ⟨⟨g1,g2,g3,g4⟩,_⟩:=ho.rng
  have hlt : ∀ y ∈ all, y.time < x.time := fun y hy => by
    by_cases c:z.ze≤y.time
    · have hy':y ∈ z.raw:=by rw [h.raw]; exact List.mem_filter.2 ⟨hy,by simp; omega⟩
      have h2:¬ (late z.raw x=true):=fun g=>hl (.inr g)
      rw [late_any ho.rawRises x,List.any_eq_true] at h2
      have:¬ (x.time≤y.time):=fun g=>h2 ⟨y,hy',decide_eq_true g⟩
      omega
    · omega
  refine ⟨hok,⟨fun y hy=>?_,?_⟩,fun y hy=>?_,?_,?_,?_⟩
  · rcases List.mem_append.1 hy with h1 | h1
    · exact h.rises.rng y h1
    · obtain rfl:y=x:=by simpa using h1
      omega
  · exact List.pairwise_append.2 ⟨h.rises.inc,by simp,fun y hy w hw=>by rw [show w=x from by simpa using hw]; exact hlt y hy⟩
  · rcases List.mem_append.1 hy with h1 | h1
    · exact h.vals y h1
    · obtain rfl:y=x:=by simpa using h1
      omega
  · show z.raw++[x]=fromS (all++[x]) z.ze
    have:¬ x.time < z.ze:=by omega
    rw [h.raw,fromS,fromS,List.filter_append]
    simp [this]
  · show z.fine=Roll.up (Roll.inT (all++[x]) z.zW z.zI) 1
    rw [Roll.inT_app_none (by omega)]; exact h.fine
  · show z.coarse=Roll.up (Roll.inT (all++[x]) z.zN z.zH) 2
    rw [Roll.inT_app_none (by omega)]; exact h.coarse
theorem Keep.roll (h : Keep z all) (ha : (roll z to).2 = 0) : Keep (roll z to).1 all := by
  have hok:=(roll_right ha).1
  obtain ⟨ho,h1,h2,h3,h4,e⟩:=roll_done ha
  rw [e] at hok ⊢
  obtain ⟨⟨g1,g2,g3,g4⟩,⟨g5,g6,g7,g8,g9⟩,g10,g11,g12,g13,g14⟩:=ho.rng
  obtain ⟨f1,f2,f3,f4⟩:=fineTo_rng ho h1 h2
  obtain ⟨c1,c2,c3⟩:=coarseTo_rng ho h1 h2
  have hf : uE z to = Roll.up (Roll.inT all z.zW (zI z to)) 1 := by
    unfold uE
    rw [Roll.up_append h.rises g6 f1 g9,← h.fine]
    congr 1
    rw [h.raw,Roll.inT_from g2]
  refine ⟨hok,h.rises,h.vals,h.raw,hf,?_⟩
  show vt z to=Roll.up (Roll.inT all z.zN (zH z to)) 2
  unfold vt
  rw [hf,Roll.up_bIn h.rises g8 f4 (by omega) (by omega) g3 c1 c2,Roll.greater_up2 h.rises (by omega) (by omega),Roll.up2_append h.rises g11 c1 g14,← h.coarse]
theorem fromS_from {l : List Sample} {f g : Int} (h : f ≤ g) : fromS (fromS l f) g = fromS l g := by
  unfold fromS
  rw [List.filter_filter]
  exact List.filter_congr fun x _ => by
    rw [Bool.eq_iff_iff]; simp; omega
theorem Keep.forget (h : Keep z all) (ha : (forget z tier to).2 = 0) : Keep (forget z tier to).1 all := by
  have hok:=(forget_right ha).1
  obtain ⟨ho,h1,h2,h3,e⟩:=forget_done ha
  rw [e] at hok ⊢
  obtain ⟨⟨g1,g2,g3,g4⟩,⟨g5,g6,g7,g8,g9⟩,g10,g11,g12,g13,g14⟩:=ho.rng
  have a1:=rawF_rng (to:=to) ho; have a2:=fineF_rng (to:=to) ho; have a3:=coarseF_rng (to:=to) ho
  refine ⟨hok,h.rises,h.vals,?_,?_,?_⟩
  all_goals
    unfold forgot
    rcases h3 with rfl | rfl | rfl
  · show fromS z.raw (rawF z to)=fromS all (rawF z to)
    rw [h.raw,fromS_from a1.1]
  · exact h.raw
  · exact h.raw
  · exact h.fine
  · show fromB z.fine (fineF z to)=Roll.up (Roll.inT all (fineF z to) z.zI) 1
    rw [h.fine,Roll.up_from h.rises g8 g9 a2.2.2 a2.1 (by omega)]
  · exact h.fine
  · exact h.coarse
  · exact h.coarse
  · show fromB z.coarse (coarseF z to)=Roll.up (Roll.inT all (coarseF z to) z.zH) 2
    rw [h.coarse,Roll.up2_from h.rises g13 g14 a3.2.2 a3.1 a3.2.1]
end
def res (z:Shelf) (a:ShAct):Shelf × Int:=if a.kind=0 then append z a.zf else if a.kind=1 then roll z a.to else if a.kind=2 then forget z a.tier a.to else (z,1)
def step (p:Shelf × List Sample) (a:ShAct):Shelf × List Sample:=if (res p.1 a).2≠0 then p else ((res p.1 a).1,if a.kind=0 then p.2++[a.zf] else p.2)
def start:Shelf:=⟨[⟨⟨#[97]⟩,⟨#[98]⟩⟩],[],[],[],0,0,0,0,0⟩
def play (l:List ShAct):Shelf × List Sample:=l.foldl step (start,[])
section
variable {p:Shelf × List Sample} {a:ShAct}
theorem step_app_no (h:a.kind=0) (h2:(append p.1 a.zf).2≠0):step p a=p:=by rw [step,res,if_pos h,if_pos h2]
theorem step_app (h:a.kind=0) (h2:¬ (append p.1 a.zf).2≠0):step p a=((append p.1 a.zf).1,p.2++[a.zf]):=by rw [step,res,if_pos h,if_neg h2,if_pos h]
theorem step_roll_no (h:¬ a.kind=0) (h1:a.kind=1) (h2:(roll p.1 a.to).2≠0):step p a=p:=by rw [step,res,if_neg h,if_pos h1,if_pos h2]
theorem step_roll (h:¬ a.kind=0) (h1:a.kind=1) (h2:¬ (roll p.1 a.to).2≠0):step p a=((roll p.1 a.to).1,p.2):=by rw [step,res,if_neg h,if_pos h1,if_neg h2,if_neg h]
theorem step_forget_no (h:¬ a.kind=0) (h1:¬ a.kind=1) (h3:a.kind=2) (h2:(forget p.1 a.tier a.to).2≠0):step p a=p:=by rw [step,res,if_neg h,if_neg h1,if_pos h3,if_pos h2]
theorem step_forget (h:¬ a.kind=0) (h1:¬ a.kind=1) (h3:a.kind=2) (h2:¬ (forget p.1 a.tier a.to).2≠0):step p a=((forget p.1 a.tier a.to).1,p.2):=by rw [step,res,if_neg h,if_neg h1,if_pos h3,if_neg h2,if_neg h]
theorem step_none (h:¬ a.kind=0) (h1:¬ a.kind=1) (h3:¬ a.kind=2):step p a=p:=by rw [step,res,if_neg h,if_neg h1,if_neg h3,if_pos (show (1:Int)≠0 by decide)]
theorem Keep.step (h : Keep p.1 p.2) (a : ShAct) : Keep (step p a).1 (step p a).2 := by
  by_cases h0:a.kind=0
  · by_cases h2:(Sh.append p.1 a.zf).2≠0
    · rw [step_app_no h0 h2]; exact h
    · rw [step_app h0 h2]; exact h.append (Classical.not_not.1 h2)
  by_cases h1:a.kind=1
  · by_cases h2:(Sh.roll p.1 a.to).2≠0
    · rw [step_roll_no h0 h1 h2]; exact h
    · rw [step_roll h0 h1 h2]; exact h.roll (Classical.not_not.1 h2)
  by_cases h3:a.kind=2
  · by_cases h2:(Sh.forget p.1 a.tier a.to).2≠0
    · rw [step_forget_no h0 h1 h3 h2]; exact h
    · rw [step_forget h0 h1 h3 h2]; exact h.forget (Classical.not_not.1 h2)
  · rw [step_none h0 h1 h3]; exact h
end
theorem keep_new (s : List Label) (h : zc.wrong s = 0) : Keep ⟨s, [], [], [], 0,0,0,0, 0⟩ [] :=
  ⟨mk_ok h ⟨by simp,by simp,by simp⟩ ⟨by simp,by simp⟩ ⟨by simp,by simp⟩ (by simp) (by simp) (times_iff.2 (by simp only; omega)) (by simp),⟨by simp,by simp⟩,by simp,rfl,rfl,rfl⟩
theorem keep_play (l : List ShAct) : Keep (play l).1 (play l).2 := by
  have key : ∀ (l : List ShAct) (p : Shelf × List Sample), Keep p.1 p.2 → Keep (l.foldl step p).1 (l.foldl step p).2 := by
    intro l
    induction l with
    | nil=>exact fun p h=>h
    | cons a l ih=>exact fun p h=>ih _ (h.step a)
  exact key l _ (keep_new _ (by decide +kernel))
theorem play_len (l:List ShAct):(play l).2.length≤1000001:=Roll.rises_len (keep_play l).rises
end Sh
end
section
namespace Sh
def spanFrom (z:Shelf) (t:Int):Int:=if t=1 then z.zW else if t=2 then z.zN else z.ze
def spanTo (z:Shelf) (t:Int):Int:=if t=1 then z.zI else if t=2 then z.zH else 1000001
def stepOf (t:Int):Int:=mx (Roll.step t) 1
def may (z:Shelf) (p:Part):Prop:=¬ (p.tier < 0∨2 < p.tier∨p.to≤p.frm)∧spanFrom z p.tier≤p.frm∧p.to≤spanTo z p.tier∧Int.tmod p.frm (stepOf p.tier)=0∧Int.tmod p.to (stepOf p.tier)=0
instance (z:Shelf) (p:Part):Decidable (may z p):=by unfold may; infer_instance
theorem stepOf_pos (t:Int):stepOf t≠0:=by unfold stepOf mx Roll.step; (repeat' split) <;> omega
section
variable {z:Shelf} {p:Part}
theorem may0 (h : ¬ p.to ≤ p.frm) (ht : p.tier = 0) : may z p ↔ z.ze ≤ p.frm ∧ p.to ≤ 1000001 := by
  unfold may spanFrom spanTo
  rw [show stepOf p.tier=1 by rw [ht]; rfl,Int.tmod_one,Int.tmod_one,ht]
  simp; omega
theorem may1 (h : ¬ p.to ≤ p.frm) (ht : p.tier = 1) : may z p ↔ z.zW ≤ p.frm ∧ p.to ≤ z.zI ∧ Int.tmod p.frm 10 = 0 ∧ Int.tmod p.to 10 = 0 := by
  unfold may spanFrom spanTo
  rw [show stepOf p.tier=10 by rw [ht]; rfl,ht]
  simp; omega
theorem may2 (h : ¬ p.to ≤ p.frm) (ht : p.tier = 2) : may z p ↔ z.zN ≤ p.frm ∧ p.to ≤ z.zH ∧ Int.tmod p.frm 60 = 0 ∧ Int.tmod p.to 60 = 0 := by
  unfold may spanFrom spanTo
  rw [show stepOf p.tier=60 by rw [ht]; rfl,ht]
  simp; omega
theorem may_lt (h:may z p):p.frm < p.to:=by have:=h.1; omega
theorem may_tier (h:may z p):p.tier=0∨p.tier=1∨p.tier=2:=by have:=h.1; omega
theorem may_rng (ho : OK z) (h : may z p) : 0 ≤ p.frm ∧ p.frm < p.to ∧ p.to ≤ 1000001 := by
  have hl:=may_lt h
  have hr:=ho.rng
  rcases may_tier h with e | e | e
  · rw [may0 (by omega) e] at h; omega
  · rw [may1 (by omega) e] at h; omega
  · rw [may2 (by omega) e] at h; omega
end
def covers (z : Shelf) : List Part → Int → Int → Bool
  | [],f,t=>decide (f=t)
  | p::r,f,t=>decide (p.frm=f) && decide (may z p) && covers z r p.to t
def pick (z : Shelf) (f t : Int) : Part :=
  if f + Roll.step 2≤t∧may z ⟨2,f,f + Roll.step 2⟩ then ⟨2,f,f + Roll.step 2⟩
  else if f + Roll.step 1≤t∧may z ⟨1,f,f + Roll.step 1⟩ then ⟨1,f,f + Roll.step 1⟩
  else if mn (f - f % 10 + 10) t≤t∧may z ⟨0,f,mn (f - f % 10 + 10) t⟩ then ⟨0,f,mn (f - f % 10 + 10) t⟩
  else ⟨-1,0,0⟩
section
variable {z:Shelf} {f t:Int}
theorem pick_2 (h1:f + Roll.step 2≤t) (h2:may z ⟨2,f,f + Roll.step 2⟩):pick z f t=⟨2,f,f + Roll.step 2⟩:=by rw [pick,if_pos ⟨h1,h2⟩]
theorem pick_1 (n:¬ (f + Roll.step 2≤t∧may z ⟨2,f,f + Roll.step 2⟩)) (h1:f + Roll.step 1≤t) (h2:may z ⟨1,f,f + Roll.step 1⟩):pick z f t=⟨1,f,f + Roll.step 1⟩:=by rw [pick,if_neg n,if_pos ⟨h1,h2⟩]
theorem pick_0 (n:¬ (f + Roll.step 2≤t∧may z ⟨2,f,f + Roll.step 2⟩)) (m:¬ (f + Roll.step 1≤t∧may z ⟨1,f,f + Roll.step 1⟩)) (h1:mn (f - f % 10 + 10) t≤t) (h2:may z ⟨0,f,mn (f - f % 10 + 10) t⟩):pick z f t=⟨0,f,mn (f - f % 10 + 10) t⟩:=by rw [pick,if_neg n,if_neg m,if_pos ⟨h1,h2⟩]
theorem pick_no (n:¬ (f + Roll.step 2≤t∧may z ⟨2,f,f + Roll.step 2⟩)) (m:¬ (f + Roll.step 1≤t∧may z ⟨1,f,f + Roll.step 1⟩)) (q:¬ (mn (f - f % 10 + 10) t≤t∧may z ⟨0,f,mn (f - f % 10 + 10) t⟩)):pick z f t=⟨-1,0,0⟩:=by rw [pick,if_neg n,if_neg m,if_neg q]
theorem pick_may (h : ¬ (pick z f t).tier < 0) : may z (pick z f t) ∧ (pick z f t).frm = f ∧ (pick z f t).to ≤ t := by
  by_cases c2:f + Roll.step 2≤t∧may z ⟨2,f,f + Roll.step 2⟩
  · rw [pick_2 c2.1 c2.2]; exact ⟨c2.2,rfl,c2.1⟩
  by_cases c1:f + Roll.step 1≤t∧may z ⟨1,f,f + Roll.step 1⟩
  · rw [pick_1 c2 c1.1 c1.2]; exact ⟨c1.2,rfl,c1.1⟩
  by_cases c0:mn (f - f % 10 + 10) t≤t∧may z ⟨0,f,mn (f - f % 10 + 10) t⟩
  · rw [pick_0 c2 c1 c0.1 c0.2]; exact ⟨c0.2,rfl,c0.1⟩
  · rw [pick_no c2 c1 c0] at h; exact absurd (by decide) h
theorem pick_to (h : ¬ (pick z f t).tier < 0) : f < (pick z f t).to ∧ (pick z f t).to ≤ t := by
  obtain ⟨h1,h2,h3⟩:=pick_may h
  have:=may_lt h1; omega
end
def push (out : List Part) (p : Part) : List Part := match out.getLast? with
  | some q=>if q.tier=p.tier then out.set (out.length - 1) ⟨q.tier,q.frm,p.to⟩ else out++[p]
  | none=>out++[p]
theorem push_last {out : List Part} {q p : Part} (h : out[out.length - 1]? = some q) (he : q.tier = p.tier) : push out p = out.set (out.length - 1) ⟨q.tier, q.frm, p.to⟩ := by
  unfold push; rw [List.getLast?_eq_getElem?,h]; simp only; rw [if_pos he]
theorem push_new {out : List Part} {q p : Part} (h : out[out.length - 1]? = some q) (he : ¬ q.tier = p.tier) : push out p = out ++ [p] := by
  unfold push; rw [List.getLast?_eq_getElem?,h]; simp only; rw [if_neg he]
theorem push_nil {out : List Part} {p : Part} (h : out.length = 0) : push out p = out ++ [p] := by
  have:out=[]:=List.eq_nil_of_length_eq_zero h
  subst this; rfl
theorem push_len (out : List Part) (p : Part) : (push out p).length ≤ out.length + 1 := by
  unfold push; split
  · split <;> simp
  · simp
def chooseN (z : Shelf) (t : Int) : Nat → Int → List Part → Option (List Part)
  | 0,f,out=>if f < t then none else some out
  | n + 1,f,out=>if f < t then (if (pick z f t).tier < 0 then none else chooseN z t n (pick z f t).to (push out (pick z f t))) else some out
section
variable {z:Shelf} {t:Int}
theorem chooseN_enough : ∀ (n m : Nat) (f : Int) (out : List Part), (t - f).toNat ≤ n → (t - f).toNat ≤ m → chooseN z t n f out = chooseN z t m f out
  | 0,0,_,_,_,_=>rfl
  | 0, m + 1, f, out, h, _ => by
    have:¬ f < t:=by omega
    rw [chooseN,chooseN,if_neg this,if_neg this]
  | n + 1,0, f, out, _, h => by
    have:¬ f < t:=by omega
    rw [chooseN,chooseN,if_neg this,if_neg this]
  | n + 1, m + 1, f, out, h1, h2 => by
    rw [chooseN,chooseN]
    by_cases hf:f < t
    · rw [if_pos hf,if_pos hf]
      by_cases hp:(pick z f t).tier < 0
      · rw [if_pos hp,if_pos hp]
      · rw [if_neg hp,if_neg hp]
        have:=pick_to hp
        exact chooseN_enough n m _ _ (by omega) (by omega)
    · rw [if_neg hf,if_neg hf]
def chooseL (z:Shelf) (f t:Int) (out:List Part):Option (List Part):=chooseN z t (t - f).toNat f out
theorem chooseL_next {f : Int} {out : List Part} (hf : f < t) (hp : ¬ (pick z f t).tier < 0) : chooseL z f t out = chooseL z (pick z f t).to t (push out (pick z f t)) := by
  have h1:=pick_to hp
  obtain ⟨n,hn⟩:∃ n,(t - f).toNat=n + 1:=⟨(t - f).toNat - 1,by omega⟩
  unfold chooseL
  rw [hn,chooseN,if_pos hf,if_neg hp]
  exact chooseN_enough _ _ _ _ (by omega) (Nat.le_refl _)
theorem chooseL_gone {f : Int} {out : List Part} (hf : f < t) (hp : (pick z f t).tier < 0) : chooseL z f t out = none := by
  obtain ⟨n,hn⟩:∃ n,(t - f).toNat=n + 1:=⟨(t - f).toNat - 1,by omega⟩
  unfold chooseL
  rw [hn,chooseN,if_pos hf,if_pos hp]
theorem chooseL_end {f : Int} {out : List Part} (hf : ¬ f < t) : chooseL z f t out = some out := by
  have:(t - f).toNat=0:=by omega
  unfold chooseL
  rw [this,chooseN,if_neg hf]
end
def choose (z : Shelf) (f t : Int) : List Part × Int := if wrong z ≠ 0 then ([], wrong z) else if f < 0 ∨ t < f ∨ 1000000 < t then ([], 3) else match chooseL z f t [] with
  | none=>([],10)
  | some l=>(l,0)
section
variable {z:Shelf} {f t:Int}
theorem choose_wrong (h:wrong z≠0):choose z f t=([],wrong z):=by rw [choose,if_pos h]
theorem choose_range (h:¬ wrong z≠0) (h2:f < 0∨t < f∨1000000 < t):choose z f t=([],3):=by rw [choose,if_neg h,if_pos h2]
theorem choose_gone (h : ¬ wrong z ≠ 0) (h2 : ¬ (f < 0 ∨ t < f ∨ 1000000 < t)) {g : Int} {out : List Part} (e : chooseL z f t [] = chooseL z g t out) (hg : g < t) (hp : (pick z g t).tier < 0) : choose z f t = ([], 10) := by
  rw [choose,if_neg h,if_neg h2,e,chooseL_gone hg hp]
theorem choose_end (h : ¬ wrong z ≠ 0) (h2 : ¬ (f < 0 ∨ t < f ∨ 1000000 < t)) {g : Int} {out : List Part} (e : chooseL z f t [] = chooseL z g t out) (hg : ¬ g < t) : choose z f t = (out, 0) := by
  rw [choose,if_neg h,if_neg h2,e,chooseL_end hg]
theorem choose_done (h : (choose z f t).2 = 0) : OK z ∧ 0 ≤ f ∧ f ≤ t ∧ t ≤ 1000000 ∧ chooseL z f t [] = some (choose z f t).1 := by
  by_cases h1:wrong z≠0
  · rw [choose_wrong h1] at h; exact absurd h h1
  by_cases h2:f < 0∨t < f∨1000000 < t
  · rw [choose_range h1 h2] at h; exact absurd h (by decide)
  refine ⟨ok_of h1,by omega,by omega,by omega,?_⟩
  rw [choose,if_neg h1,if_neg h2] at h ⊢
  cases hc:chooseL z f t [] with
  | none=>rw [hc] at h; exact absurd h (by simp)
  | some l=>rfl
theorem choose_fail (h : (choose z f t).2 ≠ 0) : (choose z f t).1 = [] := by
  unfold choose at h ⊢
  split
  · rfl
  · split
    · rfl
    · rename_i h1 h2
      rw [if_neg h1,if_neg h2] at h
      split
      · rfl
      · rename_i l hl; rw [hl] at h; simp at h
end
def partSum (z:Shelf) (p:Part):Sum:=if p.tier=1 then Roll.of z.fine p.frm p.to else if p.tier=2 then Roll.of z.coarse p.frm p.to else Agg.of (Roll.inT z.raw p.frm p.to)
def partCost (z:Shelf) (p:Part):Int:=if p.tier=1 then (bIn z.fine p.frm p.to).length else if p.tier=2 then (bIn z.coarse p.frm p.to).length else (Roll.inT z.raw p.frm p.to).length
def apart (prev : Option Part) (p : Part) : Bool := match prev with
  | none=>false
  | some q=>decide (q.to≠p.frm)
def readN (z : Shelf) : Option Part → List Part → Sum → Int → Sum × Int × Int
  | _,[],s,c=>(s,c,0)
  | prev,p::r,s,c=>if ¬ may z p∨apart prev p=true then (Sum.zero,0,8) else readN z (some p) r (Agg.join s (partSum z p)) (c + partCost z p)
def read (z:Shelf) (l:List Part):Sum × Int × Int:=if wrong z≠0 then (Sum.zero,0,wrong z) else readN z none l Sum.zero 0
def prevP (l:List Part) (k:Nat):Option Part:=if k=0 then none else l[k - 1]?
section
variable {z:Shelf} {l:List Part} {k:Nat} {p q:Part} {s:Sum} {c:Int}
theorem read_step (h : l[k]? = some p) : readN z (prevP l k) (l.drop k) s c = if ¬ may z p ∨ apart (prevP l k) p = true then (Sum.zero, 0, 8) else readN z (prevP l (k + 1)) (l.drop (k + 1)) (Agg.join s (partSum z p)) (c + partCost z p) := by
  obtain ⟨hk,rfl⟩:=List.getElem?_eq_some_iff.1 h
  rw [List.drop_eq_getElem_cons hk,readN]
  have:prevP l (k + 1)=some l[k]:=by rw [prevP,if_neg (by omega)]; simp
  rw [this]
theorem read_end (h:l.length≤k) {o:Option Part}:readN z o (l.drop k) s c=(s,c,0):=by rw [List.drop_of_length_le h,readN]
theorem apart_zero (h:k=0):¬ (apart (prevP l k) p=true):=by rw [prevP,if_pos h]; simp [apart]
theorem apart_pos (h:¬ k=0) (hq:l[k - 1]?=some q):(apart (prevP l k) p=true)↔q.to≠p.frm:=by rw [prevP,if_neg h,hq]; simp [apart]
end
theorem partCost_rng {z : Shelf} (h : OK z) (p : Part) : 0 ≤ partCost z p ∧ partCost z p ≤ 500 := by
  have hl:=h.lens
  have h1:=bIn_len z.fine p.frm p.to
  have h2:=bIn_len z.coarse p.frm p.to
  have h3:=Roll.inT_len z.raw p.frm p.to
  unfold partCost
  split
  · omega
  · split <;> omega
end Sh
namespace Sh
def good (u:Sum) (n:Int):Prop:=0≤u.count∧u.count≤n∧(u.count=0→u=Sum.zero)
theorem good_zero:good Sum.zero 0:=⟨Int.le_refl _,Int.le_refl _,fun _=>rfl⟩
theorem good.mono {u:Sum} {n m:Int} (h:good u n) (hn:n≤m):good u m:=⟨h.1,Int.le_trans h.2.1 hn,h.2.2⟩
theorem good.join {u x : Sum} {n m : Int} (h : good u n) (hx : good x m) (hb : n + m ≤ 9223372036854775807) : good (Agg.join u x) (n + m) := by
  have h1:=h.1; have h2:=h.2.1; have h3:=hx.1; have h4:=hx.2.1
  have hc:=Agg.join_count h1 h3 (by omega)
  refine ⟨by omega,by omega,fun h0=>?_⟩
  have e1:u=Sum.zero:=h.2.2 (by omega)
  have e2:x=Sum.zero:=hx.2.2 (by omega)
  rw [e1,e2]; rfl
theorem gsum_good {α : Type} {s : α → Sum} (m : Int) (hm : 0 ≤ m) : ∀ (l : List α), m * l.length ≤ 9223372036854775807 → (∀ x ∈ l, 1 ≤ (s x).count ∧ (s x).count ≤ m) → good (Roll.gsum s l) (m * l.length) := by
  intro l
  induction l using List.reverseRecOn' with
  | nil =>
    intro _ _
    rw [show m * (([]:List α).length:Int)=0 by simp]
    exact good_zero
  | snoc l x ih =>
    intro hl h
    have e : m * ((l ++ [x]).length : Int) = m * l.length + m := by
      rw [List.length_append]; push_cast; rw [Int.mul_add]; simp
    rw [e] at hl ⊢
    have hx:=h x (by simp)
    rw [Roll.gsum_snoc]
    exact (ih (by omega) fun y hy=>h y (by simp [hy])).join ⟨by omega,hx.2,fun h0=>by omega⟩ (by omega)
def rawB (l:List Sample):List Bucket:=l.map fun x=>⟨x.time,Agg.of [x]⟩
theorem rawB_len (l:List Sample):(rawB l).length=l.length:=by simp [rawB]
theorem rawB_bIn (l : List Sample) (a b : Int) : bIn (rawB l) a b = rawB (Roll.inT l a b) := by
  unfold bIn rawB Roll.inT
  rw [List.filter_map]; rfl
theorem gsum_rawB (l : List Sample) : Roll.gsum Bucket.sum (rawB l) = Agg.of l := by
  induction l using List.reverseRecOn' with
  | nil=>rfl
  | snoc l x ih =>
    have:rawB (l++[x])=rawB l++[⟨x.time,Agg.of [x]⟩]:=by simp [rawB]
    rw [this,Roll.gsum_snoc,ih,Agg.of_snoc,Agg.of_one]
theorem rawB_of (l : List Sample) (a b : Int) : Roll.of (rawB l) a b = Agg.of (Roll.inT l a b) := by
  rw [Roll.of_win,← Roll.win_bIn,rawB_bIn,gsum_rawB]
def bucketsOf (z:Shelf) (p:Part):List Bucket:=if p.tier=2 then z.coarse else if p.tier=0 then rawB z.raw else z.fine
theorem bucketsOf_sum {z : Shelf} {p : Part} (h : may z p) : Roll.of (bucketsOf z p) p.frm p.to = partSum z p := by
  unfold bucketsOf partSum
  rcases may_tier h with e | e | e
  · rw [if_neg (by omega),if_pos e,if_neg (by omega),if_neg (by omega),rawB_of]
  · rw [if_neg (by omega),if_neg (by omega),if_pos e]
  · rw [if_pos e,if_neg (by omega),if_pos e]
theorem bucketsOf_ok {z : Shelf} (h : OK z) (p : Part) : (bucketsOf z p).length ≤ 500 ∧ ∀ x ∈ bucketsOf z p, 1 ≤ x.sum.count ∧ x.sum.count ≤ 60 := by
  have hl:=h.lens
  have hc:=h.coarseT; have hf:=h.fineT
  unfold bucketsOf
  split
  · exact ⟨hl.2.2.2,fun x hx=>by have:=hc.ok x hx; omega⟩
  · split
    · exact ⟨by rw [rawB_len]; exact hl.2.1, fun x hx => by
        obtain ⟨y,hy,rfl⟩:=List.mem_map.1 hx
        simp [Agg.of_one,Agg.one]⟩
    · exact ⟨hl.2.2.1,fun x hx=>by have:=hf.ok x hx; omega⟩
theorem of_good {l : List Bucket} (hl : l.length ≤ 500) (h : ∀ x ∈ l, 1 ≤ x.sum.count ∧ x.sum.count ≤ 60) (k : Nat) (a b : Int) : good (Roll.of (l.take k) a b) 30000 := by
  rw [Roll.of_win]
  have h1:(Roll.win Bucket.at_ (l.take k) a b).length≤l.length:=Nat.le_trans (List.length_filter_le ..) (List.length_take_le' k l)
  refine (gsum_good (s:=Bucket.sum) 60 (by decide) _ (by omega) fun x hx=>h x (List.mem_of_mem_take (Roll.win_mem.1 hx).1)).mono (by omega)
theorem partSum_good {z : Shelf} (ho : OK z) {p : Part} (h : may z p) : good (partSum z p) 30000 := by
  obtain ⟨h1,h2⟩:=bucketsOf_ok ho p
  have:=of_good h1 h2 (bucketsOf z p).length p.frm p.to
  rwa [List.take_length,bucketsOf_sum h] at this
theorem partSum_1 {z:Shelf} {p:Part} (h:p.tier=1):partSum z p=Roll.of z.fine p.frm p.to∧partCost z p=(bIn z.fine p.frm p.to).length:=by unfold partSum partCost; rw [if_pos h,if_pos h]; exact ⟨rfl,rfl⟩
theorem partSum_2 {z:Shelf} {p:Part} (h1:¬ p.tier=1) (h:p.tier=2):partSum z p=Roll.of z.coarse p.frm p.to∧partCost z p=(bIn z.coarse p.frm p.to).length:=by unfold partSum partCost; rw [if_neg h1,if_neg h1,if_pos h,if_pos h]; exact ⟨rfl,rfl⟩
theorem partSum_0 {z:Shelf} {p:Part} (h1:¬ p.tier=1) (h:¬ p.tier=2):partSum z p=Agg.of (Roll.inT z.raw p.frm p.to)∧partCost z p=(Roll.inT z.raw p.frm p.to).length:=by unfold partSum partCost; rw [if_neg h1,if_neg h1,if_neg h,if_neg h]; exact ⟨rfl,rfl⟩
section
variable {z:Shelf} {l:List Part} {k:Nat} {p:Part} {u:Sum} {c:Int}
theorem read_wrong (h:wrong z≠0):read z l=(Sum.zero,0,wrong z):=by rw [read,if_pos h]
theorem read_bad (h : ¬ wrong z ≠ 0) (e : readN z none l Sum.zero 0 = readN z (prevP l k) (l.drop k) u c) (hp : l[k]? = some p) (hb : ¬ may z p ∨ apart (prevP l k) p = true) : read z l = (Sum.zero, 0, 8) := by
  rw [read,if_neg h,e,read_step hp,if_pos hb]
theorem read_ok (h : ¬ wrong z ≠ 0) (e : readN z none l Sum.zero 0 = readN z (prevP l k) (l.drop k) u c) (hk : l.length ≤ k) : read z l = (u, c, 0) := by
  rw [read,if_neg h,e,read_end hk]
theorem read_next (e : readN z none l Sum.zero 0 = readN z (prevP l k) (l.drop k) u c) (hp : l[k]? = some p) (hm : may z p) (ha : ¬ (apart (prevP l k) p = true)) {x : Sum} {n : Int} (hx : partSum z p = x) (hn : partCost z p = n) : readN z none l Sum.zero 0 = readN z (prevP l (k + 1)) (l.drop (k + 1)) (Agg.join u x) (c + n) := by
  rw [e,read_step hp,if_neg (fun g=>g.elim (fun g=>g hm) ha),hx,hn]
end
theorem inT_of_succ {l : List Sample} {a b : Int} {k : Nat} {x : Sample} (h : l[k]? = some x) : Agg.of (Roll.inT (l.take (k + 1)) a b) = if a ≤ x.time ∧ x.time < b then Agg.join (Agg.of (Roll.inT (l.take k) a b)) (Agg.one x.value) else Agg.of (Roll.inT (l.take k) a b) := by
  rw [Roll.inT_succ h]; split
  · rw [Agg.of_snoc]
  · rfl
end Sh
end
section
namespace Roll
theorem gsum_tot {b : List Bucket} {n : Int} (h : Counts b n) (hn : n ≤ 1000000000) : (gsum Bucket.sum b).count = n ∧ 0 ≤ n := by
  induction b using List.reverseRecOn' generalizing n with
  | nil=>obtain ⟨_,rfl⟩:=h; exact ⟨rfl,by simp [tot]⟩
  | snoc b x ih =>
    have h1:=h.pos x (by simp)
    obtain ⟨i1,i2⟩:=ih h.init (by omega)
    rw [gsum_snoc,Agg.join_count (by omega) (by omega) (by omega),i1]
    omega
theorem gsum_ups (st : Int) : ∀ (l : List Sample), l.length ≤ 1048576 → gsum Bucket.sum (ups l st) = Agg.of l := by
  intro l
  induction l using List.reverseRecOn' with
  | nil=>intro _; rfl
  | snoc l x ih =>
    intro hl
    have hlen:(l++[x]).length=l.length + 1:=by simp
    rw [hlen] at hl
    have ih:=ih (by omega)
    have hc:=ups_counts l st (by omega)
    rw [ups_snoc,Agg.of_snoc,← ih]
    rcases add_cases (ups l st) x.time st (Agg.one x.value) with e | ⟨l0,b,e0,hb,e⟩
    · rw [e,gsum_snoc]
    · rw [e,e0,gsum_snoc,gsum_snoc]
      rw [e0] at hc
      have h1:=hc.pos b (by simp)
      obtain ⟨i1,i2⟩:=gsum_tot hc.init (by omega)
      exact Agg.join_assoc (by omega) (by omega) (by simp [Agg.one]) (by simp [Agg.one]; omega)
section
variable {l:List Sample} {a b c d:Int}
theorem up2_bIn (hr : Rises Sample.time l) (ha : a % 60 = 0) (hb : b % 60 = 0) (hc : c % 60 = 0) (hd : d % 60 = 0) (h1 : a ≤ c) (h2 : c ≤ d) (h3 : d ≤ b) : Sh.bIn (up (inT l a b) 2) c d = up (inT l c d) 2 := by
  rw [up2_append hr h1 (by omega : c ≤ b) hc, up2_append hr h2 h3 hd, bIn_append, bIn_append,
    (up2_tier hr ha hc).bIn_none (.inl (Int.le_refl _)),(up2_tier hr hc hd).bIn_all (Int.le_refl _) (Int.le_refl _),(up2_tier hr hd hb).bIn_none (.inr (Int.le_refl _)),List.nil_append,List.append_nil]
end
end Roll
namespace Sh
theorem covers_snoc {z : Shelf} {p : Part} : ∀ (l : List Part) (f t : Int), covers z (l ++ [p]) f t = true ↔ covers z l f p.frm = true ∧ may z p ∧ p.to = t
  | [], f, t => by
    simp only [List.nil_append,covers,Bool.and_eq_true,decide_eq_true_eq,and_assoc]
    exact ⟨fun ⟨h1,h2,h3⟩=>⟨h1.symm,h2,h3⟩,fun ⟨h1,h2,h3⟩=>⟨h1.symm,h2,h3⟩⟩
  | q :: l, f, t => by
    simp only [List.cons_append,covers,Bool.and_eq_true,decide_eq_true_eq,and_assoc]
    rw [covers_snoc l q.to t]
theorem covers_nil {z:Shelf} {f t:Int}:covers z [] f t=true↔f=t:=by simp [covers]
theorem covers_le {z : Shelf} : ∀ (l : List Part) (f t : Int), covers z l f t = true → f ≤ t := by
  intro l
  induction l using List.reverseRecOn' with
  | nil=>intro f t h; rw [covers_nil] at h; omega
  | snoc l p ih =>
    intro f t h
    obtain ⟨h1,h2,h3⟩:=(covers_snoc l f t).1 h
    have:=ih f p.frm h1; have:=may_lt h2; omega
def costs (z:Shelf) (l:List Part):Int:=l.foldl (fun c p=>c + partCost z p) 0
theorem costs_snoc (z:Shelf) (l:List Part) (p:Part):costs z (l++[p])=costs z l + partCost z p:=by simp [costs]
theorem readN_cov {z : Shelf} : ∀ (l : List Part) (prev : Option Part) (f t : Int) (s : Sum) (c : Int), covers z l f t = true → (∀ q, prev = some q → q.to = f) → readN z prev l s c = (l.foldl (fun a p => Agg.join a (partSum z p)) s, l.foldl (fun c p => c + partCost z p) c, 0)
  | [],_,_,_,_,_,_,_=>rfl
  | p :: l, prev, f, t, s, c, h, hq => by
    simp only [covers,Bool.and_eq_true,decide_eq_true_eq,and_assoc] at h
    obtain ⟨h1,h2,h3⟩:=h
    have hb : ¬ (¬ may z p ∨ apart prev p = true) := by
      rintro (g | g)
      · exact g h2
      · cases prev with
        | none=>simp [apart] at g
        | some q=>have:=hq q rfl; simp [apart] at g; omega
    rw [readN,if_neg hb,readN_cov l (some p) p.to t _ _ h3 (by rintro q ⟨⟩; rfl)]
    rfl
theorem read_cov {z : Shelf} (ho : OK z) {l : List Part} {f t : Int} (h : covers z l f t = true) : read z l = (Roll.gsum (partSum z) l, costs z l, 0) := by
  rw [read,if_neg (by simp [ho.wrong]),readN_cov l none f t _ _ h (by simp)]
  rfl
def Alt (l:List Part):Prop:=∀ (i:Nat) (p q:Part),l[i]?=some p→l[i + 1]?=some q→p.tier≠q.tier
theorem emod_tmod {a m:Int} (ha:0≤a):Int.tmod a m=a % m:=Int.tmod_eq_emod_of_nonneg ha
theorem may_join {z : Shelf} {q p : Part} (hq : may z q) (hp : may z p) (ht : q.tier = p.tier) (he : q.to = p.frm) : may z ⟨q.tier, q.frm, p.to⟩ := by
  have h1:=may_lt hq; have h2:=may_lt hp
  obtain ⟨a1,a2,a3,a4,a5⟩:=hq
  obtain ⟨b1,b2,b3,b4,b5⟩:=hp
  refine ⟨by simp only; omega,a2,?_,a4,?_⟩
  · show p.to≤spanTo z q.tier; rw [ht]; exact b3
  · show Int.tmod p.to (stepOf q.tier)=0; rw [ht]; exact b5
theorem push_cov {z : Shelf} {out : List Part} {p : Part} {f : Int} (h : covers z out f p.frm = true) (ha : Alt out) (hp : may z p) : covers z (push out p) f p.to = true ∧ Alt (push out p) := by
  rcases List.eq_nil_or_concat out with rfl | ⟨l,q,rfl⟩
  · have:push [] p=[]++[p]:=rfl
    rw [this]
    exact ⟨(covers_snoc [] f p.to).2 ⟨h, hp, rfl⟩, fun i a b h1 h2 => by
      match i,h1,h2 with
      | 0,_,h2=>simp at h2
      | i + 1,h1,_=>simp at h1⟩
  · rw [List.concat_eq_append] at *
    obtain ⟨c1,c2,c3⟩:=(covers_snoc l f p.frm).1 h
    have hl:(l++[q])[(l++[q]).length - 1]?=some q:=by simp
    by_cases ht:q.tier=p.tier
    · rw [push_last hl ht]
      have e:(l++[q]).set ((l++[q]).length - 1) ⟨q.tier,q.frm,p.to⟩=l++[⟨q.tier,q.frm,p.to⟩]:=by simp
      rw [e]
      refine ⟨(covers_snoc (p:=⟨q.tier,q.frm,p.to⟩) l f p.to).2 ⟨c1,may_join c2 hp ht c3,rfl⟩,fun i a b h1 h2=>?_⟩
      have hi:i + 1 < l.length + 1:=by have:=(List.getElem?_eq_some_iff.1 h2).1; simpa using this
      rw [List.getElem?_append_left (by omega)] at h1
      rcases Nat.lt_or_ge (i + 1) l.length with h3 | h3
      · rw [List.getElem?_append_left h3] at h2
        exact ha i a b (by rw [List.getElem?_append_left (by omega)]; exact h1) (by rw [List.getElem?_append_left h3]; exact h2)
      · have e2:i + 1=l.length:=by omega
        rw [List.getElem?_append_right h3,e2] at h2
        obtain rfl:_=b:=by simpa using h2
        exact ha i a q (by rw [List.getElem?_append_left (by omega)]; exact h1) (by rw [e2]; simp)
    · rw [push_new hl ht]
      refine ⟨(covers_snoc (l++[q]) f p.to).2 ⟨h,hp,rfl⟩,fun i a b h1 h2=>?_⟩
      have hi:i + 1 < l.length + 1 + 1:=by have:=(List.getElem?_eq_some_iff.1 h2).1; simpa using this
      rw [List.getElem?_append_left (by simp; omega)] at h1
      rcases Nat.lt_or_ge (i + 1) (l++[q]).length with h3 | h3
      · rw [List.getElem?_append_left h3] at h2
        exact ha i a b h1 h2
      · simp at h3
        have e2:i=l.length:=by omega
        subst e2
        rw [List.getElem?_append_right (by simp)] at h2
        obtain rfl:p=b:=by simpa using h2
        obtain rfl:q=a:=by simpa using h1
        exact ht
theorem chooseL_cov {z : Shelf} {t : Int} : ∀ (n : Nat) (f g : Int) (out l : List Part), (t - g).toNat ≤ n → g ≤ t → covers z out f g = true → Alt out → chooseL z g t out = some l → covers z l f t = true ∧ Alt l
  | n, f, g, out, l, hn, hg, hc, ha, h => by
    by_cases c:g < t
    · by_cases hp:(pick z g t).tier < 0
      · rw [chooseL_gone c hp] at h; cases h
      · rw [chooseL_next c hp] at h
        obtain ⟨m1,m2,m3⟩:=pick_may hp
        have hto:=pick_to hp
        obtain ⟨k1,k2⟩:=push_cov (z:=z) (p:=pick z g t) (by rw [m2]; exact hc) ha m1
        match n,hn with
        | 0,hn=>omega
        | n + 1,hn=>exact chooseL_cov n f _ _ l (by omega) hto.2 k1 k2 h
    · rw [chooseL_end c] at h
      obtain rfl:out=l:=by simpa using h
      obtain rfl:g=t:=by omega
      exact ⟨hc,ha⟩
section
variable {z:Shelf} {f t:Int}
theorem choose_cov (h : (choose z f t).2 = 0) : OK z ∧ covers z (choose z f t).1 f t = true ∧ Alt (choose z f t).1 := by
  obtain ⟨ho,h1,h2,h3,e⟩:=choose_done h
  obtain ⟨k1,k2⟩:=chooseL_cov _ f f [] _ (Nat.le_refl _) h2 (covers_nil.2 rfl) (fun i p q h=>by simp at h) e
  exact ⟨ho,k1,k2⟩
theorem covers_len : ∀ (l : List Part) (f t : Int), covers z l f t = true → (l.length : Int) ≤ t - f
  | [],f,t,h=>by rw [covers_nil] at h; simp; omega
  | p :: l, f, t, h => by
    simp only [covers,Bool.and_eq_true,decide_eq_true_eq,and_assoc] at h
    obtain ⟨h1,h2,h3⟩:=h
    have:=covers_len l _ _ h3
    have:=may_lt h2
    simp only [List.length_cons]; push_cast; omega
theorem choose_len (z : Shelf) (f t : Int) : (choose z f t).1.length ≤ 1048576 := by
  by_cases h:(choose z f t).2=0
  · obtain ⟨_,h1,h2,h3,_⟩:=choose_done h
    have:=covers_len _ _ _ (choose_cov h).2.1
    omega
  · rw [choose_fail h]; simp
end
section
variable {z:Shelf} {all:List Sample} {f t:Int} {p:Part}
theorem Keep.part (h : Keep z all) (hp : may z p) : partSum z p = Agg.of (Roll.inT all p.frm p.to) ∧ partCost z p ≤ (Roll.inT all p.frm p.to).length := by
  obtain ⟨⟨g1,g2,g3,g4⟩,⟨g5,g6,g7,g8,g9⟩,g10,g11,g12,g13,g14⟩:=h.ok.rng
  have hl:=Roll.rises_len h.rises
  have hw:=Roll.inT_len all p.frm p.to
  obtain ⟨r1,r2,r3⟩:=may_rng h.ok hp
  have hlt:=may_lt hp
  rcases may_tier hp with e | e | e
  · rw [may0 (by omega) e] at hp
    obtain ⟨k1,k2⟩:=partSum_0 (z:=z) (p:=p) (by omega) (by omega)
    rw [k1,k2,h.raw,Roll.inT_from hp.1]
    exact ⟨rfl,Int.le_refl _⟩
  · rw [may1 (by omega) e,emod_tmod r1,emod_tmod (by omega)] at hp
    obtain ⟨k1,k2⟩:=partSum_1 (z:=z) (p:=p) e
    have hb : bIn z.fine p.frm p.to = Roll.up (Roll.inT all p.frm p.to) 1 := by
      rw [h.fine,Roll.up_bIn h.rises g8 g9 hp.2.2.1 hp.2.2.2 hp.1 (by omega) hp.2.1]
    rw [k1,k2,Roll.of_win,← Roll.win_bIn,hb]
    refine ⟨Roll.gsum_ups 10 _ (by omega),?_⟩
    have:=Roll.up_len (Roll.inT all p.frm p.to) 1
    omega
  · rw [may2 (by omega) e,emod_tmod r1,emod_tmod (by omega)] at hp
    obtain ⟨k1,k2⟩:=partSum_2 (z:=z) (p:=p) (by omega) e
    have hb : bIn z.coarse p.frm p.to = Roll.up (Roll.inT all p.frm p.to) 2 := by
      rw [h.coarse,Roll.up2_bIn h.rises g13 g14 hp.2.2.1 hp.2.2.2 hp.1 (by omega) hp.2.1]
    rw [k1,k2,Roll.of_win,← Roll.win_bIn,hb]
    refine ⟨Roll.gsum_ups 60 _ (by omega),?_⟩
    have:=Roll.up_len (Roll.inT all p.frm p.to) 2
    omega
theorem Keep.covered (h : Keep z all) : ∀ (l : List Part) (f t : Int), covers z l f t = true → Roll.gsum (partSum z) l = Agg.of (Roll.inT all f t) ∧ costs z l ≤ (Roll.inT all f t).length := by
  intro l
  induction l using List.reverseRecOn' with
  | nil =>
    intro f t hc
    rw [covers_nil] at hc
    subst hc
    have:Roll.inT all f f=[]:=Roll.win_self (Int.le_refl _)
    rw [this]; exact ⟨rfl,Int.le_refl _⟩
  | snoc l p ih =>
    intro f t hc
    obtain ⟨c1,c2,c3⟩:=(covers_snoc l f t).1 hc
    obtain ⟨i1,i2⟩:=ih f p.frm c1
    obtain ⟨k1,k2⟩:=h.part c2
    have hle:=covers_le l _ _ c1
    have hlt:=may_lt c2
    have hl:=Roll.rises_len h.rises
    have e : Roll.inT all f t = Roll.inT all f p.frm ++ Roll.inT all p.frm p.to := by
      rw [← c3]; exact Roll.win_split hle (by omega) h.rises.inc
    have hw1:=Roll.inT_len all f p.frm
    have hw2:=Roll.inT_len all p.frm p.to
    rw [Roll.gsum_snoc,costs_snoc,i1,k1,e]
    refine ⟨(Agg.of_append _ _ (by omega)).symm,?_⟩
    rw [List.length_append]; push_cast; omega
end
def forgetAll (s0 : Shelf) : Shelf → Int → List Int → Shelf × Bool
  | y,_,[]=>(y,true)
  | y,i,o::r=>if (forget y i o).2≠0 then (s0,false) else forgetAll s0 (forget y i o).1 (i + 1) r
end Sh
end
section
namespace Mn
open Ex
mutual
def low (d : Int) : Expr → Prop
  | .mk _ _ _ _ _ _ ks=>d≤20∧lows (d + 1) ks
def lows (d : Int) : List Expr → Prop
  | []=>True
  | x::xs=>low d x∧lows d xs
end
end Mn
end
section
theorem bl_size (a:ByteArray):a.size=a.data.toList.length:=by rw [Array.length_toList]; rfl
end
section
namespace Pz
open Ex
def rest (s:ByteArray) (i:Nat):List UInt8:=s.data.toList.drop i
def run (p:UInt8→Bool) (s:ByteArray) (i:Nat):Nat:=i + ((rest s i).takeWhile p).length
theorem size_l (s:ByteArray):s.data.toList.length=s.size:=(bl_size s).symm
theorem rest_cons {s : ByteArray} {i : Nat} {b : UInt8} (h : s[i]? = some b) : rest s i = b :: rest s (i + 1) := by
  obtain ⟨h1,h2⟩:=List.getElem?_eq_some_iff.1 (zc.at_list h)
  unfold rest; rw [List.drop_eq_getElem_cons h1,h2]
theorem rest_nil {s:ByteArray} {i:Nat} (h:s.size≤i):rest s i=[]:=by unfold rest; exact List.drop_of_length_le (by rw [size_l]; exact h)
theorem run_step {p : UInt8 → Bool} {s : ByteArray} {i : Nat} {b : UInt8} (h : s[i]? = some b) (hp : p b = true) : run p s i = run p s (i + 1) := by
  unfold run; rw [rest_cons h,List.takeWhile_cons_of_pos hp,List.length_cons]; omega
theorem run_stop {p : UInt8 → Bool} {s : ByteArray} {i : Nat} {b : UInt8} (h : s[i]? = some b) (hp : p b = false) : run p s i = i := by
  unfold run; rw [rest_cons h,List.takeWhile_cons_of_neg (by simp [hp])]; rfl
theorem run_end {p : UInt8 → Bool} {s : ByteArray} {i : Nat} (h : s.size ≤ i) : run p s i = i := by
  unfold run; rw [rest_nil h]; rfl
theorem run_le (p : UInt8 → Bool) {s : ByteArray} {i : Nat} (h : i ≤ s.size) : i ≤ run p s i ∧ run p s i ≤ s.size := by
  have h1:=(List.takeWhile_prefix p (l:=rest s i)).length_le
  unfold run
  have h2:(rest s i).length=s.size - i:=by unfold rest; rw [List.length_drop,size_l]
  omega
def spc (b:UInt8):Bool:=decide (b.toNat=32)
def low (b:UInt8):Bool:=decide (97≤b.toNat∧b.toNat≤122)
def dig (b:UInt8):Bool:=decide (48≤b.toNat∧b.toNat≤57)
def wch (b:UInt8):Bool:=decide ((97≤b.toNat∧b.toNat≤122)∨(48≤b.toNat∧b.toNat≤57)∨b.toNat=95)
def blank (s:ByteArray) (i:Nat):Nat:=run spc s i
theorem blank_step {s:ByteArray} {i:Nat} {b:UInt8} (h:s[i]?=some b) (hp:(b.toNat:Int)=32):blank s i=blank s (i + 1):=run_step h (by simp [spc]; omega)
theorem blank_stop {s:ByteArray} {i:Nat} {b:UInt8} (h:s[i]?=some b) (hp:¬ (b.toNat:Int)=32):blank s i=i:=run_stop h (by simp [spc]; omega)
theorem blank_end {s:ByteArray} {i:Nat} (h:s.size≤i):blank s i=i:=run_end h
theorem blank_le {s:ByteArray} {i:Nat} (h:i≤s.size):i≤blank s i∧blank s i≤s.size:=run_le _ h
theorem dig_step {s:ByteArray} {i:Nat} {b:UInt8} (h:s[i]?=some b) (hp:48≤(b.toNat:Int)∧(b.toNat:Int)≤57):run dig s i=run dig s (i + 1):=run_step h (by simp [dig]; omega)
theorem dig_stop {s:ByteArray} {i:Nat} {b:UInt8} (h:s[i]?=some b) (hp:¬ (48≤(b.toNat:Int)∧(b.toNat:Int)≤57)):run dig s i=i:=run_stop h (by simp [dig]; omega)
def wend (s : ByteArray) (i : Nat) : Nat := match rest s i with
  | []=>i
  | b::_=>if low b=true then run wch s i else i
theorem wend_next {s : ByteArray} {i k : Nat} {b : UInt8} (hb : s[k]? = some b) (hI : k = i ∨ (i < k ∧ wend s i = run wch s k)) (hc : (97 ≤ (b.toNat : Int) ∧ (b.toNat : Int) ≤ 122) ∨ (k ≠ i ∧ ((48 ≤ (b.toNat : Int) ∧ (b.toNat : Int) ≤ 57) ∨ (b.toNat : Int) = 95))) : wend s i = run wch s (k + 1) := by
  rcases hI with rfl | ⟨h1,h2⟩
  · unfold wend; rw [rest_cons hb]
    show (if low b=true then _ else _)=_
    rw [if_pos (by simp [low]; omega),run_step hb (by simp [wch]; omega)]
  · rw [h2,run_step hb (by simp [wch]; omega)]
theorem wend_done {s : ByteArray} {i k : Nat} {b : UInt8} (hb : s[k]? = some b) (hI : k = i ∨ (i < k ∧ wend s i = run wch s k)) (hc : ¬ ((97 ≤ (b.toNat : Int) ∧ (b.toNat : Int) ≤ 122) ∨ (k ≠ i ∧ ((48 ≤ (b.toNat : Int) ∧ (b.toNat : Int) ≤ 57) ∨ (b.toNat : Int) = 95)))) : wend s i = k := by
  rcases hI with rfl | ⟨h1,h2⟩
  · unfold wend; rw [rest_cons hb]
    show (if low b=true then _ else _)=_
    rw [if_neg (by simp [low]; omega)]
  · rw [h2,run_stop hb (by simp [wch]; omega)]
theorem wend_end {s : ByteArray} {i k : Nat} (h : s.size ≤ k) (hI : k = i ∨ (i < k ∧ wend s i = run wch s k)) : wend s i = k := by
  rcases hI with rfl | ⟨h1,h2⟩
  · unfold wend; rw [rest_nil h]
  · rw [h2,run_end h]
theorem wend_le {s : ByteArray} {i : Nat} (h : i ≤ s.size) : i ≤ wend s i ∧ wend s i ≤ s.size := by
  unfold wend
  split
  · omega
  · split
    · exact run_le _ h
    · omega
def pfx (s sg:ByteArray) (i:Nat):Bool:=sg.data.toList.isPrefixOf (rest s i)
def eat (s sg:ByteArray) (i:Nat):Bool × Nat:=if pfx s sg (blank s i)=true then (true,blank s i + sg.size) else (false,blank s i)
theorem pfx_le {s sg : ByteArray} {i : Nat} (h : pfx s sg i = true) (hi : i ≤ s.size) : i + sg.size ≤ s.size := by
  have h1:=(List.isPrefixOf_iff_prefix.1 h).length_le
  have h2:(rest s i).length=s.size - i:=by unfold rest; rw [List.length_drop,size_l]
  rw [size_l] at h1; omega
theorem eat_le {s : ByteArray} (sg : ByteArray) {i : Nat} (h : i ≤ s.size) : i ≤ (eat s sg i).2 ∧ (eat s sg i).2 ≤ s.size := by
  have h1:=blank_le h
  unfold eat
  split
  · rename_i h2; have:=pfx_le h2 h1.2; constructor <;> (show _≤_; simp only; omega)
  · exact h1
structure St where
  at_:Nat
  nd:Int
abbrev F:=Int × Int
inductive Res (α : Type) where
  | ok (a:α)
  | no (f:F)
def Res.then {α β : Type} (x : Res α) (g : α → Res β) : Res β := match x with
  | .ok a=>g a
  | .no f=>.no f
theorem then_ok {α β:Type} (a:α) (g:α→Res β):(Res.ok a).then g=g a:=rfl
theorem then_no {α β:Type} (f:F) (g:α→Res β):(Res.no f:Res α).then g=.no f:=rfl
def St.go (t:St) (i:Nat):St:=⟨i,t.nd⟩
def must (s sg:ByteArray) (t:St):Res St:=if (eat s sg t.at_).1=true then .ok (t.go (eat s sg t.at_).2) else .no (2,(eat s sg t.at_).2)
def word (s : ByteArray) (t : St) : Res (ByteArray × St) :=
  if 12 < wend s (blank s t.at_) - blank s t.at_ then .no (7,blank s t.at_) else .ok (s.extract (blank s t.at_) (wend s (blank s t.at_)),t.go (wend s (blank s t.at_)))
def name (s:ByteArray) (t:St):Res (ByteArray × St):=(word s t).then fun x=>if x.1=⟨#[]⟩ then .no (2,x.2.at_) else .ok x
def dval (l:List UInt8):Nat:=l.foldl (fun n b=>10 * n + (b.toNat - 48)) 0
def numAt (s:ByteArray) (b:Nat):Int:=dval (s.extract b (run dig s b)).data.toList
def badNum (s:ByteArray) (least most:Int) (b:Nat):Prop:=numAt s b < least∨most < numAt s b∨(s[b]?=some 48∧b + 1 < run dig s b)
instance (s:ByteArray) (least most:Int) (b:Nat):Decidable (badNum s least most b):=by unfold badNum; infer_instance
def num (s : ByteArray) (least most : Int) (t : St) : Res (Int × St) :=
  if run dig s (blank s t.at_)=blank s t.at_ then .no (2,blank s t.at_) else if badNum s least most (blank s t.at_) then .no (3,blank s t.at_)
  else .ok (numAt s (blank s t.at_),t.go (run dig s (blank s t.at_)))
def node (t:St):Res St:=if 100 < t.nd + 1 then .no (4,t.at_) else .ok ⟨t.at_,t.nd + 1⟩
def g (l:List UInt8):ByteArray:=⟨l.toArray⟩
def match_ (s : ByteArray) (t : St) : Res (Match × St) :=
  if (eat s ⟨#[33]⟩ t.at_).1=true then (name s (t.go (eat s ⟨#[33]⟩ t.at_).2)).then fun x=>.ok (⟨4,x.1,⟨#[]⟩⟩,x.2)
  else (name s (t.go (eat s ⟨#[33]⟩ t.at_).2)).then fun x =>
    if (eat s ⟨#[33,61]⟩ x.2.at_).1=true then (name s (x.2.go (eat s ⟨#[33,61]⟩ x.2.at_).2)).then fun y=>.ok (⟨2,x.1,y.1⟩,y.2)
    else if (eat s ⟨#[61]⟩ (eat s ⟨#[33,61]⟩ x.2.at_).2).1=true then (name s (x.2.go (eat s ⟨#[61]⟩ (eat s ⟨#[33,61]⟩ x.2.at_).2).2)).then fun y=>.ok (⟨1,x.1,y.1⟩,y.2)
    else .ok (⟨3,x.1,⟨#[]⟩⟩,x.2.go (eat s ⟨#[61]⟩ (eat s ⟨#[33,61]⟩ x.2.at_).2).2)
def winL (s : ByteArray) : Nat → List Match → St → Res (List Match × St)
  | 0,_,_=>.no (4,0)
  | n + 1, ms, t =>
    if (eat s ⟨#[125]⟩ t.at_).1=true then .ok (ms,t.go (eat s ⟨#[125]⟩ t.at_).2)
    else (if 0 < ms.length then must s ⟨#[44]⟩ (t.go (eat s ⟨#[125]⟩ t.at_).2) else .ok (t.go (eat s ⟨#[125]⟩ t.at_).2)).then fun u =>
      if ms.length=5 then .no (5,u.at_) else (match_ s u).then fun x=>winL s n (ms++[x.1]) x.2
def window (s w : ByteArray) (t : St) : Res (Expr × St) :=
  (must s ⟨#[40]⟩ t).then fun a => (must s ⟨#[123]⟩ a).then fun b => (winL s 6 [] b).then fun c => (must s ⟨#[91]⟩ c.2).then fun d =>
    (num s 1 100000 d).then fun n=>(must s ⟨#[93]⟩ n.2).then fun h=>(must s ⟨#[41]⟩ h).then fun i=>(node i).then fun j=>.ok (.mk 2 0 n.1 w c.1 [] [],j)
def byL (s : ByteArray) : Nat → List ByteArray → St → Res (List ByteArray × St)
  | 0,_,_=>.no (4,0)
  | n + 1, l, t => if (eat s ⟨#[44]⟩ t.at_).1 = true then (if l.length = 4 then .no (5, (eat s ⟨#[44]⟩ t.at_).2) else (name s (t.go (eat s ⟨#[44]⟩ t.at_).2)).then fun x => byL s n (l ++ [x.1]) x.2)
    else .ok (l,t.go (eat s ⟨#[44]⟩ t.at_).2)
def bys (s v:ByteArray) (t:St):Res (List ByteArray × St):=if v=⟨#[98,121]⟩ then (name s t).then fun k=>byL s 5 [k.1] k.2 else .ok ([],t)
def allTail (s : ByteArray) (kid : St → Res (Expr × St)) (w : ByteArray) (l : List ByteArray) (t : St) : Res (Expr × St) :=
  (must s ⟨#[40]⟩ t).then fun z=>(kid z).then fun e=>(must s ⟨#[41]⟩ e.2).then fun b=>(node b).then fun c=>.ok (.mk 3 0 0 w [] l [e.1],c)
def all (s : ByteArray) (kid : St → Res (Expr × St)) (t : St) : Res (Expr × St) :=
  (name s (t.go (blank s t.at_))).then fun x => if ¬ 0 ≤ zc.indexOf Lg.totals x.1 0 then .no (7, blank s t.at_) else
    (word s (x.2.go (blank s x.2.at_))).then fun v => if v.1 ≠ ⟨#[]⟩ ∧ v.1 ≠ ⟨#[98,121]⟩ then .no (2, blank s x.2.at_) else
      (bys s v.1 v.2).then fun l=>allTail s kid x.1 l.1 l.2
def factor (s : ByteArray) (kid : St → Res (Expr × St)) (t : St) : Res (Expr × St) :=
  if (eat s ⟨#[40]⟩ t.at_).1=true then (kid (t.go (eat s ⟨#[40]⟩ t.at_).2)).then fun e=>(must s ⟨#[41]⟩ e.2).then fun u=>.ok (e.1,u)
  else (word s (t.go (blank s (eat s ⟨#[40]⟩ t.at_).2))).then fun w =>
    if w.1=⟨#[97,108,108]⟩ then all s kid w.2
    else if w.1=⟨#[]⟩ then (num s 0 1000000 w.2).then fun n=>(node n.2).then fun c=>.ok (.mk 1 n.1 0 ⟨#[]⟩ [] [] [],c)
    else if ¬ 0≤zc.indexOf Agg.words w.1 0 then .no (7,blank s (eat s ⟨#[40]⟩ t.at_).2) else window s w.1 w.2
def pick (s : ByteArray) : List ByteArray → Nat → ByteArray × Nat
  | [],i=>(⟨#[]⟩,i)
  | g::gs,i=>if (eat s g i).1=true then (g,(eat s g i).2) else pick s gs (eat s g i).2
def binL (s : ByteArray) (sub : St → Res (Expr × St)) (signs : List ByteArray) : Nat → Expr → St → Res (Expr × St)
  | 0,_,_=>.no (4,0)
  | n + 1, e, t => if (pick s signs t.at_).1 = ⟨#[]⟩ then .ok (e, t.go (pick s signs t.at_).2)
    else (sub (t.go (pick s signs t.at_).2)).then fun f=>(node f.2).then fun u=>binL s sub signs n (.mk 4 0 0 (pick s signs t.at_).1 [] [] [e,f.1]) u
def sumOf (s:ByteArray) (sub:St→Res (Expr × St)) (signs:List ByteArray) (t:St):Res (Expr × St):=(sub t).then fun e=>binL s sub signs 101 e.1 e.2
def star:List ByteArray:=[⟨#[42]⟩]
def plus:List ByteArray:=[⟨#[43]⟩,⟨#[45]⟩]
def fac (s : ByteArray) : Nat → St → Res (Expr × St)
  | 0,t=>.no (4,t.at_)
  | n + 1,t=>factor s (fun u=>sumOf s (fun v=>sumOf s (fac s n) star v) plus u) t
def trm (s:ByteArray) (n:Nat):St→Res (Expr × St):=fun v=>sumOf s (fac s n) star v
def xpr (s:ByteArray) (n:Nat):St→Res (Expr × St):=fun u=>sumOf s (trm s n) plus u
theorem fac_succ (s:ByteArray) (n:Nat) (t:St):fac s (n + 1) t=factor s (xpr s n) t:=rfl
def none_:Expr:=.mk 0 0 0 ⟨#[]⟩ [] [] []
def parse (s : ByteArray) : Expr × F :=
  if 2000 < s.size then (none_,(4,0)) else match xpr s 20 ⟨0,0⟩ with
  | .no f=>(none_,f)
  | .ok x=>if blank s x.2.at_ < s.size then (none_,(2,blank s x.2.at_)) else if Lg.wrong x.1≠0 then (none_,(4,blank s x.2.at_)) else (x.1,(0,0))
structure Good (s : ByteArray) (t u : St) : Prop where
  at_:u.at_≤s.size
  mono:t.nd≤u.nd
  most:t.nd≤100→u.nd≤100
theorem Good.refl {s:ByteArray} {t:St} (h:t.at_≤s.size):Good s t t:=⟨h,Int.le_refl _,id⟩
theorem Good.trans {s:ByteArray} {t u v:St} (h:Good s t u) (k:Good s u v):Good s t v:=⟨k.at_,Int.le_trans h.mono k.mono,fun g=>k.most (h.most g)⟩
def Fine {α : Type} (s : ByteArray) (t : St) (st : α → St) : Res α → Prop
  | .ok a=>Good s t (st a)
  | .no f=>f.1≠0
theorem Fine.then {α β : Type} {s : ByteArray} {t : St} {p : α → St} {q : β → St} {x : Res α} {g : α → Res β} (h : Fine s t p x) (hg : ∀ a, x = .ok a → Good s t (p a) → Fine s (p a) q (g a)) : Fine s t q (x.then g) := by
  cases x with
  | no f=>exact h
  | ok a =>
    have h1:=hg a rfl h
    show Fine s t q (g a)
    cases hx:g a with
    | no f=>rw [hx] at h1; exact h1
    | ok b=>rw [hx] at h1; exact (show Good s t (p a) from h).trans h1
theorem Fine.iff {α : Type} {s : ByteArray} {t : St} {p : α → St} {c : Prop} [Decidable c] {x y : Res α} (h : c → Fine s t p x) (k : ¬ c → Fine s t p y) : Fine s t p (if c then x else y) := by
  split
  · rename_i e; exact h e
  · rename_i e; exact k e
theorem Fine.no {α:Type} {s:ByteArray} {t:St} {p:α→St} (f:F) (h:f.1≠0):Fine s t p (.no f):=h
theorem Good.go {s:ByteArray} {t:St} {i:Nat} (h:i≤s.size):Good s t (t.go i):=⟨h,Int.le_refl _,id⟩
theorem must_fine {s : ByteArray} (sg : ByteArray) {t : St} (h : t.at_ ≤ s.size) : Fine s t id (must s sg t) :=
  .iff (fun _=>.go (eat_le sg h).2) fun _=>.no _ (by simp)
theorem word_fine {s : ByteArray} {t : St} (h : t.at_ ≤ s.size) : Fine s t (·.2) (word s t) :=
  .iff (fun _=>.no _ (by simp)) fun _=>.go (wend_le (blank_le h).2).2
theorem name_fine {s : ByteArray} {t : St} (h : t.at_ ≤ s.size) : Fine s t (·.2) (name s t) :=
  (word_fine h).then fun a _ hg=>.iff (fun _=>.no _ (by simp)) fun _=>.refl hg.at_
theorem num_fine {s : ByteArray} (least most : Int) {t : St} (h : t.at_ ≤ s.size) : Fine s t (·.2) (num s least most t) :=
  .iff (fun _=>.no _ (by simp)) fun _=>.iff (fun _=>.no _ (by simp)) fun _=>.go (run_le _ (blank_le h).2).2
theorem node_fine {s : ByteArray} {t : St} (h : t.at_ ≤ s.size) : Fine s t id (node t) :=
  .iff (fun _=>.no _ (by simp)) fun g=>⟨h,by show _≤t.nd + 1; omega,fun _=>by show t.nd + 1≤100; omega⟩
theorem Fine.step {α : Type} {s : ByteArray} {t : St} {i : Nat} {p : α → St} {x : Res α} (h : Fine s (t.go i) p x) : Fine s t p x := by
  cases x with
  | no f=>exact h
  | ok a=>exact ⟨h.at_,h.mono,h.most⟩
theorem name_go {s:ByteArray} {t:St} {j:Nat} (h:j≤s.size):Fine s t (·.2) (name s (t.go j)):=.step (i:=j) (name_fine (t:=t.go j) h)
theorem Fine.okI {α:Type} {s:ByteArray} {t:St} {p:α→St} {a:α} (h:Good s t (p a)):Fine s t p (.ok a):=h
set_option maxHeartbeats 2000000 in
theorem match_fine {s : ByteArray} {t : St} (h : t.at_ ≤ s.size) : Fine s t (·.2) (match_ s t) := by
  unfold match_
  have h0:=(eat_le ⟨#[33]⟩ h).2
  refine .iff (fun _=>?_) fun _=>?_
  · exact (name_go h0).then fun x _ hg=>Fine.okI (Good.refl hg.at_)
  · refine (name_go h0).then fun x _ hg=>?_
    have hx:x.2.at_≤s.size:=hg.at_
    have hy:=(eat_le ⟨#[33,61]⟩ hx).2
    have hz:=(eat_le ⟨#[61]⟩ hy).2
    refine .iff (fun _=>?_) fun _=>.iff (fun _=>?_) fun _=>?_
    · exact (name_go hy).then fun y _ hk=>Fine.okI (Good.refl hk.at_)
    · exact (name_go hz).then fun y _ hk=>Fine.okI (Good.refl hk.at_)
    · exact Fine.okI (Good.go hz)
theorem winL_fine {s : ByteArray} : ∀ (n : Nat) (ms : List Match) {t : St}, t.at_ ≤ s.size → Fine s t (·.2) (winL s n ms t)
  | 0,_,_,_=>.no _ (by simp)
  | n + 1, ms, t, h => by
    have he:=fun {i:Nat} (sg:ByteArray) (h:i≤s.size)=>(eat_le sg h).2
    rw [winL]
    refine .iff (fun _=>.go (he _ h)) fun _=>.step (i:=(eat s ⟨#[125]⟩ t.at_).2) (.then (p:=id) (.iff (fun _=>must_fine _ (he _ h)) fun _=>.refl (he _ h)) fun u _ hg=>?_)
    exact .iff (fun _=>.no _ (by simp)) fun _=>(match_fine hg.at_).then fun x _ hk=>winL_fine n _ hk.at_
theorem window_fine {s : ByteArray} (w : ByteArray) {t : St} (h : t.at_ ≤ s.size) : Fine s t (·.2) (window s w t) :=
  (must_fine _ h).then fun _ _ h => (must_fine _ h.at_).then fun _ _ h => (winL_fine 6 [] h.at_).then fun _ _ h => (must_fine _ h.at_).then fun _ _ h => (num_fine _ _ h.at_).then fun _ _ h => (must_fine _ h.at_).then fun _ _ h =>
    (must_fine _ h.at_).then fun _ _ h=>(node_fine h.at_).then fun _ _ h=>.refl h.at_
theorem byL_fine {s : ByteArray} : ∀ (n : Nat) (l : List ByteArray) {t : St}, t.at_ ≤ s.size → Fine s t (·.2) (byL s n l t)
  | 0,_,_,_=>.no _ (by simp)
  | n + 1, l, t, h => by
    have he:=fun {i:Nat} (sg:ByteArray) (h:i≤s.size)=>(eat_le sg h).2
    rw [byL]
    exact .iff (fun _=>.iff (fun _=>.no _ (by simp)) fun _=>.step ((name_fine (he _ h)).then fun x _ hk=>byL_fine n _ hk.at_)) fun _=>.go (he _ h)
theorem bys_fine {s : ByteArray} (v : ByteArray) {t : St} (h : t.at_ ≤ s.size) : Fine s t (·.2) (bys s v t) :=
  .iff (fun _=>(name_fine h).then fun _ _ h=>byL_fine _ _ h.at_) fun _=>.refl h
def Kid (s:ByteArray) (kid:St→Res (Expr × St)):Prop:=∀ t:St,t.at_≤s.size→Fine s t (·.2) (kid t)
theorem allTail_fine {s : ByteArray} {kid : St → Res (Expr × St)} (hk : Kid s kid) (w : ByteArray) (l : List ByteArray) {t : St} (h : t.at_ ≤ s.size) : Fine s t (·.2) (allTail s kid w l t) :=
  (must_fine _ h).then fun _ _ h=>(hk _ h.at_).then fun _ _ h=>(must_fine _ h.at_).then fun _ _ h=>(node_fine h.at_).then fun _ _ h=>.refl h.at_
theorem all_fine {s : ByteArray} {kid : St → Res (Expr × St)} (hk : Kid s kid) {t : St} (h : t.at_ ≤ s.size) : Fine s t (·.2) (all s kid t) :=
  .step ((name_fine (blank_le h).2).then fun _ _ h=>.iff (fun _=>.no _ (by simp)) fun _=>.step ((word_fine (blank_le h.at_).2).then fun _ _ h=>.iff (fun _=>.no _ (by simp)) fun _=>(bys_fine _ h.at_).then fun _ _ h=>allTail_fine hk _ _ h.at_))
theorem factor_fine {s : ByteArray} {kid : St → Res (Expr × St)} (hk : Kid s kid) {t : St} (h : t.at_ ≤ s.size) : Fine s t (·.2) (factor s kid t) := by
  have he:=fun {i:Nat} (sg:ByteArray) (h:i≤s.size)=>(eat_le sg h).2
  refine .iff (fun _=>.step ((hk _ (he _ h)).then fun _ _ h=>(must_fine _ h.at_).then fun _ _ h=>.refl h.at_)) fun _=>.step ((word_fine (blank_le (he _ h)).2).then fun w _ h=>?_)
  refine .iff (fun _=>all_fine hk h.at_) fun _=>.iff (fun _=>(num_fine _ _ h.at_).then fun _ _ h=>(node_fine h.at_).then fun _ _ h=>.refl h.at_) fun _=>.iff (fun _=>.no _ (by simp)) fun _=>window_fine _ h.at_
theorem pick_le {s : ByteArray} : ∀ (l : List ByteArray) {i : Nat}, i ≤ s.size → (pick s l i).2 ≤ s.size
  | [],_,h=>h
  | g :: l, i, h => by
    rw [pick]
    split
    · exact (eat_le g h).2
    · exact pick_le l (eat_le g h).2
theorem binL_fine {s : ByteArray} {sub : St → Res (Expr × St)} (hk : Kid s sub) (signs : List ByteArray) : ∀ (n : Nat) (e : Expr) {t : St}, t.at_ ≤ s.size → Fine s t (·.2) (binL s sub signs n e t)
  | 0,_,_,_=>.no _ (by simp)
  | n + 1, e, t, h => by
    rw [binL]
    exact .iff (fun _=>.go (pick_le _ h)) fun _=>.step ((hk _ (pick_le _ h)).then fun _ _ h=>(node_fine h.at_).then fun _ _ h=>binL_fine hk signs n _ h.at_)
theorem sumOf_fine {s : ByteArray} {sub : St → Res (Expr × St)} (hk : Kid s sub) (signs : List ByteArray) : Kid s (fun t => sumOf s sub signs t) :=
  fun _ h=>(hk _ h).then fun _ _ h=>binL_fine hk signs _ _ h.at_
theorem fac_fine (s : ByteArray) : ∀ n, Kid s (fac s n)
  | 0=>fun _ _=>.no _ (by simp)
  | n + 1=>fun _ h=>factor_fine (sumOf_fine (sumOf_fine (fac_fine s n) star) plus) h
theorem trm_fine (s:ByteArray) (n:Nat):Kid s (trm s n):=sumOf_fine (fac_fine s n) star
theorem xpr_fine (s:ByteArray) (n:Nat):Kid s (xpr s n):=sumOf_fine (trm_fine s n) plus
theorem Kid.ok {s:ByteArray} {kid:St→Res (Expr × St)} (hk:Kid s kid) {t:St} {x:Expr × St} (h:t.at_≤s.size) (e:kid t=.ok x):Good s t x.2:=by have:=hk t h; rw [e] at this; exact this
theorem Kid.no {s:ByteArray} {kid:St→Res (Expr × St)} (hk:Kid s kid) {t:St} {f:F} (h:t.at_≤s.size) (e:kid t=.no f):f.1≠0:=by have:=hk t h; rw [e] at this; exact this
theorem Fine.ok_ {α:Type} {s:ByteArray} {t:St} {p:α→St} {r:Res α} {a:α} (h:Fine s t p r) (e:r=.ok a):Good s t (p a):=by rw [e] at h; exact h
end Pz
end
section
namespace Bs
open Ex Sh
set_option linter.unusedVariables false
def no (e:Int):Ans:=⟨e,0,[],0⟩
def key (s:Shelf):Cell:=⟨s.zV,0⟩
def new (t:List Label):Shelf:=⟨t,[],[],[],0,0,0,0,0⟩
def fresh (t:List Label) (h:Int):Shelf:=(roll (new t) h).1
def place (l:List Shelf) (t:List Label):Nat:=Mn.pos (l.map key) t
def there (l:List Shelf) (t:List Label):Bool:=Mn.has (l.map key) t
def add (b : Base) (d : Do) : Base × Ans :=
  if zc.wrong d.sr≠0 then (b,no (zc.wrong d.sr)) else if (Codec.wrong [d.zf]).err≠0 then (b,no (Codec.wrong [d.zf]).err) else if d.zf.time < b.zh then (b,no 9)
  else if there b.zA d.sr = true then (match b.zA[place b.zA d.sr]? with
    | none=>(b,no 0)
    | some s=>if (append s d.zf).2≠0 then (b,no (append s d.zf).2) else (⟨b.zA.set (place b.zA d.sr) (append s d.zf).1,b.zh⟩,no 0))
  else if b.zA.length=8 then (b,no 5) else if (append (fresh d.sr b.zh) d.zf).2≠0 then (b,no (append (fresh d.sr b.zh) d.zf).2)
  else (⟨b.zA.take (place b.zA d.sr)++(append (fresh d.sr b.zh) d.zf).1::b.zA.drop (place b.zA d.sr),b.zh⟩,no 0)
def each (f : Shelf → Shelf × Int) : List Shelf → List Shelf × Int
  | []=>([],0)
  | s::r=>if (f s).2≠0 then ([],(f s).2) else if (each f r).2≠0 then ([],(each f r).2) else ((f s).1::(each f r).1,0)
def look : List Shelf → Look
  | [],_,_,_=>([],0)
  | s :: r, m, a, b => if ¬ zc.vB s.zV m = true then look r m a b else if (Sh.choose s a b).2 ≠ 0 then ([], (Sh.choose s a b).2) else if (Sh.read s (Sh.choose s a b).1).2.2 ≠ 0 then ([], (Sh.read s (Sh.choose s a b).1).2.2)
    else if (look r m a b).2≠0 then ([],(look r m a b).2) else ((s.zV,(Sh.read s (Sh.choose s a b).1).1)::(look r m a b).1,0)
def cost : List Shelf → Sk
  | [],_,_,_,c=>c
  | s::r,m,a,b,c=>if ¬ zc.vB s.zV m=true then cost r m a b c else if (Sh.choose s a b).2≠0 then c else if (Sh.read s (Sh.choose s a b).1).2.2≠0 then c else cost r m a b (wr (c + (Sh.read s (Sh.choose s a b).1).2.1))
def asked (l:List Shelf) (e:Expr) (t:Int):List Cell × Int:=Mn.out (Mn.eval (look l) t e)
def ask (b : Base) (d : Do) : Ans :=
  if (Pz.parse d.text).2.1≠0 then ⟨(Pz.parse d.text).2.1,(Pz.parse d.text).2.2,[],0⟩ else if Mn.check (Pz.parse d.text).1 d.to≠0 then no (Mn.check (Pz.parse d.text).1 d.to)
  else if (asked b.zA (Pz.parse d.text).1 d.to).2≠0 then no (asked b.zA (Pz.parse d.text).1 d.to).2
  else ⟨0,0,(asked b.zA (Pz.parse d.text).1 d.to).1,Mn.evalN (look b.zA) (cost b.zA) d.to (Pz.parse d.text).1 0⟩
def rollAll (b:Base) (to:Int):Base × Ans:=if (each (fun s=>roll s to) b.zA).2≠0 then (b,no (each (fun s=>roll s to) b.zA).2) else (⟨(each (fun s=>roll s to) b.zA).1,mx b.zh (to - to % 10)⟩,no 0)
def forgetAll (b:Base) (tier to:Int):Base × Ans:=if (each (fun s=>forget s tier to) b.zA).2≠0 then (b,no (each (fun s=>forget s tier to) b.zA).2) else (⟨(each (fun s=>forget s tier to) b.zA).1,b.zh⟩,no 0)
def one (b : Base) (d : Do) : Base × Ans :=
  if d.kind=1 then add b d else if d.kind=4 then (b,ask b d) else if ¬ (d.kind=2∨d.kind=3) then (b,no 1) else if d.to < 0∨1000000 < d.to then (b,no 3)
  else if d.kind=3 then (if d.tier < 0∨2 < d.tier then (b,no 1) else forgetAll b d.tier d.to) else rollAll b d.to
def run : Base → List Do → Base × List Ans
  | b,[]=>(b,[])
  | b,d::r=>((run (one b d).1 r).1,(one b d).2::(run (one b d).1 r).2)
def zero:Base:=⟨[],0⟩
def play (l:List Do):Base × List Ans × Int:=if 120 < l.length then (zero,[],5) else ((run zero l).1,(run zero l).2,0)
theorem run_snoc (d : Do) : ∀ (l : List Do) (b : Base), run b (l ++ [d]) = ((one (run b l).1 d).1, (run b l).2 ++ [(one (run b l).1 d).2])
  | [],b=>rfl
  | x::l,b=>by rw [List.cons_append,run,run_snoc d l,run]; rfl
theorem run_next {l : List yo} {k : Nat} {x : yo} (h : l[k]? = some x) (b : Base) : run b ((l.take (k + 1)).map yo.e) = ((one (run b ((l.take k).map yo.e)).1 x.e).1, (run b ((l.take k).map yo.e)).2 ++ [(one (run b ((l.take k).map yo.e)).1 x.e).2]) := by
  rw [List.take_add_one,h,Option.toList_some,List.map_append,List.map_cons,List.map_nil,run_snoc]
structure Inv (b : Base) (n : Nat) : Prop where
  asc:Mn.Asc (b.zA.map key)
  len:b.zA.length≤8
  hor:0≤b.zh∧b.zh≤1000000∧b.zh % 10=0
  keep:∀ s ∈ b.zA,∃ all,Keep s all∧all.length≤n
  fine:∀ s ∈ b.zA,s.zI=b.zh
theorem inv_zero:Inv zero 0:=⟨List.Pairwise.nil,by decide,by decide,fun s hs=>absurd hs (List.not_mem_nil),fun s hs=>absurd hs (List.not_mem_nil)⟩
theorem Inv.up {b:Base} {n m:Nat} (h:Inv b n) (hm:n≤m):Inv b m:=⟨h.asc,h.len,h.hor,fun s hs=>by obtain ⟨a,h1,h2⟩:=h.keep s hs; exact ⟨a,h1,by omega⟩,h.fine⟩
theorem fresh_keep {t : List Label} {h : Int} (hw : zc.wrong t = 0) (h0 : 0 ≤ h) (h1 : h ≤ 1000000) : Keep (fresh t h) [] ∧ (roll (new t) h).2 = 0 ∧ (fresh t h).zV = t ∧ (fresh t h).zI = mx 0 (h - h % 10) := by
  have hk:=keep_new t hw
  have e:roll (new t) h=(rolled (new t) h,0):=roll_mk hk.ok h0 h1 (by simp [uE,new,Roll.inT,Roll.up,Roll.step,Roll.ups]) (by simp [vt,uE,new,Roll.inT,Roll.up,Roll.step,Roll.ups,bIn,Roll.greater])
  have hz:(roll (new t) h).2=0:=by rw [e]
  exact ⟨hk.roll hz,hz,by unfold fresh; rw [e]; rfl,by unfold fresh; rw [e]; rfl⟩
theorem append_same {z : Shelf} {x : Sample} (h : (append z x).2 = 0) : (append z x).1.zV = z.zV ∧ (append z x).1.zI = z.zI := by
  obtain ⟨_,_,_,_,e⟩:=append_done h
  rw [e]; exact ⟨rfl,rfl⟩
theorem roll_same {z : Shelf} {to : Int} (h : (roll z to).2 = 0) : (roll z to).1.zV = z.zV ∧ (roll z to).1.zI = mx z.zI (to - to % 10) := by
  obtain ⟨_,_,_,_,_,e⟩:=roll_done h
  rw [e]; exact ⟨rfl,rfl⟩
theorem forget_same {z : Shelf} {tier to : Int} (h : (forget z tier to).2 = 0) : (forget z tier to).1.zV = z.zV ∧ (forget z tier to).1.zI = z.zI := by
  obtain ⟨_,_,_,_,e⟩:=forget_done h
  rw [e]; unfold forgot; (repeat' split) <;> exact ⟨rfl,rfl⟩
theorem has_at {l : List Shelf} {t : List Label} (ha : Mn.Asc (l.map key)) (h : there l t = true) : ∃ s, l[place l t]? = some s ∧ s.zV = t := by
  obtain ⟨c,h1,h2,_⟩:=Mn.put_set ⟨#[]⟩ 0 ha h
  rw [List.getElem?_map] at h1
  cases hs:l[Mn.pos (l.map key) t]? with
  | none=>rw [hs] at h1; cases h1
  | some s=>rw [hs] at h1; obtain rfl:=Option.some.inj h1; exact ⟨s,hs,h2⟩
theorem set_key {l : List Shelf} {k : Nat} {s z : Shelf} (h : l[k]? = some s) (e : z.zV = s.zV) : (l.set k z).map key = l.map key := by
  rw [List.map_set]
  refine List.ext_getElem? fun i=>?_
  rw [List.getElem?_set]
  split
  · rename_i h1
    subst h1
    have hk:=(List.getElem?_eq_some_iff.1 h).1
    rw [if_pos (by simpa using hk),List.getElem?_map,h]
    show some (key z)=some (key s)
    unfold key; rw [e]
  · rfl
theorem put_key {l : List Shelf} {t : List Label} {z : Shelf} (ha : Mn.Asc (l.map key)) (h : there l t = false) (e : z.zV = t) : Mn.Asc ((l.take (place l t) ++ z :: l.drop (place l t)).map key) := by
  have h1:=Mn.put_asc (w:=⟨#[]⟩) (s:=t) (x:=0) ha
  rw [Mn.put_ins ⟨#[]⟩ 0 h] at h1
  rw [List.map_append,List.map_cons,List.map_take,List.map_drop]
  have:key z=⟨t,0⟩:=by unfold key; rw [e]
  rw [this]; exact h1
theorem place_le (l:List Shelf) (t:List Label):place l t≤l.length:=by have:=Mn.pos_le (l.map key) t; simpa [place] using this
theorem inv_add {b : Base} {n : Nat} {d : Do} (h : Inv b n) : Inv (add b d).1 (n + 1) := by
  have hu:=h.up (show n≤n + 1 by omega)
  unfold add
  by_cases h1:zc.wrong d.sr≠0
  · rw [if_pos h1]; exact hu
  rw [if_neg h1]
  by_cases h2:(Codec.wrong [d.zf]).err≠0
  · rw [if_pos h2]; exact hu
  rw [if_neg h2]
  by_cases h3:d.zf.time < b.zh
  · rw [if_pos h3]; exact hu
  rw [if_neg h3]
  by_cases h4:there b.zA d.sr=true
  · rw [if_pos h4]
    obtain ⟨s,hs,hser⟩:=has_at h.asc h4
    rw [hs]
    simp only
    by_cases h5:(append s d.zf).2≠0
    · rw [if_pos h5]; exact hu
    rw [if_neg h5]
    have h5:=Classical.not_not.1 h5
    obtain ⟨e1,e2⟩:=append_same h5
    have hm:=List.mem_of_getElem? hs
    refine ⟨by rw [set_key hs e1]; exact h.asc,by rw [List.length_set]; exact h.len,h.hor,fun z hz=>?_,fun z hz=>?_⟩
    · rcases List.mem_or_eq_of_mem_set hz with hz | rfl
      · exact hu.keep z hz
      · obtain ⟨all,k1,k2⟩:=h.keep s hm
        exact ⟨all++[d.zf],k1.append h5,by rw [List.length_append,List.length_singleton]; omega⟩
    · rcases List.mem_or_eq_of_mem_set hz with hz | rfl
      · exact h.fine z hz
      · rw [e2]; exact h.fine s hm
  rw [if_neg h4]
  by_cases h5:b.zA.length=8
  · rw [if_pos h5]; exact hu
  rw [if_neg h5]
  by_cases h6:(append (fresh d.sr b.zh) d.zf).2≠0
  · rw [if_pos h6]; exact hu
  rw [if_neg h6]
  have h6:=Classical.not_not.1 h6
  obtain ⟨f1,f2,f3,f4⟩:=fresh_keep (Classical.not_not.1 h1) h.hor.1 h.hor.2.1
  obtain ⟨e1,e2⟩:=append_same h6
  have hl:=h.len; have hp:=place_le b.zA d.sr
  refine ⟨put_key h.asc (by simpa using h4) (by rw [e1,f3]),?_,h.hor,fun z hz=>?_,fun z hz=>?_⟩
  · show (_++_::_:List Shelf).length≤8
    rw [List.length_append,List.length_cons,List.length_take,List.length_drop]; omega
  · rcases List.mem_append.1 hz with hz | hz
    · exact hu.keep z (List.mem_of_mem_take hz)
    · rcases List.mem_cons.1 hz with rfl | hz
      · exact ⟨[]++[d.zf],f1.append h6,by simp⟩
      · exact hu.keep z (List.mem_of_mem_drop hz)
  · rcases List.mem_append.1 hz with hz | hz
    · exact h.fine z (List.mem_of_mem_take hz)
    · rcases List.mem_cons.1 hz with rfl | hz
      · show _=b.zh
        rw [e2,f4]
        have:=h.hor
        unfold mx; split <;> omega
      · exact h.fine z (List.mem_of_mem_drop hz)
theorem each_ok {f : Shelf → Shelf × Int} : ∀ {l : List Shelf}, (each f l).2 = 0 → (each f l).1 = l.map (fun s => (f s).1) ∧ ∀ s ∈ l, (f s).2 = 0
  | [],_=>⟨rfl,fun s hs=>by cases hs⟩
  | x :: r, h => by
    rw [each] at h ⊢
    by_cases h1:(f x).2≠0
    · rw [if_pos h1] at h; exact absurd h h1
    rw [if_neg h1] at h ⊢
    by_cases h2:(each f r).2≠0
    · rw [if_pos h2] at h; exact absurd h h2
    rw [if_neg h2]
    obtain ⟨h3,h4⟩:=each_ok (Classical.not_not.1 h2)
    refine ⟨by rw [h3]; rfl,fun s hs=>?_⟩
    rcases List.mem_cons.1 hs with rfl | hs
    · exact Classical.not_not.1 h1
    · exact h4 s hs
theorem each_take {f : Shelf → Shelf × Int} {l : List Shelf} {k : Nat} {s : Shelf} (hs : l[k]? = some s) (h : (each f (l.take k)).2 = 0) :
    ((f s).2≠0→(each f l).2=(f s).2∧(each f l).1=[])∧((f s).2=0→(each f (l.take (k + 1))).2=0∧(each f (l.take (k + 1))).1=(each f (l.take k)).1++[(f s).1]):=by
  induction l generalizing k with
  | nil=>simp at hs
  | cons x r ih =>
    cases k with
    | zero =>
      obtain rfl:x=s:=by simpa using hs
      refine ⟨fun h1=>by rw [each,if_pos h1]; exact ⟨rfl,rfl⟩,fun h1=>?_⟩
      rw [List.take_succ_cons,List.take_zero,each,if_neg (by simp [h1]),each,if_neg (by simp)]
      exact ⟨rfl,rfl⟩
    | succ k =>
      rw [List.take_succ_cons,each] at h
      by_cases h1:(f x).2≠0
      · rw [if_pos h1] at h; exact absurd h h1
      rw [if_neg h1] at h
      by_cases h2:(each f (r.take k)).2≠0
      · rw [if_pos h2] at h; exact absurd h h2
      obtain ⟨i1,i2⟩:=ih (by simpa using hs) (Classical.not_not.1 h2)
      refine ⟨fun h3=>?_,fun h3=>?_⟩
      · obtain ⟨j1,j2⟩:=i1 h3
        rw [each,if_neg h1,if_pos (by rw [j1]; exact h3)]; exact ⟨j1,rfl⟩
      · obtain ⟨j1,j2⟩:=i2 h3
        rw [List.take_succ_cons,each,if_neg h1,if_neg (by simp [j1]),List.take_succ_cons,each,if_neg h1,if_neg h2,j2]; exact ⟨rfl,rfl⟩
theorem map_key {l : List Shelf} {f : Shelf → Shelf × Int} (h : ∀ s ∈ l, (f s).1.zV = s.zV) : (l.map fun s => (f s).1).map key = l.map key := by
  rw [List.map_map]
  exact List.map_congr_left fun s hs=>by show key (f s).1=key s; unfold key; rw [h s hs]
theorem inv_roll {b : Base} {n : Nat} {to : Int} (h : Inv b n) (h0 : 0 ≤ to) (h1 : to ≤ 1000000) : Inv (rollAll b to).1 n := by
  unfold rollAll
  by_cases hr:(each (fun s=>roll s to) b.zA).2≠0
  · rw [if_pos hr]; exact h
  rw [if_neg hr]
  obtain ⟨e1,e2⟩:=each_ok (Classical.not_not.1 hr)
  have hh:=h.hor
  refine ⟨?_,?_,?_,fun z hz=>?_,fun z hz=>?_⟩
  · show Mn.Asc ((each _ _).1.map key)
    rw [e1,map_key fun s hs=>(roll_same (e2 s hs)).1]; exact h.asc
  · show (each _ _).1.length≤8
    rw [e1,List.length_map]; exact h.len
  · show 0≤mx _ _∧mx _ _≤1000000∧mx _ _ % 10=0
    unfold mx; split <;> omega
  · have hz:z ∈ (each _ _).1:=hz
    rw [e1] at hz
    obtain ⟨s,hs,rfl⟩:=List.mem_map.1 hz
    obtain ⟨all,k1,k2⟩:=h.keep s hs
    exact ⟨all,k1.roll (e2 s hs),k2⟩
  · have hz:z ∈ (each _ _).1:=hz
    rw [e1] at hz
    obtain ⟨s,hs,rfl⟩:=List.mem_map.1 hz
    show (roll s to).1.zI=mx b.zh (to - to % 10)
    rw [(roll_same (e2 s hs)).2,h.fine s hs]
theorem inv_forget {b : Base} {n : Nat} {tier to : Int} (h : Inv b n) : Inv (forgetAll b tier to).1 n := by
  unfold forgetAll
  by_cases hr:(each (fun s=>forget s tier to) b.zA).2≠0
  · rw [if_pos hr]; exact h
  rw [if_neg hr]
  obtain ⟨e1,e2⟩:=each_ok (Classical.not_not.1 hr)
  refine ⟨?_,?_,h.hor,fun z hz=>?_,fun z hz=>?_⟩
  · show Mn.Asc ((each _ _).1.map key)
    rw [e1,map_key fun s hs=>(forget_same (e2 s hs)).1]; exact h.asc
  · show (each _ _).1.length≤8
    rw [e1,List.length_map]; exact h.len
  · have hz:z ∈ (each _ _).1:=hz
    rw [e1] at hz
    obtain ⟨s,hs,rfl⟩:=List.mem_map.1 hz
    obtain ⟨all,k1,k2⟩:=h.keep s hs
    exact ⟨all,k1.forget (e2 s hs),k2⟩
  · have hz:z ∈ (each _ _).1:=hz
    rw [e1] at hz
    obtain ⟨s,hs,rfl⟩:=List.mem_map.1 hz
    show (forget s tier to).1.zI=b.zh
    rw [(forget_same (e2 s hs)).2,h.fine s hs]
theorem inv_one {b : Base} {n : Nat} {d : Do} (h : Inv b n) : Inv (one b d).1 (n + 1) := by
  have hu:=h.up (show n≤n + 1 by omega)
  unfold one
  by_cases h1:d.kind=1
  · rw [if_pos h1]; exact inv_add h
  rw [if_neg h1]
  by_cases h2:d.kind=4
  · rw [if_pos h2]; exact hu
  rw [if_neg h2]
  by_cases h3:¬ (d.kind=2∨d.kind=3)
  · rw [if_pos h3]; exact hu
  rw [if_neg h3]
  by_cases h4:d.to < 0∨1000000 < d.to
  · rw [if_pos h4]; exact hu
  rw [if_neg h4]
  by_cases h5:d.kind=3
  · rw [if_pos h5]
    by_cases h6:d.tier < 0∨2 < d.tier
    · rw [if_pos h6]; exact hu
    · rw [if_neg h6]; exact (inv_forget h).up (by omega)
  · rw [if_neg h5]; exact (inv_roll h (by omega) (by omega)).up (by omega)
theorem inv_run : ∀ (l : List Do) {b : Base} {n : Nat}, Inv b n → Inv (run b l).1 (n + l.length)
  | [],_,_,h=>h
  | d :: r, b, n, h => by
    rw [run,List.length_cons]
    have:=inv_run r (inv_one (d:=d) h)
    rwa [show n + (r.length + 1)=n + 1 + r.length by omega]
theorem inv_play (l:List Do) (hl:l.length≤120):Inv (run zero l).1 120:=(inv_run l inv_zero).up (by omega)
theorem look_mem {m : List Match} {a b : Int} : ∀ {l : List Shelf} {t : List Label × Sum}, t ∈ (look l m a b).1 → ∃ s ∈ l, t.1 = s.zV ∧ (Sh.choose s a b).2 = 0 ∧ t.2 = (Sh.read s (Sh.choose s a b).1).1
  | [],t,h=>by cases h
  | s :: r, t, h => by
    rw [look] at h
    by_cases h1:¬ zc.vB s.zV m=true
    · rw [if_pos h1] at h
      obtain ⟨z,hz,h2⟩:=look_mem h
      exact ⟨z,List.mem_cons_of_mem _ hz,h2⟩
    rw [if_neg h1] at h
    by_cases h2:(Sh.choose s a b).2≠0
    · rw [if_pos h2] at h; cases h
    rw [if_neg h2] at h
    by_cases h3:(Sh.read s (Sh.choose s a b).1).2.2≠0
    · rw [if_pos h3] at h; cases h
    rw [if_neg h3] at h
    by_cases h4:(look r m a b).2≠0
    · rw [if_pos h4] at h; cases h
    rw [if_neg h4] at h
    rcases List.mem_cons.1 h with rfl | h
    · exact ⟨s,List.mem_cons_self,rfl,Classical.not_not.1 h2,rfl⟩
    · obtain ⟨z,hz,h2⟩:=look_mem h
      exact ⟨z,List.mem_cons_of_mem _ hz,h2⟩
theorem look_len {m : List Match} {a b : Int} : ∀ (l : List Shelf), (look l m a b).1.length ≤ l.length
  | []=>Nat.le_refl _
  | s :: r => by
    have:=look_len (m:=m) (a:=a) (b:=b) r
    rw [look]
    (repeat' split) <;> simp only [List.length_cons,List.length_nil] <;> omega
theorem read_is {s : Shelf} {all : List Sample} (hk : Keep s all) {a b : Int} (h : (Sh.choose s a b).2 = 0) : (Sh.read s (Sh.choose s a b).1).1 = Agg.of (Roll.inT all a b) ∧ (Sh.read s (Sh.choose s a b).1).2.2 = 0 ∧ (Sh.read s (Sh.choose s a b).1).2.1 = costs s (Sh.choose s a b).1 ∧ costs s (Sh.choose s a b).1 ≤ (Roll.inT all a b).length := by
  obtain ⟨ho,hc,_⟩:=choose_cov h
  obtain ⟨c1,c2⟩:=hk.covered _ _ _ hc
  rw [read_cov ho hc]
  exact ⟨c1,rfl,rfl,c2⟩
theorem good_look {b : Base} (h : Inv b 120) : Mn.GoodLook (look b.zA) := fun m x y => by
  refine ⟨by have:=look_len (m:=m) (a:=x) (b:=y) b.zA; have:=h.len; omega,fun t ht=>?_⟩
  obtain ⟨s,hs,e1,e2,e3⟩:=look_mem ht
  obtain ⟨all,k1,k2⟩:=h.keep s hs
  refine ⟨by rw [e1]; have:=k1.ok.lens.1; omega,fun word=>?_⟩
  rw [e3,(read_is k1 e2).1]
  exact Mn.value_bnd (by have:=List.length_filter_le (fun s:Sample=>decide (x≤s.time∧s.time < y)) all; show (List.filter _ all).length≤500; omega) (fun s hs=>k1.vals s ((List.mem_filter.1 hs).1)) word
theorem look_at {l : List Shelf} {k : Nat} {s : Shelf} (h : l[k]? = some s) (m : List Match) (a b : Int) : look (l.drop k) m a b = if ¬ zc.vB s.zV m = true then look (l.drop (k + 1)) m a b else if (Sh.choose s a b).2 ≠ 0 then ([], (Sh.choose s a b).2) else if (Sh.read s (Sh.choose s a b).1).2.2 ≠ 0 then ([], (Sh.read s (Sh.choose s a b).1).2.2)
    else if (look (l.drop (k + 1)) m a b).2≠0 then ([],(look (l.drop (k + 1)) m a b).2) else ((s.zV,(Sh.read s (Sh.choose s a b).1).1)::(look (l.drop (k + 1)) m a b).1,0):=by
  obtain ⟨hk,rfl⟩:=List.getElem?_eq_some_iff.1 h
  rw [List.drop_eq_getElem_cons hk,look]
theorem cost_at {l : List Shelf} {k : Nat} {s : Shelf} (h : l[k]? = some s) (m : List Match) (a b c : Int) : cost (l.drop k) m a b c = if ¬ zc.vB s.zV m = true then cost (l.drop (k + 1)) m a b c else if (Sh.choose s a b).2 ≠ 0 then c else if (Sh.read s (Sh.choose s a b).1).2.2 ≠ 0 then c else cost (l.drop (k + 1)) m a b (wr (c + (Sh.read s (Sh.choose s a b).1).2.1)) := by
  obtain ⟨hk,rfl⟩:=List.getElem?_eq_some_iff.1 h
  rw [List.drop_eq_getElem_cons hk,cost]
theorem look_err {m : List Match} {a b : Int} : ∀ {l : List Shelf}, (look l m a b).2 ≠ 0 → look l m a b = ([], (look l m a b).2)
  | [],h=>absurd rfl h
  | x :: r, h => by
    rw [look] at h ⊢
    by_cases h1:¬ zc.vB x.zV m=true
    · rw [if_pos h1] at h ⊢; exact look_err h
    rw [if_neg h1] at h ⊢
    by_cases h2:(Sh.choose x a b).2≠0
    · rw [if_pos h2]
    rw [if_neg h2] at h ⊢
    by_cases h3:(Sh.read x (Sh.choose x a b).1).2.2≠0
    · rw [if_pos h3]
    rw [if_neg h3] at h ⊢
    by_cases h4:(look r m a b).2≠0
    · rw [if_pos h4]
    · rw [if_neg h4] at h; exact absurd rfl h
def pre (acc:List (List Label × Sum)) (r:List (List Label × Sum) × Int):List (List Label × Sum) × Int:=if r.2≠0 then ([],r.2) else (acc++r.1,0)
section
variable {l:List Shelf} {k:Nat} {s:Shelf} {m:List Match} {a b c n:Int} {acc:List (List Label × Sum)}
theorem pre_0 (m : List Match) (a b : Int) : look l m a b = pre [] (look (l.drop 0) m a b) := by
  rw [List.drop_zero,pre]
  split
  · rename_i h; exact look_err h
  · rename_i h
    exact Prod.ext rfl (Classical.not_not.1 h)
theorem look_skip (hs:l[k]?=some s) (h:look l m a b=pre acc (look (l.drop k) m a b)) (hm:¬ zc.vB s.zV m=true):look l m a b=pre acc (look (l.drop (k + 1)) m a b):=by rw [h,look_at hs,if_pos hm]
theorem look_bad1 (hs : l[k]? = some s) (h : look l m a b = pre acc (look (l.drop k) m a b)) (hm : zc.vB s.zV m = true) (h2 : (Sh.choose s a b).2 ≠ 0) : look l m a b = ([], (Sh.choose s a b).2) := by
  rw [h,look_at hs,if_neg (by simp [hm]),if_pos h2,pre,if_pos h2]
theorem look_bad2 (hs : l[k]? = some s) (h : look l m a b = pre acc (look (l.drop k) m a b)) (hm : zc.vB s.zV m = true) (h2 : ¬ (Sh.choose s a b).2 ≠ 0) (h3 : (Sh.read s (Sh.choose s a b).1).2.2 ≠ 0) : look l m a b = ([], (Sh.read s (Sh.choose s a b).1).2.2) := by
  rw [h,look_at hs,if_neg (by simp [hm]),if_neg h2,if_pos h3,pre,if_pos h3]
theorem look_more (hs : l[k]? = some s) (h : look l m a b = pre acc (look (l.drop k) m a b)) (hm : zc.vB s.zV m = true) (h2 : ¬ (Sh.choose s a b).2 ≠ 0) (h3 : ¬ (Sh.read s (Sh.choose s a b).1).2.2 ≠ 0) :
    look l m a b=pre (acc++[(s.zV,(Sh.read s (Sh.choose s a b).1).1)]) (look (l.drop (k + 1)) m a b):=by
  rw [h,look_at hs,if_neg (by simp [hm]),if_neg h2,if_neg h3]
  unfold pre
  by_cases h4:(look (l.drop (k + 1)) m a b).2≠0
  · rw [if_pos h4,if_pos h4,if_pos h4]
  · rw [if_neg h4,if_neg h4,if_neg (by simp)]; simp
theorem look_end (h : look l m a b = pre acc (look (l.drop k) m a b)) (hk : l.length ≤ k) : look l m a b = (acc, 0) := by
  rw [h,List.drop_of_length_le hk,look,pre,if_neg (by simp),List.append_nil]
theorem cost_skip (hs:l[k]?=some s) (h:cost l m a b n=cost (l.drop k) m a b c) (hm:¬ zc.vB s.zV m=true):cost l m a b n=cost (l.drop (k + 1)) m a b c:=by rw [h,cost_at hs,if_pos hm]
theorem cost_bad1 (hs:l[k]?=some s) (h:cost l m a b n=cost (l.drop k) m a b c) (hm:zc.vB s.zV m=true) (h2:(Sh.choose s a b).2≠0):cost l m a b n=c:=by rw [h,cost_at hs,if_neg (by simp [hm]),if_pos h2]
theorem cost_bad2 (hs:l[k]?=some s) (h:cost l m a b n=cost (l.drop k) m a b c) (hm:zc.vB s.zV m=true) (h2:¬ (Sh.choose s a b).2≠0) (h3:(Sh.read s (Sh.choose s a b).1).2.2≠0):cost l m a b n=c:=by rw [h,cost_at hs,if_neg (by simp [hm]),if_neg h2,if_pos h3]
theorem cost_more (hs : l[k]? = some s) (h : cost l m a b n = cost (l.drop k) m a b c) (hm : zc.vB s.zV m = true) (h2 : ¬ (Sh.choose s a b).2 ≠ 0) (h3 : ¬ (Sh.read s (Sh.choose s a b).1).2.2 ≠ 0) :
    cost l m a b n=cost (l.drop (k + 1)) m a b (wr (c + (Sh.read s (Sh.choose s a b).1).2.1)):=by rw [h,cost_at hs,if_neg (by simp [hm]),if_neg h2,if_neg h3]
theorem cost_end (h:cost l m a b n=cost (l.drop k) m a b c) (hk:l.length≤k):cost l m a b n=c:=by rw [h,List.drop_of_length_le hk,cost]
end
end Bs
end
section
namespace Ex
set_option linter.unusedVariables false
def zF.k (x:zF):Cell:=⟨x.sr.l,0⟩
abbrev zeroSh:zF:=⟨⟨none,0,[]⟩,⟨none,0,[]⟩,⟨none,0,[]⟩,⟨none,0,[]⟩,0,0,0,0,0⟩
theorem zero_any {α : Type} {enc : α → List Value} {k : Nat} (hk : 0 < k) (he : Enc enc k) (z : Value) (x : α) (hz : z.cells = (enc x).toArray) (q : Nat) : (Builtin.zeroCells z.cells q).toList = (List.replicate q x).flatMap enc := by
  have hsz:z.cells.size=k:=by rw [hz,List.size_toArray,he.len]
  apply List.ext_getElem?
  intro j
  have hl:(Builtin.zeroCells z.cells q).size=q * k:=by simp [Builtin.zeroCells,hsz]
  have hr:((List.replicate q x).flatMap enc).length=q * k:=by rw [flat_len he.len,List.length_replicate]
  by_cases hj:j < q * k
  · have h0:j / k < q:=(Nat.div_lt_iff_lt_mul hk).2 hj
    have h1:(List.replicate q x)[j / k]?=some x:=by rw [List.getElem?_replicate,if_pos h0]
    have h2:j=j / k * k + j % k:=by rw [Nat.mul_comm]; exact (Nat.div_add_mod j k).symm
    have h4:j % k < k:=Nat.mod_lt _ hk
    have h3:(enc x)[j % k]?=some ((enc x)[j % k]'(by rw [he.len]; exact h4)):=List.getElem?_eq_getElem _
    rw [show ((List.replicate q x).flatMap enc)[j]?=_ from (congrArg _ h2).trans (flat_get he.len _ _ _ _ _ h1 h3)]
    rw [Array.getElem?_toList,Array.getElem?_eq_getElem (by omega)]
    simp [Builtin.zeroCells,hz,he.len,h3]
  · exact (List.getElem?_eq_none (by rw [Array.length_toList,hl]; omega)).trans (List.getElem?_eq_none (by rw [hr]; omega)).symm
section
variable {P:Program} {N:Nat} {D:List Deferred} {E:Env} {w0 w:World} {M:Fp} {L:List Own} {x:Operand} {T ty:TypeId} {u:Value}
theorem jy (q : Nat) {ad : Addr} {j k1 by1 : Nat} {z1 : Value} {cs : List Value} (vs : List Value) (hx : ev E x = some (.pointer (some ((ad.add 0).add j)))) (hL : L[q]? = some (celP ad cs)) (hv : (cs.drop j).take k1 = vs) (hl : vs.length = k1) (hg : aggT P T = true) (hs : Inf P T k1 by1 z1) :
    Runs P N D E (Mem w0 M L) (.load T x) ty (.agg vs.toArray) :=
  jC vs hx hg hs hl fun _ h p u hu => by
    have e:((ad.add 0).add j).add p=ad.add (j + p):=by rw [add_add,add_add]; congr 1; omega
    rw [e]
    rw [← hv,List.getElem?_take] at hu
    split at hu
    · exact (h.vQ hL).2 (j + p) u (by simpa using hu)
    · cases hu
end
section
variable {P:Program} {N:Nat} {D:List Deferred} {E:Env} {w0 w:World} {M:Fp} {L:List Own} {x:Operand} {T ty:TypeId} {u:Value}
theorem r_celL (q : Nat) {b j : Nat} {cs : List Value} (hx : ev E x = some (.pointer (some ⟨b, j, none⟩))) (hL : L[q]? = some (celP ⟨b, 0, none⟩ cs)) (hu : cs[j]? = some u) (hf : flatT P T = true) : Runs P N D E (Mem w0 M L) (.load T x) ty u :=
  yz q (ad:=⟨b,0,none⟩) (j:=j) (by rw [hx]; simp [add_lit]) hL hu hf
end
theorem row_wf {α : Type} {enc : α → List Value} {e k : Nat} {w : World} {z : SlX α} (h : w.ownsRow 0 e k (.slice z.A z.l.length z.c) z.l.length (z.l.flatMap enc)) : Wf z := by
  obtain ⟨A,c,h1,h2,h3,h4⟩:=row_form' h
  injection h1 with e1 _ e3
  exact ⟨by omega,by omega,fun hne=>by rw [e1]; exact h4 hne⟩
section
variable {w0 w:World} {M:Fp} {L R:List Own} {α:Type} {enc:α→List Value} {ok:(Nat→Prop)→α→World→Prop}
theorem Mem.allNew {l l' : List α} {z : α} (h : Mem w0 M L w) (q q2 : Nat) (hl : ∀ x, Loc (fun S => ok S x)) (hi : L[q]? = some (allP ok l)) (hi2 : L[q2]? = some (okP ok z)) (hs : ∀ y ∈ l', y ∈ l ∨ y = z) : Mem w0 M (allP ok l' :: L) w :=
  h.vU (all_loc hl _) fun Pb pp x hx => by
    rcases hs x hx with h1 | rfl
    · exact pp.at_ q _ hi x h1
    · exact pp.at_ q2 _ hi2
end
theorem as_set1 {w0 w : World} {M : Fp} {R : List Own} {b t T k n c : Nat} {o : Own} {α : Type} {enc : α → List Value} {A : Option Addr} {u : Value} {l' : List α} (e : n = l'.length) (h : Mem w0 M (o :: .blk b [.slice A n c, u] T :: Row (.slice A n c) t k enc l' :: R) w) : Mem w0 M (o :: .blk b [.slice A l'.length c, u] T :: Row (.slice A l'.length c) t k enc l' :: R) w := by
  subst e; exact h
theorem RetSh.toE {w : World} {P0 : Nat → Prop} {mk : Value → Value} {s : Shelf} {e : Ending} {w' : World} (h : RetSh w P0 mk s e w') : RetE w P0 (fun z : zF => mk (.agg (zx z).toArray)) (fun z => z.e = s) (fun z S => zF.Ok S z) e w' := by
  obtain ⟨u,Pb,he,hf,hp,v0,v1,v2,v3,rfl,h0,h1,h2,h3⟩:=h
  obtain ⟨A0,c0,rfl,_⟩:=h0.form
  obtain ⟨A1,c1,rfl,_⟩:=h1.form
  obtain ⟨A2,c2,rfl,_⟩:=h2.form
  obtain ⟨A3,c3,rfl,_⟩:=h3.form
  exact ⟨⟨⟨A0,c0,s.zV⟩,⟨A1,c1,s.raw⟩,⟨A2,c2,s.fine⟩,⟨A3,c3,s.coarse⟩,s.ze,s.zW,s.zI,s.zN,s.zH⟩,Pb,he,rfl,hf,hp,h0,h1,h2,h3⟩
theorem mem_set_of {α:Type} {l:List α} {i:Nat} {z:α}:∀ y ∈ l.set i z,y ∈ l∨y=z:=fun _ hy=>List.mem_or_eq_of_mem_set hy
theorem mem_ins_of {α : Type} {l : List α} {i : Nat} {z : α} : ∀ y ∈ l.take i ++ z :: l.drop i, y ∈ l ∨ y = z := fun y hy => by
  rcases List.mem_append.1 hy with h | h
  · exact .inl (List.mem_of_mem_take h)
  · rcases List.mem_cons.1 h with h | h
    · exact .inr h
    · exact .inl (List.mem_of_mem_drop h)
theorem wf_new {α:Type} {p:α→Prop} {l l':List α} {z:α} (hs:∀ y ∈ l',y ∈ l∨y=z) (h:∀ y ∈ l,p y) (hz:p z):∀ y ∈ l',p y:=fun y hy=>(hs y hy).elim (h y) fun e=>e ▸ hz
abbrev noX (e:Int):yc:=⟨e,0,⟨none,0,[]⟩,0⟩
theorem noX_ok (e:Int) (S:Nat→Prop) (w:World):yc.Ok S (noX e) w:=⟨zJ.yq _ _ _ _,fun c hc=>absurd hc (List.not_mem_nil)⟩
structure ShFn (P : Program) (f : Nat) (cap : Array Value) (C : (Nat → Prop) → World → Prop) (g : Shelf → Shelf × Int) : Prop where
  call:∀ vs w,(callFunc f vs).run P w=.ok (.enter f vs) w
  loc:Loc C
  run : ∀ (s : zF) (w : World) (Pb : Nat → Prop), (∀ b, Pb b → b < w.heap.size) → zF.Ok Pb s w → C Pb w →
    Calls P f (#[.agg (zx s).toArray]++cap) w (RetE w Pb (fun z:zF=>.tuple #[.agg (zx z).toArray,.int .i64 (g s.e).2]) (fun z=>z.e=(g s.e).1) (fun z S=>zF.Ok S z))
section
variable {g:Shelf→Shelf × Int} {l l':List zF} {k:Nat} {s z:zF}
theorem eachX_bad (hs : l[k]? = some s) (h : Bs.each g ((l.take k).map zF.e) = (l'.map zF.e, 0)) (h2 : (g s.e).2 ≠ 0) : (Bs.each g (l.map zF.e)).2 = (g s.e).2 :=
  ((Bs.each_take (f:=g) (l:=l.map zF.e) (k:=k) (s:=s.e) (by rw [List.getElem?_map,hs]; rfl) (by rw [← List.map_take,h])).1 h2).1
theorem eachX_next (hs : l[k]? = some s) (h : Bs.each g ((l.take k).map zF.e) = (l'.map zF.e, 0)) (h2 : ¬ (g s.e).2 ≠ 0) (hz : z.e = (g s.e).1) : Bs.each g ((l.take (k + 1)).map zF.e) = ((l' ++ [z]).map zF.e, 0) := by
  have:=(Bs.each_take (f:=g) (l:=l.map zF.e) (k:=k) (s:=s.e) (by rw [List.getElem?_map,hs]; rfl) (by rw [← List.map_take,h])).2 (Classical.not_not.1 h2)
  rw [← List.map_take,← List.map_take,h] at this
  refine Prod.ext ?_ this.1
  rw [this.2,← hz,List.map_append]; rfl
theorem eachX_end (h:Bs.each g ((l.take k).map zF.e)=(l'.map zF.e,0)) (hk:l.length≤k):Bs.each g (l.map zF.e)=(l'.map zF.e,0):=by rwa [List.take_of_length_le hk] at h
end
structure Lent (T1 T2 : Nat) (S : Nat → Prop) (box bp : Nat) (x : ya) (w : World) : Prop where
  sbox:S box
  sbp:S bp
  box:w.heap[box]?=some (.cells #[.pointer (some ⟨bp,0,none⟩)] T1 (0,0))
  base:w.heap[bp]?=some (.cells #[.slice x.zA.A x.zA.l.length x.zA.c,.int .i64 x.zh] T2 (0,0))
  row:zJ S 9 zx (.slice x.zA.A x.zA.l.length x.zA.c) x.zA.l w
  all:∀ s ∈ x.zA.l,zF.Ok S s w
section
variable {w0 w:World} {M:Fp} {L:List Own} {S S':Nat→Prop} {F G:World→Prop} {T1 T2 box bp:Nat} {x:ya} {s:zF}
theorem Mem.datImp (h : Mem w0 M L w) (q : Nat) (hi : L[q]? = some (.dat S F)) (f : F w → G w) (hs : F w → ∀ b, S' b → S b) (hl : ∀ u u' : World, (∀ b, S' b → u'.heap[b]? = u.heap[b]?) → G u → G u') : Mem w0 M (.dat S' G :: L) w := by
  have hq:=(List.getElem?_eq_some_iff.1 hi).1
  have:=(h.dup q hi rfl).wk (i:=0) (o:=.dat S F) (o':=.dat S' G) rfl ⟨f (h.dat hi),hl⟩ (hs (h.dat hi)) (fun h=>h)
  exact this
theorem Mem.lent (h : Mem w0 M L w) (q : Nat) (hi : L[q]? = some (.dat S (Lent T1 T2 S box bp x))) : Mem w0 M (datB box [.pointer (some ⟨bp, 0, none⟩)] T1 :: datB bp [.slice x.zA.A x.zA.l.length x.zA.c, .int .i64 x.zh] T2 :: slO S 9 zx (.slice x.zA.A x.zA.l.length x.zA.c) x.zA.l :: L) w := by
  have h1:=h.datImp (S':=S) (G:=zJ S 9 zx (.slice x.zA.A x.zA.l.length x.zA.c) x.zA.l) q hi (fun h=>h.row) (fun _ _ h=>h) fun _ _ hs hf=>hf.keep hs
  have h2:=h1.datImp (S':=(·=bp)) (G:=fun w=>w.heap[bp]?=some (.cells [.slice x.zA.A x.zA.l.length x.zA.c,.int .i64 x.zh].toArray T2 (0,0))) (q + 1) hi (fun h=>h.base) (fun h b e=>e ▸ h.sbp) fun _ _ hs hf=>(hs _ rfl).trans hf
  exact h2.datImp (S':=(·=box)) (G:=fun w=>w.heap[box]?=some (.cells [.pointer (some ⟨bp,0,none⟩)].toArray T1 (0,0))) (q + 2) hi (fun h=>h.box) (fun h b e=>e ▸ h.sbox) fun _ _ hs hf=>(hs _ rfl).trans hf
theorem Mem.lentAt (h : Mem w0 M L w) (q : Nat) (hi : L[q]? = some (.dat S (Lent T1 T2 S box bp x))) {i : Nat} (hs : x.zA.l[i]? = some s) : Mem w0 M (slO S 2 zj (.slice s.sr.A s.sr.l.length s.sr.c) s.sr.l :: slO S 2 zo (.slice s.raw.A s.raw.l.length s.raw.c) s.raw.l :: slO S 8 zU (.slice s.fine.A s.fine.l.length s.fine.c) s.fine.l :: slO S 8 zU (.slice s.coarse.A s.coarse.l.length s.coarse.c) s.coarse.l :: L) w := by
  have hm:=List.mem_of_getElem? hs
  have h1:=h.datImp (S':=S) (G:=zJ S 8 zU (.slice s.coarse.A s.coarse.l.length s.coarse.c) s.coarse.l) q hi (fun h=>(h.all s hm).coarse) (fun _ _ h=>h) fun _ _ hs hf=>hf.keep hs
  have h2:=h1.datImp (S':=S) (G:=zJ S 8 zU (.slice s.fine.A s.fine.l.length s.fine.c) s.fine.l) (q + 1) hi (fun h=>(h.all s hm).fine) (fun _ _ h=>h) fun _ _ hs hf=>hf.keep hs
  have h3:=h2.datImp (S':=S) (G:=zJ S 2 zo (.slice s.raw.A s.raw.l.length s.raw.c) s.raw.l) (q + 2) hi (fun h=>(h.all s hm).raw) (fun _ _ h=>h) fun _ _ hs hf=>hf.keep hs
  exact h3.datImp (S':=S) (G:=zJ S 2 zj (.slice s.sr.A s.sr.l.length s.sr.c) s.sr.l) (q + 3) hi (fun h=>(h.all s hm).sr) (fun _ _ h=>h) fun _ _ hs hf=>hf.keep hs
theorem Mem.lentWf (h:Mem w0 M L w) (q:Nat) (hi:L[q]?=some (.dat S (Lent T1 T2 S box bp x))):(∀ s ∈ x.zA.l,zF.Wf s)∧Ex.Wf x.zA:=⟨fun s hs=>((h.dat hi).all s hs).wf,zJ.wf (h.dat hi).row⟩
theorem onlyC {b T T' : Nat} {cs cs' : List Value} {C : World → Prop} {H : (Nat → Prop) → World → Prop} (b' : Nat) (h : fpOf [.blk b cs T, .dat S C, .pub H] b') : (Own.blk b cs' T').fp b' := by
  obtain ⟨o,ho,hm,hb⟩:=h
  simp only [List.mem_cons,List.not_mem_nil,or_false] at ho
  rcases ho with rfl | rfl | rfl
  · exact hb
  all_goals cases hm
end
section
variable {w0 w:World} {M:Fp} {L:List Own} {S:Nat→Prop} {C:World→Prop}
theorem Mem.withDat (h : Mem w0 M L w) (hlt : ∀ b, S b → b < w.heap.size) (hdj : ∀ (i : Nat) (o : Own), L[i]? = some o → o.mut = true → ∀ b, S b → ¬ o.fp b) (hC : C w) (hl : ∀ u u' : World, (∀ b, S b → u'.heap[b]? = u.heap[b]?) → C u → C u') : Mem w0 M (.dat S C :: L) w := by
  refine ⟨h.fr,fun i p hi=>?_,?_,?_⟩
  · cases i with
    | zero => obtain rfl : .dat S C = p := by simpa using hi
              exact ⟨⟨hC,hl⟩,hlt,fun hm=>by cases hm⟩
    | succ i=>exact h.ok i p (by simpa using hi)
  · intro i j p q hi hj hij hm b hb hb'
    cases i with
    | zero =>
      obtain rfl:.dat S C=p:=by simpa using hi
      cases j with
      | zero=>exact hij rfl
      | succ j=>exact hdj j q (by simpa using hj) (by rcases hm with hm | hm; cases hm; exact hm) b hb hb'
    | succ i =>
      cases j with
      | zero => obtain rfl : .dat S C = q := by simpa using hj
                exact hdj i p (by simpa using hi) (by rcases hm with hm | hm; exact hm; cases hm) b hb' hb
      | succ j=>exact h.dj i j p q (by simpa using hi) (by simpa using hj) (by omega) hm b hb hb'
  · obtain ⟨Pb,pp⟩:=h.pb
    refine ⟨Pb,pp.sub,pp.lt,fun i p hi hm b hb hb'=>?_,fun i F hi=>?_⟩
    · cases i with
      | zero => obtain rfl : .dat S C = p := by simpa using hi
                cases hm
      | succ i=>exact pp.dj i p (by simpa using hi) hm b hb hb'
    · cases i with
      | zero=>simp at hi
      | succ i=>exact pp.at_ i F (by simpa using hi)
theorem Mem.celsY (h : Mem w0 M L w) (q : Nat) {e : SlX zO} (hi : L[q]? = some (okP CelsX.Ok e)) : Mem w0 M (slP 2 yi (.slice e.A e.l.length e.c) e.l :: allP zO.Ok e.l :: L) w := by
  have h1:=h.imp q hi (all_loc zO.Ok.loc e.l) fun _ hF=>CelsX.Ok.all hF
  exact h1.imp (q + 1) hi (zJ.loc 2 yi _ e.l) fun _ hF=>CelsX.Ok.cells hF
theorem Lent.loc {T1 T2 box bp : Nat} {x : ya} (u u' : World) (hs : ∀ b, S b → u'.heap[b]? = u.heap[b]?) (h : Lent T1 T2 S box bp x u) : Lent T1 T2 S box bp x u' :=
  ⟨h.sbox,h.sbp,(hs _ h.sbox).trans h.box,(hs _ h.sbp).trans h.base,h.row.keep hs,fun s hm=>zF.Ok.loc s S S u u' (fun _ h=>h) hs (h.all s hm)⟩
theorem row_own {α : Type} {enc : α → List Value} {k e i : Nat} {l : List α} {v : Value} (he : Enc enc k) (h : Mem w0 M L w) (hi : L[i]? = some (Row v e k enc l)) : zJ (fun b => v.ownBlock = some b) k enc v l w := by
  have hrow:=h.row hi
  obtain ⟨A,c,rfl,e2,e3,e4⟩:=row_form' hrow
  refine ⟨A,c,rfl,e2,by simpa [maxLen] using e3,fun hne=>?_⟩
  obtain ⟨ad,rfl⟩:=e4 hne
  have hb : (Value.slice (some ad) l.length c).ownBlock = some ad.block := by
    rcases hrow.2 with ⟨h1,h2⟩ | ⟨gb,cap,cur,h1,_⟩
    · cases h1
    · injection h1 with h1 _ _; injection h1 with h1; subst h1; rfl
  exact ⟨ad,rfl,hb,fun i' x hx j u hu=>(RowSl he h i hi).cell rfl hx hu⟩
variable {P : Program} {N : Nat} {D : List Deferred} {E : Env} {Q : Exit → Act → World → Prop} {ops : Array Oper} {rest : List Oper} {T : TypeId}
  {d:Nat} {ty:TypeId} {pos:String} {aft:Array Edge} {g:Option (Nat × Bool)} {y:Operand}
theorem l_lend {β : Type} {f : Nat} {args : Array Operand} {ts : Array TypeId} {vs cap : List Value} {T1 T2 T3 TI box bp cost : Nat} {x : ya} {e : zC} {n n' : Int} (R' : List Own) (mk : β → Value) (pure : β → Prop) (ok : (Nat → Prop) → β → World → Prop)
    (hA:∀ w,Mem w0 M L w→Mem w0 M (.blk cost [.int .i64 n] TI::okP zC.Ok e::.blk box [.pointer (some ⟨bp,0,none⟩)] T1::.blk bp [.slice x.zA.A x.zA.l.length x.zA.c,.int .i64 x.zh] T2::Row (.slice x.zA.A x.zA.l.length x.zA.c) T3 9 zx x.zA.l::allP zF.Ok x.zA.l::R') w)
    (hw:Want N D ops E g true) (hx:ev E y=some (.func (.func f) #[] cap.toArray)) (hargs:evs E args.toList=some vs)
    (hcall:∀ vs w,(callFunc f vs).run P w=.ok (.enter f vs) w) (hd:Nat.blt d N=true)
    (hc : ∀ (S : Nat → Prop) w Pb, Mem w ⟨fpOf [.blk cost [.int .i64 n] TI, .dat S (Lent T1 T2 S box bp x), okP zC.Ok e], Pb⟩ [.blk cost [.int .i64 n] TI, .dat S (Lent T1 T2 S box bp x), okP zC.Ok e] w →
      Calls P f (vs++cap).toArray w (RetA w [.blk cost [.int .i64 n] TI,.dat S (Lent T1 T2 S box bp x),okP zC.Ok e] Pb mk pure (fun z=>[okP ok z,.blk cost [.int .i64 n'] TI,okP zC.Ok e])))
    (h:∀ z,pure z→WL P N D ops Q rest ((d,mk z)::E) (Mem w0 M (okP ok z::.blk cost [.int .i64 n'] TI::okP zC.Ok e::.blk box [.pointer (some ⟨bp,0,none⟩)] T1::.blk bp [.slice x.zA.A x.zA.l.length x.zA.c,.int .i64 x.zh] T2::Row (.slice x.zA.A x.zA.l.length x.zA.c) T3 9 zx x.zA.l::allP zF.Ok x.zA.l::R'))) :
    WL P N D ops Q (⟨some d,.call { callee:=.value y,args:=args,argTypes:=ts },ty,pos,aft,g⟩::rest) E (Mem w0 M L) :=
  uc (Φ := fun v w' => ∃ z, v = mk z ∧ pure z ∧ Mem w0 M (okP ok z :: .blk cost [.int .i64 n'] TI :: okP zC.Ok e :: .blk box [.pointer (some ⟨bp, 0, none⟩)] T1 :: .blk bp [.slice x.zA.A x.zA.l.length x.zA.c, .int .i64 x.zh] T2 :: Row (.slice x.zA.A x.zA.l.length x.zA.c) T3 9 zx x.zA.l :: allP zF.Ok x.zA.l :: R') w') hw hx hargs hcall hd (fun w hS => by
    have hS:=hA w hS
    obtain ⟨Pb,pp⟩:=hS.pb
    have hg:=Mem.give (A:=[.blk cost [.int .i64 n] TI,okP zC.Ok e]) hS pp
    let S:Nat→Prop:=fun b=>Pb b∨b=box∨b=bp∨(Value.slice x.zA.A x.zA.l.length x.zA.c).ownBlock=some b
    have hlt : ∀ b, S b → b < w.heap.size := by
      rintro b (hb | rfl | rfl | hb)
      · exact pp.lt b hb
      · exact (hS.ok 2 _ rfl).2.1 _ rfl
      · exact (hS.ok 3 _ rfl).2.1 _ rfl
      · exact (hS.ok 4 _ rfl).2.1 _ hb
    have hne : ∀ b, S b → b ≠ cost := by
      rintro b (hb | rfl | rfl | hb) e
      · exact pp.dj 0 _ rfl rfl b hb e
      · exact hS.dj 2 0 _ _ rfl rfl (by decide) (.inl rfl) _ rfl e
      · exact hS.dj 3 0 _ _ rfl rfl (by decide) (.inl rfl) _ rfl e
      · exact hS.dj 4 0 _ _ rfl rfl (by decide) (.inl rfl) _ hb e
    have hL : Lent T1 T2 S box bp x w := ⟨.inr (.inl rfl), .inr (.inr (.inl rfl)), hS.blk (i := 2) rfl, hS.blk (i := 3) rfl, (row_own encShelfX hS (i := 4) rfl).mono fun b hb => .inr (.inr (.inr hb)),
      fun s hs=>zF.Ok.loc s Pb S w w (fun b hb=>.inl hb) (fun _ _=>rfl) (pp.at_ 5 _ rfl s hs)⟩
    have hg2 := (hg.withDat (S := S) (C := Lent T1 T2 S box bp x) hlt (fun i o hi hm b hb hf => by
      cases i with
      | zero => obtain rfl : Own.blk cost [.int .i64 n] TI = o := by simpa using hi
                exact hne b hb hf
      | succ i => cases i with
        | zero => obtain rfl : okP zC.Ok e = o := by simpa using hi
                  cases hm
        | succ i=>simp at hi) hL Lent.loc).sel [1,0,2] (by decide) (L':=[.blk cost [.int .i64 n] TI,.dat S (Lent T1 T2 S box bp x),okP zC.Ok e]) rfl
    have hfp : fpOf [.blk cost [.int .i64 n] TI, okP zC.Ok e] = fpOf [.blk cost [.int .i64 n] TI, .dat S (Lent T1 T2 S box bp x), okP zC.Ok e] := by
      funext b; apply propext; unfold fpOf
      constructor
      · rintro ⟨o,ho,hm,hb⟩
        refine ⟨o,?_,hm,hb⟩
        simp only [List.mem_cons,List.not_mem_nil,or_false] at ho ⊢
        rcases ho with h | h
        · exact .inl h
        · exact .inr (.inr h)
      · rintro ⟨o,ho,hm,hb⟩
        simp only [List.mem_cons,List.not_mem_nil,or_false] at ho
        rcases ho with rfl | rfl | rfl
        · exact ⟨_,List.mem_cons_self,hm,hb⟩
        all_goals cases hm
    rw [hfp] at hg2
    have:=hc S w Pb hg2
    rw [← List.append_toArray] at this
    refine this.mono fun e' w' ⟨z,he,hz,hk⟩=>⟨mk z,he,z,rfl,hz,?_⟩
    rw [← hfp] at hk
    exact Mem.take (A':=[okP ok z,.blk cost [.int .i64 n'] TI,okP zC.Ok e]) hS pp hk rfl) (fun v w hw a ha=>by obtain ⟨z,rfl,hz,hm⟩:=hw; exact h z hz w hm a ha)
end
section
variable {x:ya} {d:yo} {e:zC} {er at_:Int} {z:SlX zO}
theorem ask_1 (hq : Pz.parse d.text = (e.e, (er, at_))) (h1 : er ≠ 0) : (x.e, yc.e ⟨er, at_, ⟨none, 0, []⟩, 0⟩) = (x.e, Bs.ask x.e d.e) := by
  unfold Bs.ask
  rw [show d.e.text=d.text from rfl,hq,if_pos h1]; rfl
theorem ask_2 (hq : Pz.parse d.text = (e.e, (er, at_))) (h1 : ¬ er ≠ 0) (h2 : Mn.check e.e d.to ≠ 0) : (x.e, (noX (Mn.check e.e d.to)).e) = (x.e, Bs.ask x.e d.e) := by
  unfold Bs.ask
  rw [show d.e.text=d.text from rfl,hq,if_neg h1,if_pos (show Mn.check e.e d.e.to≠0 from h2)]; rfl
theorem ask_3 (hq : Pz.parse d.text = (e.e, (er, at_))) (h1 : ¬ er ≠ 0) (h2 : ¬ Mn.check e.e d.to ≠ 0) (h3 : (Mn.out (Mn.eval (Bs.look (x.zA.l.map zF.e)) d.to e.e)).2 ≠ 0) : (x.e, (noX (Mn.out (Mn.eval (Bs.look (x.zA.l.map zF.e)) d.to e.e)).2).e) = (x.e, Bs.ask x.e d.e) := by
  unfold Bs.ask
  rw [show d.e.text=d.text from rfl,hq,if_neg h1,if_neg (show ¬ Mn.check e.e d.e.to≠0 from h2),if_pos (show (Bs.asked x.e.zA e.e d.e.to).2≠0 from h3)]; rfl
theorem ask_4 (hq : Pz.parse d.text = (e.e, (er, at_))) (h1 : ¬ er ≠ 0) (h2 : ¬ Mn.check e.e d.to ≠ 0) (h3 : ¬ (Mn.out (Mn.eval (Bs.look (x.zA.l.map zF.e)) d.to e.e)).2 ≠ 0) (hz : z.l.map zO.e = (Mn.out (Mn.eval (Bs.look (x.zA.l.map zF.e)) d.to e.e)).1) :
    (x.e,yc.e ⟨0,0,z,Mn.evalN (Bs.look (x.zA.l.map zF.e)) (Bs.cost (x.zA.l.map zF.e)) d.to e.e 0⟩)=(x.e,Bs.ask x.e d.e):=by
  unfold Bs.ask
  rw [show d.e.text=d.text from rfl,hq,if_neg h1,if_neg (show ¬ Mn.check e.e d.e.to≠0 from h2),if_neg (show ¬ (Bs.asked x.e.zA e.e d.e.to).2≠0 from h3)]
  show (x.e,(⟨0,0,z.l.map zO.e,_⟩:Ans))=_
  rw [hz]; rfl
theorem shelf_lens {n : Nat} (h : Bs.Inv x.e n) : ∀ s ∈ x.zA.l, s.sr.l.length ≤ 1048576 := fun s hs => by
  obtain ⟨all,hk,_⟩:=h.keep s.e (List.mem_map.2 ⟨s,hs,rfl⟩)
  have:s.e.zV.length≤4:=hk.ok.lens.1
  exact Nat.le_trans this (by decide)
end
section
variable {w0 w:World} {M:Fp} {L:List Own}
theorem Mem.sealB2 {i j k b : Nat} {cs : List Value} {T : TypeId} {o' o'' : Own} (h : Mem w0 M L w) (hi : L[i]? = some (.blk b cs T)) (hj : L[j]? = some o') (hk : L[k]? = some o'') (hij : Nat.beq i j = false) (hik : Nat.beq i k = false) (hM : ∀ b, M.m b → o'.fp b ∨ o''.fp b) : Mem w0 M (L.set i (celP ⟨b, 0, none⟩ cs)) w := by
  refine h.gG hi rfl (fun b' hb=>?_) (ve.loc _ _) fun Pb pp=>⟨.inr rfl,fun j u hu=>?_⟩
  · rcases (h.ok i _ hi).2.2 rfl b' hb with h1 | h1
    · exact .inl h1
    · rcases hM b' h1 with h2 | h2
      · exact absurd h2 (h.dj i j _ _ hi hj (Nat.ne_of_beq_eq_false hij) (.inl rfl) b' hb)
      · exact absurd h2 (h.dj i k _ _ hi hk (Nat.ne_of_beq_eq_false hik) (.inl rfl) b' hb)
  rw [add_lit]
  have:=h.cell (j:=0 + j) hi
  rw [this]; simpa using hu
theorem onlyB {α : Type} {enc : α → List Value} {l : List α} {v : Value} {e k b T T' : Nat} {cs cs' : List Value} {F1 F2 F3 F4 : (Nat → Prop) → World → Prop} (b' : Nat) (h : fpOf [.blk b cs T, Row v e k enc l, .pub F1, .pub F2, .pub F3, .pub F4] b') : (Own.blk b cs' T').fp b' ∨ (Row v e k enc l).fp b' := by
  obtain ⟨o,ho,hm,hb⟩:=h
  simp only [List.mem_cons,List.not_mem_nil,or_false] at ho
  rcases ho with rfl | rfl | rfl | rfl | rfl | rfl
  · exact .inl hb
  · exact .inr hb
  all_goals cases hm
variable {P:Program} {N:Nat} {D:List Deferred} {E:Env} {Q:Exit→Act→World→Prop} {ops:Array Oper} {rest:List Oper} {T:TypeId}
theorem l_sealB2 (i j k : Nat) {b : Nat} {cs : List Value} {o' o'' : Own} (hi : L[i]? = some (.blk b cs T)) (hj : L[j]? = some o') (hk : L[k]? = some o'') (hij : Nat.beq i j = false) (hik : Nat.beq i k = false) (hM : ∀ b, M.m b → o'.fp b ∨ o''.fp b) (h : WL P N D ops Q rest E (Mem w0 M (L.set i (celP ⟨b, 0, none⟩ cs)))) : WL P N D ops Q rest E (Mem w0 M L) :=
  fun w hS=>h w (hS.sealB2 hi hj hk hij hik hM)
end
structure DoAt (ba dad : Addr) (d : yo) (S : Nat → Prop) (w : World) : Prop where
  box:ve S ba [.pointer (some ((Addr.add dad 0).add 0))] w
  cel:ve S dad (uI d) w
  ok:yo.Ok S d w
theorem DoAt.loc (ba dad:Addr) (d:yo):Loc (DoAt ba dad d):=fun S S' u u' hs hk h=>⟨ve.loc _ _ S S' u u' hs hk h.box,ve.loc _ _ S S' u u' hs hk h.cel,yo.Ok.loc d S S' u u' hs hk h.ok⟩
section
variable {x z:ya} {d:yo} {r:Base × Ans}
theorem one_1 (h:d.kind=1) (hr:r=Bs.add x.e d.e):r=Bs.one x.e d.e:=hr.trans (if_pos h).symm
theorem one_2 (h1:¬ d.kind=1) (h4:d.kind=4) (hr:r=(x.e,Bs.ask x.e d.e)):r=Bs.one x.e d.e:=hr.trans ((if_neg h1).trans (if_pos h4)).symm
theorem one_3 (h1:¬ d.kind=1) (h4:¬ d.kind=4) (h:¬ (d.kind=2∨d.kind=3)):(x.e,(noX 1).e)=Bs.one x.e d.e:=((if_neg h1).trans ((if_neg h4).trans (if_pos h))).symm
theorem one_4 (h1:¬ d.kind=1) (h4:¬ d.kind=4) (h:d.kind=2∨d.kind=3) (ht:d.to < 0∨1000000 < d.to):(x.e,(noX 3).e)=Bs.one x.e d.e:=((if_neg h1).trans ((if_neg h4).trans ((if_neg (Classical.not_not.2 h)).trans (if_pos ht)))).symm
theorem one_r (h1 : ¬ d.kind = 1) (h4 : ¬ d.kind = 4) (h : d.kind = 2 ∨ d.kind = 3) (ht : ¬ (d.to < 0 ∨ 1000000 < d.to)) : Bs.one x.e d.e = if d.kind = 3 then (if d.tier < 0 ∨ 2 < d.tier then (x.e, Bs.no 1) else Bs.forgetAll x.e d.tier d.to) else Bs.rollAll x.e d.to :=
  (if_neg h1).trans ((if_neg h4).trans ((if_neg (Classical.not_not.2 h)).trans (if_neg ht)))
theorem one_5 (h1 : ¬ d.kind = 1) (h4 : ¬ d.kind = 4) (h : d.kind = 3) (ht : ¬ (d.to < 0 ∨ 1000000 < d.to)) (hr : d.tier < 0 ∨ 2 < d.tier) : (x.e, (noX 1).e) = Bs.one x.e d.e := by
  rw [one_r h1 h4 (.inr h) ht,if_pos h,if_pos hr]; rfl
theorem one_6 (h1 : ¬ d.kind = 1) (h4 : ¬ d.kind = 4) (h : d.kind = 3) (ht : ¬ (d.to < 0 ∨ 1000000 < d.to)) (hr : ¬ (d.tier < 0 ∨ 2 < d.tier))
    (hz:z.e=if (Bs.each (fun s=>Sh.forget s d.tier d.to) x.e.zA).2≠0 then x.e else ⟨(Bs.each (fun s=>Sh.forget s d.tier d.to) x.e.zA).1,x.zh⟩):(z.e,(noX (Bs.each (fun s=>Sh.forget s d.tier d.to) x.e.zA).2).e)=Bs.one x.e d.e:=by
  rw [one_r h1 h4 (.inr h) ht,if_pos h,if_neg hr,hz]
  unfold Bs.forgetAll
  split
  · rfl
  · rename_i h9
    show _=(_,Bs.no 0)
    rw [Classical.not_not.1 h9]; rfl
theorem one_7 (h1 : ¬ d.kind = 1) (h4 : ¬ d.kind = 4) (h2 : d.kind = 2) (ht : ¬ (d.to < 0 ∨ 1000000 < d.to)) (he : (Bs.each (fun s => Sh.roll s d.to) x.e.zA).2 ≠ 0)
    (hz:z.e=if (Bs.each (fun s=>Sh.roll s d.to) x.e.zA).2≠0 then x.e else ⟨(Bs.each (fun s=>Sh.roll s d.to) x.e.zA).1,x.zh⟩):(z.e,(noX (Bs.each (fun s=>Sh.roll s d.to) x.e.zA).2).e)=Bs.one x.e d.e:=by
  rw [one_r h1 h4 (.inl h2) ht,if_neg (by omega),hz,if_pos he]
  exact (if_pos he).symm
theorem one_8 (h1 : ¬ d.kind = 1) (h4 : ¬ d.kind = 4) (h2 : d.kind = 2) (ht : ¬ (d.to < 0 ∨ 1000000 < d.to)) (he : (Bs.each (fun s => Sh.roll s d.to) x.e.zA).2 = 0)
    (hz:z.e=if (Bs.each (fun s=>Sh.roll s d.to) x.e.zA).2≠0 then x.e else ⟨(Bs.each (fun s=>Sh.roll s d.to) x.e.zA).1,x.zh⟩):(ya.e ⟨z.zA,Sh.mx z.zh (d.to - d.to % 10)⟩,(noX (Bs.each (fun s=>Sh.roll s d.to) x.e.zA).2).e)=Bs.one x.e d.e:=by
  rw [if_neg (Classical.not_not.2 he)] at hz
  have e1:z.zA.l.map zF.e=(Bs.each (fun s=>Sh.roll s d.to) x.e.zA).1:=congrArg Base.zA hz
  have e2:z.zh=x.zh:=congrArg Base.zh hz
  rw [one_r h1 h4 (.inl h2) ht,if_neg (by omega),he,e2]
  show ((⟨z.zA.l.map zF.e,Sh.mx x.zh (d.to - d.to % 10)⟩:Base),Bs.no 0)=_
  rw [e1]
  exact (if_neg (Classical.not_not.2 he)).symm
theorem hor_of {g : Shelf → Shelf × Int} (hz : z.e = if (Bs.each g x.e.zA).2 ≠ 0 then x.e else ⟨(Bs.each g x.e.zA).1, x.zh⟩) : z.zh = x.zh := by
  have h:=congrArg Base.zh hz
  rw [show z.zh=z.e.zh from rfl,h]; split <;> rfl
end
section
variable {l:List yo} {k:Nat} {s:yo} {x:ya} {z:ya × yc} {zs:List yc} {r:List Ans}
theorem inv_at (h : Bs.run Bs.zero ((l.take k).map yo.e) = (x.e, r)) (hl : l.length ≤ 120) : Bs.Inv x.e 120 := by
  have:=Bs.inv_play ((l.take k).map yo.e) (by rw [List.length_map,List.length_take]; omega)
  rwa [h] at this
theorem play_next (hs : l[k]? = some s) (h : Bs.run Bs.zero ((l.take k).map yo.e) = (x.e, zs.map yc.e)) (hz : (z.1.e, z.2.e) = Bs.one x.e s.e) : Bs.run Bs.zero ((l.take (k + 1)).map yo.e) = (z.1.e, (zs ++ [z.2]).map yc.e) := by
  rw [Bs.run_next hs,h,← hz,List.map_append]; rfl
theorem play_many (h:120 < (l.length:Int)):Bs.play (l.map yo.e)=(Bs.zero,[],5):=by unfold Bs.play; rw [if_pos (by rw [List.length_map]; omega)]
theorem play_end (h : Bs.run Bs.zero ((l.take k).map yo.e) = (x.e, zs.map yc.e)) (hk : l.length ≤ k) (hl : l.length ≤ 120) : Bs.play (l.map yo.e) = (x.e, zs.map yc.e, 0) := by
  rw [List.take_of_length_le hk] at h
  unfold Bs.play
  rw [if_neg (by rw [List.length_map]; omega),h]
end
section
variable {x:ya} {d:yo} {s z:zF} {A:Option Addr} {c:Nat}
theorem asc_k {n:Nat} (h:Bs.Inv x.e n):Mn.Asc (x.zA.l.map zF.k):=by have:=h.asc; rw [show x.e.zA=x.zA.l.map zF.e from rfl,List.map_map] at this; exact this
theorem pos_ltS {cs : List zF} {s : List Label} (ha : Mn.Asc (cs.map zF.k)) (hh : Mn.has (cs.map zF.k) s = true) : Mn.pos (cs.map zF.k) s < cs.length := by
  obtain ⟨c,h1,_⟩:=Mn.put_set ⟨#[]⟩ 0 ha hh
  have:=(List.getElem?_eq_some_iff.1 h1).1
  simpa using this
theorem pos_leS {cs:List zF} {s:List Label}:Mn.pos (cs.map zF.k) s≤cs.length:=by have:=Mn.pos_le (cs.map zF.k) s; simpa using this
theorem len_k {n:Nat} (h:Bs.Inv x.e n):x.zA.l.length≤8:=by have:=h.len; rwa [show x.e.zA=x.zA.l.map zF.e from rfl,List.length_map] at this
theorem there_k (t:List Label):Bs.there x.e.zA t=Mn.has (x.zA.l.map zF.k) t:=by unfold Bs.there; rw [show x.e.zA=x.zA.l.map zF.e from rfl,List.map_map]; rfl
theorem place_k (t:List Label):Bs.place x.e.zA t=Mn.pos (x.zA.l.map zF.k) t:=by unfold Bs.place; rw [show x.e.zA=x.zA.l.map zF.e from rfl,List.map_map]; rfl
theorem add_1 (h1:zc.wrong d.sr.l≠0):(x.e,(noX (zc.wrong d.sr.l)).e)=Bs.add x.e d.e:=(if_pos h1).symm
theorem add_2 (h1:¬ zc.wrong d.sr.l≠0) (h2:(Codec.wrong [d.zf]).err≠0):(x.e,(noX (Codec.wrong [d.zf]).err).e)=Bs.add x.e d.e:=((if_neg h1).trans (if_pos h2)).symm
theorem add_3 (h1:¬ zc.wrong d.sr.l≠0) (h2:¬ (Codec.wrong [d.zf]).err≠0) (h3:d.zf.time < x.zh):(x.e,(noX 9).e)=Bs.add x.e d.e:=((if_neg h1).trans ((if_neg h2).trans (if_pos h3))).symm
theorem add_a (h1 : ¬ zc.wrong d.sr.l ≠ 0) (h2 : ¬ (Codec.wrong [d.zf]).err ≠ 0) (h3 : ¬ d.zf.time < x.zh) (h4 : Mn.has (x.zA.l.map zF.k) d.sr.l = true) (hs : x.zA.l[Mn.pos (x.zA.l.map zF.k) d.sr.l]? = some s) :
    Bs.add x.e d.e=if (Sh.append s.e d.zf).2≠0 then (x.e,Bs.no (Sh.append s.e d.zf).2) else (⟨x.e.zA.set (Bs.place x.e.zA d.e.sr) (Sh.append s.e d.zf).1,x.zh⟩,Bs.no 0):=by
  refine (if_neg h1).trans ((if_neg h2).trans ((if_neg h3).trans ((if_pos ((there_k _).trans h4)).trans ?_)))
  have:x.e.zA[Bs.place x.e.zA d.e.sr]?=some s.e:=by rw [place_k,show x.e.zA=x.zA.l.map zF.e from rfl,List.getElem?_map]; exact congrArg (Option.map zF.e) hs
  rw [this]; rfl
theorem add_4 (h1 : ¬ zc.wrong d.sr.l ≠ 0) (h2 : ¬ (Codec.wrong [d.zf]).err ≠ 0) (h3 : ¬ d.zf.time < x.zh) (h4 : Mn.has (x.zA.l.map zF.k) d.sr.l = true) (hs : x.zA.l[Mn.pos (x.zA.l.map zF.k) d.sr.l]? = some s)
    (h5:(Sh.append s.e d.zf).2≠0):(x.e,(noX (Sh.append s.e d.zf).2).e)=Bs.add x.e d.e:=by rw [add_a h1 h2 h3 h4 hs,if_pos h5]; rfl
theorem add_5 (h1 : ¬ zc.wrong d.sr.l ≠ 0) (h2 : ¬ (Codec.wrong [d.zf]).err ≠ 0) (h3 : ¬ d.zf.time < x.zh) (h4 : Mn.has (x.zA.l.map zF.k) d.sr.l = true) (hs : x.zA.l[Mn.pos (x.zA.l.map zF.k) d.sr.l]? = some s)
    (h5:¬ (Sh.append s.e d.zf).2≠0) (hz:z.e=(Sh.append s.e d.zf).1):(ya.e ⟨⟨A,c,x.zA.l.set (Mn.pos (x.zA.l.map zF.k) d.sr.l) z⟩,x.zh⟩,(noX 0).e)=Bs.add x.e d.e:=by
  rw [add_a h1 h2 h3 h4 hs,if_neg h5,place_k,← hz]
  show ((⟨(x.zA.l.set _ z).map zF.e,x.zh⟩:Base),Bs.no 0)=_
  rw [List.map_set]; rfl
theorem add_b (h1 : ¬ zc.wrong d.sr.l ≠ 0) (h2 : ¬ (Codec.wrong [d.zf]).err ≠ 0) (h3 : ¬ d.zf.time < x.zh) (h4 : Mn.has (x.zA.l.map zF.k) d.sr.l = false) :
    Bs.add x.e d.e = if x.e.zA.length = 8 then (x.e, Bs.no 5) else if (Sh.append (Bs.fresh d.sr.l x.zh) d.zf).2 ≠ 0 then (x.e, Bs.no (Sh.append (Bs.fresh d.sr.l x.zh) d.zf).2)
      else (⟨x.e.zA.take (Bs.place x.e.zA d.sr.l)++(Sh.append (Bs.fresh d.sr.l x.zh) d.zf).1::x.e.zA.drop (Bs.place x.e.zA d.sr.l),x.zh⟩,Bs.no 0) :=
  (if_neg h1).trans ((if_neg h2).trans ((if_neg h3).trans (if_neg (by rw [there_k]; intro h; rw [show Mn.has (x.zA.l.map zF.k) d.e.sr=false from h4] at h; cases h))))
theorem add_6 (h1 : ¬ zc.wrong d.sr.l ≠ 0) (h2 : ¬ (Codec.wrong [d.zf]).err ≠ 0) (h3 : ¬ d.zf.time < x.zh) (h4 : Mn.has (x.zA.l.map zF.k) d.sr.l = false) (h5 : (x.zA.l.length : Int) = 8) : (x.e, (noX 5).e) = Bs.add x.e d.e := by
  rw [add_b h1 h2 h3 h4,if_pos (by rw [show x.e.zA=x.zA.l.map zF.e from rfl,List.length_map]; omega)]; rfl
theorem add_7 (h1 : ¬ zc.wrong d.sr.l ≠ 0) (h2 : ¬ (Codec.wrong [d.zf]).err ≠ 0) (h3 : ¬ d.zf.time < x.zh) (h4 : Mn.has (x.zA.l.map zF.k) d.sr.l = false) (h5 : ¬ (x.zA.l.length : Int) = 8)
    (h6:(Sh.append (Bs.fresh d.sr.l x.zh) d.zf).2≠0):(x.e,(noX (Sh.append (Bs.fresh d.sr.l x.zh) d.zf).2).e)=Bs.add x.e d.e:=by
  rw [add_b h1 h2 h3 h4,if_neg (by rw [show x.e.zA=x.zA.l.map zF.e from rfl,List.length_map]; omega),if_pos h6]; rfl
theorem add_8 (h1 : ¬ zc.wrong d.sr.l ≠ 0) (h2 : ¬ (Codec.wrong [d.zf]).err ≠ 0) (h3 : ¬ d.zf.time < x.zh) (h4 : Mn.has (x.zA.l.map zF.k) d.sr.l = false) (h5 : ¬ (x.zA.l.length : Int) = 8)
    (h6:¬ (Sh.append (Bs.fresh d.sr.l x.zh) d.zf).2≠0) (hz:z.e=(Sh.append (Bs.fresh d.sr.l x.zh) d.zf).1) :
    (ya.e ⟨⟨A,c,x.zA.l.take (Mn.pos (x.zA.l.map zF.k) d.sr.l)++z::x.zA.l.drop (Mn.pos (x.zA.l.map zF.k) d.sr.l)⟩,x.zh⟩,(noX 0).e)=Bs.add x.e d.e:=by
  rw [add_b h1 h2 h3 h4,if_neg (by rw [show x.e.zA=x.zA.l.map zF.e from rfl,List.length_map]; omega),if_neg h6,place_k,← hz]
  show ((⟨(x.zA.l.take _++z::x.zA.l.drop _).map zF.e,x.zh⟩:Base),Bs.no 0)=_
  rw [List.map_append,List.map_cons,List.map_take,List.map_drop]; rfl
end
end Ex
end
section
namespace Bs
open Ex Sh
set_option linter.unusedVariables false
def hostL (h:ByteArray):List Label:=[⟨⟨#[104,111,115,116]⟩,h⟩]
def addD (h:ByteArray) (t v:Int):Do:=⟨1,0,0,hostL h,⟨t,v⟩,⟨#[]⟩⟩
def askD (s:ByteArray) (t:Int):Do:=⟨4,0,t,[],⟨0,0⟩,s⟩
def rollD (t:Int):Do:=⟨2,0,t,[],⟨0,0⟩,⟨#[]⟩⟩
def last (l:List Do):Ans:=if (play l).2.2≠0 then no 1 else match (play l).2.1.getLast? with | none=>no 1 | some x=>x
def s1 (h:ByteArray) (a v:Int):Shelf:=(append (fresh (hostL h) 0) ⟨a,v⟩).1
def s2 (h:ByteArray) (a v to:Int):Shelf:=(roll (s1 h a v) to).1
end Bs
namespace Ex
def PlayOk (z:ya × SlX yc) (S:Nat→Prop) (w:World):Prop:=ya.Ok S z.1 w∧AnssX.Ok S z.2 w
theorem PlayOk.loc (z:ya × SlX yc):Loc (PlayOk z):=fun S S' u u' hs hk h=>⟨ya.Ok.loc _ S S' u u' hs hk h.1,AnssX.Ok.loc _ S S' u u' hs hk h.2⟩
theorem PlayOk.wf {z:ya × SlX yc} {S:Nat→Prop} {w:World} (h:PlayOk z S w):ya.Wf z.1∧AnssX.Wf z.2:=⟨h.1.wf,h.2.wf⟩
theorem Mem.playX {w0 w : World} {M : Fp} {L : List Own} (h : Mem w0 M L w) (q : Nat) {z : ya × SlX yc} (hi : L[q]? = some (.pub (PlayOk z))) : Mem w0 M (slP 4 uH (.slice z.2.A z.2.l.length z.2.c) z.2.l :: allP yc.Ok z.2.l :: okP ya.Ok z.1 :: L) w := by
  have h1:=h.imp q hi (ya.Ok.loc z.1) fun _ hF=>hF.1
  have h2:=h1.imp (q + 1) hi (all_loc yc.Ok.loc z.2.l) fun _ hF=>hF.2.all
  exact h2.imp (q + 2) hi (zJ.loc 4 uH _ z.2.l) fun _ hF=>hF.2.sl
end Ex
end
section
namespace Bs
open Ex Sh
set_option linter.unusedVariables false
theorem add_same {b : Base} {d : Do} (h : (add b d).2.err ≠ 0) : (add b d).1 = b := by
  unfold add at h ⊢
  by_cases h1:zc.wrong d.sr≠0
  · rw [if_pos h1]
  rw [if_neg h1] at h ⊢
  by_cases h2:(Codec.wrong [d.zf]).err≠0
  · rw [if_pos h2]
  rw [if_neg h2] at h ⊢
  by_cases h3:d.zf.time < b.zh
  · rw [if_pos h3]
  rw [if_neg h3] at h ⊢
  by_cases h4:there b.zA d.sr=true
  · rw [if_pos h4] at h ⊢
    split
    · rfl
    · rename_i s hs
      rw [hs] at h
      simp only at h ⊢
      by_cases h5:(append s d.zf).2≠0
      · rw [if_pos h5]
      · rw [if_neg h5] at h; exact absurd rfl h
  rw [if_neg h4] at h ⊢
  by_cases h5:b.zA.length=8
  · rw [if_pos h5]
  rw [if_neg h5] at h ⊢
  by_cases h6:(append (fresh d.sr b.zh) d.zf).2≠0
  · rw [if_pos h6]
  · rw [if_neg h6] at h; exact absurd rfl h
theorem one_same {b : Base} {d : Do} (h : (one b d).2.err ≠ 0 ∨ d.kind = 4) : (one b d).1 = b := by
  unfold one at h ⊢
  by_cases h1:d.kind=1
  · rw [if_pos h1] at h ⊢; exact add_same (h.resolve_right (by omega))
  rw [if_neg h1] at h ⊢
  by_cases h4:d.kind=4
  · rw [if_pos h4]
  rw [if_neg h4] at h ⊢
  by_cases h2:¬ (d.kind=2∨d.kind=3)
  · rw [if_pos h2]
  rw [if_neg h2] at h ⊢
  by_cases h5:d.to < 0∨1000000 < d.to
  · rw [if_pos h5]
  rw [if_neg h5] at h ⊢
  have h:=h.resolve_right h4
  by_cases h3:d.kind=3
  · rw [if_pos h3] at h ⊢
    by_cases h6:d.tier < 0∨2 < d.tier
    · rw [if_pos h6]
    rw [if_neg h6] at h ⊢
    unfold forgetAll at h ⊢
    by_cases h7:(each (fun s=>forget s d.tier d.to) b.zA).2≠0
    · rw [if_pos h7]
    · rw [if_neg h7] at h; exact absurd rfl h
  · rw [if_neg h3] at h ⊢
    unfold rollAll at h ⊢
    by_cases h7:(each (fun s=>roll s d.to) b.zA).2≠0
    · rw [if_pos h7]
    · rw [if_neg h7] at h; exact absurd rfl h
def kept : List Do → List Ans → List Do
  | d::r,a::s=>if a.err=0∧d.kind≠4 then d::kept r s else kept r s
  | _,_=>[]
theorem run_len : ∀ (l : List Do) (b : Base), (run b l).2.length = l.length
  | [],_=>rfl
  | d::r,b=>by rw [run,List.length_cons,List.length_cons,run_len r]
theorem kept_run : ∀ (l : List Do) (b : Base), (run b (kept l (run b l).2)).1 = (run b l).1 ∧ ∀ x ∈ (run b (kept l (run b l).2)).2, x.err = 0
  | [],b=>⟨rfl,fun x hx=>absurd hx (List.not_mem_nil)⟩
  | d :: r, b => by
    have ih:=kept_run r (one b d).1
    rw [run]
    show (run b (if (one b d).2.err=0∧d.kind≠4 then d::kept r (run (one b d).1 r).2 else kept r (run (one b d).1 r).2)).1=_∧∀ x ∈ (run b (if (one b d).2.err=0∧d.kind≠4 then d::kept r (run (one b d).1 r).2 else kept r (run (one b d).1 r).2)).2,_
    by_cases h:(one b d).2.err=0∧d.kind≠4
    · rw [if_pos h,run]
      refine ⟨ih.1,fun x hx=>?_⟩
      rcases List.mem_cons.1 hx with rfl | hx
      · exact h.1
      · exact ih.2 x hx
    · rw [if_neg h]
      have hs : (one b d).1 = b := one_same (by
        by_cases h1:(one b d).2.err=0
        · exact .inr (Classical.not_not.1 fun g=>h ⟨h1,g⟩)
        · exact .inl h1)
      rw [hs] at ih ⊢
      exact ih
theorem kept_len : ∀ (l : List Do) (a : List Ans), (kept l a).length ≤ l.length
  | [],_=>by rw [kept]; exact Nat.le_refl _; simp
  | d::r,[]=>by rw [kept]; exact Nat.zero_le _; simp
  | d :: r, a :: s => by
    have:=kept_len r s
    rw [kept]; split <;> simp only [List.length_cons] <;> omega
theorem kept_snoc (d : Do) (a : Ans) : ∀ (l : List Do) (s : List Ans), l.length = s.length → kept (l ++ [d]) (s ++ [a]) = kept l s ++ (if a.err = 0 ∧ d.kind ≠ 4 then [d] else [])
  | [], [], _ => by
    show (if a.err=0∧d.kind≠4 then d::kept [] [] else kept [] [])=[]++_
    split <;> rfl
  | x :: l, y :: s, h => by
    have ih:=kept_snoc d a l s (by simpa using h)
    rw [List.cons_append,List.cons_append,kept,kept,ih]
    split <;> simp
theorem play_kept {l : List Do} (h : ¬ (play l).2.2 ≠ 0) : play (kept l (play l).2.1) = ((play l).1, (run zero (kept l (play l).2.1)).2, 0) ∧ ∀ x ∈ (play (kept l (play l).2.1)).2.1, x.err = 0 := by
  have hl:¬ 120 < l.length:=fun g=>h (by unfold play; rw [if_pos g]; decide)
  have hp:play l=((run zero l).1,(run zero l).2,0):=by unfold play; rw [if_neg hl]
  obtain ⟨k1,k2⟩:=kept_run l zero
  have hk:¬ 120 < (kept l (run zero l).2).length:=by have:=kept_len l (run zero l).2; omega
  have e:play (kept l (run zero l).2)=((run zero l).1,(run zero (kept l (run zero l).2)).2,0):=by unfold play; rw [if_neg hk,k1]
  rw [hp]
  exact ⟨e,by rw [e]; exact k2⟩
section
variable {a b:ya} {k:Nat} {s t:zF}
instance:DecidableEq Base:=fun a b=>decidable_of_iff (a.zA=b.zA∧a.zh=b.zh) ⟨fun h=>by cases a; cases b; simp only at h; rw [h.1,h.2],fun h=>by rw [h]; exact ⟨rfl,rfl⟩⟩
theorem base_eq (h1:a.zh=b.zh) (h2:a.zA.l.map zF.e=b.zA.l.map zF.e):a.e=b.e:=by unfold ya.e; rw [h1,h2]
theorem base_ne1 (h:¬ (a.zh=b.zh∧a.zA.l.length=b.zA.l.length)):¬ a.e=b.e:=fun g=>h ⟨congrArg Base.zh g,by have:=congrArg (fun x:Base=>x.zA.length) g; simpa [ya.e] using this⟩
theorem base_ne2 (hs : a.zA.l[k]? = some s) (ht : b.zA.l[k]? = some t) (h : ¬ s.e = t.e) : ¬ a.e = b.e := fun g => h (by
  have:=congrArg (fun x:Base=>x.zA[k]?) g
  simp only [ya.e,List.getElem?_map,hs,ht,Option.map_some,Option.some.injEq] at this
  exact this)
theorem take_same {l m : List zF} (hs : l[k]? = some s) (ht : m[k]? = some t) (h : (l.take k).map zF.e = (m.take k).map zF.e) (he : s.e = t.e) : (l.take (k + 1)).map zF.e = (m.take (k + 1)).map zF.e := by
  rw [List.take_add_one,List.take_add_one,hs,ht,List.map_append,List.map_append,h]
  simp [he]
end
section
variable {l gs:List yo} {azs:List yc} {k:Nat} {d:yo} {a:yc} {z y:ya × SlX yc}
theorem play_len (hz : (z.1.e, z.2.l.map yc.e) = ((play (l.map yo.e)).1, (play (l.map yo.e)).2.1)) (h : ¬ (play (l.map yo.e)).2.2 ≠ 0) : z.2.l.length = l.length := by
  have e2:=(Prod.mk.inj hz).2
  have hl:¬ 120 < (l.map yo.e).length:=fun g=>h (by unfold play; rw [if_pos g]; decide)
  have hp:play (l.map yo.e)=((run zero (l.map yo.e)).1,(run zero (l.map yo.e)).2,0):=by unfold play; rw [if_neg hl]
  rw [hp] at e2
  have:=congrArg List.length e2
  rw [List.length_map] at this; rw [this]
  show (run zero (l.map yo.e)).2.length=_
  rw [run_len,List.length_map]
theorem play_bound (h : ¬ (play (l.map yo.e)).2.2 ≠ 0) : l.length ≤ 120 := by
  have hl:¬ 120 < (l.map yo.e).length:=fun g=>h (by unfold play; rw [if_pos g]; decide)
  rw [List.length_map] at hl; omega
theorem kept_at (hd : l[k]? = some d) (ha : azs[k]? = some a) : kept ((l.take (k + 1)).map yo.e) ((azs.take (k + 1)).map yc.e) = kept ((l.take k).map yo.e) ((azs.take k).map yc.e) ++ (if a.err = 0 ∧ d.kind ≠ 4 then [d.e] else []) := by
  have h1:=(List.getElem?_eq_some_iff.1 hd).1; have h2:=(List.getElem?_eq_some_iff.1 ha).1
  rw [List.take_add_one,List.take_add_one,hd,ha,Option.toList_some,Option.toList_some,List.map_append,List.map_append,List.map_cons,List.map_cons,List.map_nil,List.map_nil,kept_snoc _ _ _ _ (by simp only [List.length_map,List.length_take]; omega)]; rfl
theorem kept_yes (hd : l[k]? = some d) (ha : azs[k]? = some a) (h : gs.map yo.e = kept ((l.take k).map yo.e) ((azs.take k).map yc.e)) (h1 : a.err = 0 ∧ d.kind ≠ 4) : (gs ++ [d]).map yo.e = kept ((l.take (k + 1)).map yo.e) ((azs.take (k + 1)).map yc.e) := by
  rw [kept_at hd ha,if_pos h1,List.map_append,h]; rfl
theorem kept_no (hd : l[k]? = some d) (ha : azs[k]? = some a) (h : gs.map yo.e = kept ((l.take k).map yo.e) ((azs.take k).map yc.e)) (h1 : ¬ (a.err = 0 ∧ d.kind ≠ 4)) : gs.map yo.e = kept ((l.take (k + 1)).map yo.e) ((azs.take (k + 1)).map yc.e) := by
  rw [kept_at hd ha,if_neg h1,List.append_nil,h]
theorem kept_x (hz : (z.1.e, z.2.l.map yc.e) = ((play (l.map yo.e)).1, (play (l.map yo.e)).2.1)) (h : ¬ (play (l.map yo.e)).2.2 ≠ 0) (hg : gs.map yo.e = kept ((l.take k).map yo.e) ((z.2.l.take k).map yc.e)) (hk : l.length ≤ k)
    (hy:(y.1.e,y.2.l.map yc.e)=((play (gs.map yo.e)).1,(play (gs.map yo.e)).2.1)):(play (gs.map yo.e)).2.2=0∧(∀ s ∈ y.2.l,s.err=0)∧z.1.e=y.1.e:=by
  have hlen:=play_len hz h
  rw [List.take_of_length_le hk,List.take_of_length_le (by omega)] at hg
  obtain ⟨z1,z2⟩:=Prod.mk.inj hz
  obtain ⟨y1,y2⟩:=Prod.mk.inj hy
  rw [z2] at hg
  obtain ⟨k1,k2⟩:=play_kept h
  rw [← hg] at k1 k2
  refine ⟨by rw [k1],fun s hs=>k2 s.e (by rw [← y2]; exact List.mem_map.2 ⟨s,hs,rfl⟩),by rw [z1,y1,k1]⟩
end
def sumT9:ByteArray:=⟨#[97,108,108,32,115,117,109,32,40,115,117,109,40,123,125,91,54,48,93,41,41]⟩
def topL9:List Do:=[addD ⟨#[120]⟩ 5 7,addD ⟨#[121]⟩ 6 8,rollD 100,askD sumT9 60]
theorem alive_9:(play topL9).2.2=0∧(play topL9).2.1.length=4∧(play topL9).1.zA.length=2∧((play topL9).2.1[3]?.map fun a=>(a.cells.map (·.value),a.cost))=some ([15],2):=by decide +kernel
theorem alive9_x {l : List yo} {z : ya × SlX yc} (hl : l.map yo.e = topL9) (hz : (z.1.e, z.2.l.map yc.e) = ((play (l.map yo.e)).1, (play (l.map yo.e)).2.1)) :
    (play (l.map yo.e)).2.2=0∧z.2.l.length=4∧z.1.zA.l.length=2∧∀ s,z.2.l[3]?=some s→s.cells.l.map (fun c=>c.value)=[15]∧s.cost=2:=by
  obtain ⟨h1,h2,h3,h4⟩:=alive_9
  rw [hl] at hz ⊢
  generalize play topL9=p at h1 h2 h3 h4 hz ⊢
  obtain ⟨e1,e2⟩:=Prod.mk.inj hz
  rw [← e2] at h2 h4; rw [← e1] at h3
  refine ⟨h1,by simpa using h2,by have:(z.1.zA.l.map zF.e).length=2:=h3; simpa using this,fun s hs=>?_⟩
  rw [List.getElem?_map,hs] at h4
  simp only [Option.map_some,Option.some.injEq,Prod.mk.injEq] at h4
  refine ⟨?_,h4.2⟩
  have:(s.cells.l.map zO.e).map (·.value)=[15]:=h4.1
  rw [List.map_map] at this; exact this
theorem val9_x {l : List zO} {c : zO} {n : Int} (h : l.map (fun c => c.value) = [n]) (hs : l[0]? = some c) : c.value = n := by
  have:=congrArg (·[0]?) h
  simp only [List.getElem?_map,hs,Option.map_some] at this
  simpa using this
end Bs
end
section
open Tryz
open Ex
set_option linter.unusedVariables false
set_option linter.unusedSimpArgs false
set_option maxHeartbeats 2000000 in
theorem c_shSame (a0 : Value) (a1 : Value) (a2 : Value) (a3 : Value) (a : Shelf) (b0 : Value) (b1 : Value) (b2 : Value) (b3 : Value) (b : Shelf) (P0 : Nat → Prop) (w : World) (hP0 : ∀ b, P0 b → b < w.heap.size) (ha0 : zJ P0 2 zj a0 a.zV w) (ha1 : zJ P0 2 zo a1 a.raw w) (ha2 : zJ P0 8 zU a2 a.fine w) (ha3 : zJ P0 8 zU a3 a.coarse w) (hb0 : zJ P0 2 zj b0 b.zV w) (hb1 : zJ P0 2 zo b1 b.raw w) (hb2 : zJ P0 8 zU b2 b.fine w) (hb3 : zJ P0 8 zU b3 b.coarse w)  :
    Calls prog 39 #[.agg (List.toArray [a0,a1,a2,a3,iV a.ze,iV a.zW,iV a.zI,iV a.zN,iV a.zH]),.agg (List.toArray [b0,b1,b2,b3,iV b.ze,iV b.zW,iV b.zI,iV b.zN,iV b.zH])] w (Ret w (.bool (decide (a=b)))):=by
 obtain ⟨a0A,a0c,rfl,ha0c,ha0m,ha0A⟩:=ha0.form
 obtain ⟨a1A,a1c,rfl,ha1c,ha1m,ha1A⟩:=ha1.form
 obtain ⟨a2A,a2c,rfl,ha2c,ha2m,ha2A⟩:=ha2.form
 obtain ⟨a3A,a3c,rfl,ha3c,ha3m,ha3A⟩:=ha3.form
 obtain ⟨b0A,b0c,rfl,hb0c,hb0m,hb0A⟩:=hb0.form
 obtain ⟨b1A,b1c,rfl,hb1c,hb1m,hb1A⟩:=hb1.form
 obtain ⟨b2A,b2c,rfl,hb2c,hb2m,hb2A⟩:=hb2.form
 obtain ⟨b3A,b3c,rfl,hb3c,hb3m,hb3A⟩:=hb3.form
 refine fstart (N:=66) (vals:=[.agg (List.toArray [.slice a0A a.zV.length a0c,.slice a1A a.raw.length a1c,.slice a2A a.fine.length a2c,.slice a3A a.coarse.length a3c,iV a.ze,iV a.zW,iV a.zI,iV a.zN,iV a.zH]),.agg (List.toArray [.slice b0A b.zV.length b0c,.slice b1A b.raw.length b1c,.slice b2A b.fine.length b2c,.slice b3A b.coarse.length b3c,iV b.ze,iV b.zW,iV b.zI,iV b.zN,iV b.zH])]) (S:=Mem w ⟨no,P0⟩ [slP 2 zj (.slice a0A a.zV.length a0c) a.zV,slP 2 zo (.slice a1A a.raw.length a1c) a.raw,slP 8 zU (.slice a2A a.fine.length a2c) a.fine,slP 8 zU (.slice a3A a.coarse.length a3c) a.coarse,slP 2 zj (.slice b0A b.zV.length b0c) b.zV,slP 2 zo (.slice b1A b.raw.length b1c) b.raw,slP 8 zU (.slice b2A b.fine.length b2c) b.fine,slP 8 zU (.slice b3A b.coarse.length b3c) b.coarse]) func39 rfl rfl rfl (Mem.ofDatsP hP0 (dc (dlp ha0) (dc (dlp ha1) (dc (dlp ha2) (dc (dlp ha3) (dc (dlp hb0) (dc (dlp hb1) (dc (dlp hb2) (dc (dlp hb3) dn))))))))) (zG fun _ hK1=>vS wn rfl rfl fun b2_1=>vS wn rfl rfl fun b3_1=>zP rfl (zD hK1 (zG fun _ hK2=>zB (za rfl fld50_0) (zB (zg 1 rfl rfl rfl flat39) (zB (za rfl fld50_0) (zB (zg 0 rfl rfl rfl flat39) (yF wn rfl call41 rfl (fun w1 hM=>c_SameSeries _ a.zV _ b.zV w1 (hM.slp 2 rfl) (hM.slp 6 rfl)) ?_)))))))
 refine zE rfl (yQ (t:=10) rfl (fun h1=>?_) (fun h1=>?_))
 · refine zb (za rfl fld50_1) (zb (zg 1 rfl rfl rfl flat47) (zb (za rfl fld50_1) (zb (zg 0 rfl rfl rfl flat47) (yF (wg rfl rfl rfl) rfl call90 rfl (fun w1 hM=>c_SameSamples _ a.raw _ b.raw w1 (hM.slp 3 rfl) (hM.slp 7 rfl)) (zB (zM rfl rfl) (zE rfl (yQ (t:=17) rfl (fun h2=>?_) (fun h2=>?_))))))))
   · refine zb (za rfl fld50_2) (zb (zg 1 rfl rfl rfl flat48) (zb (za rfl fld50_2) (zb (zg 0 rfl rfl rfl flat48) (yF (wg rfl rfl rfl) rfl call91 rfl (fun w1 hM=>c_SameBuckets _ a.fine _ b.fine w1 (hM.slp 4 rfl) (hM.slp 8 rfl)) (zB (zM rfl rfl) (zE rfl (yQ (t:=24) rfl (fun h3=>?_) (fun h3=>?_))))))))
     · refine zb (za rfl fld50_3) (zb (zg 1 rfl rfl rfl flat48) (zb (za rfl fld50_3) (zb (zg 0 rfl rfl rfl flat48) (yF (wg rfl rfl rfl) rfl call91 rfl (fun w1 hM=>c_SameBuckets _ a.coarse _ b.coarse w1 (hM.slp 5 rfl) (hM.slp 9 rfl)) (zB (zM rfl rfl) (zE rfl (yQ (t:=31) rfl (fun h4=>?_) (fun h4=>?_))))))))
       · refine zb (za rfl fld50_4) (zb (zg 1 rfl rfl rfl flat3) (zb (za rfl fld50_4) (zb (zg 0 rfl rfl rfl flat3) (zb (yf rfl rfl) (zB (zM rfl rfl) (zE rfl (yQ (t:=38) rfl (fun h5=>?_) (fun h5=>?_))))))))
         · refine zb (za rfl fld50_5) (zb (zg 1 rfl rfl rfl flat3) (zb (za rfl fld50_5) (zb (zg 0 rfl rfl rfl flat3) (zb (yf rfl rfl) (zB (zM rfl rfl) (zE rfl (yQ (t:=45) rfl (fun h6=>?_) (fun h6=>?_))))))))
           · refine zb (za rfl fld50_6) (zb (zg 1 rfl rfl rfl flat3) (zb (za rfl fld50_6) (zb (zg 0 rfl rfl rfl flat3) (zb (yf rfl rfl) (zB (zM rfl rfl) (zE rfl (yQ (t:=52) rfl (fun h7=>?_) (fun h7=>?_))))))))
             · refine zb (za rfl fld50_7) (zb (zg 1 rfl rfl rfl flat3) (zb (za rfl fld50_7) (zb (zg 0 rfl rfl rfl flat3) (zb (yf rfl rfl) (zB (zM rfl rfl) (zE rfl (yQ (t:=59) rfl (fun h8=>?_) (fun h8=>?_))))))))
               · refine zb (za rfl fld50_8) (zb (zg 1 rfl rfl rfl flat3) (zb (za rfl fld50_8) (zb (zg 0 rfl rfl rfl flat3) (zb (yf rfl rfl) (zB (zM rfl rfl) (zP rfl (zD hK2 (zX (zY (.inl rfl) results39 (zR rfl) fun w1 hM=>?_)))))))))
                 exact zn (congrArg Value.bool (by rw [Bool.eq_iff_iff]; simp [Sh.eq_iff,h1,h2,h3,h4,h5,h6,h7,h8])) hM
               refine zQ (zQ (zQ (zQ (zQ (zB (zM rfl rfl) (zP rfl (zD hK2 (zX (zY (.inl rfl) results39 (zR rfl) fun w1 hM=>?_)))))))))
               exact zn (congrArg Value.bool (by rw [Bool.eq_iff_iff]; simp [Sh.eq_iff,h1,h2,h3,h4,h5,h6,h7,h8])) hM
             refine zQ (zQ (zQ (zQ (zQ (zB (zM rfl rfl) (zE rfl (zQ (zQ (zQ (zQ (zQ ?_)))))))))))
             refine zB (zM rfl rfl) (zP rfl (zD hK2 (zX (zY (.inl rfl) results39 (zR rfl) fun w1 hM=>?_))))
             exact zn (congrArg Value.bool (by rw [Bool.eq_iff_iff]; simp [Sh.eq_iff,h1,h2,h3,h4,h5,h6,h7])) hM
           refine zQ (zQ (zQ (zQ (zQ (zB (zM rfl rfl) (zE rfl (zQ (zQ (zQ (zQ (zQ ?_)))))))))))
           refine zB (zM rfl rfl) (zE rfl (zQ (zQ (zQ (zQ (zQ (zB (zM rfl rfl) (zP rfl (zD hK2 (zX (zY (.inl rfl) results39 (zR rfl) fun w1 hM=>?_)))))))))))
           exact zn (congrArg Value.bool (by rw [Bool.eq_iff_iff]; simp [Sh.eq_iff,h1,h2,h3,h4,h5,h6])) hM
         refine zQ (zQ (zQ (zQ (zQ (zB (zM rfl rfl) (zE rfl (zQ (zQ (zQ (zQ (zQ ?_)))))))))))
         refine zB (zM rfl rfl) (zE rfl (zQ (zQ (zQ (zQ (zQ (zB (zM rfl rfl) (zE rfl (zQ (zQ (zQ ?_)))))))))))
         refine zQ (zQ (zB (zM rfl rfl) (zP rfl (zD hK2 (zX (zY (.inl rfl) results39 (zR rfl) fun w1 hM=>?_))))))
         exact zn (congrArg Value.bool (by rw [Bool.eq_iff_iff]; simp [Sh.eq_iff,h1,h2,h3,h4,h5])) hM
       refine zQ (zQ (zQ (zQ (zQ (zB (zM rfl rfl) (zE rfl (zQ (zQ (zQ (zQ (zQ ?_)))))))))))
       refine zB (zM rfl rfl) (zE rfl (zQ (zQ (zQ (zQ (zQ (zB (zM rfl rfl) (zE rfl (zQ (zQ (zQ ?_)))))))))))
       refine zQ (zQ (zB (zM rfl rfl) (zE rfl (zQ (zQ (zQ (zQ (zQ (zB (zM rfl rfl) (zP rfl (zD hK2 ?_)))))))))))
       refine zX (zY (.inl rfl) results39 (zR rfl) fun w1 hM=>?_)
       exact zn (congrArg Value.bool (by rw [Bool.eq_iff_iff]; simp [Sh.eq_iff,h1,h2,h3,h4])) hM
     refine zQ (zQ (zQ (zQ (zQ (zB (zM rfl rfl) (zE rfl (zQ (zQ (zQ (zQ (zQ ?_)))))))))))
     refine zB (zM rfl rfl) (zE rfl (zQ (zQ (zQ (zQ (zQ (zB (zM rfl rfl) (zE rfl (zQ (zQ (zQ ?_)))))))))))
     refine zQ (zQ (zB (zM rfl rfl) (zE rfl (zQ (zQ (zQ (zQ (zQ (zB (zM rfl rfl) (zE rfl (zQ ?_)))))))))))
     refine zQ (zQ (zQ (zQ (zB (zM rfl rfl) (zP rfl (zD hK2 (zX (zY (.inl rfl) results39 (zR rfl) fun w1 hM=>?_))))))))
     exact zn (congrArg Value.bool (by rw [Bool.eq_iff_iff]; simp [Sh.eq_iff,h1,h2,h3])) hM
   refine zQ (zQ (zQ (zQ (zQ (zB (zM rfl rfl) (zE rfl (zQ (zQ (zQ (zQ (zQ ?_)))))))))))
   refine zB (zM rfl rfl) (zE rfl (zQ (zQ (zQ (zQ (zQ (zB (zM rfl rfl) (zE rfl (zQ (zQ (zQ ?_)))))))))))
   refine zQ (zQ (zB (zM rfl rfl) (zE rfl (zQ (zQ (zQ (zQ (zQ (zB (zM rfl rfl) (zE rfl (zQ ?_)))))))))))
   refine zQ (zQ (zQ (zQ (zB (zM rfl rfl) (zE rfl (zQ (zQ (zQ (zQ (zQ (zB (zM rfl rfl) ?_)))))))))))
   refine zP rfl (zD hK2 (zX (zY (.inl rfl) results39 (zR rfl) fun w1 hM=>?_)))
   exact zn (congrArg Value.bool (by rw [Bool.eq_iff_iff]; simp [Sh.eq_iff,h1,h2])) hM
 refine zQ (zQ (zQ (zQ (zQ (zB (zM rfl rfl) (zE rfl (zQ (zQ (zQ (zQ (zQ ?_)))))))))))
 refine zB (zM rfl rfl) (zE rfl (zQ (zQ (zQ (zQ (zQ (zB (zM rfl rfl) (zE rfl (zQ (zQ (zQ ?_)))))))))))
 refine zQ (zQ (zB (zM rfl rfl) (zE rfl (zQ (zQ (zQ (zQ (zQ (zB (zM rfl rfl) (zE rfl (zQ ?_)))))))))))
 refine zQ (zQ (zQ (zQ (zB (zM rfl rfl) (zE rfl (zQ (zQ (zQ (zQ (zQ (zB (zM rfl rfl) ?_)))))))))))
 refine zE rfl (zQ (zQ (zQ (zQ (zQ (zB (zM rfl rfl) (zP rfl (zD hK2 (zX (zY (.inl rfl) results39 (zR rfl) fun w1 hM=>?_))))))))))
 exact zn (congrArg Value.bool (by rw [Bool.eq_iff_iff]; simp [Sh.eq_iff,h1])) hM
set_option maxHeartbeats 1000000 in
theorem c_sameBase (a : ya) (b : ya) (P0 : Nat → Prop) (w : World) (hP0 : ∀ b, P0 b → b < w.heap.size) (ha : ya.Ok P0 a w) (hb : ya.Ok P0 b w)  :
    Calls prog 16 #[.agg (un a).toArray,.agg (un b).toArray] w (Ret w (.bool (decide (a.e=b.e)))):=by
 have hwa:=ha.wf
 have hwb:=hb.wf
 refine fstart (N:=39) (vals:=[.agg (un a).toArray,.agg (un b).toArray]) (S:=Mem w ⟨no,P0⟩ [okP ya.Ok a,okP ya.Ok b]) func16 rfl rfl rfl (Mem.ofDatsP hP0 (dc (dp (ya.Ok.loc _) ha) (dc (dp (ya.Ok.loc _) hb) dn))) (zG fun _ hK1=>vS wn rfl rfl fun b2=>vS wn rfl rfl fun b3=>zP rfl (zD hK1 (zS fun _ hK2=>zG fun _ hK3=>zB (za rfl fld25_1) (zB (zg 1 rfl rfl rfl flat3) (zB (za rfl fld25_1) (zB (zg 0 rfl rfl rfl flat3) ?_))))))
 refine zB (vD rfl rfl) (zE rfl (yQ (t:=11) rfl (fun h1=>?_) (fun h1=>?_)))
 · refine zQ (zQ (zQ (zQ (zQ (zQ (zQ (zB (zM rfl rfl) (zD hK3 (vM rfl rfl (zG fun _ hK4=>zP rfl ?_))))))))))
   refine zD hK4 (zX (zK (zY (.inl rfl) results16 (zR rfl) fun w1 hM=>?_)))
   exact zn (congrArg Value.bool (decide_eq_false (Bs.base_ne1 (a:=a) (b:=b) (by omega))).symm) hM
 refine zb (za rfl fld25_0) (zb (zg 1 rfl rfl rfl flat23) (zb (yW rfl underlying23) (zb (za rfl fld25_0) (zb (zg 0 rfl rfl rfl flat23) (zb (yW rfl underlying23) (zb (vD rfl rfl) (zB (zM rfl rfl) (zD hK3 (zZ rfl (fun h2=>?_) (fun h2=>?_))))))))))
 · refine zG fun _ hK5=>zP rfl (zD hK5 (zX (zK (zY (.inl rfl) results16 (zR rfl) fun w1 hM=>?_))))
   exact zn (congrArg Value.bool (decide_eq_false (Bs.base_ne1 (a:=a) (b:=b) (by omega))).symm) hM
 refine yK hK2 (zS fun _ hK6=>zG fun _ hK7=>zB (za rfl fld25_0) (zB (zg 1 rfl rfl rfl flat23) (zB (yW rfl underlying23) (zE rfl (zD hK7 (zk (y8 (fun (k:Nat)=>[(2,.pointer (some ⟨b2,0,none⟩)),(3,.pointer (some ⟨b3,0,none⟩)),(22,iV a.zA.l.length),(23,iV k)]) (fun (k:Nat)=>[.blk b3 [.slice b.zA.A b.zA.l.length b.zA.c,iV b.zh] 25,.blk b2 [.slice a.zA.A a.zA.l.length a.zA.c,iV a.zh] 25,okP ya.Ok a,okP ya.Ok b]) (fun (k:Nat)=>k≤a.zA.l.length∧(a.zA.l.take k).map zF.e=(b.zA.l.take k).map zF.e) (fun (k:Nat)=>a.zA.l.length - k) 0 (sc rfl (sc rfl (sc rfl (sc (ji (by omega)) sn)))) (fun _ h=>h) ?_ (fun k hI1=>?_))))))))
 · exact ⟨Nat.zero_le _,rfl⟩
 refine zG fun _ hK8=>zB (yR rfl rfl) (zD hK8 (zS fun _ hK9=>zZ rfl (fun h3=>?_) (fun h3=>?_)))
 · refine yK hK9 (zS fun _ hK10=>zk (zG fun _ hK11=>zE rfl (zP rfl (zD hK11 (zS fun _ hK12=>vN mix (by kernel_rfl) (fun _ h=>h.drew) (zq (za rfl fld25_0) (zq (zg 1 rfl rfl rfl flat23) (yn rfl ?_))))))))
   refine jg (fun _ h=>h.baseX 2 rfl) (fun _ h=>h.drop1.drop1) ?_
   obtain ⟨hc1,hm1,hA1⟩:=hwa.zA
   obtain ⟨ad1,hd1⟩:=hA1 (ne_nil (i:=k) (by first | omega | (simp <;> omega)))
   refine zq (y6 (i:=k) rfl hd1 rfl (by omega) (by first | omega | (simp <;> omega)) underlying23 inf50) ?_
   obtain ⟨s1,hs1⟩:∃ x,a.zA.l[k]?=some x:=⟨_,List.getElem?_eq_getElem (by first | omega | (simp <;> omega))⟩
   refine zq (vy 0 [.slice s1.sr.A s1.sr.l.length s1.sr.c,.slice s1.raw.A s1.raw.l.length s1.raw.c,.slice s1.fine.A s1.fine.l.length s1.fine.c,.slice s1.coarse.A s1.coarse.l.length s1.coarse.c,iV s1.ze,iV s1.zW,iV s1.zI,iV s1.zN,iV s1.zH] rfl rfl hd1 hs1 rfl rfl agg50 inf50) (zq (za rfl fld25_0) (zq (zg 2 rfl rfl rfl flat23) (yn rfl (jg (fun _ h=>h.baseX 5 rfl) (fun _ h=>h.drop1.drop1) ?_))))
   obtain ⟨hc2,hm2,hA2⟩:=hwb.zA
   obtain ⟨ad2,hd2⟩:=hA2 (ne_nil (i:=k) (by first | omega | (simp <;> omega)))
   refine zq (y6 (i:=k) rfl hd2 rfl (by omega) (by first | omega | (simp <;> omega)) underlying23 inf50) ?_
   obtain ⟨s2,hs2⟩:∃ x,b.zA.l[k]?=some x:=⟨_,List.getElem?_eq_getElem (by first | omega | (simp <;> omega))⟩
   refine zq (vy 0 [.slice s2.sr.A s2.sr.l.length s2.sr.c,.slice s2.raw.A s2.raw.l.length s2.raw.c,.slice s2.fine.A s2.fine.l.length s2.fine.c,.slice s2.coarse.A s2.coarse.l.length s2.coarse.c,iV s2.ze,iV s2.zW,iV s2.zI,iV s2.zN,iV s2.zH] rfl rfl hd2 hs2 rfl rfl agg50 inf50) ?_
   have hw1:=hwa.all _ (List.mem_of_getElem? hs1)
   refine jg (fun _ h=>h.one 3 zF.Ok.loc rfl hs1) (fun _ h=>h.drop1) (jg (fun _ h=>h.shelfX 0 rfl) (fun _ h=>h.drop1.drop1.drop1.drop1) ?_)
   obtain ⟨hc3,hm3,hA3⟩:=hw1.sr
   obtain ⟨hc4,hm4,hA4⟩:=hw1.raw
   obtain ⟨hc5,hm5,hA5⟩:=hw1.fine
   obtain ⟨hc6,hm6,hA6⟩:=hw1.coarse
   have hw2:=hwb.all _ (List.mem_of_getElem? hs2)
   refine jg (fun _ h=>h.one 6 zF.Ok.loc rfl hs2) (fun _ h=>h.drop1) (jg (fun _ h=>h.shelfX 0 rfl) (fun _ h=>h.drop1.drop1.drop1.drop1) ?_)
   obtain ⟨hc7,hm7,hA7⟩:=hw2.sr
   obtain ⟨hc8,hm8,hA8⟩:=hw2.raw
   obtain ⟨hc9,hm9,hA9⟩:=hw2.fine
   obtain ⟨hc10,hm10,hA10⟩:=hw2.coarse
   refine vP wn rfl call39 rfl (fun w1 hM=>c_shSame _ _ _ _ (zF.e s1) _ _ _ _ (zF.e s2) (In w1) w1 (fun _ h=>h) (hM.slp 5 rfl) (hM.slp 6 rfl) (hM.slp 7 rfl) (hM.slp 8 rfl) (hM.slp 0 rfl) (hM.slp 1 rfl) (hM.slp 2 rfl) (hM.slp 3 rfl)) (zq (jB rfl) (vJ (zy hK12 (zZ rfl (fun h4=>?_) (fun h4=>?_)))))
   · refine zG fun _ hK13=>zP rfl (zD hK13 (zX (yA (zK (ye (yA (zK (zY (.inl rfl) results16 (zR rfl) fun w1 hM=>?_))))))))
     exact zn (congrArg Value.bool (decide_eq_false (Bs.base_ne2 (a:=a) (b:=b) hs1 hs2 (by simpa using h4))).symm) hM
   refine yU (zm (zy hK10 (zL (zB (zw rfl rfl (by omega)) (zE rfl (zl (yX (k + 1) (sc rfl (sc rfl (sc rfl (sc (ji (by omega)) sn)))) (S9 [14,15,16,17]) ?_ ?_)))))))
   · exact ⟨by omega,Bs.take_same hs1 hs2 hI1.2 (by simpa using h4)⟩
   omega
 refine yZ (yH (yj (yI (zy hK6 (zG fun _ hK14=>zP rfl (zD hK14 (zX (zY (.inl rfl) results16 (zR rfl) fun w1 hM=>?_))))))))
 exact zn (congrArg Value.bool (decide_eq_true (Bs.base_eq (a:=a) (b:=b) (by omega) (by have h9:=hI1.2; rwa [List.take_of_length_le (by omega),List.take_of_length_le (by omega)] at h9))).symm) hM
end
section
open Tryz
open Ex
set_option linter.unusedVariables false
set_option linter.unusedSimpArgs false
set_option maxHeartbeats 1000000 in
theorem c_insertS (sv vv : Value) (l : List zF) (x : zF) (i : Nat) (Pb : Nat → Prop) (w : World) (hG : Mem w ⟨fpOf [Row sv 50 9 zx l, Row vv 50 9 zx [x]], Pb⟩ [Row sv 50 9 zx l, Row vv 50 9 zx [x]] w) (hil : i ≤ l.length) (hl1 : l.length ≤ 1048576) :
    Calls prog 115 #[sv,iV i,vv] w (RetA w [Row sv 50 9 zx l,Row vv 50 9 zx [x]] Pb (fun z:Value=>z) (fun _=>True) (fun z=>[Row z 50 9 zx (l.take i++x::l.drop i)])):=by
 obtain ⟨sA,sc,rfl,hsc,hsm,hsA⟩:=row_form' (hG.row (i:=0) rfl)
 obtain ⟨vA,vc,hv0,hvc,hvm,hvA⟩:=row_form' (hG.row (i:=1) rfl)
 have hv0:vv=.slice vA 1 vc:=hv0
 have hvc:1≤vc:=hvc
 subst hv0
 refine fstart (N:=95) (vals:=[.slice sA l.length sc,iV i,.slice vA 1 vc]) (S:=Mem w ⟨fpOf [Row (.slice sA l.length sc) 50 9 zx l,Row (.slice vA 1 vc) 50 9 zx [x]],Pb⟩ [Row (.slice sA l.length sc) 50 9 zx l,Row (.slice vA 1 vc) 50 9 zx [x]]) func115 rfl rfl rfl hG (zG fun _ hK1=>zP rfl (zD hK1 (zG fun _ hK2=>zE rfl (zE rfl (zB (jr (lo:=i) (hi:=l.length) rfl (lo1 rfl (by omega)) hi0 (by first | omega | (simp <;> omega)) (by first | omega | (simp <;> omega)) (by first | omega | (simp <;> omega)) underlying23 inf50) (zD hK2 (zG fun _ hK3=>zE rfl (zB (yW rfl underlying23) ?_))))))))
 refine zP rfl (zD hK3 (zS fun _ hK4=>zG fun _ hK5=>zE rfl (zB (yf rfl rfl) (zD hK5 (yr rfl (decide_eq_false (by decide)) (yK hK4 (zG fun _ hK6=>zE rfl (zB (yW rfl underlying23) ?_))))))))
 refine zP rfl (zD hK6 (zS fun _ hK7=>zG fun _ hK8=>zE rfl (zE rfl (zB (yf rfl rfl) (zD hK8 (zZ rfl (fun h1=>?_) (fun h1=>?_)))))))
 · refine zG fun _ hK9=>zE rfl (zE rfl (vG 0 l [x] encShelfX wn rfl rfl rfl (fun _ hM=>(RowSl encShelfX hM 1 rfl)) underlying23 inf50 rfl rfl (by simp only [List.length_append,List.length_cons,List.length_nil]; omega) rfl fun A1 cp1 hc1 hm1 hA1=>zP rfl (zD hK9 (zX (zK (zY (.inl rfl) results115 (zR rfl) fun w1 hM=>?_))))))
   exact hM.vV (.slice A1 ((l++[x]).length) cp1) rfl trivial (fun h=>row_as (v:=.slice A1 ((l++[x]).length) cp1) (n:=(l++[x]).length) (by rw [ins_len hil,List.length_append]; rfl) (ins_end (by omega)) (h.sel [0] (by decide) rfl))
 refine yK hK7 (zS fun _ hK10=>zG fun _ hK11=>?_)
 obtain ⟨sad,hsd⟩:=hsA (ne_nil (i:=i) (by omega))
 obtain ⟨vad,hvd⟩:=hvA (by simp)
 refine zE rfl (zE rfl (zB (zw rfl rfl (by omega)) (zE rfl (zB (r_cap rfl underlying23) (zB (vH rfl rfl) (zD hK11 (zZ rfl (fun h2=>?_) (fun h2=>?_))))))))
 · refine zG fun _ hK12=>zE rfl (zE rfl (zB (gR (by rw [subA_zero,Nat.sub_zero,Nat.sub_zero]) (vp (lo:=0) (hi:=i) rfl lo0 (hi1 rfl (by omega)) (by omega) (by omega) underlying23 inf50)) (zE rfl (zE rfl (zB (zw rfl rfl (by omega)) (zE rfl (zB (vw rfl rfl (by omega)) (l_appZ (enc:=zx) (l.take i++List.replicate (l.length + 1 - i) zeroSh) (l.length + 1) (kk:=l.length + 1 - i) (olds:=(l.take i).flatMap zx) wn rfl rfl (by omega) (by omega) (by rw [flat_len encShelfX.len,List.length_take]; omega) (fun h=>by rw [hsd] at h; cases h) (fun ad h=>by rw [hsd] at h; injection h with h; subst h; exact fun w hS p u hu=>rowCells 0 rfl hsd w hS p u (by have:=flat_pre (k:=9) hu; rwa [Nat.zero_mul,Nat.zero_add] at this)) (by omega) (by omega) rfl (by decide) underlying23 underlying3 inf50 rfl (by rw [List.flatMap_append]; exact congrArg _ (zero_any (by decide) encShelfX _ _ rfl _)) (by omega) rfl fun b1 C1 hc2 hm2=>zP rfl (zD hK12 ?_)))))))))
   refine zG fun _ hK13=>zE rfl (zE rfl (zB (vp (lo:=i) (hi:=(l.length + 1)) rfl (lo1 rfl (by omega)) hi0 (by omega) (by omega) underlying23 inf50) (zE rfl (uy 0 (j:=i) (l.take i++List.replicate (l.length + 1 - i) zeroSh) [x] encShelfX wn rfl (subA_some rfl (by omega)) rfl hvd rfl rfl underlying23 inf50 (by simp only [List.length_drop,List.length_cons,List.length_nil]; show _=min _ _; omega) (by simp only [List.length_append,List.length_take,List.length_drop,List.length_replicate,List.length_cons,List.length_nil]; omega) (by simp only [List.length_append,List.length_take,List.length_drop,List.length_replicate,List.length_cons,List.length_nil]; omega) (rowCells 2 rfl hvd) rfl (zD hK13 (zS fun _ hK14=>va 8 mix (by kernel_rfl) (fun _ h=>h.drew) fun _ hT1=>yn rfl (yn rfl (yn rfl ?_))))))))
   refine zq (zw rfl rfl (by omega)) (zq (vp (lo:=(i + 1)) (hi:=(l.length + 1)) rfl (lo1 rfl (by omega)) hi0 (by omega) (by omega) underlying23 inf50) (yn rfl (yn rfl (zq (vp (lo:=i) (hi:=l.length) rfl (lo1 rfl (by omega)) hi0 (by omega) (by omega) underlying23 inf50) (v8 hT1 (uy 0 (j:=(i + 1)) ((l.take i++List.replicate (l.length + 1 - i) zeroSh).take i++[x]++(l.take i++List.replicate (l.length + 1 - i) zeroSh).drop (i + [x].length)) (l.drop i) encShelfX wn rfl (subA_some rfl (by omega)) rfl (subA_some hsd (by omega)) rfl rfl underlying23 inf50 (by simp only [List.length_drop,List.length_cons,List.length_nil]; show _=min _ _; omega) (by simp only [List.length_append,List.length_take,List.length_drop,List.length_replicate,List.length_cons,List.length_nil]; omega) (by simp only [List.length_append,List.length_take,List.length_drop,List.length_replicate,List.length_cons,List.length_nil]; omega) (subCells (rowCells 1 rfl hsd) fun p u hu=>flat_suf encShelfX.len (by omega) hu) rfl (zD hK14 (zG fun _ hK15=>zE rfl (zP rfl (zD hK15 ?_))))))))))
   refine zX (zK (zY (.inl rfl) results115 (zR rfl) fun w1 hM=>?_))
   exact hM.vV (.slice (some ⟨b1,0,none⟩) (l.length + 1) C1) rfl trivial (fun h=>row_as (ins_len (by omega)) (ins_grow (by omega) (List.length_replicate)) (h.sel [0] (by decide) rfl))
 refine yK hK10 (zG fun _ hK16=>zE rfl (zE rfl (zE rfl (zB (zw rfl rfl (by omega)) (zB (gR (by rw [subA_zero,Nat.sub_zero,Nat.sub_zero]) (vp (lo:=0) (hi:=(l.length + 1)) rfl lo0 (hi1 rfl (by omega)) (by omega) (by omega) underlying23 inf50)) (l_more 0 1 rfl hsd (by omega) fun ys hys=>zP rfl (zD hK16 (zS fun _ hK17=>zG fun _ hK18=>?_))))))))
 refine zE rfl (zE rfl (zE rfl (zE rfl (zB (zw rfl rfl (by omega)) (zB (vp (lo:=(i + 1)) (hi:=(l.length + 1)) rfl (lo1 rfl (by omega)) hi0 (by omega) (by omega) underlying23 inf50) (zB (r_ext rfl (over_apart (T':=4) (fn:=Tryz.f161) (qa:=1) (qb:=0) (by decide) rfl rfl (by omega) (by omega) (by decide) sad hsd (subA_some hsd (by omega)) func161 (by kernel_rfl) (by kernel_rfl) (by kernel_rfl) (by kernel_rfl) underlying23 inf50)) (zB (vC rfl) (zD hK18 (vM rfl rfl (zS fun _ hK19=>va 8 mix (by kernel_rfl) (fun _ h=>h.drew) fun _ hT2=>?_))))))))))
 refine yn rfl (yn rfl (yn rfl (zq (zw rfl rfl (by omega)) (zq (vp (lo:=(i + 1)) (hi:=(l.length + 1)) rfl (lo1 rfl (by omega)) hi0 (by omega) (by omega) underlying23 inf50) (yn rfl (yn rfl (zq (vp (lo:=i) (hi:=(l.length + 1)) rfl (lo1 rfl (by omega)) hi0 (by omega) (by omega) underlying23 inf50) (v8 hT2 (jx 0 (ad:=sad) (j:=i + 1) (cs:=(l.drop i).flatMap zx) _ wn rfl (subA_some hsd (by omega)) rfl (subA_some hsd (by omega)) rfl hsd underlying23 inf50 (by rw [flat_len encShelfX.len,List.length_drop]; show _=min _ _ * 9; omega) (by rw [flat_len encShelfX.len,List.length_drop]; omega) (subCells (rowCells 0 rfl hsd) fun p u hu=>by have:=flat_suf encShelfX.len (by omega) hu; rw [List.getElem?_append_left (List.getElem?_eq_some_iff.1 this).1]; exact this) (fun u hu=>by obtain ⟨a,_,ha⟩:=List.mem_flatMap.1 hu; exact encShelfX.one a u ha) (ins_shift encShelfX.len (by omega) hys) rfl ?_)))))))))
 refine zD hK19 (zG fun _ hK20=>zE rfl (zE rfl (zB (vp (lo:=i) (hi:=(l.length + 1)) rfl (lo1 rfl (by omega)) hi0 (by omega) (by omega) underlying23 inf50) (zE rfl (uy 0 (j:=i) (l.take (i + 1)++l.drop i) [x] encShelfX wn rfl (subA_some hsd (by omega)) rfl hvd rfl hsd underlying23 inf50 (by simp only [List.length_drop,List.length_cons,List.length_nil]; show _=min _ _; omega) (by simp only [List.length_append,List.length_take,List.length_drop,List.length_replicate,List.length_cons,List.length_nil]; omega) (by simp only [List.length_append,List.length_take,List.length_drop,List.length_replicate,List.length_cons,List.length_nil]; omega) (rowCells 1 rfl hvd) rfl (zD hK20 (zG fun _ hK21=>zE rfl (zP rfl (zD hK21 ?_)))))))))
 refine zX (zK (zY (.inl rfl) results115 (zR rfl) fun w1 hM=>?_))
 exact hM.vV (.slice sA (l.length + 1) sc) rfl trivial (fun h=>row_as (ins_len (by omega)) (ins_place (by omega)) (h.sel [0] (by decide) rfl))
theorem c_add1 (d : zF) (tv : Value) (t : List Label) (P0 : Nat → Prop) (w : World) (hP0 : ∀ b, P0 b → b < w.heap.size) (hd : zF.Ok P0 d w) (ht : zJ P0 2 zj tv t w)  :
    Calls prog 112 #[.agg (zx d).toArray,tv] w (Ret w (iV (zc.compare d.sr.l t))):=by
 have hwd:=hd.wf
 obtain ⟨tA,tc,rfl,htc,htm,htA⟩:=ht.form
 refine fstart (N:=9) (vals:=[.agg (zx d).toArray,.slice tA t.length tc]) (S:=Mem w ⟨no,P0⟩ [okP zF.Ok d,slP 2 zj (.slice tA t.length tc) t]) func112 rfl rfl rfl (Mem.ofDatsP hP0 (dc (dp (zF.Ok.loc _) hd) (dc (dlp ht) dn))) (zG fun _ hK1=>vS wn rfl rfl fun b2=>zP rfl (zD hK1 (zG fun _ hK2=>zB (za rfl fld50_0) (zB (zg 0 rfl rfl rfl flat39) (zE rfl (yV (fun _ h=>h.shelfX 1 rfl) ?_))))))
 obtain ⟨hc1,hm1,hA1⟩:=hwd.sr
 obtain ⟨hc2,hm2,hA2⟩:=hwd.raw
 obtain ⟨hc3,hm3,hA3⟩:=hwd.fine
 obtain ⟨hc4,hm4,hA4⟩:=hwd.coarse
 refine yF wn rfl call22 rfl (fun w1 hM=>c_compare _ d.sr.l _ t w1 (hM.slp 0 rfl) (hM.slp 6 rfl)) (zP rfl (zD hK2 (zX (zY (.inl rfl) results112 (zR rfl) fun w1 hM=>?_))))
 exact zn rfl hM
theorem c_bsS (clv : Value) (cl : List zF) (tv : Value) (t : List Label) (P0 : Nat → Prop) (w : World) (hP0 : ∀ b, P0 b → b < w.heap.size) (hcl : zJ P0 9 zx clv cl w) (hcla : ∀ x ∈ cl, zF.Ok P0 x w) (ht : zJ P0 2 zj tv t w) (has : Mn.Asc (cl.map zF.k)) (hl1 : cl.length ≤ 1048576) :
    Calls prog 111 #[clv,tv,.func (.func 112) #[] #[]] w (Ret w (.tuple #[iV (Mn.pos (cl.map zF.k) t:Nat),.bool (Mn.has (cl.map zF.k) t)])):=by
 have hwcl:∀ x ∈ cl,zF.Wf x:=fun x hx=>(hcla x hx).wf
 obtain ⟨clA,clc,rfl,hclc,hclm,hclA⟩:=hcl.form
 obtain ⟨tA,tc,rfl,htc,htm,htA⟩:=ht.form
 refine fstart (N:=49) (vals:=[.slice clA cl.length clc,.slice tA t.length tc,.func (.func 112) #[] #[]]) (S:=Mem w ⟨no,P0⟩ [slP 9 zx (.slice clA cl.length clc) cl,allP zF.Ok cl,slP 2 zj (.slice tA t.length tc) t]) func111 rfl rfl rfl (Mem.ofDatsP hP0 (dc (dlp hcl) (dc (dp (all_loc zF.Ok.loc _) hcla) (dc (dlp ht) dn)))) (zG fun _ hK1=>zP rfl (zP rfl (zD hK1 (zG fun _ hK2=>zE rfl (zB (yW rfl underlying23) (zP rfl (zD hK2 (zG fun _ hK3=>zE rfl ?_))))))))
 refine zP rfl (zP rfl (zD hK3 (zS fun _ hK4=>zk (uS (fun (i:Nat) (j:Nat)=>[(0,.slice clA cl.length clc),(1,.slice tA t.length tc),(2,.func (.func 112) #[] #[]),(8,iV cl.length),(9,iV i),(10,iV j)]) (fun (i:Nat) (j:Nat)=>[slP 9 zx (.slice clA cl.length clc) cl,allP zF.Ok cl,slP 2 zj (.slice tA t.length tc) t]) (fun (i:Nat) (j:Nat)=>i≤j∧j≤cl.length∧(∀ (q:Nat) (y:Cell),(cl.map zF.k)[q]?=some y→q < i→zc.compare y.sr t < 0)∧(∀ (q:Nat) (y:Cell),(cl.map zF.k)[q]?=some y→j≤q→¬ zc.compare y.sr t < 0)) (fun (i:Nat) (j:Nat)=>j - i) 0 cl.length (sc rfl (sc rfl (sc rfl (sc rfl (sc (ji (by omega)) (sc rfl sn)))))) (fun _ h=>h) ?_ (fun i j hI1=>?_)))))
 · exact ⟨Nat.zero_le _,Nat.le_refl _,fun q y _ h=>absurd h (Nat.not_lt_zero _),fun q y h h2=>by have:=(List.getElem?_eq_some_iff.1 h).1; simp only [List.length_map] at this; omega⟩
 refine zS fun _ hK5=>zG fun _ hK6=>zE rfl (zE rfl (zB (yR rfl rfl) (zD hK6 (zZ rfl (fun h1=>?_) (fun h1=>?_)))))
 · refine yK hK5 (zk (zG fun _ hK7=>zE rfl (zE rfl (zB (zw rfl rfl (by omega)) (zB (r_natu64 (a:=(i + j)) rfl (by omega) (by omega) (by rw [underlying3]; rfl) underlying228) (zB (r_shr (u:=(i + j)) (j:=1) rfl rfl (by omega) (by omega)) (zB (r_int64 (a:=((i + j) / 2 ^ 1)) rfl (by omega) (by rw [underlying228]; rfl) underlying3) (zP rfl (zD hK7 (zG fun _ hK8=>?_))))))))))
   refine zE rfl (zE rfl (zE rfl ?_))
   obtain ⟨ad1,hd1⟩:=hclA (ne_nil (i:=((i + j) / 2 ^ 1)) (by first | omega | (simp <;> omega)))
   refine zB (y6 (i:=((i + j) / 2 ^ 1)) rfl hd1 rfl (by omega) (by first | omega | (simp <;> omega)) underlying23 inf50) ?_
   obtain ⟨s1,hs1⟩:∃ x,cl[((i + j) / 2 ^ 1)]?=some x:=⟨_,List.getElem?_eq_getElem (by first | omega | (simp <;> omega))⟩
   refine zB (vy 0 [.slice s1.sr.A s1.sr.l.length s1.sr.c,.slice s1.raw.A s1.raw.l.length s1.raw.c,.slice s1.fine.A s1.fine.l.length s1.fine.c,.slice s1.coarse.A s1.coarse.l.length s1.coarse.c,iV s1.ze,iV s1.zW,iV s1.zI,iV s1.zN,iV s1.zH] rfl rfl hd1 hs1 rfl rfl agg50 inf50) (zE rfl ?_)
   have hw1:=hwcl _ (List.mem_of_getElem? hs1)
   refine yV (fun _ h=>h.one 1 zF.Ok.loc rfl hs1) (jD wn rfl rfl call112 rfl (fun w1 hM=>c_add1 s1 _ t (In w1) w1 (fun _ h=>h) (hM.vQ (i:=0) rfl) (hM.slp 3 rfl)) (zB (yR rfl rfl) (zD hK8 (zZ rfl (fun h2=>?_) (fun h2=>?_)))))
   · refine zL (zE rfl (zB (zw rfl rfl (by omega)) (zP rfl (zl (zm (vb (((i + j) / 2 ^ 1) + 1) j (sc rfl (sc rfl (sc rfl (sc rfl (sc (ji (by omega)) (sc rfl sn)))))) (S9 [1,2,3]) ?_ ?_))))))
     · exact ⟨by omega,by omega,Mn.asc_lt (x:=zF.k s1) has (by rw [List.getElem?_map,hs1]; rfl) h2,hI1.2.2.2⟩
     omega
   refine zL (zE rfl (zP rfl (zl (zm (vb i ((i + j) / 2 ^ 1) (sc rfl (sc rfl (sc rfl (sc rfl (sc rfl (sc (ji (by omega)) sn)))))) (S9 [1,2,3]) ?_ ?_)))))
   · exact ⟨by omega,by omega,hI1.2.2.1,Mn.asc_ge (x:=zF.k s1) has (by rw [List.getElem?_map,hs1]; rfl) h2⟩
   omega
 refine yZ (yH (uB (yI (zy hK4 (zG fun _ hK9=>zE rfl (zE rfl (zE rfl (zB (yR rfl rfl) (zE rfl (yQ (t:=39) rfl (fun h3=>?_) (fun h3=>?_)))))))))))
 · refine zb (zi rfl) (zb (zi rfl) (zb (zi rfl) ?_))
   obtain ⟨ad2,hd2⟩:=hclA (ne_nil (i:=i) (by first | omega | (simp <;> omega)))
   refine zb (y6 (i:=i) rfl hd2 rfl (by omega) (by first | omega | (simp <;> omega)) underlying23 inf50) ?_
   obtain ⟨s2,hs2⟩:∃ x,cl[i]?=some x:=⟨_,List.getElem?_eq_getElem (by first | omega | (simp <;> omega))⟩
   refine zb (vy 0 [.slice s2.sr.A s2.sr.l.length s2.sr.c,.slice s2.raw.A s2.raw.l.length s2.raw.c,.slice s2.fine.A s2.fine.l.length s2.fine.c,.slice s2.coarse.A s2.coarse.l.length s2.coarse.c,iV s2.ze,iV s2.zW,iV s2.zI,iV s2.zN,iV s2.zH] rfl rfl hd2 hs2 rfl rfl agg50 inf50) (zb (zi rfl) ?_)
   have hw2:=hwcl _ (List.mem_of_getElem? hs2)
   refine yV (fun _ h=>h.one 1 zF.Ok.loc rfl hs2) (jD (wg rfl rfl rfl) rfl rfl call112 rfl (fun w1 hM=>c_add1 s2 _ t (In w1) w1 (fun _ h=>h) (hM.vQ (i:=0) rfl) (hM.slp 3 rfl)) (zb (yf rfl rfl) (zB (zM rfl rfl) (zP rfl (zP rfl (zD hK9 (zX (yT (.inl rfl) results111 (zR rfl) (zR rfl) fun w1 hM=>?_))))))))
   have hp9:Mn.pos (cl.map zF.k) t=i:=Mn.pos_eq (by simp only [List.length_map]; omega) hI1.2.2.1 (by have:i=j:=(by omega); rw [this]; exact hI1.2.2.2)
   have hh9:Mn.has (cl.map zF.k) t=decide (zc.compare s2.sr.l t=0):=Mn.bs_has (x:=zF.k s2) has (by rw [List.getElem?_map,hs2]; rfl) hI1.2.2.1 (by have:j=i:=(by omega); exact hI1.2.2.2 i _ (by rw [List.getElem?_map,hs2]; rfl) (by omega))
   exact zn (by rw [hp9,hh9]) hM
 refine zQ (zQ (zQ (zQ (zQ (zQ (zQ (zQ (zB (zM rfl rfl) (zP rfl (zP rfl (zD hK9 ?_)))))))))))
 refine zX (yT (.inl rfl) results111 (zR rfl) (zR rfl) fun w1 hM=>?_)
 have hp9:Mn.pos (cl.map zF.k) t=i:=Mn.pos_eq (by simp only [List.length_map]; omega) hI1.2.2.1 (by have:i=j:=(by omega); rw [this]; exact hI1.2.2.2)
 have hh9:Mn.has (cl.map zF.k) t=false:=Mn.bs_no (i:=i) (by simp only [List.length_map]; omega) hI1.2.2.1
 exact zn (by rw [hp9,hh9]) hM
end
end Go.Proofs.YtgojhpocpajmlaaGreatDoor
