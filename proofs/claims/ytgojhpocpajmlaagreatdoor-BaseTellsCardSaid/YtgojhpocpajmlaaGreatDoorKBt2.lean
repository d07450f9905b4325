/- Laws and walks for the proof of BaseTells, packed by program; each theorem bears its own conditions. -/
import Derived.Lib.Overlaps
import Derived.Lib.AppendZerosOnto
import Derived.Lib.AtoiAll
import Derived.Lib.Strings
import Derived.Test.YtgojhpocpajmlaaGreatDoorProg
import Derived.KernelRfl
import Derived.Test.YtgojhpocpajmlaaGreatDoorKBt1
set_option linter.unusedVariables false
set_option linter.unusedSimpArgs false
set_option maxHeartbeats 20000000
namespace Go.Proofs.YtgojhpocpajmlaaGreatDoor
section
namespace Mn
open Ex
def check (e:Expr) (t:Int):Int:=if Lg.AE e≠0 then Lg.AE e else if Lg.typed e≠0 then Lg.typed e else if t < 0∨1000000 < t then 3 else 0
def behind (p:Option (List Label)) (s:List Label):Prop:=match p with
  | none=>False
  | some q=>0<=zF.compare q s
instance (p:Option (List Label)) (s:List Label):Decidable (behind p s):=by unfold behind; cases p <;> infer_instance
def HT:Nat->Option (List Label)->List yx->LJ
  | _,_,[]=>⟨0,0⟩
  | i,p,x::r=>if zF.AE x.sr.l≠0 then ⟨zF.AE x.sr.l,i⟩ else if (Codec.AE x.sm.l).err≠0 then ⟨(Codec.AE x.sm.l).err,i⟩ else if behind p x.sr.l then ⟨2,i⟩ else HT (i + 1) (some x.sr.l) r
def lines (l:List yx):LJ:=if 8 < l.length then ⟨5,0⟩ else HT 0 none l
def BC (l:List yx) (k:Nat):Option (List Label):=if k=0 then none else (l[k - 1]?).map (·.sr.l)
theorem same_at {a b:List zC} {k:Nat} {x y:zC} (h:(a.take k).map zC.e=(b.take k).map zC.e) (d:a[k]?=some x) (f:b[k]?=some y) (g:x.value=y.value) (c:x.sr.l=y.sr.l):(a.take (k + 1)).map zC.e=(b.take (k + 1)).map zC.e:=by
 rw [vE,vE,d,f,yi,yi,h];simp [zC.e,g,c]
theorem SM {a b:List zC} {k:Nat} {x y:zC} (c:a[k]?=some x) (d:b[k]?=some y) (h:x.value≠y.value∨x.sr.l≠y.sr.l):a.map zC.e≠b.map zC.e:=fun e=>by
 have:=congrArg (·[k]?) e
 simp [yV,c,d,zC.e] at this
 rcases h with h | h
 ·exact h this.2
 ·exact h this.1
def fits (n:Int):Bool:=decide (-1125899906842624<=n∧n<=1125899906842624)
def abs (n:Int):Int:=if n < 0 then -n else n
def tooBig (a b:Int):Prop:=0 < abs b∧1125899906842624 / abs b < abs a
instance (a b:Int):Decidable (tooBig a b):=by unfold tooBig; infer_instance
def op (w:ByteArray) (a b:Int):Int × Bool:=if w=⟨#[43]⟩ then (a + b,fits (a + b)) else if w=⟨#[45]⟩ then (a - b,fits (a - b)) else if tooBig a b then (0,false) else (a * b,true)
theorem SI (n:Int):abs n=(n.natAbs:Int):=by unfold abs; split <;> omega
theorem KH (n:Int):0<=abs n∧(abs n=0↔n=0)∧(abs n=n∨abs n=-n):=by unfold abs; split <;> omega
theorem SZ {a b:Int} (h:¬ tooBig a b):-1125899906842624<=a * b∧a * b<=1125899906842624:=by
 unfold tooBig at h
 rw [SI,SI] at h
 by_cases e:b=0
 ·subst e; omega
 have d:0 < b.natAbs:=qO
 have c:(a.natAbs:Int)<=1125899906842624 / (b.natAbs:Int):=by
  refine Int.not_lt.1 fun g=>h ⟨qO,g⟩
 have i:(a.natAbs:Int) * (b.natAbs:Int)<=1125899906842624:=by
  have:=Int.mul_le_mul_of_nonneg_right c (show (0:Int)<=b.natAbs by omega)
  have f:=Int.ediv_mul_le 1125899906842624 (show (b.natAbs:Int)≠0 by omega)
  omega
 have j:((a * b).natAbs:Int)=(a.natAbs:Int) * (b.natAbs:Int):=by rw [Int.natAbs_mul]; push_cast; rfl
 omega
theorem TL {w:ByteArray} {a b:Int} (h:(op w a b).2=true):-1125899906842624<=(op w a b).1∧(op w a b).1<=1125899906842624:=by
 unfold op at h ⊢;split at h;rename_i c; rw [zP c]; simpa [fits] using h;rename_i c;split at h;rename_i d; rw [zI c,zP d]; simpa [fits] using h;rename_i d;split at h;cases h;rename_i e;rw [zI c,zI d,zI e];exact SZ e
def zero:Val:=⟨false,0,[]⟩
def Bz (a b:Val):List (List Label × Int × Int) :=
  if b.vec=false then a.cells.map fun c=>(c.sr,c.value,b.n)
  else if a.vec=false then b.cells.map fun c=>(c.sr,a.n,c.value)
  else a.cells.filterMap fun c=>(b.cells.find? fun d=>decide (c.sr=d.sr)).map fun d=>(c.sr,c.value,d.value)
def done (w:ByteArray) (l:List (List Label × Int × Int)):List Cell:=l.map fun t=>⟨t.1,(op w t.2.1 t.2.2).1⟩
def AD (w:ByteArray) (l:List (List Label × Int × Int)):Bool:=l.all fun t=>(op w t.2.1 t.2.2).2
def bin (w:ByteArray) (a b:Val):Val × Int :=
  if a.vec=false∧b.vec=false then (if (op w a.n b.n).2=true then (⟨false,(op w a.n b.n).1,[]⟩,0) else (zero,3))
  else if AD w (Bz a b)=true then (⟨true,0,done w (Bz a b)⟩,0) else (zero,3)
def put (w:ByteArray) (l:List Cell) (s:List Label) (x:Int):List Cell :=
  match l with
  | []=>[⟨s,x⟩]
  | c :: r =>
    if c.sr=s then ⟨s,if w=⟨#[109,97,120]⟩ then max c.value x else if w=⟨#[109,105,110]⟩ then min c.value x else c.value + x⟩::r
    else if zF.compare c.sr s < 0 then c::put w r s x else ⟨s,x⟩::c::r
def unit (w:ByteArray) (x:Int):Int:=if w=⟨#[99,111,117,110,116]⟩ then 1 else x
def BJ (w:ByteArray) (by_:List ByteArray):List Cell->List Cell->Val × Int
  | out,[]=>(⟨true,0,out⟩,0)
  | out,c::r=>if (put w out (zF.only c.sr by_) (unit w c.value)).all (fun d=>fits d.value)=true then BJ w by_ (put w out (zF.only c.sr by_) (unit w c.value)) r else (zero,3)
def all (w:ByteArray) (by_:List ByteArray) (l:List Cell):Val × Int:=BJ w by_ [] l
def Bnd (v:Val):Prop:=(-1125899906842624<=v.n∧v.n<=1125899906842624)∧∀ c ∈ v.cells,-1125899906842624<=c.value∧c.value<=1125899906842624
theorem Bnd.at_ {x:zt} {k:Nat} {c:zC} (h:Bnd x.e) (a:x.cells.l[k]?=some c):-1125899906842624<=c.value∧c.value<=1125899906842624:=h.2 c.e (yr.2 ⟨c,vQ a,rfl⟩)
abbrev Pr:=List Label × Int × Int
def p1 (a b:zt) (k:Nat):List Pr:=(a.cells.l.take k).map fun c=>(c.sr.l,c.value,b.n)
def p2 (a b:zt) (k:Nat):List Pr:=(b.cells.l.take k).map fun c=>(c.sr.l,a.n,c.value)
def p3 (a b:zt) (k:Nat):List Pr:=(a.cells.l.take k).filterMap fun c=>(b.cells.l.find? fun d=>decide (c.sr.l=d.sr.l)).map fun d=>(c.sr.l,c.value,d.value)
theorem Sv {a b:zt} {k:Nat} {s:zC} (h:a.cells.l[k]?=some s):p1 a b (k + 1)=p1 a b k++[(s.sr.l,s.value,b.n)]:=by
 unfold p1; rw [vE,h,yi]; rfl
theorem Sy {a b:zt} {k:Nat} {s:zC} (h:b.cells.l[k]?=some s):p2 a b (k + 1)=p2 a b k++[(s.sr.l,a.n,s.value)]:=by
 unfold p2; rw [vE,h,yi]; rfl
theorem TP {α:Type} {p:α->Bool}:∀ {l:List α} {j:Nat} {y:α},l[j]?=some y->p y=true->(∀ z ∈ l.take j,p z=false)->l.find? p=some y
 | [],j,y,h,_,_=>by simp at h
 | x :: l, 0, y, h, hp, _ => by
  obtain rfl:x=y:=by simpa using h
  rw [List.find?_cons_of_pos hp]
 | x :: l, j + 1, y, h, hp, hb => by
  rw [List.find?_cons_of_neg (by rw [hb x qS]; decide)]
  exact TP (by simpa using h) hp fun z a=>hb z (by simp [a])
theorem Rz {a b:zt} {k j:Nat} {s y:zC} (h:a.cells.l[k]?=some s) (e:b.cells.l[j]?=some y) (f:decide (s.sr.l=y.sr.l)=true) (c:∀ z ∈ b.cells.l.take j,decide (s.sr.l=z.sr.l)=false):p3 a b (k + 1)=p3 a b k++[(s.sr.l,s.value,y.value)]:=by
 unfold p3; rw [vE,h,List.filterMap_append];simp [TP (p:=fun d=>decide (s.sr.l=d.sr.l)) e f c]
theorem p3_no {a b:zt} {k:Nat} {s:zC} (h:a.cells.l[k]?=some s) (f:∀ z ∈ b.cells.l,decide (s.sr.l=z.sr.l)=false):p3 a b (k + 1)=p3 a b k:=by
 have c:(b.cells.l.find? fun d=>decide (s.sr.l=d.sr.l))=none:=List.find?_eq_none.2 fun z e=>by rw [f z e]; decide
 unfold p3; rw [vE,h,List.filterMap_append];simp [c]
theorem FN {w:ByteArray} {cs:List zC} {p a:List Pr} {z:SlX Label} {x y:Int} (h:cs.map zC.e=done w p) (b:a=p++[(z.l,x,y)]):(cs++[zC.mk z (op w x y).1]).map zC.e=done w a:=by
 rw [b,yi,h,done,done,yi]; rfl
theorem RQ {w:ByteArray} {p a:List Pr} {s:List Label} {x y:Int} {ok:Bool} (h:ok=AD w p) (c:a=p++[(s,x,y)]) (b:(op w x y).2=true):ok=AD w a:=by
 rw [c,h,AD,AD,List.all_append]; simp [b]
theorem RV {w:ByteArray} {p a:List Pr} {s:List Label} {x y:Int} (c:a=p++[(s,x,y)]) (b:¬ (op w x y).2=true):false=AD w a:=by
 rw [c,AD,List.all_append]; simp [b]
theorem SE {w:ByteArray} {a b:zt} (d:¬ a.vec=true) (c:¬ b.vec=true):bin w a.e b.e=if (op w a.n b.n).2=true then (⟨false,(op w a.n b.n).1,[]⟩,0) else (zero,3):=by
 rw [bin,zP ⟨by simpa [zt.e] using d,by simpa [zt.e] using c⟩]; rfl
theorem HR {w:ByteArray} {a b:zt} {cs:List zC} {ok:Bool} {p:List Pr} (d:a.vec=true∨b.vec=true) (c:p=Bz a.e b.e) (g:cs.map zC.e=done w p) (f:ok=AD w p):bin w a.e b.e=if ok=true then (⟨true,0,cs.map zC.e⟩,0) else (zero,3):=by
 rw [bin,zI (by rintro ⟨i,j⟩; rcases d with h | h <;> simp_all [zt.e]),<-c,<-g,<-f]
theorem p1_end {a b:zt} {k:Nat} (c:¬ b.vec=true) (d:a.cells.l.length<=k):p1 a b k=Bz a.e b.e:=by
 rw [p1,vg d,Bz,zP (by simpa [zt.e] using c)]; simp [zt.e,zC.e]
theorem p2_end {a b:zt} {k:Nat} (c:b.vec=true) (d:¬ a.vec=true) (f:b.cells.l.length<=k):p2 a b k=Bz a.e b.e:=by
 rw [p2,vg f,Bz,zI (by simp [zt.e,c]),zP (by simpa [zt.e] using d)]; simp [zt.e,zC.e]
theorem p3_end {a b:zt} {k:Nat} (c:b.vec=true) (d:a.vec=true) (f:a.cells.l.length<=k):p3 a b k=Bz a.e b.e:=by
 rw [p3,vg f,Bz,zI (by simp [zt.e,c]),zI (by simp [zt.e,d])];simp only [zt.e,List.filterMap_map,List.find?_map,Option.map_map];rfl
end Mn
end
section
namespace Ex
section
variable {P:Program} {N:Nat} {D:List Deferred} {E:Env} {S S':World->Prop} {Q:Exit->Act->World->Prop} {K:Act->World->Prop} {w0 w w':World} {M:Fp} {L:List Own}
  {ops:Array Oper} {rest:List Oper} {d:Nat} {dst:Option Tmp} {ty T T' e:TypeId} {pos:String} {aft:Array Edge} {g:Option (Nat × Bool)} {v u:Value} {x:Operand} {α:Type} {enc:α->List Value} {k n c lo hi:Nat} {A:Option Addr} {ad:Addr} {xs:List Value}
theorem r_cap {b cap:Nat} (g:ev E x=some (.slice A b cap)) (d:P.underlying T=some (.slice T')):AR P N D E S (.call { callee:=.builtin .cap,args:=#[x],argTypes:=#[T] }) ty (.int .i64 cap):=fun o f c a w e _=>by
 unfold execOp; rw [f]; simp [resolve,invoke,builtin,e.eval g,Builtin.cap_,run_underlying d,goInt]
theorem vt {b i:Nat} {q:Value} {y z:Option Operand} (B:ev E x=some (.slice A b c)) (m:lob E y lo) (h:hib E b z hi) (j:lo<=hi) (l:hi<=c) (n:P.underlying T=some (.slice e)) (r:Inf P e k i q):AR P N D E S (.slice T x y z none) ty (.slice (Gm A k c lo) (hi - lo) (c - lo)):=fun o v s a w f _=>by
 have u:(Instr.sliceBounds true b c (y.map a.eval) (z.map a.eval) none).run P w=.ok (lo,hi,c) w:=by
  cases y with
  | none =>
   obtain rfl:lo=0:=m
   cases z with
   | none =>
    obtain rfl:hi=b:=h
    simp [Instr.sliceBounds]
   | some z =>
    obtain ⟨p,t,d,rfl⟩:=h
    simp [Instr.sliceBounds,f.eval d,Instr.sliceBound,asIntOf,l]
  | some y =>
   obtain ⟨C,F,g,rfl⟩:=m
   cases z with
   | none =>
    obtain rfl:hi=b:=h
    simp [Instr.sliceBounds,f.eval g,Instr.sliceBound,asIntOf,j]
   | some z =>
    obtain ⟨p,t,d,rfl⟩:=h
    simp [Instr.sliceBounds,f.eval g,f.eval d,Instr.sliceBound,asIntOf,j,l]
 unfold execOp; rw [v]
 simp only [f.eval B,Option.map_none,Sem.run_bind,Instr.sliceAt,run_underlying n,Result.andThen_ok]
 simp only [Instr.slice,Sem.run_bind,run_underlying n,Result.andThen_ok,u,Bk r,Sem.run_pure,Gm]
theorem r_ext {f:Nat} {args:Array Operand} {ts:Array TypeId} {vs:List Value} (b:evs E args.toList=some vs) (h:∀ w,S w->(callFunc f vs.toArray).run P w=.ok (.value v) w) :
  AR P N D E S (.call { callee:=.value (.func f),args:=args,argTypes:=ts }) ty v:=fun o g d a w c i=>by
 have e:args.map a.eval=vs.toArray:=by
  apply Array.toList_inj.1
  rw [Array.toList_map]
  exact KU c b
 have j:a.eval (.func f)=.func (.func f) #[] #[]:=c.eval (by rfl)
 unfold execOp; rw [g]
 simp [resolve,Deferred.ofValue,j,e,invoke,h w i]
theorem Mem.more (h:Mem w0 M L w) {q m:Nat} (t:L[q]?=some (.row (.slice (some ad) n c) e k n xs)) (s:n + m<=c):∃ ys:List Value,ys.length=m * k∧Mem w0 M (L.set q (.row (.slice (some ad) (n + m) c) e k (n + m) (xs++ys))) w:=by
 have a:=h.row t
 rcases a.2 with ⟨g,_⟩ | ⟨u,cap,cur,g,l,y,v,o,f,i⟩
 ·cases g
 injection g with e1 e2 e3
 injection e1 with e1
 subst e1 e3
 have j:(n + m) * k<=c * k:=Nat.mul_le_mul_right k s
 have p:cur.toList.length=c * k:=by simpa using f
 have r:cur.toList.take ((n + m) * k)=xs++(cur.toList.drop (n * k)).take (m * k):=by
  rw [<-i,Nat.add_mul,List.take_add]
 have d:((cur.toList.drop (n * k)).take (m * k)).length=m * k:=by
  rw [List.length_take,List.length_drop,p]; rw [Nat.add_mul] at j; omega
 refine ⟨(cur.toList.drop (n * k)).take (m * k),d,h.wk t ?_ (fun b x=>x) (fun _=>rfl)⟩
 refine ⟨?_,.inr ⟨u,c,cur,rfl,l,y,s,o,f,r⟩⟩
 rw [uF,d,a.1,Nat.add_mul]
theorem l_more (q m:Nat) (j:L[q]?=some (.row (.slice A n c) e k n xs)) (i:A=some ad) (g:n + m<=c) (h:∀ a:List Value,a.length=m * k->WL P N D ops Q rest E (Mem w0 M (L.set q (.row (.slice A (n + m) c) e k (n + m) (xs++a))))):WL P N D ops Q rest E (Mem w0 M L):=fun w f=>by
 subst i
 obtain ⟨a,b,d⟩:=f.more j g
 exact h a b w d
theorem DF (q:Nat) (d:L[q]?=some (.row (.slice A n c) e k n xs)) (i:A=some ad):∀ w,Mem w0 M L w->∀ (p:Nat) (u:Value),xs[p]?=some u->w.cell? (ad.add p)=some u:=fun w b p u f=>by
 subst i
 rcases (b.row d).2 with ⟨a,_⟩ | ⟨h,cap,cur,a,_⟩
 ·cases a
 injection a with e1 e2 e3
 injection e1 with e1
 subst e1
 exact (b.row d).cells (g:=h) rfl p u f
theorem Ic {cs:List Value} {o:Nat} (h:∀ w,Mem w0 M L w->∀ (p:Nat) (u:Value),xs[p]?=some u->w.cell? (ad.add p)=some u) (b:∀ (p:Nat) (u:Value),cs[p]?=some u->xs[o + p]?=some u):∀ w,Mem w0 M L w->∀ (p:Nat) (u:Value),cs[p]?=some u->w.cell? ((ad.add o).add p)=some u:=fun w a p u c=>by
 rw [add_add]; exact h w a _ _ (b p u c)
theorem UG {g o dLen dCap k f:Nat} {q:Value} {a:Addr} {sLen sCap:Nat} {cur:Array Value} {t:TypeId} {cs:List Value}
  (i:P.underlying T=some (.slice e)) (h:Inf P e k f q) (n:w.heap[g]?=some (.cells cur t (0,0))) (p:cs.length=Nat.min sLen dLen * k)
  (b:∀ (j:Nat) (v:Value),cs[j]?=some v->w.cell? (a.add j)=some v) (c:o + cs.length<=cur.size) (l:∀ v ∈ cs,v.oneCell'=true) :
  (Builtin.copy_ #[T,T'] ty #[.slice (some ⟨g,o,none⟩) dLen dCap,.slice (some a) sLen sCap]).run P w =
   .ok (goInt (Nat.min sLen dLen)) (w.setRow g (cur.toList.take o++cs++cur.toList.drop (o + cs.length)).toArray):=by
 have m:=run_loadCells_list (P:=P) w a cs b
 have d:=run_storeCells_at P g o t cs 0 cur w n (by simpa using c) l
 simp [Builtin.copy_,run_underlying i,Builtin.lenOf,Builtin.firstCells,Bk h,<-p,m,d]
theorem qm (q:Nat) {j G dc C Z H:Nat} {zv:Value} {X B:Option Addr} {I:Addr} {cs:List Value} {y:Operand} (t:List Value) (hw:Want N D ops E g true) (hx:ev E x=some (.slice X G dc)) (hD:X=some (ad.add (j * k))) (hy:ev E y=some (.slice B C Z)) (hB:B=some I)
  (W:L[q]?=some (.row (.slice A n c) e k n xs)) (hA:A=some ad) (hu:P.underlying T=some (.slice e)) (hs:Inf P e k H zv) (hn:cs.length=Nat.min C G * k) (r:j * k + cs.length<=n * k)
  (z:∀ w,Mem w0 M L w->∀ (p:Nat) (u:Value),cs[p]?=some u->w.cell? (I.add p)=some u) (h1:∀ v ∈ cs,v.oneCell'=true) (J:xs.take (j * k)++cs++xs.drop (j * k + cs.length)=t) (hd:Nat.blt d N=true)
  (h:WL P N D ops Q rest ((d,.int .i64 (Nat.min C G:Nat))::E) (Mem w0 M (L.set q (.row (.slice A n c) e k n t)))) :
  WL P N D ops Q (⟨some d,.call { callee:=.builtin .copy,args:=#[x,y],argTypes:=#[T,T'] },ty,pos,aft,g⟩::rest) E (Mem w0 M L):=by
 subst hA hD hB J
 refine l_gen (S':=Mem w0 M (L.set q (.row (.slice (some ad) n c) e k n (xs.take (j * k)++cs++xs.drop (j * k + cs.length))))) hw hd fun o ho a1 a w ha F=>?_
 have f:=F.row W
 rcases f.2 with ⟨O,_⟩ | ⟨i,cap,cur,O,U,hg,s,V,S,R⟩
 ·cases O
 injection O with e1 e2 e3
 injection e1 with e1
 subst e1 e3
 have a0:n * k<=c * k:=Nat.mul_le_mul_right k s
 have a4:cur.toList.length=c * k:=by simpa using S
 have a3:=f.1
 have l:(⟨i,0,none⟩:Addr).add (j * k)=⟨i,j * k,none⟩:=by rw [add_lit,Nat.zero_add]
 have K:=UG (P:=P) (T':=T') (ty:=o.type) (sLen:=C) (sCap:=Z) (dLen:=G) (dCap:=dc) (o:=j * k) (a:=I) hu hs hg hn (z w F) qO h1
 refine ⟨_,w.setRow i (cur.toList.take (j * k)++cs++cur.toList.drop (j * k + cs.length)).toArray,?_,?_,h⟩
 ·unfold execOp; rw [ho]
  simp only [ha.eval hx,ha.eval hy,l,resolve,invoke,builtin,Sem.run_bind,Sem.run_pure,Result.andThen_ok,List.map_toArray,vl,List.map_nil]
  simp [K,goInt]
 ·refine F.upd W rfl ⟨rfl,rfl,rfl,qS,fun b _ hk=>setRow_other w i b _ (fun e=>hk (by simp [Own.fp,Value.ownBlock,e]))⟩ ?_ (fun b hb=>⟨.inl hb,?_⟩)
  ·refine ⟨?_,.inr ⟨i,c,_,rfl,U,setRow_heap w i _ _ e _ hg,s,V,?_,?_⟩⟩
   ·simp; omega
   ·simp; omega
   ·have Y:=Jo (cs:=cur.toList) (vs:=cs) (o:=j * k) (m:=n * k) r qO
    rw [BP,BP,R] at Y
    simpa using Y
  ·have:=(F.ok q _ W).2.1 b hb
   simpa using this
theorem l_appZ (O:List α) (r:Nat) {i kk j c:Nat} {m:Int} {s:Value} {v:Option Addr} {y:Operand} {olds:List Value} {T2:TypeId} (W:Want N D ops E g true) (hx:ev E x=some (.slice v i j)) (hy:ev E y=some (.int .i64 m)) (hm:m=(kk:Int)) (h0:0 < kk) (n:olds.length=i * k) (H:v=none->i=0)
  (G:∀ ad,v=some ad->∀ w,Mem w0 M L w->∀ (p:Nat) (u:Value),olds[p]?=some u->w.cell? (ad.add p)=some u) (U:j < i + kk) (z:(i + kk) * c<=140737488355328) (hp:Nat.blt 0 c=true) (hk:0 < k)
  (hu:P.underlying T=some (.slice e)) (I:P.underlying T2=some (.int .i64)) (X:Inf P e k c s) (K:s.cells.size=k) (B:olds++(Builtin.zeroCells s.cells kk).toList=O.flatMap enc) (l:r=i + kk) (hd:Nat.blt d N=true)
  (h:∀ b C,r<=C->C<=9223372036854775807->WL P N D ops Q rest ((d,.slice (some ⟨b,0,none⟩) r C)::E) (Mem w0 M (.row (.slice (some ⟨b,0,none⟩) r C) e k r (O.flatMap enc)::L))) :
  WL P N D ops Q (⟨some d,.call { callee:=.builtin .append,args:=#[x,y],argTypes:=#[T,T2] },ty,pos,aft,g⟩::rest) E (Mem w0 M L):=by
 subst hm
 refine jc W hd fun o ho Z a w S hS=>?_
 obtain ⟨ti,hi,Y,h3,R⟩:=X.get
 have J:0 < c:=by simpa using hp
 have a0:=Nat.le_mul_of_pos_right (i + kk) J
 have V:kk * c<=(i + kk) * c:=Nat.mul_le_mul_right c qO
 have F:=hS.drew
 have A:(Builtin.firstCells ti.size i (.slice v i j)).run P w.drew=.ok olds.toArray w.drew:=by
  cases v with
  | none =>
   have:=H rfl
   subst this
   have:olds=[]:=jb qO
   subst this
   simp [Builtin.firstCells]
  | some ad=>exact run_firstCells_some w.drew ti.size i ad i j olds (by rw [h3]; exact n) (G ad rfl w.drew F)
 have hr:=Lib.run_append_grow_zeros (P:=P) w T T2 o.type e ti s .i64 .i64 hu I hi Y v i j olds A kk h0 qO U qO (by rw [R]; omega) (by rw [R]; exact growslice_fits U z)
 have f:i + kk<=grownCap w (i + kk) j e∧grownCap w (i + kk) j e<=9223372036854775807:=⟨grownCap_ge w _ _ _,grownCap_le_maxLen w _ _ _ (by simp only [maxLen]; omega)⟩
 refine ⟨_,w.drew.alloc (.cells (olds.toArray++Builtin.zeroCells s.cells kk++Builtin.zeroCells s.cells (grownCap w (i + kk) j e - (i + kk))) e),?_,_,?_,h w.heap.size (grownCap w (i + kk) j e) (by rw [l]; exact f.1) f.2⟩
 ·unfold execOp; rw [ho,l]
  simp [resolve,invoke,builtin,S.eval hx,S.eval hy,hr]
 ·have t:∀ q,(Builtin.zeroCells s.cells q).size=q * k:=fun q=>by simp [Builtin.zeroCells,K]
  refine F.add (o:=Own.row (.slice (some ⟨w.heap.size,0,none⟩) r (grownCap w (i + kk) j e)) e k r (O.flatMap enc)) (Fr.alloc _ _ _) ?_ (fun b z=>?_)
  ·refine ⟨?_,.inr ⟨w.heap.size,_,_,rfl,Nat.zero_le _,heap_alloc_new w.drew _,by rw [l]; exact f.1,f.2,?_,?_⟩⟩
   ·rw [<-B,uF,n,l,Array.length_toList,t,Nat.add_mul]
   ·simp only [Array.size_append,t,List.size_toArray,n]
    rw [<-Nat.add_mul,<-Nat.add_mul]; congr 1; omega
   ·rw [<-B,Array.toList_append,Array.toList_append,l]
    apply List.take_left'
    simp only [uF,Array.length_toList,t,n,Nat.add_mul]
  ·have z:(Value.slice (some ⟨w.heap.size,0,none⟩) r (grownCap w (i + kk) j e)).ownBlock=some b:=z
   simp [Value.ownBlock] at z
   subst z
   simp
theorem add0 (ad:Addr):ad.add 0=ad:=by rfl
theorem Uj:Gm A k c 0=A:=by
 unfold Gm; split;rfl;cases A <;> simp [add0]
theorem Bd (a:A=some ad) (h:lo < c):Gm A k c lo=some (ad.add (lo * k)):=by rw [Gm,zI qO,a]; rfl
theorem PX {l:List α} {i p:Nat} {u:Value} (a:((l.take i).flatMap enc)[p]?=some u):(l.flatMap enc)[0 * k + p]?=some u:=by
 rw [Nat.zero_mul,Nat.zero_add];rw [<-List.take_append_drop i l,List.flatMap_append,uX (yb.1 a).1]; exact a
theorem IF (he:∀ a,(enc a).length=k) {l:List α} {i p:Nat} {u:Value} (hi:i<=l.length) (c:((l.drop i).flatMap enc)[p]?=some u):(l.flatMap enc)[i * k + p]?=some u:=by
 have b:((l.take i).flatMap enc).length=i * k:=by rw [BT he,List.length_take,Nat.min_eq_left hi]
 rw [<-List.take_append_drop i l,List.flatMap_append,jU qO,b,Nat.add_sub_cancel_left]; exact c
theorem Mc (he:∀ a,(enc a).length=k) (l:List α) (j:Nat) (d:j<=l.length):(l.flatMap enc).take (j * k)=(l.take j).flatMap enc:=by
 have b:((l.take j).flatMap enc).length=j * k:=by rw [BT he,List.length_take,Nat.min_eq_left d]
 have c:l.flatMap enc=(l.take j).flatMap enc++(l.drop j).flatMap enc:=by rw [<-List.flatMap_append,List.take_append_drop]
 rw [c];exact List.take_left' b
theorem UC (he:∀ a,(enc a).length=k) (l:List α) (j:Nat) (d:j<=l.length):(l.flatMap enc).drop (j * k)=(l.drop j).flatMap enc:=by
 have b:((l.take j).flatMap enc).length=j * k:=by rw [BT he,List.length_take,Nat.min_eq_left d]
 have c:l.flatMap enc=(l.take j).flatMap enc++(l.drop j).flatMap enc:=by rw [<-List.flatMap_append,List.take_append_drop]
 rw [c];exact List.drop_left' b
theorem jm (q:Nat) {j s W m I o:Nat} {G:Value} {t B:Option Addr} {z:Addr} {y:Operand} (l b:List α) (he:Enc enc k) (C:Want N D ops E g true) (Y:ev E x=some (.slice t s W)) (R:t=some (ad.add (j * k))) (S:ev E y=some (.slice B m I)) (O:B=some z)
  (X:L[q]?=some (.row (.slice A n c) e k n (l.flatMap enc))) (F:A=some ad) (r:P.underlying T=some (.slice e)) (H:Inf P e k o G) (U:b.length=Nat.min m s) (f:j + b.length<=n) (Z:l.length=n)
  (i:∀ w,Mem w0 M L w->∀ (p:Nat) (u:Value),(b.flatMap enc)[p]?=some u->w.cell? (z.add p)=some u) (V:Nat.blt d N=true)
  (h:WL P N D ops Q rest ((d,.int .i64 (Nat.min m s:Nat))::E) (Mem w0 M (L.set q (.row (.slice A n c) e k n ((l.take j++b++l.drop (j + b.length)).flatMap enc))))) :
  WL P N D ops Q (⟨some d,.call { callee:=.builtin .copy,args:=#[x,y],argTypes:=#[T,T'] },ty,pos,aft,g⟩::rest) E (Mem w0 M L):=by
 have v:(b.flatMap enc).length=b.length * k:=BT he.len b
 have K:(j + b.length) * k<=n * k:=Nat.mul_le_mul_right k f
 rw [Nat.add_mul] at K
 refine qm q (cs:=b.flatMap enc) _ C Y R S O X F r H (by rw [v,U]) qO i (fun u r=>by obtain ⟨a,_,J⟩:=List.mem_flatMap.1 r; exact he.one a u J) ?_ V h
 rw [v,<-Nat.add_mul,Mc he.len l j qO,UC he.len l _ qO,<-List.flatMap_append,<-List.flatMap_append]
theorem JQ {l l':List α} (a:l'.length=n) (b:l=l') (h:Mem w0 M [.row v e k n (l.flatMap enc)] w):Mem w0 M [Row v e k enc l'] w:=by grind
theorem DY {l:List α} {i:Nat} {a:α} (hi:i<=l.length):(l.take i++a::l.drop i).length=l.length + 1:=by simp; omega
theorem TA {l:List α} {i:Nat} {a:α} (hi:i=l.length):l++[a]=l.take i++a::l.drop i:=by grind
theorem MR {l:List α} {i:Nat} {a:α} (hi:i < l.length):(l.take (i + 1)++l.drop i).take i++[a]++(l.take (i + 1)++l.drop i).drop (i + [a].length)=l.take i++a::l.drop i:=by grind
theorem PU {l z:List α} {i:Nat} {a:α} (hi:i < l.length) (f:z.length=l.length + 1 - i):((l.take i++z).take i++[a]++(l.take i++z).drop (i + [a].length)).take (i + 1)++l.drop i++((l.take i++z).take i++[a]++(l.take i++z).drop (i + [a].length)).drop (i + 1 + (l.drop i).length)=l.take i++a::l.drop i:=by
 have b:(l.take i).length=i:=by rw [List.length_take]; omega
 have e:(l.take i++z).take i=l.take i:=List.take_left' b;have c:(l.take i++[a]).length=i + 1:=by rw [uF,b]; rfl
 rw [e,List.take_left' c];have d:(l.take i++[a]++(l.take i++z).drop (i + [a].length)).drop (i + 1 + (l.drop i).length)=[]:=vw (by simp only [uF,List.length_drop,b,f,List.length_singleton]; omega);rw [d]; simp
theorem NK (he:∀ a,(enc a).length=k) {l:List α} {i:Nat} {b:List Value} (hi:i < l.length) (c:b.length=1 * k):(l.flatMap enc++b).take ((i + 1) * k)++(l.drop i).flatMap enc++(l.flatMap enc++b).drop ((i + 1) * k + ((l.drop i).flatMap enc).length)=(l.take (i + 1)++l.drop i).flatMap enc:=by
 have d:(l.flatMap enc).length=l.length * k:=BT he l
 have g:(i + 1) * k<=l.length * k:=Nat.mul_le_mul_right k qO
 have e:((l.drop i).flatMap enc).length=(l.length - i) * k:=by rw [BT he,List.length_drop]
 have f:(l.flatMap enc++b).drop ((i + 1) * k + ((l.drop i).flatMap enc).length)=[]:=by
  refine vw ?_
  rw [uF,d,e,c,<-Nat.add_mul,<-Nat.add_mul]
  exact Nat.mul_le_mul_right k qO
 rw [f,uc,List.take_append_of_le_length qO,Mc he l _ qO,<-List.flatMap_append]
theorem Rn (q:Nat):(Builtin.zeroCells (Value.agg #[.slice none 0 0,.int .i64 0]).cells q).toList=(List.replicate q (zC.mk ⟨none,0,[]⟩ 0)).flatMap zu:=by
 apply List.ext_getElem?;intro j;have c:(Builtin.zeroCells (Value.agg #[.slice none 0 0,.int .i64 0]).cells q).size=q * 2:=by simp [Builtin.zeroCells,Value.cells]
 have f:((List.replicate q (zC.mk ⟨none,0,[]⟩ 0)).flatMap zu).length=q * 2:=by rw [BT AJ.len,List.length_replicate]
 by_cases g:j < q * 2;have b:(List.replicate q (zC.mk ⟨none,0,[]⟩ 0))[j / 2]?=some (zC.mk ⟨none,0,[]⟩ 0):=by rw [List.getElem?_replicate,zP qO]
 have e:j=j / 2 * 2 + j % 2:=qO;have d:(zu (zC.mk ⟨none,0,[]⟩ 0))[j % 2]?=some ((zu (zC.mk ⟨none,0,[]⟩ 0))[j % 2]'(by show j % 2 < 2; omega)):=vA _;rw [show ((List.replicate q (zC.mk ⟨none,0,[]⟩ 0)).flatMap zu)[j]?=_ from (congrArg _ e).trans (flat_get AJ.len _ _ _ _ _ b d)];rw [Array.getElem?_toList,Array.getElem?_eq_getElem qO];rcases Nat.mod_two_eq_zero_or_one j with a | a <;> simp [Builtin.zeroCells,Value.cells,a]
 exact (List.getElem?_eq_none (by rw [Array.length_toList,c]; omega)).trans (List.getElem?_eq_none (by rw [f]; omega)).symm
theorem LW {fn:Func} {f qa qb:Nat} {R K Q:Option Addr} {h s m F B N o q G D:Nat} {V:Value} {j A:List Value} (Y:qa≠qb) (H:L[qa]?=some (.row (.slice R h m) e k h j)) (S:L[qb]?=some (.row (.slice K s F) G D s A))
  (a0 : 0 < h) (X : 0 < s) (l : 0 < D) (d : Addr) (v : K = some d) (u : Q = some (d.add o)) (hf : P.funcs[f]? = some fn) (c : (fn.name == "runtime.NumGoroutine") = false) (x : fn.body.isNone = true) (hn : Extern.findNext fn = none) (p : Extern.find fn = some (Extern.SlicesOverlaps.overlaps #[T, T] #[T']))
  (hu:P.underlying T=some (.slice e)) (W:Inf P e k q V):∀ w,Mem w0 M L w->(callFunc f (#[.slice R h m,.slice Q B N]:Array Value)).run P w=.ok (.value (.bool false)) w:=fun w z=>by
 subst v u
 rcases (z.row H).2 with ⟨_,h0⟩ | ⟨r,J,g,Z,_,b,I,_,E,_⟩
 ·omega
 rcases (z.row S).2 with ⟨_,h0⟩ | ⟨U,O,a,h2,_,y,C,_,i,_⟩
 ·omega
 injection Z with f1 f2 f3
 injection h2 with f4 f5 f6
 injection f4 with f4
 subst f1 f3 f4 f6
 have n:r≠U:=fun e=>by
  subst e
  exact z.dj qa qb _ _ H S Y (.inl rfl) r rfl rfl
 have t:a.size≠0:=by
  rw [i]
  have:=Nat.mul_pos (show 0 < F by omega) l
  omega
 rw [run_callFunc_extern hf c x hn p]
 have:=Lib.run_overlaps_apart (P:=P) w T T' e hu k (fun w=>Bk W w) ⟨r,0,none⟩ ((⟨U,0,none⟩:Addr).add o) h m B N (by rw [Ck]; exact n) e G g.size a.size (by simp [World.shape?,b]) (by rw [Ck]; simp [World.shape?,y]) t (by simp [World.frozen?,b]) (by simp [World.frozen?,b])
 rw [this]; rfl
end
end Ex
end
section
namespace Mn
open Ex
def Asc (l:List Cell):Prop:=l.Pairwise fun c d=>zF.compare c.sr d.sr < 0
def pos (l:List Cell) (s:List Label):Nat:=(l.takeWhile fun c=>decide (zF.compare c.sr s < 0)).length
def has (l:List Cell) (s:List Label):Bool:=l.any fun c=>decide (c.sr=s)
def comb (w:ByteArray) (a x:Int):Int:=if w=⟨#[109,97,120]⟩ then max a x else if w=⟨#[109,105,110]⟩ then min a x else a + x
theorem Dw {a b:List Label} (h:zF.compare a b < 0):a≠b:=fun e=>by
 have:=(zF.Bf.zero a b).2 e; omega
theorem pos_eq {l:List Cell} {s:List Label} {i:Nat} (hi:i<=l.length) (b:∀ (q:Nat) (y:Cell),l[q]?=some y->q < i->zF.compare y.sr s < 0) (d:∀ (q:Nat) (y:Cell),l[q]?=some y->i<=q->¬ zF.compare y.sr s < 0):pos l s=i:=by
 induction l generalizing i with
 | nil=>simp at hi; subst hi; rfl
 | cons c r ih =>
  cases i with
  | zero =>
   have:=d 0 c rfl (vY _)
   simp [pos,this]
  | succ i =>
   have g:=b 0 c rfl qO
   have:=ih (i:=i) (by simpa using hi) (fun q y a e=>b (q + 1) y (by simpa using a) qO) (fun q y a f=>d (q + 1) y (by simpa using a) qO)
   simp only [pos] at this ⊢
   rw [List.takeWhile_cons,zP (by simpa using g),gP,this]
theorem RR (l:List Cell) (s:List Label):pos l s<=l.length:=by
 unfold pos
 induction l with
 | nil=>simp
 | cons c r ih=>rw [List.takeWhile_cons]; split <;> simp; exact ih
theorem Asc.at_ {l:List Cell} (h:Asc l) {i j:Nat} {x y:Cell} (e:l[i]?=some x) (b:l[j]?=some y) (a:i < j):zF.compare x.sr y.sr < 0:=by
 obtain ⟨c,rfl⟩:=yb.1 e;obtain ⟨d,rfl⟩:=yb.1 b;exact List.pairwise_iff_getElem.1 h i j c d a
theorem asc_lt {l:List Cell} {s:List Label} (h:Asc l) {k:Nat} {x:Cell} (d:l[k]?=some x) (c:zF.compare x.sr s < 0):∀ (q:Nat) (y:Cell),l[q]?=some y->q < k + 1->zF.compare y.sr s < 0:=fun q y a e=>by
 by_cases b:q=k
 ·subst b; rw [d] at a; injection a with a; subst a; exact c
 ·exact zF.Bf.trans _ _ _ (h.at_ a d qO) c
theorem Rh {l:List Cell} {s:List Label} (h:Asc l) {k:Nat} {x:Cell} (e:l[k]?=some x) (d:¬ zF.compare x.sr s < 0):∀ (q:Nat) (y:Cell),l[q]?=some y->k<=q->¬ zF.compare y.sr s < 0:=fun q y b f a=>by
 by_cases c:q=k
 ·subst c; rw [e] at b; injection b with b; subst b; exact d a
 ·exact d (zF.Bf.trans _ _ _ (h.at_ e b qO) a)
theorem bs_has {l:List Cell} {s:List Label} (h:Asc l) {i:Nat} {x:Cell} (d:l[i]?=some x) (g:∀ (q:Nat) (y:Cell),l[q]?=some y->q < i->zF.compare y.sr s < 0) (j:¬ zF.compare x.sr s < 0):has l s=decide (zF.compare x.sr s=0):=by
 rw [Bool.eq_iff_iff,decide_eq_true_iff,has,List.any_eq_true];constructor;rintro ⟨y,f,c⟩;obtain ⟨q,b⟩:=List.mem_iff_getElem?.1 f;have c:y.sr=s:=by simpa using c
 rcases Nat.lt_trichotomy q i with a | a | a
 exact absurd c (Dw (g q y b a));subst a; rw [d] at b; injection b with b; subst b; exact (zF.Bf.zero _ _).2 c;have e:=h.at_ d b a;rw [c] at e; exact absurd e j;intro a;exact ⟨x,vQ d,by simpa using (zF.Bf.zero _ _).1 a⟩
theorem bs_no {l:List Cell} {s:List Label} {i:Nat} (hi:l.length<=i) (d:∀ (q:Nat) (y:Cell),l[q]?=some y->q < i->zF.compare y.sr s < 0):has l s=false:=by
 rw [Bool.eq_false_iff];intro h;obtain ⟨y,c,b⟩:=List.any_eq_true.1 h;obtain ⟨q,a⟩:=List.mem_iff_getElem?.1 c;have:=(yb.1 a).1;exact Dw (d q y a qO) (by simpa using b)
theorem Asc.tail {c:Cell} {r:List Cell} (h:Asc (c::r)):Asc r:=(List.pairwise_cons.1 h).2
theorem Asc.head {c:Cell} {r:List Cell} (h:Asc (c::r)):∀ d ∈ r,zF.compare c.sr d.sr < 0:=(List.pairwise_cons.1 h).1
theorem Sr (w:ByteArray) {l:List Cell} {s:List Label} (x:Int) (f:has l s=false):put w l s x=l.take (pos l s)++⟨s,x⟩::l.drop (pos l s):=by
 induction l with
 | nil=>rfl
 | cons c r b =>
  have g:¬ c.sr=s:=fun e=>by simp [has,e] at f
  have h:has r s=false:=by simp only [has,List.any_cons,Bool.or_eq_false_iff] at f; exact f.2
  have b:=b h
  by_cases a:zF.compare c.sr s < 0
  ·have d:pos (c::r) s=pos r s + 1:=by simp [pos,a]
   rw [put,zI g,zP a,d,b]; rfl
  ·have d:pos (c::r) s=0:=by simp [pos,a]
   rw [put,zI g,zI a,d]; rfl
theorem IL (w:ByteArray) {l:List Cell} {s:List Label} (x:Int) (h:Asc l) (j:has l s=true):∃ c,l[pos l s]?=some c∧c.sr=s∧put w l s x=l.set (pos l s) ⟨s,comb w c.value x⟩:=by
 induction l with
 | nil=>cases j
 | cons c r ih =>
  by_cases e:c.sr=s
  ·have n:¬ zF.compare c.sr s < 0:=fun g=>Dw g e
   have b:pos (c::r) s=0:=by simp [pos,n]
   refine ⟨c,by rw [b]; rfl,e,?_⟩
   rw [b,put,zP e]; rfl
  ·have m:has r s=true:=by simp only [has,List.any_cons,Bool.or_eq_true] at j; exact j.resolve_left (by simpa using e)
   obtain ⟨d,a,f,i⟩:=ih h.tail m
   have k:zF.compare c.sr s < 0:=by
    have:=h.head d (vQ a)
    rwa [f] at this
   have b:pos (c::r) s=pos r s + 1:=by simp [pos,k]
   refine ⟨d,by rw [b]; simpa using a,f,?_⟩
   rw [put,zI e,zP k,b,i]; rfl
theorem Tb {w:ByteArray} {l:List Cell} {s:List Label} {x:Int}:∀ d ∈ put w l s x,d.sr=s∨∃ c ∈ l,c.sr=d.sr:=by
 induction l with
 | nil=>intro d a; simp [put] at a; exact .inl (by rw [a])
 | cons c r ih =>
  intro d a
  rw [put] at a
  split at a
  ·rcases ya.1 a with h | h
   ·exact .inl (by rw [h])
   ·exact .inr ⟨d,List.mem_cons_of_mem _ h,rfl⟩
  ·split at a
   ·rcases ya.1 a with h | h
    ·exact .inr ⟨c,uW,by rw [h]⟩
    ·rcases ih d h with b | ⟨e,b,f⟩
     ·exact .inl b
     ·exact .inr ⟨e,List.mem_cons_of_mem _ b,f⟩
   ·rcases ya.1 a with h | h
    ·exact .inl (by rw [h])
    ·exact .inr ⟨d,h,rfl⟩
theorem cmp_gt {a b:List Label} (c:¬ a=b) (g:¬ zF.compare a b < 0):zF.compare b a < 0:=by
 have d:=zF.Bf.anti a b;have f:zF.compare a b≠0:=fun e=>c ((zF.Bf.zero _ _).1 e);omega
theorem DH {w:ByteArray} {l:List Cell} {s:List Label} {x:Int} (h:Asc l):Asc (put w l s x):=by
 induction l with
 | nil=>simp [put,Asc]
 | cons c r ih =>
  rw [put]
  split
  ·rename_i g
   refine List.pairwise_cons.2 ⟨fun d b=>?_,h.tail⟩
   rw [<-g]; exact h.head d b
  ·rename_i g
   split
   ·rename_i i
    refine List.pairwise_cons.2 ⟨fun d b=>?_,ih h.tail⟩
    rcases Tb d b with a | ⟨e,a,f⟩
    ·rw [a]; exact i
    ·rw [<-f]; exact h.head e a
   ·rename_i i
    have a:=cmp_gt g i
    refine List.pairwise_cons.2 ⟨fun d b=>?_,h⟩
    rcases ya.1 b with f | f
    ·rw [f]; exact a
    ·exact zF.Bf.trans _ _ _ a (h.head d f)
theorem DD {n:Int}:fits n=true↔-1125899906842624<=n∧n<=1125899906842624:=by simp [fits]
def Fit (l:List Cell):Prop:=∀ c ∈ l,fits c.value=true
theorem LD {w:ByteArray} {x:Int} (h:-1125899906842624<=x∧x<=1125899906842624):-1125899906842624<=unit w x∧unit w x<=1125899906842624:=by unfold unit; split <;> omega
theorem KM {w:ByteArray} {by_:List ByteArray} {cs:List zC} {c:Cell} {r:List Cell} {s:List Label} {x:Int} {z:zC} (k:s=zF.only c.sr by_) (j:x=unit w c.value) (n:z.e=⟨s,x⟩) (l:has (cs.map zC.e) s=false) (i:Fit (cs.map zC.e)) (m:-1125899906842624<=c.value∧c.value<=1125899906842624) :
  (cs.take (pos (cs.map zC.e) s)++z::cs.drop (pos (cs.map zC.e) s)).map zC.e=put w (cs.map zC.e) s x∧Fit (put w (cs.map zC.e) s x)∧BJ w by_ (cs.map zC.e) (c::r)=BJ w by_ (put w (cs.map zC.e) s x) r:=by
 have f:=Sr w x l
 have h:Fit (put w (cs.map zC.e) s x):=fun d g=>by
  rw [f] at g
  rcases yl.1 g with a | a
  ·exact i d (List.mem_of_mem_take a)
  ·rcases ya.1 a with b | b
   ·rw [b]; exact DD.2 (by rw [j]; exact LD m)
   ·exact i d (List.mem_of_mem_drop b)
 refine ⟨?_,h,?_⟩
 ·rw [f,yi,List.map_take,vl,List.map_drop,n]
 ·subst k j
  rw [BJ,zP (List.all_eq_true.2 h)]
theorem EB {w:ByteArray} {by_:List ByteArray} {cs:List zC} {c:Cell} {r:List Cell} {s:List Label} {x:Int} {d z:zC} (m:s=zF.only c.sr by_) (q:x=unit w c.value) (v:Asc (cs.map zC.e)) (u:has (cs.map zC.e) s=true) (D:Fit (cs.map zC.e)) (p:cs[pos (cs.map zC.e) s]?=some d) (h:z.sr.l=d.sr.l) (B:z.value=comb w d.value x) :
  (cs.set (pos (cs.map zC.e) s) z).map zC.e=put w (cs.map zC.e) s x∧(fits z.value=true->Fit (put w (cs.map zC.e) s x)∧BJ w by_ (cs.map zC.e) (c::r)=BJ w by_ (put w (cs.map zC.e) s x) r)∧(fits z.value=false->BJ w by_ (cs.map zC.e) (c::r)=(zero,3)):=by
 obtain ⟨e,f,A,C⟩:=IL w x v u
 rw [yV,p] at f
 have f:d.e=e:=by simpa using f
 have i:z.e=⟨s,comb w e.value x⟩:=by rw [<-f,zC.e,B,h,<-A,<-f]; rfl
 have g:(cs.set (pos (cs.map zC.e) s) z).map zC.e=put w (cs.map zC.e) s x:=by rw [C,List.map_set,i]
 have j:pos (cs.map zC.e) s < cs.length:=(yb.1 p).1
 have F:z ∈ cs.set (pos (cs.map zC.e) s) z:=List.mem_set j z
 refine ⟨g,fun a=>?_,fun a=>?_⟩
 ·have k:Fit (put w (cs.map zC.e) s x):=fun y o=>by
   rw [<-g] at o
   obtain ⟨t,E,rfl⟩:=yr.1 o
   rcases List.mem_or_eq_of_mem_set E with b | b
   ·exact D _ (List.mem_map_of_mem b)
   ·rw [b]; exact a
  refine ⟨k,?_⟩
  subst m q
  rw [BJ,zP (List.all_eq_true.2 k)]
 ·subst m q
  rw [BJ,zI]
  intro b
  have n:=List.all_eq_true.1 b z.e (by rw [<-g]; exact List.mem_map_of_mem F)
  rw [show z.e.value=z.value from rfl,a] at n; cases n
theorem By {l:List zC} {k:Nat} {s:zC} (h:l[k]?=some s):(l.drop k).map zC.e=s.e::(l.drop (k + 1)).map zC.e:=by
 obtain ⟨a,rfl⟩:=yb.1 h;rw [uI a,vl]
theorem Pt {l:List zC} {k:Nat} (h:l.length<=k):(l.drop k).map zC.e=[]:=by simp_all
theorem pos_lt {cs:List zC} {s:List Label} (d:Asc (cs.map zC.e)) (a:has (cs.map zC.e) s=true):pos (cs.map zC.e) s < cs.length:=by
 obtain ⟨c,b,_⟩:=IL ⟨#[]⟩ 0 d a;have:=(yb.1 b).1;simpa using this
theorem KV {cs:List zC} {s:List Label}:pos (cs.map zC.e) s<=cs.length:=by have:=RR (cs.map zC.e) s; simpa using this
theorem Fit.at_ {cs:List zC} {i:Nat} {d:zC} (h:Fit (cs.map zC.e)) (a:cs[i]?=some d):-1125899906842624<=d.value∧d.value<=1125899906842624:=DD.1 (h d.e (yr.2 ⟨d,vQ a,rfl⟩))
end Mn
namespace Ex
variable {w0 w:World} {M:Fp} {L:List Own}
theorem Mem.Oo {l l':List zC} (h:Mem w0 M L w) (q:Nat) (hi:L[q]?=some (AS zC.Ok l)) (a:∀ y ∈ l',∃ x ∈ l,y.sr=x.sr):Mem w0 M (AS zC.Ok l'::L) w :=
 h.yO (Av zC.Ok.loc _) fun f c x d=>by
  obtain ⟨y,b,e⟩:=a x d
  exact ⟨by rw [e]; exact (c.at_ q _ hi y b).sr⟩
theorem Mem.Ni {l l':List zC} {f:Option Addr} {d:Nat} {c:List Label} (h:Mem w0 M L w) (q g:Nat) (hi:L[q]?=some (AS zC.Ok l)) (b:L[g]?=some (slP 2 zb (.slice f c.length d) c)) (i:∀ y ∈ l',y ∈ l∨y.sr=⟨f,d,c⟩):Mem w0 M (AS zC.Ok l'::L) w :=
 h.yO (Av zC.Ok.loc _) fun k e x j=>by
  rcases i x j with a | a
  ·exact e.at_ q _ hi x a
  ·exact ⟨by rw [a]; exact e.at_ g _ b⟩
theorem OR {α:Type} {l:List α} {i:Nat} {a b:α} (h:l[i]?=some a):(l.set i b)[i]?=some b:=by grind
theorem Gs {l:List zC} {i:Nat} {z:zC}:∀ y ∈ l.take i++z::l.drop i,y ∈ l∨y.sr=z.sr:=by grind
theorem FP {l:List zC} {i:Nat} {d z:zC} (a:l[i]?=some d) (b:z.sr=d.sr):∀ y ∈ l.set i z,∃ x ∈ l,y.sr=x.sr:=by grind
end Ex
end
section
namespace Mn
open Ex
def DV (word:ByteArray) (r:List (List Label × Sum)):List Cell:=r.filterMap fun t=>if (Agg.value word t.2).2=true then some ⟨t.1,(Agg.value word t.2).1⟩ else none
def frm (t r:Int):Int:=if t - r < 0 then 0 else t - r
theorem frm_nn (t r:Int):0<=frm t r:=by unfold frm; split <;> omega
def Ai (lk:CQ) (t:Int) (word:ByteArray) (ms:List Match) (range:Int):Val × Int :=
  if (lk ms (frm t range) t).2≠0 then (zero,(lk ms (frm t range) t).2) else (⟨true,0,DV word (lk ms (frm t range) t).1⟩,0)
def close (k:Int) (w:ByteArray) (bs:List ByteArray):List Val->Val × Int
  | a :: r => if k = 3 then all w bs a.cells else match r with
    | b::_=>bin w a b
    | []=>(zero,0)
  | []=>(zero,0)
mutual
def eval (lk:CQ) (t:Int):Expr->Val × Int
  | .mk k n r w ms bs ks=>if k=1 then (⟨false,n,[]⟩,0) else if k=2 then Ai lk t w ms r else if (Ar lk t ks).2≠0 then (zero,(Ar lk t ks).2) else close k w bs (Ar lk t ks).1
def Ar (lk:CQ) (t:Int):List Expr->List Val × Int
  | []=>([],0)
  | x::xs=>if (eval lk t x).2≠0 then ([],(eval lk t x).2) else ((eval lk t x).1::(Ar lk t xs).1,(Ar lk t xs).2)
end
theorem FV (lk:CQ) (t:Int) (x:zD):eval lk t x.e=if x.kind=1 then (⟨false,x.n,[]⟩,0) else if x.kind=2 then Ai lk t x.word x.ms.l x.range else if (Ar lk t (x.kids.l.map zD.e)).2≠0 then (zero,(Ar lk t (x.kids.l.map zD.e)).2) else close x.kind x.word x.by_.l (Ar lk t (x.kids.l.map zD.e)).1:=by
 rw [zD.gz,eval]
mutual
def right:Expr->Prop
  | .mk k n r _ _ _ ks=>((k=1∧0<=n∧n<=1000000)∨(k=2∧1<=r∧r<=100000)∨(k=3∧ks.length=1)∨(k=4∧ks.length=2))∧EK ks
def EK:List Expr->Prop
  | []=>True
  | x::xs=>right x∧EK xs
end
theorem Ll:∀ {l:List Expr},EK l->∀ x ∈ l,right x
 | [],_,x,hx=>by cases hx
 | y :: l, h, x, hx => by
  rw [EK] at h
  rcases List.mem_cons.1 hx with h1 | h1
  ·rw [h1]; exact h.1
  ·exact Ll h.2 x h1
theorem KO {x:zD} (h:right x.e):((x.kind=1∧0<=x.n∧x.n<=1000000)∨(x.kind=2∧1<=x.range∧x.range<=100000)∨(x.kind=3∧x.kids.l.length=1)∨(x.kind=4∧x.kids.l.length=2))∧∀ k ∈ x.kids.l,right k.e:=by
 rw [zD.gz,right,vb] at h;exact ⟨h.1,fun k a=>Ll h.2 _ (List.mem_map_of_mem a)⟩
mutual
theorem FE:∀ (e:Expr) (d c:Int),(Lg.shape e d c).1=0->right e
  | .mk kind n range word ms by_ kids, d, c, h => by
    rw [Lg.shape] at h
    split at h
    · cases h
    split at h
    · cases h
    split at h
    · cases h
    split at h
    · rename_i h2; exact absurd h h2
    rename_i a1 a2 a3 a4
    rw [right]
    refine ⟨?_,Ia kids _ _ h⟩
    have h5:kind=1∨kind=2∨kind=3∨kind=4:=qO
    rcases h5 with rfl | rfl | rfl | rfl
    · simp [Lg.Cb] at a4; exact .inl ⟨rfl,by omega,by omega⟩
    · simp only [Lg.Cb,Lg.BR] at a4
      right; left
      refine ⟨rfl,?_⟩
      by_cases h6:range < 1∨100000 < range
      · exfalso; revert a4; simp only [h6]
        intro a4; apply a4; intro h7
        grind
      · omega
    · right; right; left; exact ⟨rfl,by simp [Lg.arity] at a3; omega⟩
    · right; right; right; exact ⟨rfl,by simp [Lg.arity] at a3; omega⟩
theorem Ia:∀ (l:List Expr) (d c:Int),(Lg.At l d c).1=0->EK l
  | [],_,_,_=>by rw [EK]; trivial
  | x :: xs, d, c, h => by
    rw [Lg.At] at h
    split at h
    · rename_i h2; exact absurd h h2
    rename_i h2
    rw [EK]
    exact ⟨FE x d c (Classical.not_not.1 h2),Ia xs _ _ h⟩
end
theorem JY {e:Expr} {t:Int} (h:check e t=0):right e∧0<=t∧t<=1000000:=by
 unfold check at h;split at h;rename_i a; exact absurd h a;rename_i a;split at h;rename_i b; exact absurd h b;split at h;cases h;exact ⟨FE e 1 0 (ym.1 a),qO,qO⟩
structure Good (v:Val):Prop where
  bnd:Bnd v
  sr:∀ c ∈ v.cells,c.sr.length<=1048576
  len:v.cells.length<=1048576
theorem Tj:(-1125899906842624:Int)<=0∧(0:Int)<=1125899906842624:=by decide
def CV (lk:CQ):Prop:=∀ m a b,(lk m a b).1.length<=1048576∧∀ t ∈ (lk m a b).1,t.1.length<=1048576∧∀ word,-1125899906842624<=(Agg.value word t.2).1∧(Agg.value word t.2).1<=1125899906842624
theorem CE:Good zero:=⟨⟨Tj,fun c a=>(by cases a)⟩,fun c a=>(by cases a),by decide⟩
theorem PN {lk:CQ} (i:CV lk) (t:Int) (w:ByteArray) (ms:List Match) (r:Int):Good (Ai lk t w ms r).1:=by
 unfold Ai
 split
 ·exact CE
 obtain ⟨f,d⟩:=i ms (frm t r) t
 have e:∀ c ∈ DV w (lk ms (frm t r) t).1,∃ u ∈ (lk ms (frm t r) t).1,c.sr=u.1∧c.value=(Agg.value w u.2).1:=fun c b=>by
  obtain ⟨u,a,he⟩:=List.mem_filterMap.1 b
  split at he
  ·injection he with he; exact ⟨u,a,by rw [<-he],by rw [<-he]⟩
  ·cases he
 refine ⟨⟨Tj,fun c b=>?_⟩,fun c b=>?_,?_⟩
 ·obtain ⟨u,a,_,h⟩:=e c b
  rw [h]; exact (d u a).2 w
 ·obtain ⟨u,a,g,_⟩:=e c b
  rw [g]; exact (d u a).1
 ·exact vN (List.length_filterMap_le _ _) f
theorem Vb {w:ByteArray} {a b:Val} (i:Good a) (j:Good b):Good (bin w a b).1:=by
 unfold bin
 split
 ·split
  ·rename_i h; exact ⟨⟨TL h,fun c e=>(by cases e)⟩,fun c e=>(by cases e),Nat.zero_le _⟩
  ·exact CE
 split
 ·rename_i h
  have f:∀ p ∈ Bz a b,p.1.length<=1048576:=fun p f=>by
   unfold Bz at f
   split at f
   ·obtain ⟨c,e,rfl⟩:=yr.1 f; exact i.sr c e
   split at f
   ·obtain ⟨c,e,rfl⟩:=yr.1 f; exact j.sr c e
   ·obtain ⟨c,e,k⟩:=List.mem_filterMap.1 f
    obtain ⟨d,_,rfl⟩:=Option.map_eq_some_iff.1 k
    exact i.sr c e
  have l:(Bz a b).length<=1048576:=by
   unfold Bz
   split
   ·rw [vb]; exact i.len
   split
   ·rw [vb]; exact j.len
   ·exact vN (List.length_filterMap_le _ _) i.len
  refine ⟨⟨Tj,fun c e=>?_⟩,fun c e=>?_,by simp only [done,vb]; exact l⟩
  ·obtain ⟨p,g,rfl⟩:=yr.1 e
   exact TL (by simpa using List.all_eq_true.1 h p g)
  ·obtain ⟨p,g,rfl⟩:=yr.1 e
   exact f p g
 ·exact CE
theorem TW {w:ByteArray} {s:List Label} {x:Int}:∀ (l:List Cell),(put w l s x).length<=l.length + 1
 | []=>by simp [put]
 | c :: r => by
  rw [put]
  split
  ·simp
  split
  ·have:=TW (w:=w) (s:=s) (x:=x) r; simp; omega
  ·simp
theorem IE (l:List Label) (by_:List ByteArray):(zF.only l by_).length<=l.length:=by
 unfold zF.only;exact List.length_filter_le _ _
theorem Pg {w:ByteArray} {by_:List ByteArray}:∀ {l out:List Cell},(∀ c ∈ l,c.sr.length<=1048576)->(∀ c ∈ out,c.sr.length<=1048576)->Fit out->l.length + out.length<=1048576->Good (BJ w by_ out l).1
 | [], out, _, h2, h3, h4 => by
  rw [BJ]
  exact ⟨⟨Tj,fun c hc=>DD.1 (h3 c hc)⟩,h2,by simp at h4; exact h4⟩
 | c :: r, out, h1, h2, h3, h4 => by
  rw [BJ]
  split
  ·rename_i h5
   have hp:=TW (w:=w) (s:=zF.only c.sr by_) (x:=unit w c.value) out
   refine Pg (fun d a=>h1 d (List.mem_cons_of_mem _ a)) (fun d a=>?_) (fun d a=>List.all_eq_true.1 h5 d a) (by simp at h4; omega)
   rcases Tb d a with b | ⟨e,he,b⟩
   ·rw [b]; exact vN (IE _ _) (h1 c uW)
   ·rw [<-b]; exact h2 e he
  ·exact CE
mutual
theorem Fb {lk:CQ} (hl:CV lk) (t:Int):∀ (e:Expr),right e->Good (eval lk t e).1
  | .mk k n r w ms bs ks, h => by
    rw [right] at h
    rw [eval]
    split
    · rename_i h1
      exact ⟨⟨by rcases h.1 with h2 | h2 | h2 | h2 <;> simp <;> omega,fun c hc=>(by cases hc)⟩,fun c hc=>(by cases hc),by simp⟩
    split
    · exact PN hl _ _ _ _
    split
    · exact CE
    have h3:=Hq hl t ks h.2
    unfold close
    split
    · rename_i a rr he
      have ha:Good a:=h3 a (by rw [he]; exact List.mem_cons_self)
      split
      · exact Pg ha.sr (fun c hc=>(by cases hc)) (fun c hc=>(by cases hc)) (by simp; exact ha.len)
      split
      · rename_i b hb
        exact Vb ha (h3 _ (by rw [he]; exact List.mem_cons_of_mem _ List.mem_cons_self))
      · exact CE
    · exact CE
theorem Hq {lk:CQ} (hl:CV lk) (t:Int):∀ (l:List Expr),EK l->∀ v ∈ (Ar lk t l).1,Good v
  | [],_,v,hv=>by rw [Ar] at hv; cases hv
  | x :: xs, h, v, hv => by
    rw [EK] at h
    rw [Ar] at hv
    split at hv
    · cases hv
    rcases List.mem_cons.1 hv with h1 | h1
    · rw [h1]; exact Fb hl t x h.1
    · exact Hq hl t xs h.2 v h1
end
theorem evals_0 (lk:CQ) (t:Int) (l:List zD):Ar lk t (l.map zD.e)=(([]:List zt).map zt.e++(Ar lk t ((l.drop 0).map zD.e)).1,(Ar lk t ((l.drop 0).map zD.e)).2):=by
 simp
theorem KF {l:List zD} {k:Nat} {s:zD} (h:l[k]?=some s):(l.drop k).map zD.e=s.e::(l.drop (k + 1)).map zD.e:=by
 obtain ⟨a,rfl⟩:=yb.1 h;rw [uI a,vl]
theorem RK {lk:CQ} {t:Int} {l:List zD} {k:Nat} {s:zD} {vs:List zt} {z:zt} (h:Ar lk t (l.map zD.e)=(vs.map zt.e++(Ar lk t ((l.drop k).map zD.e)).1,(Ar lk t ((l.drop k).map zD.e)).2)) (a:l[k]?=some s) (b:z.e=(eval lk t s.e).1) (c:(eval lk t s.e).2=0) :
  Ar lk t (l.map zD.e)=((vs++[z]).map zt.e++(Ar lk t ((l.drop (k + 1)).map zD.e)).1,(Ar lk t ((l.drop (k + 1)).map zD.e)).2):=by
 rw [h,KF a,Ar,zI (by simp [c]),yi,vl,List.map_nil,b]
 simp
theorem Uz {lk:CQ} {t:Int} {l:List zD} {k:Nat} {s:zD} {vs:List zt} (h:Ar lk t (l.map zD.e)=(vs.map zt.e++(Ar lk t ((l.drop k).map zD.e)).1,(Ar lk t ((l.drop k).map zD.e)).2)) (a:l[k]?=some s) (b:(eval lk t s.e).2≠0) :
  (Ar lk t (l.map zD.e)).2=(eval lk t s.e).2:=by
 rw [h,KF a,Ar,zP b]
theorem Ur {lk:CQ} {t:Int} {l:List zD} {k:Nat} {vs:List zt} (h:Ar lk t (l.map zD.e)=(vs.map zt.e++(Ar lk t ((l.drop k).map zD.e)).1,(Ar lk t ((l.drop k).map zD.e)).2)) (a:l.length<=k):Ar lk t (l.map zD.e)=(vs.map zt.e,0):=by
 rw [h,vw a]; simp [Ar]
theorem MQ:∀ {l:List zD},(∀ k ∈ l,right k.e)->EK (l.map zD.e)
 | [],_=>by rw [List.map_nil,EK]; trivial
 | x::xs,h=>by rw [List.map_cons,EK]; exact ⟨h x List.mem_cons_self,MQ fun k hk=>h k (List.mem_cons_of_mem _ hk)⟩
theorem good_of {lk:CQ} (a:CV lk) {t:Int} {l:List zD} {vs:List zt} (he:Ar lk t (l.map zD.e)=(vs.map zt.e,0)) (c:∀ k ∈ l,right k.e):∀ s ∈ vs,Good s.e:=fun s b =>
 Hq a t _ (MQ c) s.e (by rw [he]; exact List.mem_map_of_mem b)
theorem Good.x {x:zt} (h:Good x.e):Bnd x.e∧(∀ c ∈ x.cells.l,-1125899906842624<=c.value∧c.value<=1125899906842624)∧(∀ c ∈ x.cells.l,c.sr.l.length<=1048576)∧x.cells.l.length<=1048576 :=
 ⟨h.bnd,fun c a=>h.bnd.2 c.e (List.mem_map_of_mem a),fun c a=>h.sr c.e (List.mem_map_of_mem a),by have:=h.len; simpa [zt.e] using this⟩
theorem UH {k:Int} {w:ByteArray} {bs:List ByteArray} {vs:List zt} {s:zt} (c:k=3) (b:vs[0]?=some s):close k w bs (vs.map zt.e)=all w bs (s.cells.l.map zC.e):=by
 match vs,b with
 | a :: r, b =>
  obtain rfl:a=s:=by simpa using b
  simp only [vl,close,zP c]; rfl
theorem Ux {k:Int} {w:ByteArray} {bs:List ByteArray} {vs:List zt} {s u:zt} (f:¬ k=3) (c:vs[0]?=some s) (d:vs[1]?=some u):close k w bs (vs.map zt.e)=bin w s.e u.e:=by
 match vs,c,d with
 | a :: b :: r, c, d =>
  obtain rfl:a=s:=by simpa using c
  obtain rfl:b=u:=by simpa using d
  simp only [vl,close,zI f]
theorem FF {a:ByteArray} {r:List (List Label × Sum)} {k:Nat} {s:List Label} {m:Sum} (b:(r.map (·.1))[k]?=some s) (c:(r.map (·.2))[k]?=some m):DV a (r.take (k + 1))=DV a (r.take k)++if (Agg.value a m).2=true then [⟨s,(Agg.value a m).1⟩] else []:=by
 rw [yV] at b c
 cases hr:r[k]? with
 | none=>rw [hr] at b; cases b
 | some u =>
  rw [hr] at b c
  obtain rfl:u.1=s:=by simpa using b
  obtain rfl:u.2=m:=by simpa using c
  rw [DV,vE,hr,List.filterMap_append]
  congr 1
  simp only [Option.toList,List.filterMap_cons,List.filterMap_nil]
  split <;> simp_all
end Mn
end
section
namespace Codec
structure Jn (l:List AA):Prop where
  len:l.length<=500
  rng:∀ x ∈ l,0<=x.time∧x.time<=1000000∧-1000000000<=x.value∧x.value<=1000000000
  inc:l.Pairwise (fun x y=>x.time < y.time)
theorem Ev:∀ (l:List AA) (k:Nat) (p:Option AA),(AP k p l).err=0 ->
  (∀ x ∈ l,¬ DW x)∧l.Pairwise (fun x y=>x.time < y.time)∧(∀ q,p=some q->∀ x ∈ l,q.time < x.time)
 | [],_,_,_=>⟨qS,qS,qS⟩
 | s :: r, k, p, h => by
  unfold AP at h
  split at h
  ·simp at h
  ·rename_i hb
   split at h
   ·simp at h
   ·rename_i hn
    obtain ⟨h1,h2,h3⟩:=Ev r (k + 1) (some s) h
    have b:=h3 s rfl
    refine ⟨?_,List.pairwise_cons.2 ⟨b,h2⟩,?_⟩
    ·intro x a
     rcases ya.1 a with rfl | a
     ·exact hb
     ·exact h1 x a
    ·rintro q rfl x a
     have c:q.time < s.time:=by simpa [Da] using hn
     rcases ya.1 a with rfl | a
     ·exact c
     ·have:=b x a; omega
theorem Em {l:List AA} (h:(AE l).err=0):Jn l:=by
 unfold AE at h;split at h;simp at h;rename_i d;obtain ⟨a,c,_⟩:=Ev l 0 none h;refine ⟨qO,fun x b=>?_,c⟩;have:=a x b;unfold DW at this;omega
end Codec
namespace Roll
def tot (b:List AB):Int:=(b.map (·.sum.count)).sum
theorem Hk (a b:List AB):tot (a++b)=tot a + tot b:=by simp [tot,List.sum_append]
theorem OB (b:AB):tot [b]=b.sum.count:=by simp [tot]
theorem Ez (l:List AB) (b:AB) (t st:Int) (s:Sum):add (l++[b]) t st s=if b.at_=at' t st then l++[⟨b.at_,Agg.join b.sum s⟩] else l++[b]++[⟨at' t st,s⟩]:=by
 unfold add;simp only [List.getLast?_append,List.getLast?_singleton,Option.some_or];split;simp;rfl
theorem JL (t st:Int) (s:Sum):add [] t st s=[⟨at' t st,s⟩]:=rfl
theorem HP (l:List AB) (t st:Int) (s:Sum):add l t st s=l++[⟨at' t st,s⟩]∨∃ a b,l=a++[b]∧b.at_=at' t st∧add l t st s=a++[⟨b.at_,Agg.join b.sum s⟩]:=by
 rcases List.eq_nil_or_concat l with rfl | ⟨a,b,rfl⟩
 exact .inl rfl;rw [List.concat_eq_append,Ez];split;rename_i h; exact .inr ⟨a,b,rfl,h,rfl⟩;exact .inl rfl
theorem ID (l:List AA) (x:AA) (st:Int):ups (l++[x]) st=add (ups l st) x.time st (Agg.one x.value):=by simp [ups]
theorem EV (l:List AB) (x:AB):AU (l++[x])=add (AU l) x.at_ 60 x.sum:=by simp [AU]
structure Cf (b:List AB) (n:Int):Prop where
  pos:∀ x ∈ b,1<=x.sum.count
  all:tot b=n
theorem Cf.le {b:List AB} {n:Int} (h:Cf b n):∀ x ∈ b,x.sum.count<=n:=by
 obtain ⟨e,rfl⟩:=h
 induction b with
 | nil=>simp
 | cons a r ih =>
  have i:tot (a::r)=a.sum.count + tot r:=by simp [tot]
  have f:0<=tot r:=by
   have:∀ (r:List AB),(∀ x ∈ r,1<=x.sum.count)->0<=tot r:=by
    intro r
    induction r with
    | nil=>intro _; simp [tot]
    | cons c r ih=>intro h; have:=ih (fun x d=>h x (by simp [d])); have:=h c qS; simp only [tot,vl,List.sum_cons] at *; omega
   exact this r fun x d=>e x (by simp [d])
  have g:=e a qS
  intro x d
  rcases ya.1 d with rfl | d
  ·omega
  ·have:=ih (fun x d=>e x (by simp [d])) x d; omega
theorem Cf.nonneg {b:List AB} {n:Int} (h:Cf b n):0<=n:=by
 by_cases a:b=[];subst a; obtain ⟨_,rfl⟩:=h; simp [tot];obtain ⟨x,c⟩:=List.exists_mem_of_ne_nil b a;have:=h.pos x c; have:=h.le x c; omega
theorem Cf.add {b:List AB} {n:Int} {t st:Int} {s:Sum} (h:Cf b n) (d:1<=s.count) (j:n + s.count<=1000000000):Cf (Roll.add b t st s) (n + s.count):=by
 rcases HP b t st s with e | ⟨g,c,rfl,he,e⟩
 rw [e];refine ⟨fun x a=>?_,by rw [Hk,OB,h.all]⟩;rcases yl.1 a with a | a
 exact h.pos x a;simp only [yf] at a; subst a; exact d;have k:=h.pos c qS;have i:=h.le c qS;have f:=h.nonneg;have l:(Agg.join c.sum s).count=c.sum.count + s.count:=Agg.Dt qO qO qO;rw [e];refine ⟨fun x a=>?_,?_⟩;rcases yl.1 a with a | a
 exact h.pos x (by simp [a]);simp only [yf] at a; subst a; show 1<=(Agg.join c.sum s).count; omega
 have:=h.all;rw [Hk,OB] at *;show tot g + (Agg.join c.sum s).count=_
 omega
theorem LQ (l:List AA) (st:Int) (h:l.length<=1048576):Cf (ups l st) l.length:=by
 induction l using List.AY with
 | nil=>exact ⟨by simp [ups],by simp [ups,tot]⟩
 | snoc l x ih =>
  have a:(l++[x]).length=l.length + 1:=qS
  rw [a] at h ⊢
  rw [ID]
  exact Cf.add (ih qO) (by simp [Agg.one]) (by simp [Agg.one]; omega)
theorem SN {t st:Int} (a:0<=t) (c:t<=1000000) (b:0 < st):at' t st=t - t % st:=by
 unfold at';rw [Int.tmod_eq_emod_of_nonneg a];have:=Int.emod_nonneg t (by omega:st≠0);have:=Int.emod_add_mul_ediv t st;have:0<=st * (t / st):=Int.mul_nonneg qO (Int.ediv_nonneg a qO);exact Ei qO qO
theorem XG {t st:Int} (b:0<=t) (c:t<=1000000) (a:0 < st):0<=at' t st∧at' t st<=t∧t < at' t st + st∧at' t st % st=0:=by
 rw [SN b c a];have:=Int.emod_nonneg t (by omega:st≠0);have:=Int.emod_lt_of_pos t a;have e:=Int.emod_add_mul_ediv t st;have:0<=st * (t / st):=Int.mul_nonneg qO (Int.ediv_nonneg b qO);refine ⟨qO,qO,qO,?_⟩;rw [show t - t % st=st * (t / st) by omega];exact Int.mul_emod_right _ _
theorem at_at {t:Int} (b:0<=t) (a:t<=1000000):at' (at' t 10) 60=at' t 60:=by
 have h:=XG b a (by decide:(0:Int) < 10);rw [SN h.1 qO qD,SN b a qD,SN b a qD];omega
theorem Vd {l:List AB} {t a st:Int} {s:Sum} (h:at' t st=at' a st):add l t st s=add l a st s:=by unfold add; rw [h]
theorem add_add {l:List AB} {n t d st:Int} {a b:Sum} (f:Cf l n) (o:n + a.count + b.count<=1000000000) (m:1<=a.count) (j:1<=b.count) (h:at' t st=at' d st):add (add l t st a) d st b=add l t st (Agg.join a b):=by
 have g:=f.nonneg;rcases List.eq_nil_or_concat l with rfl | ⟨p,c,rfl⟩
 rw [JL,JL];have:=Ez [] ⟨at' t st,a⟩ d st b;rw [zP h] at this;exact this;rw [List.concat_eq_append] at *;have i:=f.pos c qS;have k:=f.le c qS;rw [Ez,Ez];by_cases e:c.at_=at' t st;rw [zP e,zP e,Ez,zP (by rw [<-h]; exact e)];rw [Agg.join_assoc qO qO qO qO];rw [zI e,zI e,Ez,zP h]
theorem Cf.init {l:List AB} {b:AB} {n:Int} (h:Cf (l++[b]) n):Cf l (n - b.sum.count) :=
 ⟨fun x a=>h.pos x (by simp [a]),by have:=h.all; rw [Hk,OB] at this; omega⟩
theorem Kj {b:List AB} {n:Int} (h:Cf b n) (d:n<=1000000):Cf (AU b) n:=by
 induction b using List.AY generalizing n with
 | nil=>obtain ⟨_,rfl⟩:=h; exact ⟨by simp [AU],by simp [AU,tot]⟩
 | snoc b x ih =>
  have a:=h.init
  have c:=h.pos x qS
  rw [EV]
  have:=Cf.add (t:=x.at_) (st:=60) (ih a qO) c qO
  rwa [show n - x.sum.count + x.sum.count=n by omega] at this
end Roll
end
section
namespace Mn
open Ex
structure GK (l:List yx):Prop where
  len:l.length<=8
  sr:∀ x ∈ l,zF.AE x.sr.l=0
  sm:∀ x ∈ l,(Codec.AE x.sm.l).err=0
  inc:l.Pairwise fun x y=>zF.compare x.sr.l y.sr.l < 0
theorem Ir:∀ (l:List yx) (i:Nat) (p:Option (List Label)),(HT i p l).err=0->(∀ x ∈ l,zF.AE x.sr.l=0∧(Codec.AE x.sm.l).err=0)∧l.Pairwise (fun x y=>zF.compare x.sr.l y.sr.l < 0)∧(∀ q,p=some q->∀ x ∈ l,zF.compare q x.sr.l < 0)
 | [],_,_,_=>⟨qS,List.Pairwise.nil,qS⟩
 | x :: r, i, p, h => by
  rw [HT] at h
  split at h
  ·rename_i h1; exact absurd h h1
  rename_i h1
  split at h
  ·rename_i h2; exact absurd h h2
  rename_i h2
  split at h
  ·cases h
  rename_i h3
  obtain ⟨a1,a2,a3⟩:=Ir r (i + 1) (some x.sr.l) h
  have b:=a3 _ rfl
  refine ⟨fun y a=>?_,List.pairwise_cons.2 ⟨b,a2⟩,?_⟩
  ·rcases ya.1 a with rfl | a
   ·exact ⟨ym.1 h1,ym.1 h2⟩
   ·exact a1 y a
  ·rintro q rfl y a
   have c:zF.compare q x.sr.l < 0:=by simp only [behind] at h3; omega
   rcases ya.1 a with rfl | a
   ·exact c
   ·exact zF.Bf.trans _ _ _ c (b y a)
theorem VZ {l:List yx} (h:(lines l).err=0):GK l:=by
 unfold lines at h;split at h;cases h;rename_i d;obtain ⟨b,c,_⟩:=Ir l 0 none h;exact ⟨qO,fun x a=>(b x a).1,fun x a=>(b x a).2,c⟩
theorem Fa {l:List Label} (h:zF.AE l=0):l.length<=4:=by
 unfold zF.AE at h;split at h;cases h;omega
theorem GK.sizes {l:List yx} (h:GK l):∀ x ∈ l,x.sr.l.length<=1048576∧x.sm.l.length<=1048576:=fun x a=>by
 have b:=Fa (h.sr x a)
 have c:=(Codec.Em (h.sm x a)).len
 omega
theorem GK.Bh {l:List yx} (h:GK l):∀ x ∈ l,∀ s ∈ x.sm.l,-1000000000<=s.value∧s.value<=1000000000:=fun x b s a=>by
 have:=(Codec.Em (h.sm x b)).rng s a; omega
def inWin (a b:Int) (s:AA):Bool:=decide (a<=s.time∧s.time < b)
def EP (l:List Line):CQ:=fun m a b=>((l.filter fun x=>zF.yG x.sr m).map fun x=>(x.sr,Agg.of (x.sm.filter (inWin a b))),0)
theorem II {l:List yx} {k:Nat} {s:yx} {m:List Match} {a b:Int} (h:l[k]?=some s):(EP ((l.take (k + 1)).map yx.e) m a b).1=if zF.yG s.sr.l m=true then (EP ((l.take k).map yx.e) m a b).1++[(s.sr.l,Agg.of (s.sm.l.filter (inWin a b)))] else (EP ((l.take k).map yx.e) m a b).1:=by
 unfold EP;rw [vE,h,yi,List.filter_append,yi];simp only [Option.toList,vl,List.map_nil,List.filter_cons,List.filter_nil];split;rename_i c; rw [zP (show zF.yG s.sr.l m=true from c)]; rfl;rename_i c; rw [zI (show ¬ zF.yG s.sr.l m=true from c)]; simp
theorem XA {a b:Int} (d:-1000000000<=a∧a<=1000000000) (c:-1000000000<=b∧b<=1000000000):-2000000000<=Agg.Ap a b∧Agg.Ap a b<=2000000000:=by
 unfold Agg.Ap;split;omega;rw [Ei qO qO]; omega
theorem Ve:∀ (l:List AA),l.length<=500->(∀ x ∈ l,-1000000000<=x.value∧x.value<=1000000000)->-2000000000 * (l.length:Int)<=(Agg.of l).Ap∧(Agg.of l).Ap<=2000000000 * (l.length:Int):=by
 intro l
 induction l using List.AY with
 | nil=>intro _ _; decide
 | snoc l x ih =>
  intro k g
  have d:(l++[x]).length=l.length + 1:=qS
  rw [d] at k ⊢
  have h:=ih qO (fun y f=>g y (by simp [f]))
  have m:=g x qS
  rw [Agg.EY]
  by_cases c:l=[]
  ·subst c
   have:Agg.join (Agg.of []) (Agg.one x.value)=Agg.one x.value:=by simp [Agg.of,Agg.join,Sum.zero]
   rw [this]; simp [Agg.one]
  ·have e:=Agg.fits l c qO (fun y f=>g y (by simp [f]))
   have j:=List.length_pos_iff.2 c
   have o:=e.l1; have p:=e.l2; have n:=e.m1; have r:=e.m2
   have q:=XA (a:=(Agg.of l).last) (b:=x.value) qO m
   unfold Agg.join
   rw [zI (by rw [e.count]; omega),zI (by simp [Agg.one])]
   simp only [Agg.one]
   have i:wr ((Agg.of l).Ap + Agg.Ap (Agg.of l).last x.value)=(Agg.of l).Ap + Agg.Ap (Agg.of l).last x.value:=Ei qO qO
   rw [i,Int.add_zero,Ei qO qO]
   omega
theorem MZ {l:List AA} (g:l.length<=500) (e:∀ x ∈ l,-1000000000<=x.value∧x.value<=1000000000) (a:ByteArray):-1125899906842624<=(Agg.value a (Agg.of l)).1∧(Agg.value a (Agg.of l)).1<=1125899906842624:=by
 by_cases b:l=[]
 ·subst b
  have:(Agg.value a (Agg.of [])).1=0:=by unfold Agg.value; rw [zP qD]
  rw [this]; decide
 have h:=Agg.fits l b qO e
 have r:=Ve l g e
 have d:=List.length_pos_iff.2 b
 have f:¬ (Agg.of l).count < 1:=by rw [h.count]; omega
 have k:=Agg.tdiv_between (t:=(Agg.of l).total) (c:=(Agg.of l).count) qO h.s1 h.s2
 have i:=h.m1; have p:=h.m2; have n:=h.f1; have o:=h.f2; have q:=h.l1; have j:=h.l2; have u:=h.count; have m:=h.t1; have s:=h.t2
 unfold Agg.value
 rw [zI f,Ei qO qO]
 (repeat' split) <;> dsimp only <;> omega
theorem Rs {l:List yx} (h:GK l):CV (EP (l.map yx.e)):=fun m a b=>by
 refine ⟨?_,fun t i=>?_⟩
 ·simp only [EP,vb]
  have g:=List.length_filter_le (fun x:Line=>zF.yG x.sr m) (l.map yx.e)
  have k:=h.len
  simp only [vb] at g
  omega
 ·obtain ⟨x,j,rfl⟩:=yr.1 i
  obtain ⟨y,d,rfl⟩:=yr.1 (List.mem_filter.1 j).1
  refine ⟨(h.sizes y d).1,fun c=>MZ ?_ (fun s f=>h.Bh y d s (List.mem_filter.1 f).1) c⟩
  exact vN (List.length_filter_le _ _) (Codec.Em (h.sm y d)).len
def out (r:Val × Int):List Cell × Int:=if r.2≠0 then ([],r.2) else if r.1.vec=true then (r.1.cells,0) else ([⟨[],r.1.n⟩],0)
def ask (l:List yx) (e:Expr) (t:Int):List Cell × Int:=if (lines l).err≠0 then ([],(lines l).err) else if check e t≠0 then ([],check e t) else out (eval (EP (l.map yx.e)) t e)
end Mn
namespace Ex
structure CelsX.Ok (S:Nat->Prop) (z:SlX zC) (w:World):Prop where
  cells:zH S 2 zu (z.v) z.l w
  all:∀ c ∈ z.l,zC.Ok S c w
theorem CelsX.Ok.loc (x:SlX zC):Loc (fun S=>CelsX.Ok S x):=fun S S' u u' a b h=>⟨zH.loc _ _ _ _ S S' u u' a b h.cells,fun c d=>zC.Ok.loc c S S' u u' a b (h.all c d)⟩
structure CelsX.Wf (z:SlX zC):Prop where
  cells:Ex.Wf z
  all:∀ c ∈ z.l,zC.Wf c
theorem CelsX.Ok.wf {S:Nat->Prop} {x:SlX zC} {w:World} (h:CelsX.Ok S x w):CelsX.Wf x:=⟨zH.wf h.cells,fun c a=>(h.all c a).wf⟩
@[reducible] def celsV (err:Int) (z:SlX zC):Value:=.tuple #[z.v,.int .i64 err]
end Ex
end
section
namespace Ex
abbrev Sk:=List Match->Int->Int->Int->Int
structure WinG (P:Program) (f:Nat) (cap:Array Value) (o:Int->Own) (S:Nat->Prop) (C:World->Prop) (lk:CQ) (sk:Sk):Prop where
  call:∀ vs w,(callFunc f vs).run P w=.ok (.enter f vs) w
  ok:∀ n,(o n).mut=true∨(o n).Cu=true
  fpc:∀ n m b,(o n).fp b->(o m).fp b
  run:∀ (ms:SlX Match) (a b n:Int) (w:World) (Pb:Nat->Prop),Mem w ⟨AX [o n,.dat S C,slP 3 yF (ms.v) ms.l],Pb⟩ [o n,.dat S C,slP 3 yF (ms.v) ms.l] w->0<=a->b<=1000000 ->
    Calls P f (#[ms.v,.int .i64 a,.int .i64 b]++cap) w (Be w [o n,.dat S C,slP 3 yF (ms.v) ms.l] Pb (winV (lk ms.l a b).2) (fun z=>vv.is z (lk ms.l a b).1) (fun z=>[.pub (fun S=>vv.Ok S z),o (sk ms.l a b n)]))
theorem hq2 {F:(Nat->Prop)->World->Prop} {o:Own} (h:o.mut=true∨o.Cu=true):([Own.pub F,o]).all (fun o=>o.mut || o.Cu)=true:=by
 simp only [List.all_cons,List.all_nil,Bool.and_true,Bool.and_eq_true,Bool.or_eq_true];exact ⟨.inr rfl,h⟩
theorem hq5 {F G H I:(Nat->Prop)->World->Prop} {o:Own} (h:o.mut=true∨o.Cu=true):([Own.pub F,o,.pub G,.pub H,.pub I]).all (fun o=>o.mut || o.Cu)=true:=by
 simp only [List.all_cons,List.all_nil,Bool.and_true,Bool.and_eq_true,Bool.or_eq_true];exact ⟨.inr rfl,h,.inr rfl,.inr rfl,.inr rfl⟩
theorem only5 {o:Own} {S:Nat->Prop} {C:World->Prop} {F G H:(Nat->Prop)->World->Prop} (b:Nat) (h:AX [o,.dat S C,.pub F,.pub G,.pub H] b):o.fp b:=by
 obtain ⟨x,a,d,c⟩:=h
 simp only [ya,List.not_mem_nil,or_false] at a
 rcases a with rfl | rfl | rfl | rfl | rfl
 ·exact c
 all_goals cases d
theorem hq3 {F G:(Nat->Prop)->World->Prop} {o:Own} (h:o.mut=true∨o.Cu=true):([Own.pub F,o,.pub G]).all (fun o=>o.mut || o.Cu)=true:=by
 simp only [List.all_cons,List.all_nil,Bool.and_true,Bool.and_eq_true,Bool.or_eq_true];exact ⟨.inr rfl,h,.inr rfl⟩
theorem only3 {o:Own} {S:Nat->Prop} {C:World->Prop} {F:(Nat->Prop)->World->Prop} (b:Nat) (h:AX [o,.dat S C,.pub F] b):o.fp b:=by
 obtain ⟨x,a,d,c⟩:=h
 simp only [ya,List.not_mem_nil,or_false] at a
 rcases a with rfl | rfl | rfl
 ·exact c
 all_goals cases d
section
variable {w0 w:World} {M:Fp} {L:List Own} {o:Own}
theorem Mem.sealBO {i j b:Nat} {cs:List Value} {T:TypeId} {o':Own} (h:Mem w0 M L w) (hi:L[i]?=some (.blk b cs T)) (k:L[j]?=some o') (d:Nat.beq i j=false) (g:∀ b,M.m b->o'.fp b):Mem w0 M (L.set i (BE ⟨b,0,none⟩ cs)) w:=by
 refine h.q3 hi rfl (fun a e=>?_) (ve.loc _ _) fun l n=>⟨.inr rfl,fun j u f=>?_⟩;rcases (h.ok i _ hi).2.2 rfl a e with c | c
 exact .inl c;exact absurd (g a c) (h.dj i j _ _ hi k (Nat.ne_of_beq_eq_false d) (.inl rfl) a e);rw [add_lit];have:=h.cell (j:=0 + j) hi;rw [this]; simpa using f
theorem Mem.vT {α:Type} {enc:α->List Value} {k:Nat} {e:TypeId} {l:List α} {v:Value} (he:Enc enc k) (h:Mem w0 M L w) {i j:Nat} {o':Own} (hi:L[i]?=some (Row v e k enc l)) (t:L[j]?=some o') (n:i≠j) (r:∀ b,M.m b->o'.fp b):Mem w0 M (L.set i (slP k enc v l)) w:=by
 refine h.q3 hi rfl (fun b f=>?_) (zH.loc _ _ _ _) fun z D=>?_
 ·rcases (h.ok i _ hi).2.2 rfl b f with a | a
  ·exact .inl a
  ·exact absurd (r b a) (h.dj i j _ _ hi t n (.inl rfl) b f)
 have d:=h.row hi
 obtain ⟨A,c,rfl,o,q,s⟩:=Ay d
 refine ⟨A,c,rfl,o,by simpa [maxLen] using q,fun g=>?_⟩
 obtain ⟨ad,rfl⟩:=s g
 have f:(Value.slice (some ad) l.length c).ownBlock=some ad.block:=by
  rcases d.2 with ⟨a,E⟩ | ⟨C,cap,cur,a,_⟩
  ·cases a
  ·injection a with a _ _; injection a with a; subst a; rfl
 refine ⟨ad,rfl,.inr f,fun B x y j u p=>?_⟩
 exact (AM he h i hi).cell rfl y p
theorem Mem.dup (h:Mem w0 M L w) (q:Nat) (hi:L[q]?=some o) (m:o.mut=false):Mem w0 M (o::L) w:=by
 have b:∀ (i:Nat) (x:Own),(o::L)[i]?=some x->∃ j,L[j]?=some x∧((i=0∧x=o)∨(1<=i∧j=i - 1)):=fun i x c=>by
  cases i with
  | zero=>exact ⟨q,by rw [hi]; simpa using c,.inl ⟨rfl,by simpa using c.symm⟩⟩
  | succ i=>exact ⟨i,by simpa using c,.inr ⟨qO,rfl⟩⟩
 refine ⟨h.fr,fun i x c=>?_,fun i j x y c r s a=>?_,?_⟩
 ·obtain ⟨j,e,_⟩:=b i x c; exact h.ok j x e
 ·obtain ⟨n,d,u⟩:=b i x c
  obtain ⟨l,f,t⟩:=b j y r
  by_cases he:n=l
  ·subst he
   have k:x=y:=Option.some.inj (d.symm.trans f)
   subst k
   exfalso
   rcases u with ⟨_,rfl⟩ | ⟨z,A⟩
   ·rw [m] at a; simp at a
   ·rcases t with ⟨_,rfl⟩ | ⟨B,v⟩
    ·rw [m] at a; simp at a
    ·omega
  ·exact h.dj n l x y d f he a
 ·obtain ⟨p,g⟩:=h.pb
  refine ⟨p,g.sub,g.lt,fun i x c=>?_,fun i F c=>?_⟩
  ·obtain ⟨j,e,_⟩:=b i x c; exact g.dj j x e
  ·obtain ⟨j,e,_⟩:=b i _ c; exact g.at_ j F e
end
section
variable {P:Program} {N:Nat} {D:List Deferred} {E:Env} {Q:Exit->Act->World->Prop} {w0 w:World} {M:Fp} {L:List Own} {ops:Array Oper} {rest:List Oper} {T:TypeId}
theorem Qf (i j:Nat) {b:Nat} {cs:List Value} {o':Own} (hi:L[i]?=some (.blk b cs T)) (e:L[j]?=some o') (a:Nat.beq i j=false) (c:∀ b,M.m b->o'.fp b) (h:WL P N D ops Q rest E (Mem w0 M (L.set i (BE ⟨b,0,none⟩ cs)))):WL P N D ops Q rest E (Mem w0 M L) :=
 fun w d=>h w (d.sealBO hi e a c)
theorem gp {α:Type} {enc:α->List Value} {k:Nat} {e:TypeId} {l:List α} {v:Value} (i j:Nat) {o':Own} (he:Enc enc k) (hi:L[i]?=some (Row v e k enc l)) (f:L[j]?=some o') (a:Nat.beq i j=false) (c:∀ b,M.m b->o'.fp b) (h:WL P N D ops Q rest E (Mem w0 M (L.set i (slP k enc v l)))):WL P N D ops Q rest E (Mem w0 M L) :=
 fun w d=>h w (d.vT he hi f (Nat.ne_of_beq_eq_false a) c)
end
end Ex
namespace Mn
open Ex
mutual
def AW (lk:CQ) (sk:Sk) (t:Int):Expr->Int->Int
  | .mk k _ r _ ms _ ks,c=>if k=1 then c else if k=2 then sk ms (frm t r) t c else Bp lk sk t ks c
def Bp (lk:CQ) (sk:Sk) (t:Int):List Expr->Int->Int
  | [],c=>c
  | x::xs,c=>if (eval lk t x).2≠0 then AW lk sk t x c else Bp lk sk t xs (AW lk sk t x c)
end
theorem EA (lk:CQ) (a:Sk) (t:Int) (x:zD) (c:Int):AW lk a t x.e c=if x.kind=1 then c else if x.kind=2 then a x.ms.l (frm t x.range) t c else Bp lk a t (x.kids.l.map zD.e) c:=by
 rw [zD.gz,AW]
theorem Po {lk:CQ} {a:Sk} {t:Int} {l:List zD} {k:Nat} {s:zD} {c n:Int} (h:Bp lk a t (l.map zD.e) n=Bp lk a t ((l.drop k).map zD.e) c) (b:l[k]?=some s) (d:(eval lk t s.e).2=0) :
  Bp lk a t (l.map zD.e) n=Bp lk a t ((l.drop (k + 1)).map zD.e) (AW lk a t s.e c):=by
 rw [h,KF b,Bp,zI (by simp [d])]
theorem Rv {lk:CQ} {a:Sk} {t:Int} {l:List zD} {k:Nat} {s:zD} {c n:Int} (h:Bp lk a t (l.map zD.e) n=Bp lk a t ((l.drop k).map zD.e) c) (b:l[k]?=some s) (d:(eval lk t s.e).2≠0) :
  Bp lk a t (l.map zD.e) n=AW lk a t s.e c:=by
 rw [h,KF b,Bp,zP d]
theorem LR {lk:CQ} {a:Sk} {t:Int} {l:List zD} {k:Nat} {c n:Int} (h:Bp lk a t (l.map zD.e) n=Bp lk a t ((l.drop k).map zD.e) c) (b:l.length<=k):Bp lk a t (l.map zD.e) n=c:=by
 rw [h,vw b]; rfl
end Mn
end
section
structure zB where (sr:SlX Label) (raw:SlX AA) (AD coarse:SlX AB) (zS zN zG zJ zE:Int)
def zB.e (x:zB):Shelf:=⟨x.sr.l,x.raw.l,x.AD.l,x.coarse.l,x.zS,x.zN,x.zG,x.zJ,x.zE⟩
structure Do where (kind AG to:Int) (sr:List Label) (zW:AA) (text:ByteArray)
structure vC where (kind AG to:Int) (sr:SlX Label) (zW:AA) (text:ByteArray)
def vC.e (x:vC):Do:=⟨x.kind,x.AG,x.to,x.sr.l,x.zW,x.text⟩
structure Ans where (err at_:Int) (cells:List Cell) (cost:Int)
structure zk where (err at_:Int) (cells:SlX zC) (cost:Int)
def zk.e (x:zk):Ans:=⟨x.err,x.at_,x.cells.l.map zC.e,x.cost⟩
structure CW where (zA:List Shelf) (zT:Int)
structure yA where (zA:SlX zB) (zT:Int)
def yA.e (x:yA):CW:=⟨x.zA.l.map zB.e,x.zT⟩
namespace Ex
@[reducible] def za (x:zB):List Value:=[x.sr.v,x.raw.v,x.AD.v,x.coarse.v,.int .i64 x.zS,.int .i64 x.zN,.int .i64 x.zG,.int .i64 x.zJ,.int .i64 x.zE]
theorem AV:Enc za 9:=.of (fun _=>rfl) (fun _=>rfl) rfl
structure zB.Ok (S:Nat->Prop) (x:zB) (w:World):Prop where
  sr:zH S 2 zb (x.sr.v) x.sr.l w
  raw:zH S 2 zX (x.raw.v) x.raw.l w
  AD:zH S 8 zO (x.AD.v) x.AD.l w
  coarse:zH S 8 zO (x.coarse.v) x.coarse.l w
theorem zB.Ok.loc (x:zB):Loc (fun S=>zB.Ok S x):=fun S S' u u' a b h=>⟨zH.loc _ _ _ _ S S' u u' a b h.sr,zH.loc _ _ _ _ S S' u u' a b h.raw,zH.loc _ _ _ _ S S' u u' a b h.AD,zH.loc _ _ _ _ S S' u u' a b h.coarse⟩
structure zB.Wf (x:zB):Prop where
  sr:Ex.Wf x.sr
  raw:Ex.Wf x.raw
  AD:Ex.Wf x.AD
  coarse:Ex.Wf x.coarse
theorem zB.Ok.wf {S:Nat->Prop} {x:zB} {w:World} (h:zB.Ok S x w):zB.Wf x:=⟨zH.wf h.sr,zH.wf h.raw,zH.wf h.AD,zH.wf h.coarse⟩
theorem Mem.DU {b w:World} {M:Fp} {L:List Own} (h:Mem b M L w) (q:Nat) {e:zB} (hi:L[q]?=some (okP zB.Ok e)):Mem b M (slP 2 zb (e.sr.v) e.sr.l::slP 2 zX (e.raw.v) e.raw.l::slP 8 zO (e.AD.v) e.AD.l::slP 8 zO (e.coarse.v) e.coarse.l::L) w:=by
 have c:=h.imp (q + 0) hi (zH.loc 8 zO _ e.coarse.l) fun _ a=>zB.Ok.coarse a;have f:=c.imp (q + 1) hi (zH.loc 8 zO _ e.AD.l) fun _ a=>zB.Ok.AD a;have d:=f.imp (q + 2) hi (zH.loc 2 zX _ e.raw.l) fun _ a=>zB.Ok.raw a;exact d.imp (q + 3) hi (zH.loc 2 zb _ e.sr.l) fun _ a=>zB.Ok.sr a
@[reducible] def qA (x:vC):List Value:=[.int .i64 x.kind,.int .i64 x.AG,.int .i64 x.to,x.sr.v,.int .i64 x.zW.time,.int .i64 x.zW.value,.string x.text]
structure vC.Ok (S:Nat->Prop) (x:vC) (w:World):Prop where
  sr:zH S 2 zb (x.sr.v) x.sr.l w
theorem vC.Ok.loc (x:vC):Loc (fun S=>vC.Ok S x):=fun S S' u u' a b h=>⟨zH.loc _ _ _ _ S S' u u' a b h.sr⟩
structure vC.Wf (x:vC):Prop where
  sr:Ex.Wf x.sr
theorem vC.Ok.wf {S:Nat->Prop} {x:vC} {w:World} (h:vC.Ok S x w):vC.Wf x:=⟨zH.wf h.sr⟩
theorem Mem.doX {a w:World} {M:Fp} {L:List Own} (h:Mem a M L w) (q:Nat) {e:vC} (hi:L[q]?=some (okP vC.Ok e)):Mem a M (slP 2 zb (e.sr.v) e.sr.l::L) w:=by
 exact h.imp (q + 0) hi (zH.loc 2 zb _ e.sr.l) fun _ b=>vC.Ok.sr b
@[reducible] def uZ (x:zk):List Value:=[.int .i64 x.err,.int .i64 x.at_,x.cells.v,.int .i64 x.cost]
theorem HE:Enc uZ 4:=.of (fun _=>rfl) (fun _=>rfl) rfl
structure zk.Ok (S:Nat->Prop) (x:zk) (w:World):Prop where
  cells:zH S 2 zu (x.cells.v) x.cells.l w
  all:∀ c ∈ x.cells.l,zC.Ok S c w
theorem zk.Ok.loc (x:zk):Loc (fun S=>zk.Ok S x):=fun S S' u u' a b h=>⟨zH.loc _ _ _ _ S S' u u' a b h.cells,fun c d=>zC.Ok.loc c S S' u u' a b (h.all c d)⟩
structure zk.Wf (x:zk):Prop where
  cells:Ex.Wf x.cells
  all:∀ c ∈ x.cells.l,zC.Wf c
theorem zk.Ok.wf {S:Nat->Prop} {x:zk} {w:World} (h:zk.Ok S x w):zk.Wf x:=⟨zH.wf h.cells,fun c a=>(h.all c a).wf⟩
theorem Mem.ansX {b w:World} {M:Fp} {L:List Own} (h:Mem b M L w) (q:Nat) {e:zk} (hi:L[q]?=some (okP zk.Ok e)):Mem b M (slP 2 zu (e.cells.v) e.cells.l::AS zC.Ok e.cells.l::L) w:=by
 have c:=h.imp (q + 0) hi (Av zC.Ok.loc e.cells.l) fun _ a=>zk.Ok.all a;exact c.imp (q + 1) hi (zH.loc 2 zu _ e.cells.l) fun _ a=>zk.Ok.cells a
@[reducible] def gb (x:yA):List Value:=[x.zA.v,.int .i64 x.zT]
structure yA.Ok (S:Nat->Prop) (x:yA) (w:World):Prop where
  zA:zH S 9 za (x.zA.v) x.zA.l w
  all:∀ c ∈ x.zA.l,zB.Ok S c w
theorem yA.Ok.loc (x:yA):Loc (fun S=>yA.Ok S x):=fun S S' u u' a b h=>⟨zH.loc _ _ _ _ S S' u u' a b h.zA,fun c d=>zB.Ok.loc c S S' u u' a b (h.all c d)⟩
structure yA.Wf (x:yA):Prop where
  zA:Ex.Wf x.zA
  all:∀ c ∈ x.zA.l,zB.Wf c
theorem yA.Ok.wf {S:Nat->Prop} {x:yA} {w:World} (h:yA.Ok S x w):yA.Wf x:=⟨zH.wf h.zA,fun c a=>(h.all c a).wf⟩
theorem Mem.baseX {b w:World} {M:Fp} {L:List Own} (h:Mem b M L w) (q:Nat) {e:yA} (hi:L[q]?=some (okP yA.Ok e)):Mem b M (slP 9 za (e.zA.v) e.zA.l::AS zB.Ok e.zA.l::L) w:=by
 have c:=h.imp (q + 0) hi (Av zB.Ok.loc e.zA.l) fun _ a=>yA.Ok.all a;exact c.imp (q + 1) hi (zH.loc 9 za _ e.zA.l) fun _ a=>yA.Ok.zA a
structure DosX.Wf (z:SlX vC):Prop where
  sl:Ex.Wf z
  all:∀ c ∈ z.l,vC.Wf c
structure AnssX.Ok (S:Nat->Prop) (z:SlX zk) (w:World):Prop where
  sl:zH S 4 uZ (z.v) z.l w
  all:∀ c ∈ z.l,zk.Ok S c w
theorem AnssX.Ok.loc (x:SlX zk):Loc (fun S=>AnssX.Ok S x):=fun S S' u u' a b h=>⟨zH.loc _ _ _ _ S S' u u' a b h.sl,fun c d=>zk.Ok.loc c S S' u u' a b (h.all c d)⟩
structure AnssX.Wf (z:SlX zk):Prop where
  sl:Ex.Wf z
  all:∀ c ∈ z.l,zk.Wf c
theorem AnssX.Ok.wf {S:Nat->Prop} {x:SlX zk} {w:World} (h:AnssX.Ok S x w):AnssX.Wf x:=⟨zH.wf h.sl,fun c a=>(h.all c a).wf⟩
end Ex
end
section
namespace Roll
def MF (b:AB) (st:Int):Prop:=b.at_ < 0∨1000000 < b.at_∨Int.tmod b.at_ st≠0∨b.sum.count < 1∨st < b.sum.count
instance (b:AB) (st:Int):Decidable (MF b st):=by unfold MF; infer_instance
def behind (prev:Option AB) (b:AB):Bool:=match prev with
  | some p=>decide (b.at_<=p.at_)
  | none=>false
def AP (st:Int):Nat->Option AB->List AB->LJ
  | _,_,[]=>⟨0,0⟩
  | k,prev,b::r=>if MF b st then ⟨3,k⟩ else if behind prev b then ⟨2,k⟩ else AP st (k + 1) (some b) r
def AE (l:List AB) (AG:Int):LJ:=if step AG=0 then ⟨1,0⟩ else if 500 < l.length then ⟨5,0⟩ else AP (step AG) 0 none l
def BC (l:List AB) (k:Nat):Option AB:=if k=0 then none else l[k - 1]?
theorem CM (l:List AB) (st:Int):AP st 0 none l=AP st 0 (BC l 0) (l.drop 0):=by rfl
theorem Aa {l:List AB} {st:Int} {k:Nat} {s:AB} (h:l[k]?=some s):AP st k (BC l k) (l.drop k)=if MF s st then ⟨3,k⟩ else if behind (BC l k) s then ⟨2,k⟩ else AP st (k + 1) (BC l (k + 1)) (l.drop (k + 1)):=by
 obtain ⟨a,e⟩:=yb.1 h;rw [uI a,e];have:BC l (k + 1)=some s:=by unfold BC; rw [zI qO]; simpa using h
 rw [this]; rfl
theorem BG {l:List AB} {st:Int} {k:Nat} {p:Option AB} (h:l.length<=k):AP st k p (l.drop k)=⟨0,0⟩:=by
 rw [vw h]; rfl
theorem Ir (st:Int):∀ (l:List AB) (k:Nat) (p:Option AB),(∀ x ∈ l,¬ MF x st)->l.Pairwise (fun x y=>x.at_ < y.at_)->(∀ q,p=some q->∀ x ∈ l,q.at_ < x.at_)->AP st k p l=⟨0,0⟩
 | [],_,_,_,_,_=>rfl
 | s :: r, k, p, h1, h2, h3 => by
  unfold AP
  rw [if_neg (h1 s qS)]
  have hb:¬ (behind p s=true):=by
   cases p with
   | none=>simp [behind]
   | some q=>have:=h3 q rfl s qS; simp [behind]; omega
  rw [zI hb]
  have b:=List.pairwise_cons.1 h2
  exact Ir st r (k + 1) (some s) (fun x a=>h1 x (by simp [a])) b.2 (by rintro q ⟨⟩ x a; exact b.1 x a)
def inT (l:List AA) (a b:Int):List AA:=l.filter fun s=>decide (a<=s.time∧s.time < b)
theorem CG {l:List AA} {a b:Int} {k:Nat} {x:AA} (h:l[k]?=some x):inT (l.take (k + 1)) a b=if a<=x.time∧x.time < b then inT (l.take k) a b++[x] else inT (l.take k) a b:=by
 unfold inT;rw [vE,h,List.filter_append];simp only [Option.toList_some,List.filter_cons,List.filter_nil,ud];split <;> simp
theorem Ca (l:List AA) (a b:Int):(inT l a b).length<=l.length:=List.length_filter_le ..
theorem Wd (l:List AB) (b:AB) (f t:Int):of (l++[b]) f t=if f<=b.at_∧b.at_ < t then Agg.join (of l f t) b.sum else of l f t:=by
 unfold of; simp
end Roll
end
section
namespace Roll
section
variable {α:Type} (t:α->Int) (s:α->Sum) (st:Int)
def gf (l:List α):List AB:=l.foldl (fun b x=>add b (t x) st (s x)) []
def FZ (l:List α):Sum:=l.foldl (fun a x=>Agg.join a (s x)) Sum.zero
structure Bx (l:List α):Prop where
  rng:∀ x ∈ l,0<=t x∧t x<=1000000
  inc:l.Pairwise (fun x y=>t x < t y)
variable {t s st} {l:List α} {a:Int} {i j:Nat}
theorem NC:∀ (c:List α) (d:Sum) (out:List AB),(∀ x ∈ c,at' (t x) st=a) ->
  c.foldl (fun b x=>add b (t x) st (s x)) (out++[⟨a,d⟩])=out++[⟨a,c.foldl (fun u x=>Agg.join u (s x)) d⟩]
 | [],_,_,_=>rfl
 | x :: c, d, out, h => by
  simp only [List.foldl_cons]
  rw [Ez,if_pos (h x (List.mem_cons_self ..)).symm]
  exact NC c _ out fun y hy=>h y (List.mem_cons_of_mem _ hy)
theorem Pq {c:List α} {out:List AB} (d:c≠[]) (h:∀ x ∈ c,at' (t x) st=a) (k:∀ b,out.getLast?=some b->b.at_≠a) :
  c.foldl (fun b x=>add b (t x) st (s x)) out=out++[⟨a,FZ s c⟩]:=by
 cases c with
 | nil=>exact absurd rfl d
 | cons x c =>
  have f:=h x (uW ..)
  have e:add out (t x) st (s x)=out++[⟨a,s x⟩]:=by
   unfold add
   split
   ·rename_i b j
    rw [zI (by rw [f]; exact k b j),f]
   ·rw [f]
  simp only [List.foldl_cons]
  rw [e,NC c _ out fun y i=>h y (List.mem_cons_of_mem _ i)]
  have g:Agg.join Sum.zero (s x)=s x:=Agg.Un _
  simp only [FZ,List.foldl_cons,g]
theorem Ws (g:i < j) (k:j<=l.length) (h:∀ x ∈ (l.take j).drop i,at' (t x) st=a) (f:∀ b,(gf t s st (l.take i)).getLast?=some b->b.at_≠a) :
  gf t s st (l.take j)=gf t s st (l.take i)++[⟨a,FZ s ((l.take j).drop i)⟩]:=by
 have e:l.take j=l.take i++(l.take j).drop i:=by
  have:=List.take_append_drop i (l.take j)
  rw [List.take_take,Nat.min_eq_left qO] at this
  exact this.symm
 have c:(l.take j).drop i≠[]:=by
  intro d
  have:=congrArg List.length d
  simp at this; omega
 conv=>lhs; rw [e]
 unfold gf
 rw [List.foldl_append]
 exact Pq c h f
structure Grp (t:α->Int) (st:Int) (l:List α) (a:Int) (i j:Nat):Prop where
  le:i<=j
  len:j<=l.length
  all:∀ x ∈ (l.take j).drop i,a<=t x∧t x < a + st
theorem Grp.start (h:i<=l.length):Grp t st l a i i:=⟨vY _,h,fun x b=>by rw [vw (by simp; omega)] at b; cases b⟩
theorem Bx.le (h:Bx t l) {x y:α} (hi:l[i]?=some y) (b:l[j]?=some x) (f:i<=j):t y<=t x:=by
 rcases Nat.lt_or_ge i j with a | d
 obtain ⟨c,rfl⟩:=yb.1 hi;obtain ⟨e,rfl⟩:=yb.1 b;have:=List.pairwise_iff_getElem.1 h.inc i j c e a;omega;obtain rfl:i=j:=qO;rw [hi] at b; cases b; omega
theorem VD {x:α} (b:i<=j) (a:l[j]?=some x):(l.take (j + 1)).drop i=(l.take j).drop i++[x]:=by
 have c:j < l.length:=(yb.1 a).1;rw [vE,a,List.drop_append_of_le_length (by simp; omega)]; rfl
theorem Grp.step {x y:α} (g:Grp t st l a i j) (f:Bx t l) (hi:l[i]?=some y) (k:a<=t y) (c:l[j]?=some x) (h:t x < a + st):Grp t st l a i (j + 1):=by
 have m:j < l.length:=(yb.1 c).1;have e:=f.le hi c g.le;refine ⟨by have:=g.le; omega,qO,fun z d=>?_⟩;rw [VD g.le c] at d;rcases yl.1 d with b | b
 exact g.all z b;obtain rfl:z=x:=by simpa using b
 omega
theorem at_of {n:Int} (a:st=10∨st=60) (b:0<=n∧n<=1000000) {q:Int} (c:q * st<=n) (d:n < q * st + st):at' n st=q * st:=by
 unfold at';rw [Int.tmod_eq_emod_of_nonneg b.1];rcases a with rfl | rfl <;> (rw [Ei qO qO]; omega)
theorem at_le {n:Int} (a:st=10∨st=60) (b:0<=n∧n<=1000000):at' n st<=n∧n < at' n st + st:=by
 unfold at';rw [Int.tmod_eq_emod_of_nonneg b.1];rcases a with rfl | rfl <;> (rw [Ei qO qO]; omega)
def Whole (t:α->Int) (s:α->Sum) (st:Int) (l:List α) (i:Nat):Prop:=∀ b,(gf t s st (l.take i)).getLast?=some b->∀ x,l[i]?=some x->b.at_≠at' (t x) st
theorem Whole.start:Whole t s st l 0:=fun b h=>by simp [gf] at h
theorem Grp.done {y:α} (c:st=10∨st=60) (q:Bx t l) (hi:l[i]?=some y) (C:Whole t s st l i) (g:Grp t st l (t y / st * st) i j) (k:l.length<=j∨∃ x,l[j]?=some x∧t y / st * st + st<=t x) :
  i < j∧gf t s st (l.take j)=gf t s st (l.take i)++[⟨t y / st * st,FZ s ((l.take j).drop i)⟩]∧Whole t s st l j:=by
 have w:i < l.length:=(yb.1 hi).1
 have A:=q.rng y (vQ hi)
 have r:t y / st * st<=t y∧t y < t y / st * st + st:=by rcases c with rfl | rfl <;> omega
 have m:i < j:=by
  rcases Nat.lt_or_ge i j with h | h
  ·exact h
  ·have:=g.le
   obtain rfl:i=j:=qO
   rcases k with f | ⟨x,d,f⟩
   ·omega
   ·rw [hi] at d; cases d; omega
 have p:=at_of c A r.1 r.2
 have e:=Ws (t:=t) (s:=s) (st:=st) (a:=t y / st * st) m g.len (fun x d=>by
   have f:=g.all x d
   have u:=q.rng x (List.mem_of_mem_take (List.mem_of_mem_drop d))
   exact at_of c u f.1 f.2) (fun b n=>by rw [<-p]; exact C b n y hi)
 refine ⟨m,e,fun b n x d=>?_⟩
 rw [e,List.getLast?_append] at n
 have o:b=⟨t y / st * st,FZ s ((l.take j).drop i)⟩:=by simpa using n.symm
 subst o
 rcases k with f | ⟨z,v,f⟩
 ·have:=(yb.1 d).1; omega
 ·rw [d] at v; cases v
  have u:=at_le c (q.rng x (vQ d))
  intro B
  simp only at B
  omega
end
theorem Ko {l:List AA} (h:Codec.Jn l):Bx AA.time l:=⟨fun x a=>⟨(h.rng x a).1,(h.rng x a).2.1⟩,h.inc⟩
theorem Ev (st:Int):∀ (l:List AB) (k:Nat) (p:Option AB),(AP st k p l).err=0 ->
  (∀ x ∈ l,¬ MF x st)∧l.Pairwise (fun x y=>x.at_ < y.at_)∧(∀ q,p=some q->∀ x ∈ l,q.at_ < x.at_)
 | [],_,_,_=>⟨qS,qS,qS⟩
 | s :: r, k, p, h => by
  unfold AP at h
  split at h
  ·simp at h
  ·rename_i hb
   split at h
   ·simp at h
   ·rename_i hn
    obtain ⟨h1,h2,h3⟩:=Ev st r (k + 1) (some s) h
    have b:=h3 s rfl
    refine ⟨?_,List.pairwise_cons.2 ⟨b,h2⟩,?_⟩
    ·intro x a
     rcases ya.1 a with rfl | a
     ·exact hb
     ·exact h1 x a
    ·rintro q rfl x a
     have c:q.at_ < s.at_:=by simpa [behind] using hn
     rcases ya.1 a with rfl | a
     ·exact c
     ·have:=b x a; omega
structure LC (l:List AB) (st:Int):Prop where
  len:l.length<=500
  ok:∀ x ∈ l,¬ MF x st
  inc:l.Pairwise (fun x y=>x.at_ < y.at_)
theorem Mm {l:List AB} {a:Int} (h:(AE l a).err=0):LC l (step a)∧step a≠0:=by
 unfold AE at h;split at h;simp at h;rename_i b;split at h;simp at h;obtain ⟨d,c,_⟩:=Ev _ l 0 none h;exact ⟨⟨qO,d,c⟩,b⟩
theorem Fm {b:AB} {st:Int} (a:st=10∨st=60):MF b st↔b.at_ < 0∨1000000 < b.at_∨b.at_ / st * st≠b.at_∨b.sum.count < 1∨st < b.sum.count:=by
 unfold MF;by_cases c:b.at_ < 0;simp [c];rw [Int.tmod_eq_emod_of_nonneg qO];rcases a with rfl | rfl <;> omega
theorem VX {a:Int} (h:¬ step a=0):step a=10∨step a=60:=by
 unfold step at *; repeat' split
 all_goals simp_all
theorem up_one (l:List AA):up l 1=ups l 10:=rfl
theorem Rq (c:Int) (a b:Nat):(Ex.assoc ([(a,1,10),(b,2,60)]:List (Nat × Int × Int)) c).getD 0=step c:=by
 simp only [Ex.assoc,step]
 repeat' split
 all_goals first | rfl | simp_all
end Roll
end
section
namespace Sh
def zero:Shelf:=⟨[],[],[],[],0,0,0,0,0⟩
def mx (a b:Int):Int:=if a < b then b else a
def mn (a b:Int):Int:=if b < a then b else a
def De (t:Tri):Prop:=t.a < 0∨t.b < t.a∨1000000 < t.b∨t.a % t.c≠0∨t.b % t.c≠0
instance (t:Tri):Decidable (De t):=by unfold De; infer_instance
def times (s:Shelf):Prop:=(¬ De ⟨s.zN,s.zG,10⟩∧¬ De ⟨s.zJ,s.zE,60⟩)∧0<=s.zS∧s.zS<=s.zG∧s.zN<=s.zE∧s.zE<=s.zG
instance (s:Shelf):Decidable (times s):=by unfold times; infer_instance
def within (l:List AB) (f t:Int):Bool:=l.all fun b=>decide (f<=b.at_∧b.at_ < t)
def Lp (l:List AA) (f:Int):Bool:=match l with
  | []=>true
  | x::_=>decide (f<=x.time)
def fits (s:Shelf):Prop:=times s∧Lp s.raw s.zS=true∧within s.AD s.zN s.zG=true∧within s.coarse s.zJ s.zE=true
instance (s:Shelf):Decidable (fits s):=by unfold fits; infer_instance
def AE (s:Shelf):Int:=if zF.AE s.zM≠0 then zF.AE s.zM else if (Codec.AE s.raw).err≠0 then (Codec.AE s.raw).err else if (Roll.AE s.AD 1).err≠0 then (Roll.AE s.AD 1).err
  else if (Roll.AE s.coarse 2).err≠0 then (Roll.AE s.coarse 2).err else if fits s then 0 else 8
def late (l:List AA) (x:AA):Bool:=match l.getLast? with
  | some y=>decide (x.time<=y.time)
  | none=>false
def append (s:Shelf) (x:AA):Shelf × Int :=
  if AE s≠0 then (zero,AE s) else if (Codec.AE [x]).err≠0 then (zero,(Codec.AE [x]).err) else if x.time < s.zG∨late s.raw x=true then (zero,9)
  else if s.raw.length=500 then (zero,5) else (⟨s.zM,s.raw++[x],s.AD,s.coarse,s.zS,s.zN,s.zG,s.zJ,s.zE⟩,0)
def bIn (l:List AB) (f t:Int):List AB:=l.filter fun b=>decide (f<=b.at_∧b.at_ < t)
def zG (s:Shelf) (to:Int):Int:=mx s.zG (to - to % 10)
def zE (s:Shelf) (to:Int):Int:=mx s.zE (zG s to - zG s to % 60)
def yp (s:Shelf) (to:Int):List AB:=s.AD++Roll.up (Roll.inT s.raw s.zG (zG s to)) 1
def vX (s:Shelf) (to:Int):List AB:=s.coarse++Roll.AU (bIn (yp s to) s.zE (zE s to))
def Ab (s:Shelf) (to:Int):Shelf × Int :=
  if AE s≠0 then (zero,AE s) else if to < 0∨1000000 < to then (zero,3) else if 500 < (yp s to).length∨500 < (vX s to).length then (zero,5)
  else (⟨s.zM,s.raw,yp s to,vX s to,s.zS,s.zN,zG s to,s.zJ,zE s to⟩,0)
def Bn (l:List AA) (f:Int):List AA:=l.filter fun x=>!decide (x.time < f)
def Aw (l:List AB) (f:Int):List AB:=l.filter fun b=>!decide (b.at_ < f)
def Fz (s:Shelf) (to:Int):Int:=mx s.zS (mn to s.zG)
def Bb (s:Shelf) (to:Int):Int:=mx s.zN (mn to s.zE - mn to s.zE % 10)
def Aj (s:Shelf) (to:Int):Int:=mx s.zJ (mn to s.zE - mn to s.zE % 60)
def forget (s:Shelf) (AG to:Int):Shelf × Int :=
  if AE s≠0 then (zero,AE s) else if to < 0∨1000000 < to then (zero,3)
  else if AG=0 then (⟨s.zM,Bn s.raw (Fz s to),s.AD,s.coarse,Fz s to,s.zN,s.zG,s.zJ,s.zE⟩,0)
  else if AG=1 then (⟨s.zM,s.raw,Aw s.AD (Bb s to),s.coarse,s.zS,Bb s to,s.zG,s.zJ,s.zE⟩,0)
  else if AG=2 then (⟨s.zM,s.raw,s.AD,Aw s.coarse (Aj s to),s.zS,s.zN,s.zG,Aj s to,s.zE⟩,0)
  else (zero,1)
theorem two {a b s:Tri} {k:Nat} (h:[a,b][k]?=some s):s=a∨s=b:=by grind
theorem QV {l:List AA} {f:Int} (h:¬ (0:Int) < l.length):Lp l f=true:=by
 have:l=[]:=jb qO;subst this; rfl
theorem JZ {l:List AA} {f:Int} {x:AA} (h:l[0]?=some x):Lp l f=decide (f<=x.time):=by
  cases l with
  | nil=>cases h
  | cons y r => obtain rfl : y = x := by simpa using h
                rfl
theorem BG {s:Shelf} (b:¬ zF.AE s.zM≠0) (c:¬ (Codec.AE s.raw).err≠0) (a:¬ (Roll.AE s.AD 1).err≠0) (d:¬ (Roll.AE s.coarse 2).err≠0):AE s=if fits s then 0 else 8:=by
 rw [AE,zI b,zI c,zI a,zI d]
theorem Hm {α:Type} {l:List α} {A:Option Addr} (a:l≠[]->∃ ad,A=some ad) (h:A.isNone=true):[]=l:=by grind
structure OK (s:Shelf):Prop where
  zM:zF.AE s.zM=0
  raw:(Codec.AE s.raw).err=0
  AD:(Roll.AE s.AD 1).err=0
  coarse:(Roll.AE s.coarse 2).err=0
  fit:fits s
theorem BD {s:Shelf} (h:¬ AE s≠0):OK s:=by
 have h:=ym.1 h;unfold AE at h;by_cases a:zF.AE s.zM≠0;rw [zP a] at h; exact absurd h a;rw [zI a] at h;by_cases d:(Codec.AE s.raw).err≠0;rw [zP d] at h; exact absurd h d;rw [zI d] at h;by_cases b:(Roll.AE s.AD 1).err≠0;rw [zP b] at h; exact absurd h b;rw [zI b] at h;by_cases c:(Roll.AE s.coarse 2).err≠0;rw [zP c] at h; exact absurd h c;rw [zI c] at h;by_cases e:fits s;exact ⟨ym.1 a,ym.1 d,ym.1 b,ym.1 c,e⟩;rw [zI e] at h; exact absurd h qD
theorem OK.AE {s:Shelf} (h:OK s):AE s=0:=by
 rw [Sh.AE,zI (by rw [h.zM]; simp),zI (by rw [h.raw]; simp),zI (by rw [h.AD]; simp),zI (by rw [h.coarse]; simp),zP h.fit]
theorem Fa {l:List Label} (h:zF.AE l=0):l.length<=4:=by
 unfold zF.AE at h; split at h;exact absurd h qD;omega
theorem QE {l:List AB} {t:Int} (h:(Roll.AE l t).err=0):l.length<=500:=by
 unfold Roll.AE at h; split at h;exact absurd h qD;split at h;exact absurd h qD;omega
theorem OK.lens {s:Shelf} (h:OK s):s.zM.length<=4∧s.raw.length<=500∧s.AD.length<=500∧s.coarse.length<=500 :=
 ⟨Fa h.zM,(Codec.Em h.raw).len,QE h.AD,QE h.coarse⟩
theorem GS {s:Shelf} (h:¬ Sh.AE s≠0):s.zM.length<=1048576∧s.raw.length<=1048576∧s.AD.length<=1048576∧s.coarse.length<=1048576:=by
 have:=(BD h).lens; omega
structure Del {α:Type} (p:α->Bool) (l r:List α) (i j:Nat):Prop where
  len:r.length=l.length
  lt:i < j
  le:j<=l.length
  hd:r.take i=(l.take j).filter fun x=>!p x
  tl:r.drop j=l.drop j
theorem Del.start {α:Type} {p:α->Bool} {l:List α} {i:Nat} {x:α} (b:l[i]?=some x) (c:p x=true) (h:∀ y ∈ l.take i,p y=false):Del p l l i (i + 1):=by
 have a:=(yb.1 b).1;refine ⟨rfl,qO,a,?_,rfl⟩;rw [vE,b,List.filter_append];have:(l.take i).filter (fun x=>!p x)=l.take i:=List.filter_eq_self.2 fun y d=>by simp [h y d]
 simp [this,c]
theorem Del.at {α:Type} {p:α->Bool} {l r:List α} {i j:Nat} {x:α} (d:Del p l r i j) (a:r[j]?=some x):l[j]?=some x:=by
 have:=congrArg (·[0]?) d.tl;simp only [List.getElem?_drop,Nat.add_zero] at this;rw [<-this]; exact a
theorem Del.drop {α:Type} {p:α->Bool} {l r:List α} {i j:Nat} {x:α} (d:Del p l r i j) (c:r[j]?=some x) (e:p x=true):Del p l r i (j + 1):=by
 have b:=d.at c;have a:=(yb.1 b).1;refine ⟨d.len,by have:=d.lt; omega,a,?_,?_⟩;rw [d.hd,vE,b,List.filter_append]; simp [e];have:=congrArg (List.drop 1) d.tl;rw [List.drop_drop,List.drop_drop] at this;exact this
theorem Del.Cl {α:Type} {p:α->Bool} {l r:List α} {i j:Nat} {x:α} (d:Del p l r i j) (g:r[j]?=some x) (e:¬ p x=true):Del p l (r.set i x) (i + 1) (j + 1):=by
 have b:=d.at g;have a:=(yb.1 b).1;have h:=d.lt;have k:=d.len;refine ⟨by rw [List.length_set]; exact d.len,qO,a,?_,?_⟩;have f:l.take (j + 1)=l.take j++[x]:=by rw [vE,b]; rfl
 have c:(r.set i x).take (i + 1)=r.take i++[x]:=by rw [vE,List.take_set_of_le (vY i),List.getElem?_set_self qO]; rfl
 rw [f,c,List.filter_append,<-d.hd];simp [e];rw [List.drop_set_of_lt qO];have:=congrArg (List.drop 1) d.tl;rw [List.drop_drop,List.drop_drop] at this;exact this
theorem Del.done {α:Type} {p:α->Bool} {l r:List α} {i j:Nat} (d:Del p l r i j) (h:r.length<=j):r.take i=l.filter fun x=>!p x:=by
 have a:=d.hd;have b:=d.len;rw [a,vg qO]
end Sh
end
section
namespace Roll
section
variable {α:Type} {t:α->Int} {s:α->Sum} {st:Int} {l:List α} {a b m:Int}
def win (t:α->Int) (l:List α) (a b:Int):List α:=l.filter fun x=>decide (a<=t x∧t x < b)
theorem SO (l:List AA) (a b:Int):inT l a b=win AA.time l a b:=rfl
theorem NW (l:List AB) (a b:Int):Sh.bIn l a b=win AB.at_ l a b:=rfl
theorem Cs {x:α}:x ∈ win t l a b↔x ∈ l∧a<=t x∧t x < b:=by simp [win]
theorem Gy (h:Bx t l):Bx t (win t l a b):=⟨fun x c=>h.rng x (Cs.1 c).1,h.inc.sublist List.filter_sublist⟩
theorem Te (h:∀ x ∈ l,¬ (a<=t x∧t x < b)):win t l a b=[]:=List.filter_eq_nil_iff.2 fun x c=>by simpa using h x c
theorem Fc (h:b<=a):win t l a b=[]:=Te fun x _=>by omega
theorem HA (g:a<=m) (h:m<=b):∀ {l:List α},l.Pairwise (fun x y=>t x < t y)->win t l a b=win t l a m++win t l m b
 | [],_=>rfl
 | x :: r, hp => by
  have hr:=List.pairwise_cons.1 hp
  have d:=HA g h hr.2
  have e:∀ p q,win t (x::r) p q=if p<=t x∧t x < q then x::win t r p q else win t r p q:=fun p q=>by
   unfold win; rw [List.filter_cons]; simp
  rw [e,e,e]
  by_cases c:a<=t x∧t x < b
  ·rw [zP c]
   by_cases i:t x < m
   ·rw [zP ⟨c.1,i⟩,zI qO,d]; rfl
   ·rw [zI qO,zP ⟨qO,c.2⟩,d]
    have:win t r a m=[]:=Te fun y f=>by have:=hr.1 y f; omega
    rw [this]; rfl
  ·rw [zI c,zI qO,zI qO,d]
theorem TH (l:List α) (x:α):gf t s st (l++[x])=add (gf t s st l) (t x) st (s x):=by simp [gf]
theorem gf_ats (l:List α):∀ b ∈ gf t s st l,∃ x ∈ l,b.at_=at' (t x) st:=by
 induction l using List.AY with
 | nil=>intro b a; simp [gf] at a
 | snoc l x ih =>
  intro b a
  rw [TH] at a
  rcases HP (gf t s st l) (t x) st (s x) with e | ⟨j,i,f,g,e⟩
  ·rw [e] at a
   rcases yl.1 a with h | h
   ·obtain ⟨y,c,d⟩:=ih b h; exact ⟨y,by simp [c],d⟩
   ·obtain rfl:b=_:=by simpa using h
    exact ⟨x,qS,rfl⟩
  ·rw [e] at a
   rcases yl.1 a with h | h
   ·obtain ⟨y,c,d⟩:=ih b (by rw [f]; simp [h]); exact ⟨y,by simp [c],d⟩
   ·obtain rfl:b=_:=by simpa using h
    exact ⟨x,qS,g⟩
theorem Nx (c:st=10∨st=60) (f:Bx t l) (p:a<=m) (q:m % st=0) :
  gf t s st (win t l a (m + st))=if win t l m (m + st)=[] then gf t s st (win t l a m) else gf t s st (win t l a m)++[⟨m,FZ s (win t l m (m + st))⟩]:=by
 have j:m / st * st=m:=by rcases c with rfl | rfl <;> omega
 have i:0 < st:=by rcases c with rfl | rfl <;> decide
 rw [HA p (by omega:m<=m + st) f.inc]
 by_cases h:win t l m (m + st)=[]
 ·rw [zP h,h,uc]
 ·rw [zI h]
  unfold gf
  rw [List.foldl_append]
  refine Pq h (fun x g=>?_) fun b n=>?_
  ·obtain ⟨d,o,k⟩:=Cs.1 g
   rw [<-j]
   exact at_of c (f.rng x d) qO qO
  ·obtain ⟨x,g,e⟩:=gf_ats (t:=t) (s:=s) (st:=st) _ b (List.mem_of_getLast? n)
   obtain ⟨d,o,k⟩:=Cs.1 g
   have:=at_le c (f.rng x d)
   omega
theorem gf_all (c:st=10∨st=60) (q:Bx t l) (u:a % st=0):∀ k:Nat,
  (∀ b ∈ gf t s st (win t l a (a + st * k)),∃ m,m % st=0∧a<=m∧m < a + st * k∧win t l m (m + st)≠[]∧b=⟨m,FZ s (win t l m (m + st))⟩)∧(gf t s st (win t l a (a + st * k))).Pairwise (fun x y=>x.at_ < y.at_)
 | 0 => by
  have:win t l a (a + st * (0:Nat))=[]:=Fc qS
  rw [this]; simp [gf]
 | k + 1 => by
  obtain ⟨j,p⟩:=gf_all c q u k
  have o:0 < st:=by rcases c with rfl | rfl <;> decide
  have w:(0:Int)<=st * k:=Int.mul_nonneg qO qO
  have e:a + st * ((k + 1:Nat):Int)=a + st * k + st:=by push_cast; rw [Int.mul_add]; omega
  rw [e,Nx c q qO (by rcases c with rfl | rfl <;> omega)]
  by_cases h:win t l (a + st * k) (a + st * k + st)=[]
  ·rw [zP h]
   exact ⟨fun b d=>by obtain ⟨m,g,f,n,i⟩:=j b d; exact ⟨m,g,f,qO,i⟩,p⟩
  ·rw [zI h]
   refine ⟨fun b d=>?_,?_⟩
   ·rcases yl.1 d with d | d
    ·obtain ⟨m,g,f,n,i⟩:=j b d; exact ⟨m,g,f,qO,i⟩
    ·obtain rfl:b=_:=by simpa using d
     exact ⟨a + st * k,by rcases c with rfl | rfl <;> omega,qO,qO,h,rfl⟩
   ·refine List.pairwise_append.2 ⟨p,qS,fun x v y r=>?_⟩
    obtain ⟨m,g,f,n,i,rfl⟩:=j x v
    obtain rfl:y=_:=by simpa using r
    exact n
theorem gf_to (c:st=10∨st=60) (f:Bx t l) (d:a % st=0) (g:b % st=0) :
  (∀ x ∈ gf t s st (win t l a b),∃ m,m % st=0∧a<=m∧m < b∧win t l m (m + st)≠[]∧x=⟨m,FZ s (win t l m (m + st))⟩)∧(gf t s st (win t l a b)).Pairwise (fun x y=>x.at_ < y.at_):=by
 rcases Int.lt_or_le a b with h | h
 ·have e:b=a + st * ((b - a) / st).toNat:=by
   rcases c with rfl | rfl <;> omega
  have:=gf_all (s:=s) c f d ((b - a) / st).toNat
  rw [<-e] at this
  exact this
 ·rw [Fc h]; simp [gf]
theorem Fk (st:Int) (j:0 < st):∀ (l:List α) (a:Int),l.Pairwise (fun x y=>t x < t y)->(∀ x ∈ l,a<=t x∧t x < b∧t x % st=0)->a % st=0->b % st=0->a<=b->st * l.length<=b - a
 | [],a,_,_,_,_,h=>by simpa using h
 | x :: r, a, hp, h, ha, hb, hab => by
  have hr:=List.pairwise_cons.1 hp
  obtain ⟨q,o,d⟩:=h x (uW ..)
  have c:∀ u v:Int,u % st=0->v % st=0->u < v->u + st<=v:=fun u v k m n=>by
   have e:(v - u) % st=0:=by rw [Int.sub_emod,k,m]; simp
   have:=Int.le_of_dvd qO (Int.dvd_of_emod_eq_zero e)
   omega
  have f:=c _ _ d hb o
  have:=Fk st j r (t x + st) hr.2 (fun y g=>by
   obtain ⟨s,p,i⟩:=h y (List.mem_cons_of_mem _ g)
   exact ⟨c _ _ d i (hr.1 y g),p,i⟩) (by rw [Int.add_emod,d]; simp) hb f
  simp only [gP]
  push_cast
  rw [Int.mul_add]
  omega
theorem Cm (l:List α) (x:α):FZ s (l++[x])=Agg.join (FZ s l) (s x):=by simp [FZ]
theorem Fv (n:Int) (g:0<=n) (a:n<=60) (l:List α):l.length<=10000000->(∀ x ∈ l,1<=(s x).count∧(s x).count<=n)->l.length<=(FZ s l).count∧(FZ s l).count<=n * l.length:=by
 induction l using List.AY with
 | nil=>intro _ _; simp [FZ,Sum.zero]
 | snoc l x ih =>
  intro c h
  simp only [qL] at c ⊢
  obtain ⟨d,f⟩:=ih qO fun y b=>h y (by simp [b])
  obtain ⟨i,j⟩:=h x qS
  have e:n * (l.length:Int)<=60 * l.length:=Int.mul_le_mul_of_nonneg_right a qO
  rw [Cm,Agg.Dt qO qO qO]
  push_cast
  rw [Int.mul_add]
  omega
end
theorem JV (l:List AB) (f t:Int):of l f t=FZ AB.sum (win AB.at_ l f t):=by
 induction l using List.AY with
 | nil=>rfl
 | snoc l x ih =>
  rw [Wd,ih]
  unfold win
  rw [List.filter_append]
  by_cases h:f<=x.at_∧x.at_ < t
  ·rw [zP h,List.filter_cons,zP (by simpa using h),List.filter_nil,Cm]
  ·rw [zI h,List.filter_cons,zI (by simpa using h),List.filter_nil,uc]
theorem Qw (l:List AA) (a b:Int):up (inT l a b) 1=gf AA.time (fun x=>Agg.one x.value) 10 (win AA.time l a b):=rfl
theorem Ge (l:List AB) (a b:Int):AU (Sh.bIn l a b)=gf AB.at_ AB.sum 60 (win AB.at_ l a b):=rfl
theorem up_next {l:List AA} {a m:Int} (c:Bx AA.time l) (b:a<=m) (d:m % 10=0):up (inT l a (m + 10)) 1=if inT l m (m + 10)=[] then up (inT l a m) 1 else up (inT l a m) 1++[⟨m,Agg.of (inT l m (m + 10))⟩]:=by
 rw [Qw,Qw,Nx (.inl rfl) c b d]; rfl
theorem OH {l:List AB} {a m:Int} (c:Bx AB.at_ l) (b:a<=m) (d:m % 60=0):AU (Sh.bIn l a (m + 60))=if Sh.bIn l m (m + 60)=[] then AU (Sh.bIn l a m) else AU (Sh.bIn l a m)++[⟨m,of l m (m + 60)⟩]:=by
 rw [Ge,Ge,Nx (.inr rfl) c b d,JV]; rfl
end Roll
namespace Sh
theorem OK.rng {s:Shelf} (h:OK s):(0<=s.zS∧s.zS<=s.zG∧s.zN<=s.zE∧s.zE<=s.zG)∧(0<=s.zN∧s.zN<=s.zG∧s.zG<=1000000∧s.zN % 10=0∧s.zG % 10=0)∧0<=s.zJ∧s.zJ<=s.zE∧s.zE<=1000000∧s.zJ % 60=0∧s.zE % 60=0:=by
 obtain ⟨⟨⟨a,b⟩,c⟩,_⟩:=h.fit;unfold De at a b;simp only at a b;omega
theorem emod_le {n s:Int} (d:0<=n) (c:0 < s):0<=n % s∧n % s<=n:=by
 obtain ⟨a,rfl⟩:=Int.eq_ofNat_of_zero_le d;obtain ⟨b,rfl⟩:=Int.eq_ofNat_of_zero_le (Int.le_of_lt c);have:=Nat.mod_le a b;rw [<-Int.natCast_emod];omega
theorem CS {s:Shelf} (h:OK s) {to:Int} (i:0<=to) (m:to<=1000000):s.zG<=zG s to∧0<=zG s to∧zG s to<=1000000∧zG s to % 10=0:=by
 obtain ⟨⟨o,p,q,n⟩,⟨g,j,k,f,l⟩,d,b,c,a,e⟩:=h.rng;unfold zG mx; split <;> omega
theorem Cr {s:Shelf} (h:OK s) {to:Int} (a:0<=to) (b:to<=1000000):s.zE<=zE s to∧zE s to<=zG s to∧zE s to % 60=0:=by
 obtain ⟨⟨p,u,v,o⟩,⟨l,r,n,k,t⟩,g,e,f,c,d⟩:=h.rng;obtain ⟨q,i,j,m⟩:=CS h a b;unfold zE mx; split <;> omega
theorem JM {l:List AA} {x y:AA} (h:l[l.length - 1]?=some y):late l x=decide (x.time<=y.time):=by
 unfold late; rw [List.getLast?_eq_getElem?,h]
theorem NH {l:List AA} {x:AA} (h:¬ 0<=(l.length:Int) - 1):late l x=false:=by
 have:l=[]:=jb qO;subst this; rfl
theorem DZ {l:List AB} {a b:Int} {k:Nat} {x:AB} (h:l[k]?=some x):bIn (l.take (k + 1)) a b=if a<=x.at_∧x.at_ < b then bIn (l.take k) a b++[x] else bIn (l.take k) a b:=by
 unfold bIn;rw [vE,h,List.filter_append];by_cases c:a<=x.at_∧x.at_ < b <;> simp [c]
theorem DT (l:List AB) (a b:Int):(bIn l a b).length<=l.length:=List.length_filter_le ..
section
variable {z:Shelf} {x:AA} {to:Int}
theorem IT (h:AE z≠0):append z x=(zero,AE z):=by rw [append,zP h]
theorem Lm (h:¬ AE z≠0) (a:(Codec.AE [x]).err≠0):append z x=(zero,(Codec.AE [x]).err):=by rw [append,zI h,zP a]
theorem Gu (h:¬ AE z≠0) (b:¬ (Codec.AE [x]).err≠0) (a:x.time < z.zG∨late z.raw x=true):append z x=(zero,9):=by rw [append,zI h,zI b,zP a]
theorem Gd (h:¬ AE z≠0) (b:¬ (Codec.AE [x]).err≠0) (a:¬ (x.time < z.zG∨late z.raw x=true)) (c:(z.raw.length:Int)=500):append z x=(zero,5):=by rw [append,zI h,zI b,zI a,zP qO]
theorem CY (h:¬ AE z≠0) (b:¬ (Codec.AE [x]).err≠0) (a:¬ (x.time < z.zG∨late z.raw x=true)) (c:¬ (z.raw.length:Int)=500):append z x=(⟨z.zM,z.raw++[x],z.AD,z.coarse,z.zS,z.zN,z.zG,z.zJ,z.zE⟩,0):=by rw [append,zI h,zI b,zI a,zI qO]
theorem KX (h:AE z≠0):Ab z to=(zero,AE z):=by rw [Ab,zP h]
theorem Hv (h:¬ AE z≠0) (a:to < 0∨1000000 < to):Ab z to=(zero,3):=by rw [Ab,zI h,zP a]
theorem HH (h:¬ AE z≠0) (a:¬ (to < 0∨1000000 < to)) (b:(500:Int) < ((yp z to).length:Int)∨(500:Int) < ((vX z to).length:Int)):Ab z to=(zero,5):=by rw [Ab,zI h,zI a,zP qO]
theorem SH (h:¬ AE z≠0) (a:¬ (to < 0∨1000000 < to)) (b:¬ ((500:Int) < ((yp z to).length:Int))) (c:¬ ((500:Int) < ((vX z to).length:Int))):Ab z to=(⟨z.zM,z.raw,yp z to,vX z to,z.zS,z.zN,zG z to,z.zJ,zE z to⟩,0):=by rw [Ab,zI h,zI a,zI qO]
variable {AG:Int}
theorem Is (h:AE z≠0):forget z AG to=(zero,AE z):=by rw [forget,zP h]
theorem EW (h:¬ AE z≠0) (a:to < 0∨1000000 < to):forget z AG to=(zero,3):=by rw [forget,zI h,zP a]
theorem Lb (h:¬ AE z≠0) (b:¬ (to < 0∨1000000 < to)) (a:AG=0):forget z AG to=(⟨z.zM,Bn z.raw (Fz z to),z.AD,z.coarse,Fz z to,z.zN,z.zG,z.zJ,z.zE⟩,0):=by rw [forget,zI h,zI b,zP a]
theorem FB (h:¬ AE z≠0) (c:¬ (to < 0∨1000000 < to)) (a:¬ AG=0) (b:AG=1):forget z AG to=(⟨z.zM,z.raw,Aw z.AD (Bb z to),z.coarse,z.zS,Bb z to,z.zG,z.zJ,z.zE⟩,0):=by rw [forget,zI h,zI c,zI a,zP b]
theorem Dz (h:¬ AE z≠0) (c:¬ (to < 0∨1000000 < to)) (a:¬ AG=0) (b:¬ AG=1) (d:AG=2):forget z AG to=(⟨z.zM,z.raw,z.AD,Aw z.coarse (Aj z to),z.zS,z.zN,z.zG,Aj z to,z.zE⟩,0):=by rw [forget,zI h,zI c,zI a,zI b,zP d]
theorem Ji (h:¬ AE z≠0) (c:¬ (to < 0∨1000000 < to)) (a:¬ AG=0) (b:¬ AG=1) (d:¬ AG=2):forget z AG to=(zero,1):=by rw [forget,zI h,zI c,zI a,zI b,zI d]
end
theorem KY {l:List AA} (h:Roll.Bx AA.time l) (x:AA):late l x=l.any fun y=>decide (x.time<=y.time):=by
 unfold late
 cases hl:l.getLast? with
 | none=>rw [List.getLast?_eq_none_iff] at hl; subst hl; rfl
 | some y =>
  have d:y ∈ l:=List.mem_of_getLast? hl
  have a:∀ z ∈ l,z.time<=y.time:=fun z c=>by
   obtain ⟨i,hi,rfl⟩:=List.mem_iff_getElem.1 c
   rw [List.getLast?_eq_getElem?] at hl
   exact h.le (i:=i) (j:=l.length - 1) (vA hi) hl qO
  simp only
  rw [Bool.eq_iff_iff,decide_eq_true_iff,List.any_eq_true]
  exact ⟨fun b=>⟨y,d,by simpa using b⟩,fun ⟨z,c,b⟩=>by have:=a z c; have b:=of_decide_eq_true b; omega⟩
theorem Lc {l:List AA} (h:Roll.Bx AA.time l) (f:Int):Lp l f=l.all fun x=>decide (f<=x.time):=by
 cases l with
 | nil=>rfl
 | cons y r =>
  have c:=(List.pairwise_cons.1 h.inc).1
  rw [Bool.eq_iff_iff,List.all_eq_true]
  simp only [Lp,decide_eq_true_iff]
  refine ⟨fun a z b=>?_,fun a=>by simpa using a y qS⟩
  rcases ya.1 b with rfl | b
  ·exact a
  ·have:=c z b; omega
end Sh
end
section
namespace Roll
structure Cy (l:List AB) (st lo hi:Int):Prop where
  ok:∀ x ∈ l,lo<=x.at_∧x.at_ < hi∧x.at_ % st=0∧1<=x.sum.count∧x.sum.count<=st
  inc:l.Pairwise (fun x y=>x.at_ < y.at_)
theorem Cy.Dg {l:List AB} {st lo hi:Int} (h:Cy l st lo hi) (c:0<=lo) (b:hi<=1000001):Bx AB.at_ l:=⟨fun x a=>by have:=h.ok x a; omega,h.inc⟩
theorem Cy.append {a b:List AB} {st lo m hi:Int} (d:Cy a st lo m) (c:Cy b st m hi) (g:lo<=m) (i:m<=hi):Cy (a++b) st lo hi :=
 ⟨fun x e=>by
  rcases yl.1 e with h | h
  ·have:=d.ok x h; omega
  ·have:=c.ok x h; omega,List.pairwise_append.2 ⟨d.inc,c.inc,fun x e y f=>by have:=d.ok x e; have:=c.ok y f; omega⟩⟩
theorem LC.AG {l:List AB} {st lo hi:Int} (h:LC l st) (a:st=10∨st=60) (e:Sh.within l lo hi=true):Cy l st lo hi :=
 ⟨fun x c=>by
  have d:=h.ok x c
  rw [Fm a] at d
  have b:=List.all_eq_true.1 e x c
  have b:=of_decide_eq_true b
  rcases a with rfl | rfl <;> omega,h.inc⟩
theorem Cy.right {l:List AB} {st lo hi:Int} (h:Cy l st lo hi) (a:st=10∨st=60) (d:0<=lo) (e:hi<=1000001) (b:l.length<=500):LC l st :=
 ⟨b,fun x c=>by
  rw [Fm a]
  have:=h.ok x c
  rcases a with rfl | rfl <;> omega,h.inc⟩
theorem Cy.within {l:List AB} {st lo hi:Int} (h:Cy l st lo hi):Sh.within l lo hi=true :=
 List.all_eq_true.2 fun x a=>by have:=h.ok x a; exact vM ⟨this.1,this.2.1⟩
theorem FM {l:List AB} {a:Int} (h:LC l (step a)) (c:step a≠0):(AE l a).err=0:=by
 have b:=h.len;rw [AE,zI c,zI qO,Ir _ _ _ _ h.ok h.inc qS]
theorem HF {l:List AA} {a b:Int} (e:Bx AA.time l) (o:l.length<=1048576) (h:a % 10=0) (g:b % 10=0):Cy (up (inT l a b) 1) 10 a b:=by
 rw [Qw];obtain ⟨f,i⟩:=gf_to (s:=fun x=>Agg.one x.value) (.inl rfl) e h g;refine ⟨fun x d=>?_,i⟩;obtain ⟨m,r,n,u,j,rfl⟩:=f x d;have c:=List.length_filter_le (fun x=>decide (m<=AA.time x∧AA.time x < m + 10)) l;have p:(win AA.time l m (m + 10)).length<=l.length:=c;have q:=Fv (s:=fun x:AA=>Agg.one x.value) 1 qO qO (win AA.time l m (m + 10)) qO (fun x _=>by simp [Agg.one]);have k:0 < (win AA.time l m (m + 10)).length:=List.length_pos_iff.2 j;have v:=Fk (t:=AA.time) (b:=m + 10) 1 qD (win AA.time l m (m + 10)) m (Gy e).inc (fun x d=>by have:=Cs.1 d; omega) qO qO qO;simp only;omega
theorem OC {l:List AB} {a b lo hi:Int} (f:Cy l 10 lo hi) (n:0<=lo) (e:hi<=1000001) (u:l.length<=1048576) (h:a % 60=0) (o:b % 60=0):Cy (AU (Sh.bIn l a b)) 60 a b:=by
 rw [Ge];have g:=f.Dg n e;obtain ⟨e,i⟩:=gf_to (s:=AB.sum) (.inr rfl) g h o;refine ⟨fun x d=>?_,i⟩;obtain ⟨m,q,y,z,j,rfl⟩:=e x d;have c:=List.length_filter_le (fun x=>decide (m<=AB.at_ x∧AB.at_ x < m + 60)) l;have p:(win AB.at_ l m (m + 60)).length<=l.length:=c;have w:=Fv (s:=AB.sum) 10 qO qO (win AB.at_ l m (m + 60)) qO (fun x d=>by have:=f.ok x (Cs.1 d).1; omega);have v:0 < (win AB.at_ l m (m + 60)).length:=List.length_pos_iff.2 j;have r:=Fk (t:=AB.at_) (b:=m + 60) 10 qD (win AB.at_ l m (m + 60)) m (Gy g).inc (fun x d=>by have k:=Cs.1 d; have:=f.ok x k.1; omega) qO qO qO;simp only;omega
theorem of_pos {l:List AB} {lo hi:Int} (a:Cy l 10 lo hi) (c:l.length<=1048576) (m n:Int):(0 < (of l m n).count)↔Sh.bIn l m n≠[]:=by
 rw [JV];have e:(win AB.at_ l m n).length<=l.length:=List.length_filter_le ..;have d:=Fv (s:=AB.sum) 10 qO qO (win AB.at_ l m n) qO (fun x b=>by have:=a.ok x (Cs.1 b).1; omega);show _↔win AB.at_ l m n≠[]
 rw [<-List.length_pos_iff];omega
end Roll
namespace Sh
section
variable {z:Shelf} {to:Int}
theorem OK.rawR (h:OK z):Codec.Jn z.raw:=Codec.Em h.raw
theorem OK.Fh (h:OK z):Roll.Bx AA.time z.raw:=Roll.Ko h.rawR
theorem OK.Mq (h:OK z):Roll.Cy z.AD 10 z.zN z.zG:=(Roll.Mm h.AD).1.AG (.inl rfl) h.fit.2.2.1
theorem OK.HN (h:OK z):Roll.Cy z.coarse 60 z.zJ z.zE:=(Roll.Mm h.coarse).1.AG (.inr rfl) h.fit.2.2.2
theorem HL (h:OK z):(yp z to).length<=1000:=by
 have a:=h.lens;have b:=vN (Roll.JW (Roll.inT z.raw z.zG (zG z to)) 1) (Roll.Ca _ _ _);unfold yp;rw [uF];omega
theorem Hr (h:OK z) (b:0<=to) (c:to<=1000000):Roll.Cy (yp z to) 10 z.zN (zG z to):=by
 obtain ⟨⟨s,u,v,r⟩,⟨p,g,q,o,k⟩,l,i,j,d,e⟩:=h.rng;obtain ⟨f,m,n,a⟩:=CS h b c;have t:=h.lens;exact h.Mq.append (Roll.HF h.Fh qO k a) g f
theorem OS (h:OK z) (a:0<=to) (b:to<=1000000):Roll.Cy (vX z to) 60 z.zJ (zE z to):=by
 obtain ⟨⟨s,x,y,r⟩,⟨g,v,q,o,w⟩,k,d,j,i,c⟩:=h.rng;obtain ⟨u,l,m,p⟩:=CS h a b;obtain ⟨f,n,e⟩:=Cr h a b;have t:=HL (to:=to) h;exact h.HN.append (Roll.OC (Hr h a b) g qO qO c e) d f
theorem Rr:z.AD++Roll.up (Roll.inT z.raw z.zG (z.zG + 10 * ((0:Nat):Int))) 1=[]++z.AD:=by
 have:Roll.inT z.raw z.zG (z.zG + 10 * ((0:Nat):Int))=[]:=Roll.Fc qS;rw [this]; simp [Roll.up_one,Roll.ups]
theorem ML (h:OK z) (k:Nat):z.AD++Roll.up (Roll.inT z.raw z.zG (z.zG + 10 * ((k + 1:Nat):Int))) 1=if Roll.inT z.raw (z.zG + 10 * (k:Int)) (z.zG + 10 * (k:Int) + 10)=[] then z.AD++Roll.up (Roll.inT z.raw z.zG (z.zG + 10 * (k:Int))) 1
  else (z.AD++Roll.up (Roll.inT z.raw z.zG (z.zG + 10 * (k:Int))) 1)++[⟨z.zG + 10 * (k:Int),Agg.of (Roll.inT z.raw (z.zG + 10 * (k:Int)) (z.zG + 10 * (k:Int) + 10))⟩]:=by
 obtain ⟨⟨i,j,l,g⟩,⟨b,d,c,a,f⟩,_⟩:=h.rng
 have e:z.zG + 10 * ((k + 1:Nat):Int)=z.zG + 10 * (k:Int) + 10:=by push_cast; omega
 rw [e,Roll.up_next h.Fh qO qO]
 split
 ·rfl
 ·rw [ub]
theorem Nf:z.coarse++Roll.AU (bIn (yp z to) z.zE (z.zE + 60 * ((0:Nat):Int)))=[]++z.coarse:=by
 have:bIn (yp z to) z.zE (z.zE + 60 * ((0:Nat):Int))=[]:=Roll.Fc qS;rw [this]; simp [Roll.AU]
theorem Jw (h:OK z) (c:0<=to) (d:to<=1000000) (k:Nat):z.coarse++Roll.AU (bIn (yp z to) z.zE (z.zE + 60 * ((k + 1:Nat):Int)))=if 0 < (Roll.of (yp z to) (z.zE + 60 * (k:Int)) (z.zE + 60 * (k:Int) + 60)).count
  then (z.coarse++Roll.AU (bIn (yp z to) z.zE (z.zE + 60 * (k:Int))))++[⟨z.zE + 60 * (k:Int),Roll.of (yp z to) (z.zE + 60 * (k:Int)) (z.zE + 60 * (k:Int) + 60)⟩]
  else z.coarse++Roll.AU (bIn (yp z to) z.zE (z.zE + 60 * (k:Int))):=by
 obtain ⟨⟨u,A,B,t⟩,⟨f,x,s,q,y⟩,n,l,m,i,j⟩:=h.rng
 obtain ⟨w,o,p,r⟩:=CS h c d
 have b:=Hr h c d
 have v:=HL (to:=to) h
 have e:z.zE + 60 * ((k + 1:Nat):Int)=z.zE + 60 * (k:Int) + 60:=by push_cast; omega
 rw [e,Roll.OH (b.Dg f qO) qO qO]
 by_cases a:0 < (Roll.of (yp z to) (z.zE + 60 * (k:Int)) (z.zE + 60 * (k:Int) + 60)).count
 ·rw [zP a,zI ((Roll.of_pos b qO _ _).1 a),ub]
 ·rw [zI a,zP (ym.1 fun g=>a ((Roll.of_pos b qO _ _).2 g))]
theorem Wt (h:OK z) (k:Nat):(z.AD++Roll.up (Roll.inT z.raw z.zG (z.zG + 10 * (k:Int))) 1).length<=1000:=by
 have a:=h.lens;have b:=vN (Roll.JW (Roll.inT z.raw z.zG (z.zG + 10 * (k:Int))) 1) (Roll.Ca _ _ _);rw [uF];omega
theorem Rg (h:OK z) (a b:Int):(z.coarse++Roll.AU (bIn (yp z to) a b)).length<=2000:=by
 have d:=h.lens;have e:=vN (Roll.Gp (bIn (yp z to) a b)) (DT _ _ _);have c:=HL (to:=to) h;rw [uF];omega
end
theorem all_succ {α:Type} {p:α->Bool} {l:List α} {k:Nat} {x:α} (h:l[k]?=some x):(l.take (k + 1)).all p=((l.take k).all p && p x):=by
 rw [vE,h,List.all_append]; simp
theorem any_succ {α:Type} {p:α->Bool} {l:List α} {k:Nat} {x:α} (h:l[k]?=some x):(l.take (k + 1)).any p=((l.take k).any p || p x):=by
 rw [vE,h,List.any_append]; simp
def FI (l:List AA) (f:Int):Bool:=l.all fun x=>decide (f<=x.time)
theorem NY {l:List AA} {f:Int} {k:Nat} {x:AA} (h:l[k]?=some x):FI (l.take (k + 1)) f=(FI (l.take k) f && decide (f<=x.time)):=all_succ h
theorem PR {l:List AB} {f t:Int} {k:Nat} {x:AB} (h:l[k]?=some x):within (l.take (k + 1)) f t=(within (l.take k) f t && decide (f<=x.at_∧x.at_ < t)):=all_succ h
def lateAny (l:List AA) (x:AA):Bool:=l.any fun y=>decide (x.time<=y.time)
theorem GP {l:List AA} {x y:AA} {k:Nat} (h:l[k]?=some y):lateAny (l.take (k + 1)) x=(lateAny (l.take k) x || decide (x.time<=y.time)):=any_succ h
theorem jb_t {g c:Bool} (h:g=true):Value.bool c=Value.bool (g && c):=by grind
theorem jb_f {g c:Bool} (h:¬ g=true):Value.bool false=Value.bool (g && c):=by grind
theorem jb_t2 {g:Bool} {a b:Prop} [Decidable a] [Decidable b] (h:g=true) (c:a):Value.bool (decide b)=Value.bool (g && decide (a∧b)):=by simp [h,c]
theorem jb_f2 {g:Bool} {a b:Prop} [Decidable a] [Decidable b] (c:¬ a):Value.bool false=Value.bool (g && decide (a∧b)):=by simp [c]
theorem jb_o {g c:Bool} (h:¬ g=true):Value.bool c=Value.bool (g || c):=by grind
theorem jb_ot {g c:Bool} (h:g=true):Value.bool true=Value.bool (g || c):=by grind
theorem PD {z:Shelf} (h:¬ (Codec.AE z.raw).err≠0):(((decide (times z) && FI z.raw z.zS) && within z.AD z.zN z.zG) && within z.coarse z.zJ z.zE)=true↔fits z:=by
 have a:=Roll.Ko (Codec.Em (ym.1 h));rw [fits,Lc a];simp only [Bool.and_eq_true,ud,FI,and_assoc]
theorem eq_iff {a b:Shelf}:a=b↔a.zM=b.zM∧a.raw=b.raw∧a.AD=b.AD∧a.coarse=b.coarse∧a.zS=b.zS∧a.zN=b.zN∧a.zG=b.zG∧a.zJ=b.zJ∧a.zE=b.zE:=by
 cases a; cases b; simp
theorem Lr {l:List AB} {f:Int} {k:Nat} {x:AB} (h:l[k]?=some x):Aw (l.take (k + 1)) f=if f<=x.at_ then Aw (l.take k) f++[x] else Aw (l.take k) f:=by
 unfold Aw;rw [vE,h,List.filter_append];by_cases a:f<=x.at_ <;> simp [a]
theorem LV {l:List AA} {f:Int} {k:Nat} {x:AA} (h:l[k]?=some x):Bn (l.take (k + 1)) f=if f<=x.time then Bn (l.take k) f++[x] else Bn (l.take k) f:=by
 unfold Bn;rw [vE,h,List.filter_append];by_cases a:f<=x.time <;> simp [a]
theorem JS (l:List AB) (f:Int):(Aw l f).length<=l.length:=List.length_filter_le ..
theorem MU (l:List AA) (f:Int):(Bn l f).length<=l.length:=List.length_filter_le ..
end Sh
end
section
namespace Codec
theorem FM {l:List AA} (h:Jn l):(AE l).err=0:=by
 have b:∀ (l:List AA) (k:Nat) (p:Option AA),(∀ x ∈ l,¬ DW x)->l.Pairwise (fun x y=>x.time < y.time)->(∀ q,p=some q->∀ x ∈ l,q.time < x.time)->AP k p l=⟨0,0⟩:=by
  intro l
  induction l with
  | nil=>intros; rfl
  | cons s r ih =>
   intro k p d g e
   unfold AP
   rw [zI (d s qS)]
   have f:¬ (Da p s=true):=by
    cases p with
    | none=>simp [Da]
    | some q=>have:=e q rfl s qS; simp [Da]; omega
   rw [zI f]
   have c:=List.pairwise_cons.1 g
   exact ih (k + 1) (some s) (fun x a=>d x (by simp [a])) c.2 (by rintro q ⟨⟩ x a; exact c.1 x a)
 have i:=h.len
 rw [AE,zI qO,b l 0 none (fun x a=>by have:=h.rng x a; unfold DW; omega) h.inc qS]
theorem Jn.filter {l:List AA} (h:Jn l) (p:AA->Bool):Jn (l.filter p) :=
 ⟨vN (List.length_filter_le ..) h.len,fun x a=>h.rng x (List.mem_filter.1 a).1,h.inc.sublist List.filter_sublist⟩
theorem NO {x:AA} (h:(AE [x]).err=0):0<=x.time∧x.time<=1000000∧-1000000000<=x.value∧x.value<=1000000000:=(Em h).rng x qS
end Codec
namespace Sh
section
variable {z:Shelf} {x:AA} {to AG:Int}
theorem Mw (h:zF.AE z.zM=0) (f:Codec.Jn z.raw) (e:Roll.Cy z.AD 10 z.zN z.zG) (g:Roll.Cy z.coarse 60 z.zJ z.zE) (l:z.AD.length<=500) (i:z.coarse.length<=500) (n:times z) (j:∀ x ∈ z.raw,z.zS<=x.time):OK z:=by
 obtain ⟨⟨b,d⟩,k⟩:=n
 have c:=b; have a:=d
 unfold De at b d
 simp only at b d
 exact ⟨h,Codec.FM f,Roll.FM (e.right (.inl rfl) qO qO l) qD,Roll.FM (g.right (.inr rfl) qO qO i) qD,
  ⟨⟨⟨c,a⟩,k⟩,by rw [Lc (Roll.Ko f)]; exact List.all_eq_true.2 fun x m=>vM (j x m),e.within,g.within⟩⟩
theorem OK.OW (h:OK z):∀ x ∈ z.raw,z.zS<=x.time:=by
 have:=h.fit.2.1;rw [Lc h.Fh] at this;exact fun x a=>of_decide_eq_true (List.all_eq_true.1 this x a)
theorem Fl {z:Shelf}:times z↔(0<=z.zS∧z.zS<=z.zG∧z.zN<=z.zE∧z.zE<=z.zG)∧(0<=z.zN∧z.zN<=z.zG∧z.zG<=1000000∧z.zN % 10=0∧z.zG % 10=0)∧0<=z.zJ∧z.zJ<=z.zE∧z.zE<=1000000∧z.zJ % 60=0∧z.zE % 60=0:=by
 unfold times De; simp only; omega
theorem Gi (h:(append z x).2=0):OK z∧(Codec.AE [x]).err=0∧¬ (x.time < z.zG∨late z.raw x=true)∧z.raw.length≠500∧append z x=(⟨z.zM,z.raw++[x],z.AD,z.coarse,z.zS,z.zN,z.zG,z.zJ,z.zE⟩,0):=by
 unfold append at h ⊢;by_cases a:AE z≠0;rw [zP a] at h; exact absurd h a;rw [zI a] at h ⊢;by_cases b:(Codec.AE [x]).err≠0;rw [zP b] at h; exact absurd h b;rw [zI b] at h ⊢;by_cases c:x.time < z.zG∨late z.raw x=true;rw [zP c] at h; exact absurd h qD;rw [zI c] at h ⊢;by_cases d:z.raw.length=500;rw [zP d] at h; exact absurd h qD;rw [zI d];exact ⟨BD a,ym.1 b,c,d,rfl⟩
def Ey (z:Shelf) (to:Int):Shelf:=⟨z.zM,z.raw,yp z to,vX z to,z.zS,z.zN,zG z to,z.zJ,zE z to⟩
theorem HC (h:(Ab z to).2=0):OK z∧0<=to∧to<=1000000∧(yp z to).length<=500∧(vX z to).length<=500∧Ab z to=(Ey z to,0):=by
 unfold Ab at h ⊢;by_cases a:AE z≠0;rw [zP a] at h; exact absurd h a;rw [zI a] at h ⊢;by_cases c:to < 0∨1000000 < to;rw [zP c] at h; exact absurd h qD;rw [zI c] at h ⊢;by_cases b:500 < (yp z to).length∨500 < (vX z to).length;rw [zP b] at h; exact absurd h qD;rw [zI b];exact ⟨BD a,qO,qO,qO,qO,rfl⟩
theorem roll_mk (h:OK z) (b:0<=to) (c:to<=1000000) (a:(yp z to).length<=500) (d:(vX z to).length<=500):Ab z to=(Ey z to,0):=by
 rw [Ab,zI (by simp [h.AE]),zI qO,zI qO]; rfl
def Hl (z:Shelf) (AG to:Int):Shelf :=
  if AG=0 then ⟨z.zM,Bn z.raw (Fz z to),z.AD,z.coarse,Fz z to,z.zN,z.zG,z.zJ,z.zE⟩
  else if AG=1 then ⟨z.zM,z.raw,Aw z.AD (Bb z to),z.coarse,z.zS,Bb z to,z.zG,z.zJ,z.zE⟩
  else ⟨z.zM,z.raw,z.AD,Aw z.coarse (Aj z to),z.zS,z.zN,z.zG,Aj z to,z.zE⟩
theorem Gx (h:(forget z AG to).2=0):OK z∧0<=to∧to<=1000000∧(AG=0∨AG=1∨AG=2)∧forget z AG to=(Hl z AG to,0):=by
 unfold forget Hl at *;by_cases a:AE z≠0;rw [zP a] at h; exact absurd h a;rw [zI a] at h ⊢;by_cases e:to < 0∨1000000 < to;rw [zP e] at h; exact absurd h qD;rw [zI e] at h ⊢;by_cases b:AG=0;rw [zP b,zP b]; exact ⟨BD a,qO,qO,.inl b,rfl⟩;rw [zI b] at h ⊢;by_cases c:AG=1;rw [zP c,zI b,zP c]; exact ⟨BD a,qO,qO,.inr (.inl c),rfl⟩;rw [zI c] at h ⊢;by_cases d:AG=2;rw [zP d,zI b,zI c]; exact ⟨BD a,qO,qO,.inr (.inr d),rfl⟩;rw [zI d] at h; exact absurd h qD
def Fo (a b:Shelf):Prop:=a.zS<=b.zS∧a.zN<=b.zN∧a.zG<=b.zG∧a.zJ<=b.zJ∧a.zE<=b.zE
theorem append_right (h:(append z x).2=0):OK (append z x).1∧Fo z (append z x).1:=by
  obtain ⟨ho,hx,hl,hn,e⟩:=Gi h
  rw [e]
  have hr:=ho.rawR
  have hx':=Codec.NO hx
  have hln:=ho.lens
  obtain ⟨⟨g1,g2,g3,g4⟩,_⟩:=ho.rng
  have hall:∀ y ∈ z.raw,y.time < x.time:=fun y hy=>by
    have h1:=KY ho.Fh x
    have h2:¬ (late z.raw x=true):=fun g=>hl (.inr g)
    rw [h1,List.any_eq_true] at h2
    have:¬ (x.time<=y.time):=fun g=>h2 ⟨y,hy,vM g⟩
    omega
  refine ⟨Mw ho.zM ⟨by simp; omega,fun y hy=>?_,?_⟩ ho.Mq ho.HN hln.2.2.1 hln.2.2.2 ho.fit.1 fun y hy=>?_,⟨qS,qS,qS,qS,qS⟩⟩
  · rcases yl.1 hy with h1 | h1
    · exact hr.rng y h1
    · obtain rfl:y=x:=by simpa using h1
      exact hx'
  · exact List.pairwise_append.2 ⟨hr.inc, by simp, fun y hy w hw => by obtain rfl : w = x := by simpa using hw
                                                                       exact hall y hy⟩
  · rcases yl.1 hy with h1 | h1
    · exact ho.OW y h1
    · obtain rfl:y=x:=by simpa using h1
      simp only; omega
theorem Uc (h:OK z) (a:0<=to) (b:to<=1000000) (e:(yp z to).length<=500) (c:(vX z to).length<=500):OK (Ey z to):=by
 obtain ⟨⟨u,y,A,t⟩,⟨q,w,s,p,x⟩,j,g,i,d,f⟩:=h.rng;obtain ⟨v,k,m,r⟩:=CS h a b;obtain ⟨o,n,l⟩:=Cr h a b;exact Mw h.zM h.rawR (Hr h a b) (OS h a b) e c (Fl.2 (by simp only [Ey]; omega)) h.OW
theorem RG (h:(Ab z to).2=0):OK (Ab z to).1∧Fo z (Ab z to).1:=by
 obtain ⟨c,a,b,f,g,e⟩:=HC h;rw [e];obtain ⟨d,k,m,j⟩:=CS c a b;obtain ⟨i,n,l⟩:=Cr c a b;exact ⟨Uc c a b f g,by simp [Ey],by simp [Ey],by simpa [Ey] using d,by simp [Ey],by simpa [Ey] using i⟩
theorem Kz {l:List AB} {st lo hi f:Int} (h:Roll.Cy l st lo hi):Roll.Cy (Aw l f) st f hi :=
 ⟨fun x b=>by
  obtain ⟨a,c⟩:=List.mem_filter.1 b
  have:=h.ok x a
  simp at c
  omega,h.inc.sublist List.filter_sublist⟩
theorem QY (h:OK z):z.zS<=Fz z to∧Fz z to<=z.zG:=by
 have:=h.rng;unfold Fz mx mn; split <;> split <;> omega
theorem Mi (h:OK z):z.zN<=Bb z to∧Bb z to<=z.zE∧Bb z to % 10=0:=by
 have:=h.rng;unfold Bb mx mn; split <;> split <;> omega
theorem Jd (h:OK z):z.zJ<=Aj z to∧Aj z to<=z.zE∧Aj z to % 60=0:=by
 have:=h.rng;unfold Aj mx mn; split <;> split <;> omega
theorem Uv (h:OK z) (d:AG=0∨AG=1∨AG=2):OK (Hl z AG to)∧Fo z (Hl z AG to):=by
 obtain ⟨⟨n,t,u,m⟩,⟨k,q,l,j,r⟩,i,f,g,c,e⟩:=h.rng;have a:=h.lens;have s:=QY (to:=to) h; have o:=Mi (to:=to) h; have p:=Jd (to:=to) h;unfold Hl;rcases d with rfl | rfl | rfl
 rw [zP rfl];refine ⟨Mw h.zM (h.rawR.filter _) h.Mq h.HN a.2.2.1 a.2.2.2 (Fl.2 (by simp only; omega)) fun x b=>?_,by unfold Fo; simp only; omega⟩;have:=(List.mem_filter.1 b).2;simpa using this;rw [zI qD,zP rfl];exact ⟨Mw h.zM h.rawR (Kz h.Mq) h.HN (vN (JS _ _) a.2.2.1) a.2.2.2 (Fl.2 (by simp only; omega)) h.OW,by unfold Fo; simp only; omega⟩;rw [zI qD,zI qD];exact ⟨Mw h.zM h.rawR h.Mq (Kz h.HN) a.2.2.1 (vN (JS _ _) a.2.2.2) (Fl.2 (by simp only; omega)) h.OW,by unfold Fo; simp only; omega⟩
theorem Ob (h:(forget z AG to).2=0):OK (forget z AG to).1∧Fo z (forget z AG to).1:=by
 obtain ⟨b,c,d,a,e⟩:=Gx h;rw [e];exact Uv b a
end
end Sh
end
section
namespace Roll
section
variable {α:Type} {t:α->Int} {s:α->Sum} {st:Int} {l:List α} {a b m:Int}
theorem Vn:∀ (B:List α) (out:List AB),(∀ b,out.getLast?=some b->∀ x ∈ B,b.at_≠at' (t x) st)->B.foldl (fun b x=>add b (t x) st (s x)) out=out++gf t s st B:=by
 intro B
 induction B using List.AY with
 | nil=>intro out _; simp [gf]
 | snoc B x ih =>
  intro out h
  rw [List.foldl_append,ih out (fun b d y e=>h b d y (by simp [e])),TH]
  simp only [List.foldl_cons,List.foldl_nil]
  rcases i:gf t s st B with _ | ⟨c,r⟩
  ·rw [uc]
   have g:=fun b d=>h b d x qS
   show add out (t x) st (s x)=out++add [] (t x) st (s x)
   rw [JL]
   unfold add
   split
   ·rename_i b a
    rw [zI (g b a)]
   ·rename_i a
    have:out=[]:=List.getLast?_eq_none_iff.1 a
    subst this; rfl
  ·unfold add
   have f:(out++c::r).getLast?=(c::r).getLast?:=by rw [List.getLast?_append]; simp [List.getLast?_cons]
   rw [f]
   cases a:(c::r).getLast? with
   | none=>simp at a
   | some b =>
    simp only
    split
    ·rw [List.set_append]; simp; omega
    ·rw [ub]
theorem NL (d:st=10∨st=60) (g:Bx t l) (i:a<=m) (k:m<=b) (B:m % st=0):gf t s st (win t l a b)=gf t s st (win t l a m)++gf t s st (win t l m b):=by
 have r:m / st * st=m:=by rcases d with rfl | rfl <;> omega
 rw [HA i k g.inc]
 conv=>lhs; unfold gf
 rw [List.foldl_append]
 refine Vn _ _ fun c o x p=>?_
 obtain ⟨y,h,e⟩:=gf_ats (t:=t) (s:=s) (st:=st) _ c (List.mem_of_getLast? o)
 obtain ⟨j,u,v⟩:=Cs.1 h
 obtain ⟨n,q,A⟩:=Cs.1 p
 have w:=at_le d (g.rng y j)
 have z:m<=at' (t x) st:=by
  have f:=g.rng x n
  unfold at'
  rw [Int.tmod_eq_emod_of_nonneg f.1]
  rcases d with rfl | rfl <;> (rw [Ei qO qO]; omega)
 omega
end
theorem Nd:∀ (l:List AA),l.length<=1000000->(∀ x ∈ l,0<=x.time∧x.time<=1000000)->AU (ups l 10)=ups l 60:=by
 intro l
 induction l using List.AY with
 | nil=>intro _ _; rfl
 | snoc l x ih =>
  intro n i
  have a:(l++[x]).length=l.length + 1:=qS
  rw [a] at n
  have j:=i x qS
  have f:=ih qO (fun y k=>i y (by simp [k]))
  rw [ID,ID,<-f]
  have d:=LQ l 10 qO
  have c:=at_at j.1 j.2
  rcases HP (ups l 10) x.time 10 (Agg.one x.value) with e | ⟨q,b,h,o,e⟩
  ·rw [e,EV]
   exact Vd (by exact c)
  ·rw [h] at d
   rw [e,h,EV,EV]
   have g:=d.init
   have p:=Kj g (by have:=d.pos b qS; omega)
   have m:=d.pos b qS
   show add (AU q) b.at_ 60 (Agg.join b.sum (Agg.one x.value))=_
   rw [add_add p (by simp [Agg.one]; omega) m (by simp [Agg.one]) (by rw [o]; exact c)]
theorem up2_win (l:List AA) (a b:Int):up (inT l a b) 2=gf AA.time (fun x=>Agg.one x.value) 60 (win AA.time l a b):=rfl
section
variable {l:List AA} {a b m:Int}
theorem Gz (e:Bx AA.time l) (c:a<=m) (d:m<=b) (f:m % 10=0):up (inT l a b) 1=up (inT l a m) 1++up (inT l m b) 1:=NL (.inl rfl) e c d f
theorem GM (e:Bx AA.time l) (c:a<=m) (d:m<=b) (f:m % 60=0):up (inT l a b) 2=up (inT l a m) 2++up (inT l m b) 2:=NL (.inr rfl) e c d f
theorem Fj (a:Bx AA.time l):l.length<=1000001:=by
 have:=Fk (t:=AA.time) (b:=1000001) 1 qD l 0 a.inc (fun x c=>by have:=a.rng x c; omega) qO qO qO;omega
theorem win_len (d:Bx AA.time l) (e:0<=a) (f:b<=1000000):(inT l a b).length<=1000000:=by
 rcases Int.lt_or_le a b with h | h
 have:=Fk (t:=AA.time) (b:=b) 1 qD (win AA.time l a b) a (Gy d).inc (fun x c=>by have:=Cs.1 c; omega) qO qO qO;rw [SO]; omega;rw [SO,Fc h]; simp
theorem PY (c:Bx AA.time l) (f:0<=a) (d:b<=1000000):AU (up (inT l a b) 1)=up (inT l a b) 2 :=
 Nd _ (win_len c f d) fun x e=>c.rng x (Cs.1 e).1
theorem Cy.Td {l:List AB} {st lo hi a b:Int} (h:Cy l st lo hi) (d:a<=lo) (e:hi<=b):Sh.bIn l a b=l:=List.filter_eq_self.2 fun x c=>by have:=h.ok x c; exact vM ⟨qO,qO⟩
theorem Cy.IW {l:List AB} {st lo hi a b:Int} (h:Cy l st lo hi) (d:hi<=a∨b<=lo):Sh.bIn l a b=[]:=List.filter_eq_nil_iff.2 fun x c=>by have:=h.ok x c; simp; omega
theorem Cy.QP {l:List AB} {st lo hi a:Int} (h:Cy l st lo hi) (c:a<=lo):Sh.Aw l a=l:=List.filter_eq_self.2 fun x b=>by have:=h.ok x b; simp; omega
theorem Cy.NA {l:List AB} {st lo hi a:Int} (h:Cy l st lo hi) (c:hi<=a):Sh.Aw l a=[]:=List.filter_eq_nil_iff.2 fun x b=>by have:=h.ok x b; simp; omega
theorem Gl (c:Bx AA.time l) (g:a % 60=0) (f:b % 60=0):Cy (up (inT l a b) 2) 60 a b:=by
 rw [up2_win];obtain ⟨e,h⟩:=gf_to (s:=fun x=>Agg.one x.value) (.inr rfl) c g f;refine ⟨fun x d=>?_,h⟩;obtain ⟨m,q,k,r,i,rfl⟩:=e x d;have n:=Fj c;have o:(win AA.time l m (m + 60)).length<=l.length:=List.length_filter_le ..;have p:=Fv (s:=fun x:AA=>Agg.one x.value) 1 qO qO (win AA.time l m (m + 60)) qO (fun x _=>by simp [Agg.one]);have j:0 < (win AA.time l m (m + 60)).length:=List.length_pos_iff.2 i;have u:=Fk (t:=AA.time) (b:=m + 60) 1 qD (win AA.time l m (m + 60)) m (Gy c).inc (fun x d=>by have:=Cs.1 d; omega) qO qO qO;simp only;omega
theorem GR (x y:List AB) (a b:Int):Sh.bIn (x++y) a b=Sh.bIn x a b++Sh.bIn y a b:=List.filter_append ..
theorem Im (x y:List AB) (a:Int):Sh.Aw (x++y) a=Sh.Aw x a++Sh.Aw y a:=List.filter_append ..
theorem up_bIn {c d:Int} (e:Bx AA.time l) (j:a % 10=0) (i:b % 10=0) (g:c % 10=0) (f:d % 10=0) (h:a<=c) (k:c<=d) (m:d<=b):Sh.bIn (up (inT l a b) 1) c d=up (inT l c d) 1:=by
 have n:=Fj e
 rw [Gz e h (by omega:c<=b) g,Gz e k m f,GR,GR,
  (HF e qO j g).IW (.inl (Int.le_refl _)),(HF e qO g f).Td (Int.le_refl _) (Int.le_refl _),(HF e qO f i).IW (.inr (Int.le_refl _)),List.nil_append,uc]
theorem up_from {c:Int} (d:Bx AA.time l) (h:a % 10=0) (g:b % 10=0) (e:c % 10=0) (f:a<=c) (i:c<=b):Sh.Aw (up (inT l a b) 1) c=up (inT l c b) 1:=by
 have j:=Fj d;rw [Gz d f i e,Im,(HF d qO h e).NA (Int.le_refl _),(HF d qO e g).QP (Int.le_refl _),List.nil_append]
theorem Wu {c:Int} (d:Bx AA.time l) (h:a % 60=0) (g:b % 60=0) (e:c % 60=0) (f:a<=c) (i:c<=b):Sh.Aw (up (inT l a b) 2) c=up (inT l c b) 2:=by
 rw [GM d f i e,Im,(Gl d h e).NA (Int.le_refl _),(Gl d e g).QP (Int.le_refl _),List.nil_append]
theorem Px {f:Int} (h:f<=a):inT (Sh.Bn l f) a b=inT l a b:=by
 unfold inT Sh.Bn
 rw [List.filter_filter]
 exact List.filter_congr fun x _=>by
  rw [Bool.eq_iff_iff]; simp; omega
theorem Ii {x:AA} (h:b<=x.time):inT (l++[x]) a b=inT l a b:=by
 unfold inT;rw [List.filter_append];have:¬ (a<=x.time∧x.time < b):=qO;simp [this]
end
end Roll
namespace Sh
structure FX (z:Shelf) (all:List AA):Prop where
  ok:OK z
  Dg:Roll.Bx AA.time all
  Bh:∀ x ∈ all,-1000000000<=x.value∧x.value<=1000000000
  raw:z.raw=Bn all z.zS
  AD:z.AD=Roll.up (Roll.inT all z.zN z.zG) 1
  coarse:z.coarse=Roll.up (Roll.inT all z.zJ z.zE) 2
section
variable {z:Shelf} {all:List AA} {x:AA} {to AG:Int}
theorem FX.append (h:FX z all) (j:(append z x).2=0):FX (append z x).1 (all++[x]):=by
 have d:=(append_right j).1
 obtain ⟨l,p,n,r,e⟩:=Gi j
 rw [e] at d ⊢
 have m:=Codec.NO p
 obtain ⟨⟨t,q,u,s⟩,_⟩:=l.rng
 have f:∀ y ∈ all,y.time < x.time:=fun y a=>by
  by_cases c:z.zS<=y.time
  ·have i:y ∈ z.raw:=by rw [h.raw]; exact List.mem_filter.2 ⟨a,by simp; omega⟩
   have k:¬ (late z.raw x=true):=fun g=>n (.inr g)
   rw [KY l.Fh x,List.any_eq_true] at k
   have:¬ (x.time<=y.time):=fun g=>k ⟨y,i,vM g⟩
   omega
  ·omega
 refine ⟨d,⟨fun y a=>?_,?_⟩,fun y a=>?_,?_,?_,?_⟩
 ·rcases yl.1 a with b | b
  ·exact h.Dg.rng y b
  ·obtain rfl:y=x:=by simpa using b
   omega
 ·exact List.pairwise_append.2 ⟨h.Dg.inc,qS,fun y a w o=>by rw [show w=x from by simpa using o]; exact f y a⟩
 ·rcases yl.1 a with b | b
  ·exact h.Bh y b
  ·obtain rfl:y=x:=by simpa using b
   omega
 ·show z.raw++[x]=Bn (all++[x]) z.zS
  have:¬ x.time < z.zS:=qO
  rw [h.raw,Bn,Bn,List.filter_append]
  simp [this]
 ·show z.AD=Roll.up (Roll.inT (all++[x]) z.zN z.zG) 1
  rw [Roll.Ii qO]; exact h.AD
 ·show z.coarse=Roll.up (Roll.inT (all++[x]) z.zJ z.zE) 2
  rw [Roll.Ii qO]; exact h.coarse
theorem FX.Ab (h:FX z all) (i:(Ab z to).2=0):FX (Ab z to).1 all:=by
 have a:=(RG i).1
 obtain ⟨d,g,j,F,x,e⟩:=HC i
 rw [e] at a ⊢
 obtain ⟨⟨E,u,v,D⟩,⟨B,q,C,m,s⟩,t,c,r,o,b⟩:=d.rng
 obtain ⟨p,w,A,n⟩:=CS d g j
 obtain ⟨f,l,y⟩:=Cr d g j
 have k:yp z to=Roll.up (Roll.inT all z.zN (zG z to)) 1:=by
  unfold yp
  rw [Roll.Gz h.Dg q p s,<-h.AD]
  congr 1
  rw [h.raw,Roll.Px u]
 refine ⟨a,h.Dg,h.Bh,h.raw,k,?_⟩
 show vX z to=Roll.up (Roll.inT all z.zJ (zE z to)) 2
 unfold vX
 rw [k,Roll.up_bIn h.Dg m n qO qO v f l,Roll.PY h.Dg qO qO,Roll.GM h.Dg c f b,<-h.coarse]
theorem Ro {l:List AA} {f g:Int} (h:f<=g):Bn (Bn l f) g=Bn l g:=by
 unfold Bn
 rw [List.filter_filter]
 exact List.filter_congr fun x _=>by
  rw [Bool.eq_iff_iff]; simp; omega
theorem FX.forget (h:FX z all) (g:(forget z AG to).2=0):FX (forget z AG to).1 all:=by
 have a:=(Ob g).1
 obtain ⟨b,r,t,k,e⟩:=Gx g
 rw [e] at a ⊢
 obtain ⟨⟨v,x,y,u⟩,⟨q,w,s,j,n⟩,o,l,m,c,d⟩:=b.rng
 have p:=QY (to:=to) b; have i:=Mi (to:=to) b; have f:=Jd (to:=to) b
 refine ⟨a,h.Dg,h.Bh,?_,?_,?_⟩
 all_goals
  unfold Hl
  rcases k with rfl | rfl | rfl
 ·show Bn z.raw (Fz z to)=Bn all (Fz z to)
  rw [h.raw,Ro p.1]
 ·exact h.raw
 ·exact h.raw
 ·exact h.AD
 ·show Aw z.AD (Bb z to)=Roll.up (Roll.inT all (Bb z to) z.zG) 1
  rw [h.AD,Roll.up_from h.Dg j n i.2.2 i.1 qO]
 ·exact h.AD
 ·exact h.coarse
 ·exact h.coarse
 ·show Aw z.coarse (Aj z to)=Roll.up (Roll.inT all (Aj z to) z.zE) 2
  rw [h.coarse,Roll.Wu h.Dg c d f.2.2 f.1 f.2.1]
end
def res (z:Shelf) (a:Oj):Shelf × Int:=if a.kind=0 then append z a.zW else if a.kind=1 then Ab z a.to else if a.kind=2 then forget z a.AG a.to else (z,1)
def step (p:Shelf × List AA) (a:Oj):Shelf × List AA:=if (res p.1 a).2≠0 then p else ((res p.1 a).1,if a.kind=0 then p.2++[a.zW] else p.2)
def start:Shelf:=⟨[⟨⟨#[97]⟩,⟨#[98]⟩⟩],[],[],[],0,0,0,0,0⟩
def GQ (l:List Oj):Shelf × List AA:=l.foldl step (start,[])
section
variable {p:Shelf × List AA} {a:Oj}
theorem Oq (h:a.kind=0) (b:(append p.1 a.zW).2≠0):step p a=p:=by rw [step,res,zP h,zP b]
theorem XB (h:a.kind=0) (b:¬ (append p.1 a.zW).2≠0):step p a=((append p.1 a.zW).1,p.2++[a.zW]):=by rw [step,res,zP h,zI b,zP h]
theorem OF (h:¬ a.kind=0) (b:a.kind=1) (c:(Ab p.1 a.to).2≠0):step p a=p:=by rw [step,res,zI h,zP b,zP c]
theorem Us (h:¬ a.kind=0) (b:a.kind=1) (c:¬ (Ab p.1 a.to).2≠0):step p a=((Ab p.1 a.to).1,p.2):=by rw [step,res,zI h,zP b,zI c,zI h]
theorem LG (h:¬ a.kind=0) (c:¬ a.kind=1) (b:a.kind=2) (d:(forget p.1 a.AG a.to).2≠0):step p a=p:=by rw [step,res,zI h,zI c,zP b,zP d]
theorem PI (h:¬ a.kind=0) (c:¬ a.kind=1) (b:a.kind=2) (d:¬ (forget p.1 a.AG a.to).2≠0):step p a=((forget p.1 a.AG a.to).1,p.2):=by rw [step,res,zI h,zI c,zP b,zI d,zI h]
theorem Up (h:¬ a.kind=0) (c:¬ a.kind=1) (b:¬ a.kind=2):step p a=p:=by rw [step,res,zI h,zI c,zI b,zP (show (1:Int)≠0 by decide)]
theorem FX.step (h:FX p.1 p.2) (a:Oj):FX (step p a).1 (step p a).2:=by
 by_cases c:a.kind=0;by_cases b:(Sh.append p.1 a.zW).2≠0;rw [Oq c b]; exact h;rw [XB c b]; exact h.append (ym.1 b);by_cases d:a.kind=1;by_cases b:(Sh.Ab p.1 a.to).2≠0;rw [OF c d b]; exact h;rw [Us c d b]; exact h.Ab (ym.1 b);by_cases e:a.kind=2;by_cases b:(Sh.forget p.1 a.AG a.to).2≠0;rw [LG c d e b]; exact h;rw [PI c d e b]; exact h.forget (ym.1 b);rw [Up c d e]; exact h
end
theorem XF (s:List Label) (h:zF.AE s=0):FX ⟨s,[],[],[],0,0,0,0,0⟩ [] :=
 ⟨Mw h ⟨qS,qS,qS⟩ ⟨qS,qS⟩ ⟨qS,qS⟩ qS qS (Fl.2 (by simp only; omega)) qS,⟨qS,qS⟩,qS,rfl,rfl,rfl⟩
end Sh
end
section
namespace Sh
def EF (z:Shelf) (t:Int):Int:=if t=1 then z.zN else if t=2 then z.zJ else z.zS
def GV (z:Shelf) (t:Int):Int:=if t=1 then z.zG else if t=2 then z.zE else 1000001
def stepOf (t:Int):Int:=mx (Roll.step t) 1
def may (z:Shelf) (p:Part):Prop:=¬ (p.AG < 0∨2 < p.AG∨p.to<=p.frm)∧EF z p.AG<=p.frm∧p.to<=GV z p.AG∧Int.tmod p.frm (stepOf p.AG)=0∧Int.tmod p.to (stepOf p.AG)=0
instance (z:Shelf) (p:Part):Decidable (may z p):=by unfold may; infer_instance
theorem KW (t:Int):stepOf t≠0:=by unfold stepOf mx Roll.step; (repeat' split) <;> omega
section
variable {z:Shelf} {p:Part}
theorem may0 (h:¬ p.to<=p.frm) (a:p.AG=0):may z p↔z.zS<=p.frm∧p.to<=1000001:=by
 unfold may EF GV;rw [show stepOf p.AG=1 by rw [a]; rfl,Int.tmod_one,Int.tmod_one,a];simp; omega
theorem may1 (h:¬ p.to<=p.frm) (a:p.AG=1):may z p↔z.zN<=p.frm∧p.to<=z.zG∧Int.tmod p.frm 10=0∧Int.tmod p.to 10=0:=by
 unfold may EF GV;rw [show stepOf p.AG=10 by rw [a]; rfl,a];simp; omega
theorem may2 (h:¬ p.to<=p.frm) (a:p.AG=2):may z p↔z.zJ<=p.frm∧p.to<=z.zE∧Int.tmod p.frm 60=0∧Int.tmod p.to 60=0:=by
 unfold may EF GV;rw [show stepOf p.AG=60 by rw [a]; rfl,a];simp; omega
theorem VC (c:¬ p.AG=0) (a:¬ p.AG=1) (b:¬ p.AG=2):¬ may z p:=fun h=>h.1 qO
theorem GN (h:may z p):p.frm < p.to:=by have:=h.1; omega
theorem IN (h:may z p):p.AG=0∨p.AG=1∨p.AG=2:=by have:=h.1; omega
theorem may_rng (a:OK z) (h:may z p):0<=p.frm∧p.frm < p.to∧p.to<=1000001:=by
 have b:=GN h;have c:=a.rng;rcases IN h with e | e | e
 rw [may0 qO e] at h; omega;rw [may1 qO e] at h; omega;rw [may2 qO e] at h; omega
end
def CU (z:Shelf):List Part->Int->Int->Bool
  | [],f,t=>decide (f=t)
  | p::r,f,t=>decide (p.frm=f) && decide (may z p) && CU z r p.to t
def pick (z:Shelf) (f t:Int):Part :=
  if f + Roll.step 2<=t∧may z ⟨2,f,f + Roll.step 2⟩ then ⟨2,f,f + Roll.step 2⟩
  else if f + Roll.step 1<=t∧may z ⟨1,f,f + Roll.step 1⟩ then ⟨1,f,f + Roll.step 1⟩
  else if mn (f - f % 10 + 10) t<=t∧may z ⟨0,f,mn (f - f % 10 + 10) t⟩ then ⟨0,f,mn (f - f % 10 + 10) t⟩
  else ⟨-1,0,0⟩
section
variable {z:Shelf} {f t:Int}
theorem Du (a:f + Roll.step 2<=t) (b:may z ⟨2,f,f + Roll.step 2⟩):pick z f t=⟨2,f,f + Roll.step 2⟩:=by rw [pick,zP ⟨a,b⟩]
theorem Dl (n:¬ (f + Roll.step 2<=t∧may z ⟨2,f,f + Roll.step 2⟩)) (a:f + Roll.step 1<=t) (b:may z ⟨1,f,f + Roll.step 1⟩):pick z f t=⟨1,f,f + Roll.step 1⟩:=by rw [pick,zI n,zP ⟨a,b⟩]
theorem Dj (n:¬ (f + Roll.step 2<=t∧may z ⟨2,f,f + Roll.step 2⟩)) (m:¬ (f + Roll.step 1<=t∧may z ⟨1,f,f + Roll.step 1⟩)) (a:mn (f - f % 10 + 10) t<=t) (b:may z ⟨0,f,mn (f - f % 10 + 10) t⟩):pick z f t=⟨0,f,mn (f - f % 10 + 10) t⟩:=by rw [pick,zI n,zI m,zP ⟨a,b⟩]
theorem Nn (n:¬ (f + Roll.step 2<=t∧may z ⟨2,f,f + Roll.step 2⟩)) (m:¬ (f + Roll.step 1<=t∧may z ⟨1,f,f + Roll.step 1⟩)) (q:¬ (mn (f - f % 10 + 10) t<=t∧may z ⟨0,f,mn (f - f % 10 + 10) t⟩)):pick z f t=⟨-1,0,0⟩:=by rw [pick,zI n,zI m,zI q]
theorem Om (h:¬ (pick z f t).AG < 0):may z (pick z f t)∧(pick z f t).frm=f∧(pick z f t).to<=t:=by
 by_cases a:f + Roll.step 2<=t∧may z ⟨2,f,f + Roll.step 2⟩;rw [Du a.1 a.2]; exact ⟨a.2,rfl,a.1⟩;by_cases b:f + Roll.step 1<=t∧may z ⟨1,f,f + Roll.step 1⟩;rw [Dl a b.1 b.2]; exact ⟨b.2,rfl,b.1⟩;by_cases c:mn (f - f % 10 + 10) t<=t∧may z ⟨0,f,mn (f - f % 10 + 10) t⟩;rw [Dj a b c.1 c.2]; exact ⟨c.2,rfl,c.1⟩;rw [Nn a b c] at h; exact absurd qD h
theorem Ae (h:¬ (pick z f t).AG < 0):f < (pick z f t).to∧(pick z f t).to<=t:=by
 obtain ⟨a,c,b⟩:=Om h;have:=GN a; omega
end
def push (out:List Part) (p:Part):List Part:=match out.getLast? with
  | some q=>if q.AG=p.AG then out.set (out.length - 1) ⟨q.AG,q.frm,p.to⟩ else out++[p]
  | none=>out++[p]
theorem Dy {out:List Part} {q p:Part} (h:out[out.length - 1]?=some q) (he:q.AG=p.AG):push out p=out.set (out.length - 1) ⟨q.AG,q.frm,p.to⟩:=by
 unfold push; rw [List.getLast?_eq_getElem?,h]; simp only; rw [zP he]
theorem Eu {out:List Part} {q p:Part} (h:out[out.length - 1]?=some q) (he:¬ q.AG=p.AG):push out p=out++[p]:=by
 unfold push; rw [List.getLast?_eq_getElem?,h]; simp only; rw [zI he]
theorem Fs {out:List Part} {p:Part} (h:out.length=0):push out p=out++[p]:=by
 have:out=[]:=jb h;subst this; rfl
theorem BY (out:List Part) (p:Part):(push out p).length<=out.length + 1:=by
 unfold push; split;split <;> simp;simp
def Co (z:Shelf) (t:Int):Nat->Int->List Part->Option (List Part)
  | 0,f,out=>if f < t then none else some out
  | n + 1,f,out=>if f < t then (if (pick z f t).AG < 0 then none else Co z t n (pick z f t).to (push out (pick z f t))) else some out
section
variable {z:Shelf} {t:Int}
theorem Gq:∀ (n m:Nat) (f:Int) (out:List Part),(t - f).toNat<=n->(t - f).toNat<=m->Co z t n f out=Co z t m f out
 | 0,0,_,_,_,_=>rfl
 | 0, m + 1, f, out, h, _ => by
  have:¬ f < t:=qO
  rw [Co,Co,zI this,zI this]
 | n + 1,0, f, out, _, h => by
  have:¬ f < t:=qO
  rw [Co,Co,zI this,zI this]
 | n + 1, m + 1, f, out, h1, h2 => by
  rw [Co,Co]
  by_cases b:f < t
  ·rw [zP b,zP b]
   by_cases a:(pick z f t).AG < 0
   ·rw [zP a,zP a]
   ·rw [zI a,zI a]
    have:=Ae a
    exact Gq n m _ _ qO qO
  ·rw [zI b,zI b]
def Bi (z:Shelf) (f t:Int) (out:List Part):Option (List Part):=Co z t (t - f).toNat f out
theorem Ad {f:Int} {out:List Part} (b:f < t) (a:¬ (pick z f t).AG < 0):Bi z f t out=Bi z (pick z f t).to t (push out (pick z f t)):=by
 have d:=Ae a;obtain ⟨n,c⟩:∃ n,(t - f).toNat=n + 1:=⟨(t - f).toNat - 1,qO⟩;unfold Bi;rw [c,Co,zP b,zI a];exact Gq _ _ _ _ qO (vY _)
theorem Hy {f:Int} {out:List Part} (a:f < t) (b:(pick z f t).AG < 0):Bi z f t out=none:=by
 obtain ⟨n,c⟩:∃ n,(t - f).toNat=n + 1:=⟨(t - f).toNat - 1,qO⟩;unfold Bi;rw [c,Co,zP a,zP b]
theorem Jb {f:Int} {out:List Part} (a:¬ f < t):Bi z f t out=some out:=by
 have:(t - f).toNat=0:=qO;unfold Bi;rw [this,Co,zI a]
end
def choose (z:Shelf) (f t:Int):List Part × Int:=if AE z≠0 then ([],AE z) else if f < 0∨t < f∨1000000 < t then ([],3) else match Bi z f t [] with
  | none=>([],10)
  | some l=>(l,0)
section
variable {z:Shelf} {f t:Int}
theorem GF (h:AE z≠0):choose z f t=([],AE z):=by rw [choose,zP h]
theorem GA (h:¬ AE z≠0) (a:f < 0∨t < f∨1000000 < t):choose z f t=([],3):=by rw [choose,zI h,zP a]
theorem Js (h:¬ AE z≠0) (a:¬ (f < 0∨t < f∨1000000 < t)) {g:Int} {out:List Part} (e:Bi z f t []=Bi z g t out) (b:g < t) (c:(pick z g t).AG < 0):choose z f t=([],10):=by
 rw [choose,zI h,zI a,e,Hy b c]
theorem Ka (h:¬ AE z≠0) (a:¬ (f < 0∨t < f∨1000000 < t)) {g:Int} {out:List Part} (e:Bi z f t []=Bi z g t out) (b:¬ g < t):choose z f t=(out,0):=by
 rw [choose,zI h,zI a,e,Jb b]
theorem Jy (h:(choose z f t).2=0):OK z∧0<=f∧f<=t∧t<=1000000∧Bi z f t []=some (choose z f t).1:=by
 by_cases a:AE z≠0
 ·rw [GF a] at h; exact absurd h a
 by_cases b:f < 0∨t < f∨1000000 < t
 ·rw [GA a b] at h; exact absurd h qD
 refine ⟨BD a,qO,qO,qO,?_⟩
 rw [choose,zI a,zI b] at h ⊢
 cases hc:Bi z f t [] with
 | none=>rw [hc] at h; exact absurd h qS
 | some l=>rfl
theorem QX (h:(choose z f t).2≠0):(choose z f t).1=[]:=by
 unfold choose at h ⊢;split;rfl;split;rfl;rename_i b c;rw [zI b,zI c] at h;split;rfl;rename_i l a; rw [a] at h; simp at h
end
def Bv (z:Shelf) (p:Part):Sum:=if p.AG=1 then Roll.of z.AD p.frm p.to else if p.AG=2 then Roll.of z.coarse p.frm p.to else Agg.of (Roll.inT z.raw p.frm p.to)
def BV (z:Shelf) (p:Part):Int:=if p.AG=1 then (bIn z.AD p.frm p.to).length else if p.AG=2 then (bIn z.coarse p.frm p.to).length else (Roll.inT z.raw p.frm p.to).length
def apart (prev:Option Part) (p:Part):Bool:=match prev with
  | none=>false
  | some q=>decide (q.to≠p.frm)
def DB (z:Shelf):Option Part->List Part->Sum->Int->Sum × Int × Int
  | _,[],s,c=>(s,c,0)
  | prev,p::r,s,c=>if ¬ may z p∨apart prev p=true then (Sum.zero,0,8) else DB z (some p) r (Agg.join s (Bv z p)) (c + BV z p)
def read (z:Shelf) (l:List Part):Sum × Int × Int:=if AE z≠0 then (Sum.zero,0,AE z) else DB z none l Sum.zero 0
def Df (l:List Part) (k:Nat):Option Part:=if k=0 then none else l[k - 1]?
section
variable {z:Shelf} {l:List Part} {k:Nat} {p q:Part} {s:Sum} {c:Int}
theorem Md (h:l[k]?=some p):DB z (Df l k) (l.drop k) s c=if ¬ may z p∨apart (Df l k) p=true then (Sum.zero,0,8) else DB z (Df l (k + 1)) (l.drop (k + 1)) (Agg.join s (Bv z p)) (c + BV z p):=by
 obtain ⟨a,rfl⟩:=yb.1 h;rw [uI a,DB];have:Df l (k + 1)=some l[k]:=by rw [Df,zI qO]; simp
 rw [this]
theorem WW (h:l.length<=k) {o:Option Part}:DB z o (l.drop k) s c=(s,c,0):=by rw [vw h,DB]
theorem GL (h:k=0):¬ (apart (Df l k) p=true):=by rw [Df,zP h]; simp [apart]
theorem Ec (h:¬ k=0) (a:l[k - 1]?=some q):(apart (Df l k) p=true)↔q.to≠p.frm:=by rw [Df,zI h,a]; simp [apart]
end
theorem CO {z:Shelf} (h:OK z) (p:Part):0<=BV z p∧BV z p<=500:=by
 have a:=h.lens;have b:=DT z.AD p.frm p.to;have c:=DT z.coarse p.frm p.to;have d:=Roll.Ca z.raw p.frm p.to;unfold BV;split;omega;split <;> omega
end Sh
namespace Sh
def Dd (u:Sum) (n:Int):Prop:=0<=u.count∧u.count<=n∧(u.count=0->u=Sum.zero)
theorem CE:Dd Sum.zero 0:=⟨Int.le_refl _,Int.le_refl _,fun _=>rfl⟩
theorem Dd.mono {u:Sum} {n m:Int} (h:Dd u n) (a:n<=m):Dd u m:=⟨h.1,Int.le_trans h.2.1 a,h.2.2⟩
theorem Uu {u:Sum} {n:Int} (h:Dd u n):Agg.join u Sum.zero=u:=by
 show Agg.join u ⟨0,0,0,0,0,0,0⟩=u
 rw [Agg.join_none];split;rename_i a; rw [h.2.2 a]; rfl;rfl
theorem Dd.join {u x:Sum} {n m:Int} (h:Dd u n) (a:Dd x m) (i:n + m<=9223372036854775807):Dd (Agg.join u x) (n + m):=by
 have c:=h.1; have j:=h.2.1; have e:=a.1; have g:=a.2.1;have k:=Agg.Dt c e qO;refine ⟨qO,qO,fun f=>?_⟩;have d:u=Sum.zero:=h.2.2 qO;have b:x=Sum.zero:=a.2.2 qO;rw [d,b]; rfl
theorem Ut {α:Type} {s:α->Sum} (m:Int) (f:0<=m):∀ (l:List α),m * l.length<=9223372036854775807->(∀ x ∈ l,1<=(s x).count∧(s x).count<=m)->Dd (Roll.FZ s l) (m * l.length):=by
 intro l
 induction l using List.AY with
 | nil =>
  intro _ _
  rw [show m * (([]:List α).length:Int)=0 by simp]
  exact CE
 | snoc l x ih =>
  intro b h
  have e:m * ((l++[x]).length:Int)=m * l.length + m:=by
   rw [uF]; push_cast; rw [Int.mul_add]; simp
  rw [e] at b ⊢
  have c:=h x qS
  rw [Roll.Cm]
  exact (ih qO fun y a=>h y (by simp [a])).join ⟨qO,c.2,fun d=>by omega⟩ qO
def FQ (l:List AA):List AB:=l.map fun x=>⟨x.time,Agg.of [x]⟩
theorem Uq {l:List AA} {k:Nat} {x:AA} (h:l[k]?=some x):FQ (l.take (k + 1))=FQ (l.take k)++[⟨x.time,Agg.of [x]⟩]:=by
 unfold FQ; rw [vE,h,yi]; rfl
theorem Lx (l:List AA):(FQ l).length=l.length:=by simp [FQ]
theorem Qi (l:List AA) (a b:Int):bIn (FQ l) a b=FQ (Roll.inT l a b):=by
 unfold bIn FQ Roll.inT;rw [List.filter_map]; rfl
theorem Tx (l:List AA):Roll.FZ AB.sum (FQ l)=Agg.of l:=by
 induction l using List.AY with
 | nil=>rfl
 | snoc l x ih =>
  have:FQ (l++[x])=FQ l++[⟨x.time,Agg.of [x]⟩]:=by simp [FQ]
  rw [this,Roll.Cm,ih,Agg.EY,Agg.Nz]
theorem rawB_of (l:List AA) (a b:Int):Roll.of (FQ l) a b=Agg.of (Roll.inT l a b):=by
 rw [Roll.JV,<-Roll.NW,Qi,Tx]
def Bm (z:Shelf) (p:Part):List AB:=if p.AG=2 then z.coarse else if p.AG=0 then FQ z.raw else z.AD
theorem Hh {z:Shelf} {p:Part} (h:may z p):Roll.of (Bm z p) p.frm p.to=Bv z p:=by
 unfold Bm Bv;rcases IN h with e | e | e
 rw [zI qO,zP e,zI qO,zI qO,rawB_of];rw [zI qO,zI qO,zP e];rw [zP e,zI qO,zP e]
theorem Kp {z:Shelf} {p:Part} (h:may z p):((bIn (Bm z p) p.frm p.to).length:Int)=BV z p:=by
 unfold Bm BV;rcases IN h with e | e | e
 rw [zI qO,zP e,zI qO,zI qO,Qi,Lx];rw [zI qO,zI qO,zP e];rw [zP e,zI qO,zP e]
theorem Ik {z:Shelf} (h:OK z) (p:Part):(Bm z p).length<=500∧∀ x ∈ Bm z p,1<=x.sum.count∧x.sum.count<=60:=by
 have b:=h.lens
 have d:=h.HN; have c:=h.Mq
 unfold Bm
 split
 ·exact ⟨b.2.2.2,fun x a=>by have:=d.ok x a; omega⟩
 ·split
  ·exact ⟨by rw [Lx]; exact b.2.1, fun x a => by
    obtain ⟨y,e,rfl⟩:=yr.1 a
    simp [Agg.Nz,Agg.one]⟩
  ·exact ⟨b.2.2.1,fun x a=>by have:=c.ok x a; omega⟩
theorem Tr {l:List AB} (d:l.length<=500) (h:∀ x ∈ l,1<=x.sum.count∧x.sum.count<=60) (k:Nat) (a b:Int):Dd (Roll.of (l.take k) a b) 30000:=by
 rw [Roll.JV];have e:(Roll.win AB.at_ (l.take k) a b).length<=l.length:=vN (List.length_filter_le ..) (List.length_take_le' k l);refine (Ut (s:=AB.sum) 60 qD _ qO fun x c=>h x (List.mem_of_mem_take (Roll.Cs.1 c).1)).mono qO
theorem of_next {l:List AB} {u:Sum} {n:Int} (d:Dd u n) (i:n<=1000000000000) (f:l.length<=500) (h:∀ x ∈ l,1<=x.sum.count∧x.sum.count<=60) {k:Nat} {x:AB} (e:l[k]?=some x) (a b:Int) :
  Agg.join u (Roll.of (l.take (k + 1)) a b)=if a<=x.at_∧x.at_ < b then Agg.join (Agg.join u (Roll.of (l.take k) a b)) x.sum else Agg.join u (Roll.of (l.take k) a b):=by
 rw [Roll.of_succ l a b k x e]
 have c:=Tr f h k a b
 have g:=h x (vQ e)
 split
 ·rw [<-Agg.join_assoc d.1 c.1 qO (by have:=d.2.1; have:=c.2.1; omega)]
 ·rfl
theorem CR {z:Shelf} (c:OK z) {p:Part} (h:may z p):Dd (Bv z p) 30000:=by
 obtain ⟨a,b⟩:=Ik c p
 have:=Tr a b (Bm z p).length p.frm p.to
 rwa [List.take_length,Hh h] at this
theorem Ix {z:Shelf} {p:Part} (h:p.AG=1):Bv z p=Roll.of z.AD p.frm p.to∧BV z p=(bIn z.AD p.frm p.to).length:=by unfold Bv BV; rw [zP h,zP h]; exact ⟨rfl,rfl⟩
theorem JU {z:Shelf} {p:Part} (a:¬ p.AG=1) (h:p.AG=2):Bv z p=Roll.of z.coarse p.frm p.to∧BV z p=(bIn z.coarse p.frm p.to).length:=by unfold Bv BV; rw [zI a,zI a,zP h,zP h]; exact ⟨rfl,rfl⟩
theorem JE {z:Shelf} {p:Part} (a:¬ p.AG=1) (h:¬ p.AG=2):Bv z p=Agg.of (Roll.inT z.raw p.frm p.to)∧BV z p=(Roll.inT z.raw p.frm p.to).length:=by unfold Bv BV; rw [zI a,zI a,zI h,zI h]; exact ⟨rfl,rfl⟩
section
variable {z:Shelf} {l:List Part} {k:Nat} {p:Part} {u:Sum} {c:Int}
theorem FA (h:AE z≠0):read z l=(Sum.zero,0,AE z):=by rw [read,zP h]
theorem IK (h:¬ AE z≠0) (e:DB z none l Sum.zero 0=DB z (Df l k) (l.drop k) u c) (b:l[k]?=some p) (a:¬ may z p∨apart (Df l k) p=true):read z l=(Sum.zero,0,8):=by
 rw [read,zI h,e,Md b,zP a]
theorem TU (h:¬ AE z≠0) (e:DB z none l Sum.zero 0=DB z (Df l k) (l.drop k) u c) (a:l.length<=k):read z l=(u,c,0):=by
 rw [read,zI h,e,WW a]
theorem Dk (e:DB z none l Sum.zero 0=DB z (Df l k) (l.drop k) u c) (a:l[k]?=some p) (f:may z p) (b:¬ (apart (Df l k) p=true)) {x:Sum} {n:Int} (h:Bv z p=x) (d:BV z p=n):DB z none l Sum.zero 0=DB z (Df l (k + 1)) (l.drop (k + 1)) (Agg.join u x) (c + n):=by
 rw [e,Md a,zI (fun g=>g.elim (fun g=>g f) b),h,d]
end
theorem DJ {l:List AA} {a b:Int} {k:Nat} {x:AA} (h:l[k]?=some x):Agg.of (Roll.inT (l.take (k + 1)) a b)=if a<=x.time∧x.time < b then Agg.join (Agg.of (Roll.inT (l.take k) a b)) (Agg.one x.value) else Agg.of (Roll.inT (l.take k) a b):=by
 rw [Roll.CG h]; split;rw [Agg.EY];rfl
theorem Hj (g t:Int):mn t (g / 10 * 10 + 10)=mn (g - g % 10 + 10) t:=by unfold mn; (repeat' split) <;> omega
theorem NN (a t:Int):mn a t<=t:=by unfold mn; split <;> omega
end Sh
end
section
namespace Roll
theorem VY {b:List AB} {n:Int} (h:Cf b n) (e:n<=1000000000):(FZ AB.sum b).count=n∧0<=n:=by
 induction b using List.AY generalizing n with
 | nil=>obtain ⟨_,rfl⟩:=h; exact ⟨rfl,by simp [tot]⟩
 | snoc b x ih =>
  have c:=h.pos x qS
  obtain ⟨a,d⟩:=ih h.init qO
  rw [Cm,Agg.Dt qO qO qO,a]
  omega
theorem QS (st:Int):∀ (l:List AA),l.length<=1048576->FZ AB.sum (ups l st)=Agg.of l:=by
 intro l
 induction l using List.AY with
 | nil=>intro _; rfl
 | snoc l x c =>
  intro g
  have a:(l++[x]).length=l.length + 1:=qS
  rw [a] at g
  have c:=c qO
  have d:=LQ l st qO
  rw [ID,Agg.EY,<-c]
  rcases HP (ups l st) x.time st (Agg.one x.value) with e | ⟨m,b,f,j,e⟩
  ·rw [e,Cm]
  ·rw [e,f,Cm,Cm]
   rw [f] at d
   have i:=d.pos b qS
   obtain ⟨h,k⟩:=VY d.init qO
   exact Agg.join_assoc qO qO (by simp [Agg.one]) (by simp [Agg.one]; omega)
section
variable {l:List AA} {a b c d:Int}
theorem up2_bIn (e:Bx AA.time l) (k:a % 60=0) (j:b % 60=0) (g:c % 60=0) (f:d % 60=0) (h:a<=c) (m:c<=d) (i:d<=b):Sh.bIn (up (inT l a b) 2) c d=up (inT l c d) 2:=by
 rw [GM e h (by omega:c<=b) g,GM e m i f,GR,GR,
  (Gl e k g).IW (.inl (Int.le_refl _)),(Gl e g f).Td (Int.le_refl _) (Int.le_refl _),(Gl e f j).IW (.inr (Int.le_refl _)),List.nil_append,uc]
end
end Roll
namespace Sh
theorem Cj {z:Shelf} {p:Part}:∀ (l:List Part) (f t:Int),CU z (l++[p]) f t=true↔CU z l f p.frm=true∧may z p∧p.to=t
 | [], f, t => by
  simp only [List.nil_append,CU,Bool.and_eq_true,decide_eq_true_eq,and_assoc]
  exact ⟨fun ⟨h1,h2,h3⟩=>⟨h1.symm,h2,h3⟩,fun ⟨h1,h2,h3⟩=>⟨h1.symm,h2,h3⟩⟩
 | q :: l, f, t => by
  simp only [List.cons_append,CU,Bool.and_eq_true,decide_eq_true_eq,and_assoc]
  rw [Cj l q.to t]
theorem GI {z:Shelf} {f t:Int}:CU z [] f t=true↔f=t:=by simp [CU]
theorem UR {z:Shelf}:∀ (l:List Part) (f t:Int),CU z l f t=true->f<=t:=by
 intro l
 induction l using List.AY with
 | nil=>intro f t h; rw [GI] at h; omega
 | snoc l p ih =>
  intro f t h
  obtain ⟨a,b,c⟩:=(Cj l f t).1 h
  have:=ih f p.frm a; have:=GN b; omega
def Kb (z:Shelf) (l:List Part):Int:=l.foldl (fun c p=>c + BV z p) 0
theorem Rf (z:Shelf) (l:List Part) (p:Part):Kb z (l++[p])=Kb z l + BV z p:=by simp [Kb]
theorem Mu {z:Shelf}:∀ (l:List Part) (b:Option Part) (f t:Int) (s:Sum) (c:Int),CU z l f t=true->(∀ q,b=some q->q.to=f)->DB z b l s c=(l.foldl (fun a p=>Agg.join a (Bv z p)) s,l.foldl (fun c p=>c + BV z p) c,0)
 | [],_,_,_,_,_,_,_=>rfl
 | p :: l, b, f, t, s, c, h, hq => by
  simp only [CU,Bool.and_eq_true,decide_eq_true_eq,and_assoc] at h
  obtain ⟨h1,h2,h3⟩:=h
  have d:¬ (¬ may z p∨apart b p=true):=by
   rintro (g | g)
   ·exact g h2
   ·cases b with
    | none=>simp [apart] at g
    | some q=>have:=hq q rfl; simp [apart] at g; omega
  rw [DB,zI d,Mu l (some p) p.to t _ _ h3 (by rintro q ⟨⟩; rfl)]
  rfl
theorem XE {z:Shelf} (a:OK z) {l:List Part} {f t:Int} (h:CU z l f t=true):read z l=(Roll.FZ (Bv z) l,Kb z l,0):=by
 rw [read,zI (by simp [a.AE]),Mu l none f t _ _ h qS];rfl
def Alt (l:List Part):Prop:=∀ (i:Nat) (p q:Part),l[i]?=some p->l[i + 1]?=some q->p.AG≠q.AG
theorem HD {a m:Int} (b:0<=a):Int.tmod a m=a % m:=by grind
theorem Vl {z:Shelf} {q p:Part} (a:may z q) (b:may z p) (c:q.AG=p.AG) (he:q.to=p.frm):may z ⟨q.AG,q.frm,p.to⟩:=by
 have k:=GN a; have m:=GN b;obtain ⟨n,f,i,d,h⟩:=a;obtain ⟨l,o,g,j,e⟩:=b;refine ⟨by simp only; omega,f,?_,d,?_⟩;show p.to<=GV z q.AG; rw [c]; exact g
 show Int.tmod p.to (stepOf q.AG)=0; rw [c]; exact e
theorem Wk {z:Shelf} {out:List Part} {p:Part} {f:Int} (h:CU z out f p.frm=true) (n:Alt out) (m:may z p):CU z (push out p) f p.to=true∧Alt (push out p):=by
 rcases List.eq_nil_or_concat out with rfl | ⟨l,q,rfl⟩
 ·have:push [] p=[]++[p]:=rfl
  rw [this]
  exact ⟨(Cj [] f p.to).2 ⟨h,m,rfl⟩,fun i a b d c=>by
   match i,d,c with
   | 0,_,c=>simp at c
   | i + 1,d,_=>simp at d⟩
 ·rw [List.concat_eq_append] at *
  obtain ⟨t,s,r⟩:=(Cj l f p.frm).1 h
  have o:(l++[q])[(l++[q]).length - 1]?=some q:=qS
  by_cases k:q.AG=p.AG
  ·rw [Dy o k]
   have e:(l++[q]).set ((l++[q]).length - 1) ⟨q.AG,q.frm,p.to⟩=l++[⟨q.AG,q.frm,p.to⟩]:=qS
   rw [e]
   refine ⟨(Cj (p:=⟨q.AG,q.frm,p.to⟩) l f p.to).2 ⟨t,Vl s m k r,rfl⟩,fun i a b d c=>?_⟩
   have hi:i + 1 < l.length + 1:=by have:=(yb.1 c).1; simpa using this
   rw [uX qO] at d
   rcases Nat.lt_or_ge (i + 1) l.length with g | g
   ·rw [uX g] at c
    exact n i a b (by rw [uX qO]; exact d) (by rw [uX g]; exact c)
   ·have j:i + 1=l.length:=qO
    rw [jU g,j] at c
    obtain rfl:_=b:=by simpa using c
    exact n i a q (by rw [uX qO]; exact d) (by rw [j]; simp)
  ·rw [Eu o k]
   refine ⟨(Cj (l++[q]) f p.to).2 ⟨h,m,rfl⟩,fun i a b d c=>?_⟩
   have hi:i + 1 < l.length + 1 + 1:=by have:=(yb.1 c).1; simpa using this
   rw [uX (by simp; omega)] at d
   rcases Nat.lt_or_ge (i + 1) (l++[q]).length with g | g
   ·rw [uX g] at c
    exact n i a b d c
   ·simp at g
    have j:i=l.length:=qO
    subst j
    rw [jU qS] at c
    obtain rfl:p=b:=by simpa using c
    obtain rfl:q=a:=by simpa using d
    exact k
theorem Ja {z:Shelf} {t:Int}:∀ (n:Nat) (f g:Int) (out l:List Part),(t - g).toNat<=n->g<=t->CU z out f g=true->Alt out->Bi z g t out=some l->CU z l f t=true∧Alt l
 | n, f, g, out, l, hn, hg, hc, ha, h => by
  by_cases c:g < t
  ·by_cases hp:(pick z g t).AG < 0
   ·rw [Hy c hp] at h; cases h
   ·rw [Ad c hp] at h
    obtain ⟨m1,m2,m3⟩:=Om hp
    have a:=Ae hp
    obtain ⟨b,d⟩:=Wk (z:=z) (p:=pick z g t) (by rw [m2]; exact hc) ha m1
    match n,hn with
    | 0,hn=>omega
    | n + 1,hn=>exact Ja n f _ _ l qO a.2 b d h
  ·rw [Jb c] at h
   obtain rfl:out=l:=by simpa using h
   obtain rfl:g=t:=qO
   exact ⟨hc,ha⟩
section
variable {z:Shelf} {f t:Int}
theorem MC (h:(choose z f t).2=0):OK z∧CU z (choose z f t).1 f t=true∧Alt (choose z f t).1:=by
 obtain ⟨d,g,c,j,e⟩:=Jy h;obtain ⟨a,b⟩:=Ja _ f f [] _ (vY _) c (GI.2 rfl) (fun i p q h=>by simp at h) e;exact ⟨d,a,b⟩
theorem Kt:∀ (l:List Part) (f t:Int),CU z l f t=true->(l.length:Int)<=t - f
 | [],f,t,h=>by rw [GI] at h; simp; omega
 | p :: l, f, t, h => by
  simp only [CU,Bool.and_eq_true,decide_eq_true_eq,and_assoc] at h
  obtain ⟨h1,h2,h3⟩:=h
  have:=Kt l _ _ h3
  have:=GN h2
  simp only [gP]; push_cast; omega
theorem La (z:Shelf) (f t:Int):(choose z f t).1.length<=1048576:=by
 by_cases h:(choose z f t).2=0;obtain ⟨_,b,c,a,_⟩:=Jy h;have:=Kt _ _ _ (MC h).2.1;omega;rw [QX h]; simp
end
section
variable {z:Shelf} {all:List AA} {f t:Int} {p:Part}
theorem FX.part (h:FX z all) (a:may z p):Bv z p=Agg.of (Roll.inT all p.frm p.to)∧BV z p<=(Roll.inT all p.frm p.to).length:=by
 obtain ⟨⟨u,A,B,t⟩,⟨r,y,s,j,n⟩,o,l,m,d,f⟩:=h.ok.rng
 have w:=Roll.Fj h.Dg
 have q:=Roll.Ca all p.frm p.to
 obtain ⟨i,v,x⟩:=may_rng h.ok a
 have k:=GN a
 rcases IN a with e | e | e
 ·rw [may0 qO e] at a
  obtain ⟨c,b⟩:=JE (z:=z) (p:=p) qO qO
  rw [c,b,h.raw,Roll.Px a.1]
  exact ⟨rfl,Int.le_refl _⟩
 ·rw [may1 qO e,HD i,HD qO] at a
  obtain ⟨c,b⟩:=Ix (z:=z) (p:=p) e
  have g:bIn z.AD p.frm p.to=Roll.up (Roll.inT all p.frm p.to) 1:=by
   rw [h.AD,Roll.up_bIn h.Dg j n a.2.2.1 a.2.2.2 a.1 qO a.2.1]
  rw [c,b,Roll.JV,<-Roll.NW,g]
  refine ⟨Roll.QS 10 _ qO,?_⟩
  have:=Roll.JW (Roll.inT all p.frm p.to) 1
  omega
 ·rw [may2 qO e,HD i,HD qO] at a
  obtain ⟨c,b⟩:=JU (z:=z) (p:=p) qO e
  have g:bIn z.coarse p.frm p.to=Roll.up (Roll.inT all p.frm p.to) 2:=by
   rw [h.coarse,Roll.up2_bIn h.Dg d f a.2.2.1 a.2.2.2 a.1 qO a.2.1]
  rw [c,b,Roll.JV,<-Roll.NW,g]
  refine ⟨Roll.QS 60 _ qO,?_⟩
  have:=Roll.JW (Roll.inT all p.frm p.to) 2
  omega
theorem FX.covered (h:FX z all):∀ (l:List Part) (f t:Int),CU z l f t=true->Roll.FZ (Bv z) l=Agg.of (Roll.inT all f t)∧Kb z l<=(Roll.inT all f t).length:=by
 intro l
 induction l using List.AY with
 | nil =>
  intro f t a
  rw [GI] at a
  subst a
  have:Roll.inT all f f=[]:=Roll.Fc (Int.le_refl _)
  rw [this]; exact ⟨rfl,Int.le_refl _⟩
 | snoc l p ih =>
  intro f t a
  obtain ⟨c,d,k⟩:=(Cj l f t).1 a
  obtain ⟨g,r⟩:=ih f p.frm c
  obtain ⟨j,o⟩:=h.part d
  have b:=UR l _ _ c
  have i:=GN d
  have q:=Roll.Fj h.Dg
  have e:Roll.inT all f t=Roll.inT all f p.frm++Roll.inT all p.frm p.to:=by
   rw [<-k]; exact Roll.HA b qO h.Dg.inc
  have m:=Roll.Ca all f p.frm
  have n:=Roll.Ca all p.frm p.to
  rw [Roll.Cm,Rf,g,j,e]
  refine ⟨(Agg.Tw _ _ qO).symm,?_⟩
  rw [uF]; push_cast; omega
end
def Cn (s0:Shelf):Shelf->Int->List Int->Shelf × Bool
  | y,_,[]=>(y,true)
  | y,i,o::r=>if (forget y i o).2≠0 then (s0,false) else Cn s0 (forget y i o).1 (i + 1) r
end Sh
end
section
namespace Mn
open Ex
mutual
def nodes:Expr->Int
  | .mk _ _ _ _ _ _ ks=>1 + BW ks
def BW:List Expr->Int
  | []=>0
  | x::xs=>nodes x + BW xs
end
mutual
def CA:Expr->Prop
  | .mk k n r w ms bs ks=>(1<=k∧k<=4)∧(ks.length:Int)=Lg.arity k∧Lg.Cb k n r w ms bs=0∧Ba ks
def Ba:List Expr->Prop
  | []=>True
  | x::xs=>CA x∧Ba xs
end
mutual
def low (d:Int):Expr->Prop
  | .mk _ _ _ _ _ _ ks=>d<=20∧HY (d + 1) ks
def HY (d:Int):List Expr->Prop
  | []=>True
  | x::xs=>low d x∧HY d xs
end
mutual
theorem JB:∀ (e:Expr),1<=nodes e
  | .mk _ _ _ _ _ _ ks=>by rw [nodes]; have:=Ew ks; omega
theorem Ew:∀ (l:List Expr),0<=BW l
  | []=>by rw [BW]; omega
  | x::xs=>by rw [BW]; have:=JB x; have:=Ew xs; omega
end
mutual
theorem QR:∀ (e:Expr) (d c:Int),CA e->c + nodes e<=100->low d e->Lg.shape e d c=(0,c + nodes e)
  | .mk k n r w ms bs ks, d, c, hf, hn, hl => by
    rw [CA] at hf; rw [nodes] at hn ⊢; rw [low] at hl
    have h0:=Ew ks
    rw [Lg.shape,if_neg qO,if_neg qO,if_neg (by rw [hf.2.1]; simp),if_neg (by rw [hf.2.2.1]; simp),JF ks _ _ hf.2.2.2 qO hl.2]
    rw [Int.add_assoc]
theorem JF:∀ (l:List Expr) (d c:Int),Ba l->c + BW l<=100->HY d l->Lg.At l d c=(0,c + BW l)
  | [],d,c,_,_,_=>by rw [Lg.At,BW,Int.add_zero]
  | x :: xs, d, c, hf, hn, hl => by
    rw [Ba] at hf; rw [BW] at hn ⊢; rw [HY] at hl
    have h0:=Ew xs
    rw [Lg.At,QR x d c hf.1 qO hl.1,if_neg qS,JF xs d _ hf.2 qO hl.2,Int.add_assoc]
end
mutual
theorem IC:∀ (e:Expr) (d c:Int),(Lg.shape e d c).1=0->CA e∧(Lg.shape e d c).2=c + nodes e∧c + 1<=100∧low d e
  | .mk k n r w ms bs ks, d, c, h => by
    rw [Lg.shape] at h ⊢
    split at h
    · cases h
    rename_i a1
    split at h
    · cases h
    rename_i a2
    split at h
    · cases h
    rename_i a3
    split at h
    · rename_i h2; exact absurd h h2
    rename_i a4
    obtain ⟨h1,h2,h3⟩:=JN ks _ _ h
    rw [if_neg a1,if_neg a2,if_neg a3,if_neg a4,CA,nodes,low]
    exact ⟨⟨by omega,by omega,Classical.not_not.1 a4,h1⟩,by omega,by omega,by omega,h3⟩
theorem JN:∀ (l:List Expr) (d c:Int),(Lg.At l d c).1=0->Ba l∧(Lg.At l d c).2=c + BW l∧HY d l
  | [],d,c,_=>by rw [Lg.At,Ba,BW,HY]; simp
  | x :: xs, d, c, h => by
    rw [Lg.At] at h ⊢
    split at h
    · rename_i h2; exact absurd h h2
    rename_i h2
    have h2:=Classical.not_not.1 h2
    obtain ⟨a1,a2,_,a3⟩:=IC x d c h2
    obtain ⟨b1,b2,b3⟩:=JN xs d _ h
    rw [if_neg (by simpa using h2),Ba,BW,HY]
    exact ⟨⟨a1,b1⟩,by omega,a3,b3⟩
end
mutual
theorem shape_4:∀ (e:Expr) (d c:Int),CA e->(Lg.shape e d c).1=0∨(Lg.shape e d c).1=4
  | .mk k n r w ms bs ks, d, c, hf => by
    rw [CA] at hf
    rw [Lg.shape]
    split
    · exact .inr rfl
    rw [if_neg qO,if_neg (by rw [hf.2.1]; simp),if_neg (by rw [hf.2.2.1]; simp)]
    exact Li ks _ _ hf.2.2.2
theorem Li:∀ (l:List Expr) (d c:Int),Ba l->(Lg.At l d c).1=0∨(Lg.At l d c).1=4
  | [],d,c,_=>by rw [Lg.At]; exact .inl rfl
  | x :: xs, d, c, hf => by
    rw [Ba] at hf
    rw [Lg.At]
    split
    · exact shape_4 x d c hf.1
    · exact Li xs d _ hf.2
end
end Mn
end
section
theorem SL (a:ByteArray):a.size=a.data.toList.length:=by rfl
theorem toB {s:ByteArray} {l:List UInt8} (h:s.data.toList=l):s=⟨l.toArray⟩:=by subst h; cases s; simp
end
section
namespace Pz
open Ex
def rest (s:ByteArray) (i:Nat):List UInt8:=s.data.toList.drop i
def run (p:UInt8->Bool) (s:ByteArray) (i:Nat):Nat:=i + ((rest s i).takeWhile p).length
theorem Ht (s:ByteArray):s.data.toList.length=s.size:=by rfl
theorem HO {s:ByteArray} {i:Nat} {b:UInt8} (h:s[i]?=some b):rest s i=b::rest s (i + 1):=by
 obtain ⟨a,c⟩:=yb.1 (zF.Ng h);unfold rest; rw [uI a,c]
theorem Qk {s:ByteArray} {i:Nat} (h:s.size<=i):rest s i=[]:=by unfold rest; exact vw (by rw [Ht]; exact h)
theorem Iq {p:UInt8->Bool} {s:ByteArray} {i:Nat} {b:UInt8} (h:s[i]?=some b) (a:p b=true):run p s i=run p s (i + 1):=by
 unfold run; rw [HO h,List.takeWhile_cons_of_pos a,gP]; omega
theorem LX {p:UInt8->Bool} {s:ByteArray} {i:Nat} {b:UInt8} (h:s[i]?=some b) (a:p b=false):run p s i=i:=by
 unfold run; rw [HO h,List.takeWhile_cons_of_neg (by simp [a])]; rfl
theorem KR {p:UInt8->Bool} {s:ByteArray} {i:Nat} (h:s.size<=i):run p s i=i:=by
 unfold run; rw [Qk h]; rfl
theorem Ri (p:UInt8->Bool) {s:ByteArray} {i:Nat} (h:i<=s.size):i<=run p s i∧run p s i<=s.size:=by
 have a:=(List.takeWhile_prefix p (l:=rest s i)).length_le;unfold run;have b:(rest s i).length=s.size - i:=by unfold rest; rw [List.length_drop,Ht]
 omega
def spc (b:UInt8):Bool:=decide (b.toNat=32)
def low (b:UInt8):Bool:=decide (97<=b.toNat∧b.toNat<=122)
def dig (b:UInt8):Bool:=decide (48<=b.toNat∧b.toNat<=57)
def wch (b:UInt8):Bool:=decide ((97<=b.toNat∧b.toNat<=122)∨(48<=b.toNat∧b.toNat<=57)∨b.toNat=95)
def blank (s:ByteArray) (i:Nat):Nat:=run spc s i
theorem Lv {s:ByteArray} {i:Nat} {b:UInt8} (h:s[i]?=some b) (a:(b.toNat:Int)=32):blank s i=blank s (i + 1):=Iq h (by simp [spc]; omega)
theorem Kr {s:ByteArray} {i:Nat} {b:UInt8} (h:s[i]?=some b) (a:¬ (b.toNat:Int)=32):blank s i=i:=LX h (by simp [spc]; omega)
theorem Mg {s:ByteArray} {i:Nat} (h:s.size<=i):blank s i=i:=KR h
theorem Es {s:ByteArray} {i:Nat} (h:i<=s.size):i<=blank s i∧blank s i<=s.size:=Ri _ h
theorem LA {s:ByteArray} {i:Nat} {b:UInt8} (h:s[i]?=some b) (a:48<=(b.toNat:Int)∧(b.toNat:Int)<=57):run dig s i=run dig s (i + 1):=Iq h (by simp [dig]; omega)
theorem Hz {s:ByteArray} {i:Nat} {b:UInt8} (h:s[i]?=some b) (a:¬ (48<=(b.toNat:Int)∧(b.toNat:Int)<=57)):run dig s i=i:=LX h (by simp [dig]; omega)
def BX (s:ByteArray) (i:Nat):Nat:=match rest s i with
  | []=>i
  | b::_=>if low b=true then run wch s i else i
theorem Eb {s:ByteArray} {i k:Nat} {b:UInt8} (a:s[k]?=some b) (d:k=i∨(i < k∧BX s i=run wch s k)) (f:(97<=(b.toNat:Int)∧(b.toNat:Int)<=122)∨(k≠i∧((48<=(b.toNat:Int)∧(b.toNat:Int)<=57)∨(b.toNat:Int)=95))):BX s i=run wch s (k + 1):=by
 rcases d with rfl | ⟨e,c⟩
 unfold BX; rw [HO a];show (if low b=true then _ else _)=_
 rw [zP (by simp [low]; omega),Iq a (by simp [wch]; omega)];rw [c,Iq a (by simp [wch]; omega)]
theorem Ds {s:ByteArray} {i k:Nat} {b:UInt8} (a:s[k]?=some b) (d:k=i∨(i < k∧BX s i=run wch s k)) (f:¬ ((97<=(b.toNat:Int)∧(b.toNat:Int)<=122)∨(k≠i∧((48<=(b.toNat:Int)∧(b.toNat:Int)<=57)∨(b.toNat:Int)=95)))):BX s i=k:=by
 rcases d with rfl | ⟨e,c⟩
 unfold BX; rw [HO a];show (if low b=true then _ else _)=_
 rw [zI (by simp [low]; omega)];rw [c,LX a (by simp [wch]; omega)]
theorem Qe {s:ByteArray} {i k:Nat} (h:s.size<=k) (b:k=i∨(i < k∧BX s i=run wch s k)):BX s i=k:=by
 rcases b with rfl | ⟨c,a⟩
 unfold BX; rw [Qk h];rw [a,KR h]
theorem Sj {s:ByteArray} {i:Nat} (h:i<=s.size):i<=BX s i∧BX s i<=s.size:=by
 unfold BX;split;omega;split;exact Ri _ h;omega
def pfx (s sg:ByteArray) (i:Nat):Bool:=sg.data.toList.isPrefixOf (rest s i)
def eat (s sg:ByteArray) (i:Nat):Bool × Nat:=if pfx s sg (blank s i)=true then (true,blank s i + sg.size) else (false,blank s i)
theorem Na {s sg:ByteArray} {i:Nat} (h:pfx s sg i=true) (hi:i<=s.size):i + sg.size<=s.size:=by
 have a:=(List.isPrefixOf_iff_prefix.1 h).length_le;have b:(rest s i).length=s.size - i:=by unfold rest; rw [List.length_drop,Ht]
 rw [Ht] at a; omega
theorem Cc {s:ByteArray} (sg:ByteArray) {i:Nat} (h:i<=s.size):i<=(eat s sg i).2∧(eat s sg i).2<=s.size:=by
 have a:=Es h;unfold eat;split;rename_i b; have:=Na b a.2; constructor <;> (show _<=_; simp only; omega);exact a
structure St where
  at_:Nat
  nd:Int
abbrev F:=Int × Int
inductive Res (α:Type) where
  | ok (a:α)
  | no (f:F)
def Res.then {α β:Type} (x:Res α) (g:α->Res β):Res β:=match x with
  | .ok a=>g a
  | .no f=>.no f
theorem then_ok {α β:Type} (a:α) (g:α->Res β):(Res.ok a).then g=g a:=rfl
theorem AF {α β:Type} (f:F) (g:α->Res β):(Res.no f:Res α).then g=.no f:=rfl
def St.go (t:St) (i:Nat):St:=⟨i,t.nd⟩
def BH (s sg:ByteArray) (t:St):Res St:=if (eat s sg t.at_).1=true then .ok (t.go (eat s sg t.at_).2) else .no (2,(eat s sg t.at_).2)
def word (s:ByteArray) (t:St):Res (ByteArray × St) :=
  if 12 < BX s (blank s t.at_) - blank s t.at_ then .no (7,blank s t.at_) else .ok (s.extract (blank s t.at_) (BX s (blank s t.at_)),t.go (BX s (blank s t.at_)))
def name (s:ByteArray) (t:St):Res (ByteArray × St):=(word s t).then fun x=>if x.1=⟨#[]⟩ then .no (2,x.2.at_) else .ok x
def EE (l:List UInt8):Nat:=l.foldl (fun n b=>10 * n + (b.toNat - 48)) 0
def Il (s:ByteArray) (b:Nat):Int:=EE (s.extract b (run dig s b)).data.toList
def Dn (s:ByteArray) (least Az:Int) (b:Nat):Prop:=Il s b < least∨Az < Il s b∨(s[b]?=some 48∧b + 1 < run dig s b)
instance (s:ByteArray) (least Az:Int) (b:Nat):Decidable (Dn s least Az b):=by unfold Dn; infer_instance
def num (s:ByteArray) (least Az:Int) (t:St):Res (Int × St) :=
  if run dig s (blank s t.at_)=blank s t.at_ then .no (2,blank s t.at_) else if Dn s least Az (blank s t.at_) then .no (3,blank s t.at_)
  else .ok (Il s (blank s t.at_),t.go (run dig s (blank s t.at_)))
def node (t:St):Res St:=if 100 < t.nd + 1 then .no (4,t.at_) else .ok ⟨t.at_,t.nd + 1⟩
def g (l:List UInt8):ByteArray:=⟨l.toArray⟩
def Al (s:ByteArray) (t:St):Res (Match × St) :=
  if (eat s ⟨#[33]⟩ t.at_).1=true then (name s (t.go (eat s ⟨#[33]⟩ t.at_).2)).then fun x=>.ok (⟨4,x.1,⟨#[]⟩⟩,x.2)
  else (name s (t.go (eat s ⟨#[33]⟩ t.at_).2)).then fun x =>
    if (eat s ⟨#[33,61]⟩ x.2.at_).1=true then (name s (x.2.go (eat s ⟨#[33,61]⟩ x.2.at_).2)).then fun y=>.ok (⟨2,x.1,y.1⟩,y.2)
    else if (eat s ⟨#[61]⟩ (eat s ⟨#[33,61]⟩ x.2.at_).2).1=true then (name s (x.2.go (eat s ⟨#[61]⟩ (eat s ⟨#[33,61]⟩ x.2.at_).2).2)).then fun y=>.ok (⟨1,x.1,y.1⟩,y.2)
    else .ok (⟨3,x.1,⟨#[]⟩⟩,x.2.go (eat s ⟨#[61]⟩ (eat s ⟨#[33,61]⟩ x.2.at_).2).2)
def Cq (s:ByteArray):Nat->List Match->St->Res (List Match × St)
  | 0,_,_=>.no (4,0)
  | n + 1, ms, t =>
    if (eat s ⟨#[125]⟩ t.at_).1=true then .ok (ms,t.go (eat s ⟨#[125]⟩ t.at_).2)
    else (if 0 < ms.length then BH s ⟨#[44]⟩ (t.go (eat s ⟨#[125]⟩ t.at_).2) else .ok (t.go (eat s ⟨#[125]⟩ t.at_).2)).then fun u =>
      if ms.length=5 then .no (5,u.at_) else (Al s u).then fun x=>Cq s n (ms++[x.1]) x.2
def Ai (s w:ByteArray) (t:St):Res (Expr × St) :=
  (BH s ⟨#[40]⟩ t).then fun a=>(BH s ⟨#[123]⟩ a).then fun b=>(Cq s 6 [] b).then fun c=>(BH s ⟨#[91]⟩ c.2).then fun d =>
    (num s 1 100000 d).then fun n=>(BH s ⟨#[93]⟩ n.2).then fun h=>(BH s ⟨#[41]⟩ h).then fun i=>(node i).then fun j=>.ok (.mk 2 0 n.1 w c.1 [] [],j)
def byL (s:ByteArray):Nat->List ByteArray->St->Res (List ByteArray × St)
  | 0,_,_=>.no (4,0)
  | n + 1, l, t => if (eat s ⟨#[44]⟩ t.at_).1 = true then (if l.length = 4 then .no (5, (eat s ⟨#[44]⟩ t.at_).2) else (name s (t.go (eat s ⟨#[44]⟩ t.at_).2)).then fun x => byL s n (l ++ [x.1]) x.2)
    else .ok (l,t.go (eat s ⟨#[44]⟩ t.at_).2)
def bys (s v:ByteArray) (t:St):Res (List ByteArray × St):=if v=⟨#[98,121]⟩ then (name s t).then fun k=>byL s 5 [k.1] k.2 else .ok ([],t)
def AO (s:ByteArray) (kid:St->Res (Expr × St)) (w:ByteArray) (l:List ByteArray) (t:St):Res (Expr × St) :=
  (BH s ⟨#[40]⟩ t).then fun z=>(kid z).then fun e=>(BH s ⟨#[41]⟩ e.2).then fun b=>(node b).then fun c=>.ok (.mk 3 0 0 w [] l [e.1],c)
def all (s:ByteArray) (kid:St->Res (Expr × St)) (t:St):Res (Expr × St) :=
  (name s (t.go (blank s t.at_))).then fun x=>if ¬ 0<=zF.indexOf Lg.CF x.1 0 then .no (7,blank s t.at_) else
    (word s (x.2.go (blank s x.2.at_))).then fun v=>if v.1≠⟨#[]⟩∧v.1≠⟨#[98,121]⟩ then .no (2,blank s x.2.at_) else
      (bys s v.1 v.2).then fun l=>AO s kid x.1 l.1 l.2
def BK (s:ByteArray) (kid:St->Res (Expr × St)) (t:St):Res (Expr × St) :=
  if (eat s ⟨#[40]⟩ t.at_).1=true then (kid (t.go (eat s ⟨#[40]⟩ t.at_).2)).then fun e=>(BH s ⟨#[41]⟩ e.2).then fun u=>.ok (e.1,u)
  else (word s (t.go (blank s (eat s ⟨#[40]⟩ t.at_).2))).then fun w =>
    if w.1=⟨#[97,108,108]⟩ then all s kid w.2
    else if w.1=⟨#[]⟩ then (num s 0 1000000 w.2).then fun n=>(node n.2).then fun c=>.ok (.mk 1 n.1 0 ⟨#[]⟩ [] [] [],c)
    else if ¬ 0<=zF.indexOf Agg.words w.1 0 then .no (7,blank s (eat s ⟨#[40]⟩ t.at_).2) else Ai s w.1 w.2
def pick (s:ByteArray):List ByteArray->Nat->ByteArray × Nat
  | [],i=>(⟨#[]⟩,i)
  | g::gs,i=>if (eat s g i).1=true then (g,(eat s g i).2) else pick s gs (eat s g i).2
def DO (s:ByteArray) (sub:St->Res (Expr × St)) (BL:List ByteArray):Nat->Expr->St->Res (Expr × St)
  | 0,_,_=>.no (4,0)
  | n + 1, e, t => if (pick s BL t.at_).1 = ⟨#[]⟩ then .ok (e, t.go (pick s BL t.at_).2)
    else (sub (t.go (pick s BL t.at_).2)).then fun f=>(node f.2).then fun u=>DO s sub BL n (.mk 4 0 0 (pick s BL t.at_).1 [] [] [e,f.1]) u
def sumOf (s:ByteArray) (sub:St->Res (Expr × St)) (BL:List ByteArray) (t:St):Res (Expr × St):=(sub t).then fun e=>DO s sub BL 101 e.1 e.2
def star:List ByteArray:=[⟨#[42]⟩]
def plus:List ByteArray:=[⟨#[43]⟩,⟨#[45]⟩]
def fac (s:ByteArray):Nat->St->Res (Expr × St)
  | 0,t=>.no (4,t.at_)
  | n + 1,t=>BK s (fun u=>sumOf s (fun v=>sumOf s (fac s n) star v) plus u) t
def trm (s:ByteArray) (n:Nat):St->Res (Expr × St):=fun v=>sumOf s (fac s n) star v
def xpr (s:ByteArray) (n:Nat):St->Res (Expr × St):=fun u=>sumOf s (trm s n) plus u
theorem BA (s:ByteArray) (n:Nat) (t:St):fac s (n + 1) t=BK s (xpr s n) t:=rfl
def none_:Expr:=.mk 0 0 0 ⟨#[]⟩ [] [] []
def parse (s:ByteArray):Expr × F :=
  if 2000 < s.size then (none_,(4,0)) else match xpr s 20 ⟨0,0⟩ with
  | .no f=>(none_,f)
  | .ok x=>if blank s x.2.at_ < s.size then (none_,(2,blank s x.2.at_)) else if Lg.AE x.1≠0 then (none_,(4,blank s x.2.at_)) else (x.1,(0,0))
structure Good (s:ByteArray) (t u:St):Prop where
  at_:u.at_<=s.size
  mono:t.nd<=u.nd
  Az:t.nd<=100->u.nd<=100
theorem Good.refl {s:ByteArray} {t:St} (h:t.at_<=s.size):Good s t t:=⟨h,Int.le_refl _,id⟩
theorem Good.trans {s:ByteArray} {t u v:St} (h:Good s t u) (k:Good s u v):Good s t v:=⟨k.at_,Int.le_trans h.mono k.mono,fun g=>k.Az (h.Az g)⟩
def Bo {α:Type} (s:ByteArray) (t:St) (st:α->St):Res α->Prop
  | .ok a=>Good s t (st a)
  | .no f=>f.1≠0
theorem Bo.then {α β:Type} {s:ByteArray} {t:St} {p:α->St} {q:β->St} {x:Res α} {g:α->Res β} (h:Bo s t p x) (d:∀ a,x=.ok a->Good s t (p a)->Bo s (p a) q (g a)):Bo s t q (x.then g):=by
 cases x with
 | no f=>exact h
 | ok a =>
  have c:=d a rfl h
  show Bo s t q (g a)
  cases hx:g a with
  | no f=>rw [hx] at c; exact c
  | ok b=>rw [hx] at c; exact (show Good s t (p a) from h).trans c
theorem Bo.iff {α:Type} {s:ByteArray} {t:St} {p:α->St} {c:Prop} [Decidable c] {x y:Res α} (h:c->Bo s t p x) (k:¬ c->Bo s t p y):Bo s t p (if c then x else y):=by grind
theorem Bo.no {α:Type} {s:ByteArray} {t:St} {p:α->St} (f:F) (h:f.1≠0):Bo s t p (.no f):=h
theorem Good.go {s:ByteArray} {t:St} {i:Nat} (h:i<=s.size):Good s t (t.go i):=⟨h,Int.le_refl _,id⟩
theorem CI {s:ByteArray} (sg:ByteArray) {t:St} (h:t.at_<=s.size):Bo s t id (BH s sg t) :=
 .iff (fun _=>.go (Cc sg h).2) fun _=>.no _ qS
theorem HK {s:ByteArray} {t:St} (h:t.at_<=s.size):Bo s t (·.2) (word s t) :=
 .iff (fun _=>.no _ qS) fun _=>.go (Sj (Es h).2).2
theorem Ff {s:ByteArray} {t:St} (h:t.at_<=s.size):Bo s t (·.2) (name s t) :=
 (HK h).then fun a _ b=>.iff (fun _=>.no _ qS) fun _=>.refl b.at_
theorem Eo {s:ByteArray} (a b:Int) {t:St} (h:t.at_<=s.size):Bo s t (·.2) (num s a b t) :=
 .iff (fun _=>.no _ qS) fun _=>.iff (fun _=>.no _ qS) fun _=>.go (Ri _ (Es h).2).2
theorem CJ {s:ByteArray} {t:St} (h:t.at_<=s.size):Bo s t id (node t) :=
 .iff (fun _=>.no _ qS) fun g=>⟨h,by show _<=t.nd + 1; omega,fun _=>by show t.nd + 1<=100; omega⟩
theorem Bo.step {α:Type} {s:ByteArray} {t:St} {i:Nat} {p:α->St} {x:Res α} (h:Bo s (t.go i) p x):Bo s t p x:=by
 cases x with
 | no f=>exact h
 | ok a=>exact ⟨h.at_,h.mono,h.Az⟩
theorem HU {s:ByteArray} {t:St} {j:Nat} (h:j<=s.size):Bo s t (·.2) (name s (t.go j)):=.step (i:=j) (Ff (t:=t.go j) h)
theorem Bo.okI {α:Type} {s:ByteArray} {t:St} {p:α->St} {a:α} (h:Good s t (p a)):Bo s t p (.ok a):=h
theorem Dv {s:ByteArray} {t:St} (h:t.at_<=s.size):Bo s t (·.2) (Al s t):=by
 unfold Al;have d:=(Cc ⟨#[33]⟩ h).2;refine .iff (fun _=>?_) fun _=>?_;exact (HU d).then fun x _ a=>Bo.okI (Good.refl a.at_);refine (HU d).then fun x _ a=>?_;have f:x.2.at_<=s.size:=a.at_;have c:=(Cc ⟨#[33,61]⟩ f).2;have e:=(Cc ⟨#[61]⟩ c).2;refine .iff (fun _=>?_) fun _=>.iff (fun _=>?_) fun _=>?_;exact (HU c).then fun y _ b=>Bo.okI (Good.refl b.at_);exact (HU e).then fun y _ b=>Bo.okI (Good.refl b.at_);exact Bo.okI (Good.go e)
theorem MW {s:ByteArray}:∀ (n:Nat) (ms:List Match) {t:St},t.at_<=s.size->Bo s t (·.2) (Cq s n ms t)
 | 0,_,_,_=>.no _ qS
 | n + 1, ms, t, h => by
  have he:=fun {i:Nat} (sg:ByteArray) (h:i<=s.size)=>(Cc sg h).2
  rw [Cq]
  refine .iff (fun _=>.go (he _ h)) fun _=>.step (i:=(eat s ⟨#[125]⟩ t.at_).2) (.then (p:=id) (.iff (fun _=>CI _ (he _ h)) fun _=>.refl (he _ h)) fun u _ a=>?_)
  exact .iff (fun _=>.no _ qS) fun _=>(Dv a.at_).then fun x _ b=>MW n _ b.at_
theorem Ju {s:ByteArray} (w:ByteArray) {t:St} (h:t.at_<=s.size):Bo s t (·.2) (Ai s w t) :=
 (CI _ h).then fun _ _ h=>(CI _ h.at_).then fun _ _ h=>(MW 6 [] h.at_).then fun _ _ h=>(CI _ h.at_).then fun _ _ h=>(Eo _ _ h.at_).then fun _ _ h=>(CI _ h.at_).then fun _ _ h =>
  (CI _ h.at_).then fun _ _ h=>(CJ h.at_).then fun _ _ h=>.refl h.at_
theorem Pj {s:ByteArray}:∀ (n:Nat) (l:List ByteArray) {t:St},t.at_<=s.size->Bo s t (·.2) (byL s n l t)
 | 0,_,_,_=>.no _ qS
 | n + 1, l, t, h => by
  have he:=fun {i:Nat} (sg:ByteArray) (h:i<=s.size)=>(Cc sg h).2
  rw [byL]
  exact .iff (fun _=>.iff (fun _=>.no _ qS) fun _=>.step ((Ff (he _ h)).then fun x _ a=>Pj n _ a.at_)) fun _=>.go (he _ h)
theorem Vv {s:ByteArray} (v:ByteArray) {t:St} (h:t.at_<=s.size):Bo s t (·.2) (bys s v t) :=
 .iff (fun _=>(Ff h).then fun _ _ h=>Pj _ _ h.at_) fun _=>.refl h
def Kid (s:ByteArray) (kid:St->Res (Expr × St)):Prop:=∀ t:St,t.at_<=s.size->Bo s t (·.2) (kid t)
theorem Nw {s:ByteArray} {a:St->Res (Expr × St)} (b:Kid s a) (w:ByteArray) (l:List ByteArray) {t:St} (h:t.at_<=s.size):Bo s t (·.2) (AO s a w l t) :=
 (CI _ h).then fun _ _ h=>(b _ h.at_).then fun _ _ h=>(CI _ h.at_).then fun _ _ h=>(CJ h.at_).then fun _ _ h=>.refl h.at_
theorem Gf {s:ByteArray} {a:St->Res (Expr × St)} (b:Kid s a) {t:St} (h:t.at_<=s.size):Bo s t (·.2) (all s a t) :=
 .step ((Ff (Es h).2).then fun _ _ h=>.iff (fun _=>.no _ qS) fun _=>.step ((HK (Es h.at_).2).then fun _ _ h=>.iff (fun _=>.no _ qS) fun _=>(Vv _ h.at_).then fun _ _ h=>Nw b _ _ h.at_))
theorem PL {s:ByteArray} {a:St->Res (Expr × St)} (b:Kid s a) {t:St} (h:t.at_<=s.size):Bo s t (·.2) (BK s a t):=by
 have he:=fun {i:Nat} (sg:ByteArray) (h:i<=s.size)=>(Cc sg h).2;refine .iff (fun _=>.step ((b _ (he _ h)).then fun _ _ h=>(CI _ h.at_).then fun _ _ h=>.refl h.at_)) fun _=>.step ((HK (Es (he _ h)).2).then fun w _ h=>?_);refine .iff (fun _=>Gf b h.at_) fun _=>.iff (fun _=>(Eo _ _ h.at_).then fun _ _ h=>(CJ h.at_).then fun _ _ h=>.refl h.at_) fun _=>.iff (fun _=>.no _ qS) fun _=>Ju _ h.at_
theorem Nj {s:ByteArray}:∀ (l:List ByteArray) {i:Nat},i<=s.size->(pick s l i).2<=s.size
 | [],_,h=>h
 | g :: l, i, h => by
  rw [pick]
  split
  ·exact (Cc g h).2
  ·exact Nj l (Cc g h).2
theorem Ml {s:ByteArray} {b:St->Res (Expr × St)} (c:Kid s b) (a:List ByteArray):∀ (n:Nat) (e:Expr) {t:St},t.at_<=s.size->Bo s t (·.2) (DO s b a n e t)
 | 0,_,_,_=>.no _ qS
 | n + 1, e, t, h => by
  rw [DO]
  exact .iff (fun _=>.go (Nj _ h)) fun _=>.step ((c _ (Nj _ h)).then fun _ _ h=>(CJ h.at_).then fun _ _ h=>Ml c a n _ h.at_)
theorem Ft {s:ByteArray} {b:St->Res (Expr × St)} (c:Kid s b) (a:List ByteArray):Kid s (fun t=>sumOf s b a t) :=
 fun _ h=>(c _ h).then fun _ _ h=>Ml c a _ _ h.at_
theorem Ef (s:ByteArray):∀ n,Kid s (fac s n)
 | 0=>fun _ _=>.no _ qS
 | n + 1=>fun _ h=>PL (Ft (Ft (Ef s n) star) plus) h
theorem Ib (s:ByteArray) (n:Nat):Kid s (trm s n):=Ft (Ef s n) star
theorem Gn (s:ByteArray) (n:Nat):Kid s (xpr s n):=Ft (Ib s n) plus
theorem Kid.ok {s:ByteArray} {a:St->Res (Expr × St)} (b:Kid s a) {t:St} {x:Expr × St} (h:t.at_<=s.size) (e:a t=.ok x):Good s t x.2:=by have:=b t h; rw [e] at this; exact this
theorem Kid.no {s:ByteArray} {a:St->Res (Expr × St)} (b:Kid s a) {t:St} {f:F} (h:t.at_<=s.size) (e:a t=.no f):f.1≠0:=by have:=b t h; rw [e] at this; exact this
theorem Bo.ok_ {α:Type} {s:ByteArray} {t:St} {p:α->St} {r:Res α} {a:α} (h:Bo s t p r) (e:r=.ok a):Good s t (p a):=by rw [e] at h; exact h
end Pz
end
section
namespace Bs
open Ex Sh
def no (e:Int):Ans:=⟨e,0,[],0⟩
def key (s:Shelf):Cell:=⟨s.zM,0⟩
def new (t:List Label):Shelf:=⟨t,[],[],[],0,0,0,0,0⟩
def fresh (t:List Label) (h:Int):Shelf:=(Ab (new t) h).1
def place (l:List Shelf) (t:List Label):Nat:=Mn.pos (l.map key) t
def there (l:List Shelf) (t:List Label):Bool:=Mn.has (l.map key) t
def add (b:CW) (d:Do):CW × Ans :=
  if zF.AE d.sr≠0 then (b,no (zF.AE d.sr)) else if (Codec.AE [d.zW]).err≠0 then (b,no (Codec.AE [d.zW]).err) else if d.zW.time < b.zT then (b,no 9)
  else if there b.zA d.sr=true then (match b.zA[place b.zA d.sr]? with
    | none=>(b,no 0)
    | some s=>if (append s d.zW).2≠0 then (b,no (append s d.zW).2) else (⟨b.zA.set (place b.zA d.sr) (append s d.zW).1,b.zT⟩,no 0))
  else if b.zA.length=8 then (b,no 5) else if (append (fresh d.sr b.zT) d.zW).2≠0 then (b,no (append (fresh d.sr b.zT) d.zW).2)
  else (⟨b.zA.take (place b.zA d.sr)++(append (fresh d.sr b.zT) d.zW).1::b.zA.drop (place b.zA d.sr),b.zT⟩,no 0)
def each (f:Shelf->Shelf × Int):List Shelf->List Shelf × Int
  | []=>([],0)
  | s::r=>if (f s).2≠0 then ([],(f s).2) else if (each f r).2≠0 then ([],(each f r).2) else ((f s).1::(each f r).1,0)
def look:List Shelf->CQ
  | [],_,_,_=>([],0)
  | s :: r, m, a, b => if ¬ zF.yG s.zM m = true then look r m a b else if (Sh.choose s a b).2 ≠ 0 then ([], (Sh.choose s a b).2) else if (Sh.read s (Sh.choose s a b).1).2.2 ≠ 0 then ([], (Sh.read s (Sh.choose s a b).1).2.2)
    else if (look r m a b).2≠0 then ([],(look r m a b).2) else ((s.zM,(Sh.read s (Sh.choose s a b).1).1)::(look r m a b).1,0)
def cost:List Shelf->Sk
  | [],_,_,_,c=>c
  | s::r,m,a,b,c=>if ¬ zF.yG s.zM m=true then cost r m a b c else if (Sh.choose s a b).2≠0 then c else if (Sh.read s (Sh.choose s a b).1).2.2≠0 then c else cost r m a b (wr (c + (Sh.read s (Sh.choose s a b).1).2.1))
def asked (l:List Shelf) (e:Expr) (t:Int):List Cell × Int:=Mn.out (Mn.eval (look l) t e)
def ask (b:CW) (d:Do):Ans :=
  if (Pz.parse d.text).2.1≠0 then ⟨(Pz.parse d.text).2.1,(Pz.parse d.text).2.2,[],0⟩ else if Mn.check (Pz.parse d.text).1 d.to≠0 then no (Mn.check (Pz.parse d.text).1 d.to)
  else if (asked b.zA (Pz.parse d.text).1 d.to).2≠0 then no (asked b.zA (Pz.parse d.text).1 d.to).2
  else ⟨0,0,(asked b.zA (Pz.parse d.text).1 d.to).1,Mn.AW (look b.zA) (cost b.zA) d.to (Pz.parse d.text).1 0⟩
def HJ (b:CW) (to:Int):CW × Ans:=if (each (fun s=>Ab s to) b.zA).2≠0 then (b,no (each (fun s=>Ab s to) b.zA).2) else (⟨(each (fun s=>Ab s to) b.zA).1,mx b.zT (to - to % 10)⟩,no 0)
def Cn (b:CW) (AG to:Int):CW × Ans:=if (each (fun s=>forget s AG to) b.zA).2≠0 then (b,no (each (fun s=>forget s AG to) b.zA).2) else (⟨(each (fun s=>forget s AG to) b.zA).1,b.zT⟩,no 0)
def one (b:CW) (d:Do):CW × Ans :=
  if d.kind=1 then add b d else if d.kind=4 then (b,ask b d) else if ¬ (d.kind=2∨d.kind=3) then (b,no 1) else if d.to < 0∨1000000 < d.to then (b,no 3)
  else if d.kind=3 then (if d.AG < 0∨2 < d.AG then (b,no 1) else Cn b d.AG d.to) else HJ b d.to
def run:CW->List Do->CW × List Ans
  | b,[]=>(b,[])
  | b,d::r=>((run (one b d).1 r).1,(one b d).2::(run (one b d).1 r).2)
def zero:CW:=⟨[],0⟩
def GQ (l:List Do):CW × List Ans × Int:=if 120 < l.length then (zero,[],5) else ((run zero l).1,(run zero l).2,0)
theorem QN (d:Do):∀ (l:List Do) (b:CW),run b (l++[d])=((one (run b l).1 d).1,(run b l).2++[(one (run b l).1 d).2])
 | [],b=>rfl
 | x::l,b=>by rw [List.cons_append,run,QN d l,run]; rfl
theorem WH {l:List vC} {k:Nat} {x:vC} (h:l[k]?=some x) (b:CW):run b ((l.take (k + 1)).map vC.e)=((one (run b ((l.take k).map vC.e)).1 x.e).1,(run b ((l.take k).map vC.e)).2++[(one (run b ((l.take k).map vC.e)).1 x.e).2]):=by
 rw [vE,h,Option.toList_some,yi,vl,List.map_nil,QN]
structure Inv (b:CW) (n:Nat):Prop where
  asc:Mn.Asc (b.zA.map key)
  len:b.zA.length<=8
  hor:0<=b.zT∧b.zT<=1000000∧b.zT % 10=0
  Cl:∀ s ∈ b.zA,∃ all,FX s all∧all.length<=n
  AD:∀ s ∈ b.zA,s.zG=b.zT
theorem inv_zero:Inv zero 0:=⟨List.Pairwise.nil,by decide,by decide,fun s a=>absurd a (List.not_mem_nil),fun s a=>absurd a (List.not_mem_nil)⟩
theorem Inv.up {b:CW} {n m:Nat} (h:Inv b n) (f:n<=m):Inv b m:=⟨h.asc,h.len,h.hor,fun s c=>by obtain ⟨a,d,e⟩:=h.Cl s c; exact ⟨a,d,qO⟩,h.AD⟩
theorem Kq {t:List Label} {h:Int} (f:zF.AE t=0) (c:0<=h) (d:h<=1000000):FX (fresh t h) []∧(Ab (new t) h).2=0∧(fresh t h).zM=t∧(fresh t h).zG=mx 0 (h - h % 10):=by
 have b:=XF t f;have e:Ab (new t) h=(Ey (new t) h,0):=roll_mk b.ok c d (by simp [yp,new,Roll.inT,Roll.up,Roll.step,Roll.ups]) (by simp [vX,yp,new,Roll.inT,Roll.up,Roll.step,Roll.ups,bIn,Roll.AU]);have a:(Ab (new t) h).2=0:=by rw [e]
 exact ⟨b.Ab a,a,by unfold fresh; rw [e]; rfl,by unfold fresh; rw [e]; rfl⟩
theorem Jr {z:Shelf} {x:AA} (h:(append z x).2=0):(append z x).1.zM=z.zM∧(append z x).1.zG=z.zG:=by
 obtain ⟨_,_,_,_,e⟩:=Gi h;rw [e]; exact ⟨rfl,rfl⟩
theorem NT {z:Shelf} {to:Int} (h:(Ab z to).2=0):(Ab z to).1.zM=z.zM∧(Ab z to).1.zG=mx z.zG (to - to % 10):=by
 obtain ⟨_,_,_,_,_,e⟩:=HC h;rw [e]; exact ⟨rfl,rfl⟩
theorem Jj {z:Shelf} {a to:Int} (h:(forget z a to).2=0):(forget z a to).1.zM=z.zM∧(forget z a to).1.zG=z.zG:=by
 obtain ⟨_,_,_,_,e⟩:=Gx h
 rw [e]; unfold Hl; (repeat' split) <;> exact ⟨rfl,rfl⟩
theorem has_at {l:List Shelf} {t:List Label} (b:Mn.Asc (l.map key)) (h:there l t=true):∃ s,l[place l t]?=some s∧s.zM=t:=by
 obtain ⟨c,a,d,_⟩:=Mn.IL ⟨#[]⟩ 0 b h
 rw [yV] at a
 cases hs:l[Mn.pos (l.map key) t]? with
 | none=>rw [hs] at a; cases a
 | some s=>rw [hs] at a; obtain rfl:=Option.some.inj a; exact ⟨s,hs,d⟩
theorem set_key {l:List Shelf} {k:Nat} {s z:Shelf} (h:l[k]?=some s) (e:z.zM=s.zM):(l.set k z).map key=l.map key:=by
 rw [List.map_set];refine List.ext_getElem? fun i=>?_;rw [List.getElem?_set];split;rename_i a;subst a;have b:=(yb.1 h).1;rw [zP (by simpa using b),yV,h];show some (key z)=some (key s)
 unfold key; rw [e];rfl
theorem put_key {l:List Shelf} {t:List Label} {z:Shelf} (b:Mn.Asc (l.map key)) (h:there l t=false) (e:z.zM=t):Mn.Asc ((l.take (place l t)++z::l.drop (place l t)).map key):=by
 have a:=Mn.DH (w:=⟨#[]⟩) (s:=t) (x:=0) b;rw [Mn.Sr ⟨#[]⟩ 0 h] at a;rw [yi,vl,List.map_take,List.map_drop];have:key z=⟨t,0⟩:=by unfold key; rw [e]
 rw [this]; exact a
theorem Wl (l:List Shelf) (t:List Label):place l t<=l.length:=by have:=Mn.RR (l.map key) t; simpa [place] using this
theorem inv_add {b:CW} {n:Nat} {d:Do} (h:Inv b n):Inv (add b d).1 (n + 1):=by
 have e:=h.up (show n<=n + 1 by omega);unfold add;by_cases k:zF.AE d.sr≠0;rw [zP k]; exact e;rw [zI k];by_cases p:(Codec.AE [d.zW]).err≠0;rw [zP p]; exact e;rw [zI p];by_cases q:d.zW.time < b.zT;rw [zP q]; exact e;rw [zI q];by_cases g:there b.zA d.sr=true;rw [zP g];obtain ⟨s,j,o⟩:=has_at h.asc g;rw [j];simp only;by_cases c:(append s d.zW).2≠0;rw [zP c]; exact e;rw [zI c];have c:=ym.1 c;obtain ⟨l,i⟩:=Jr c;have r:=vQ j;refine ⟨by rw [set_key j l]; exact h.asc,by rw [List.length_set]; exact h.len,h.hor,fun z a=>?_,fun z a=>?_⟩;rcases List.mem_or_eq_of_mem_set a with a | rfl
 exact e.Cl z a;obtain ⟨m,v,y⟩:=h.Cl s r;exact ⟨m++[d.zW],v.append c,by rw [uF,List.length_singleton]; omega⟩;rcases List.mem_or_eq_of_mem_set a with a | rfl
 exact h.AD z a;rw [i]; exact h.AD s r;rw [zI g];by_cases c:b.zA.length=8;rw [zP c]; exact e;rw [zI c];by_cases f:(append (fresh d.sr b.zT) d.zW).2≠0;rw [zP f]; exact e;rw [zI f];have f:=ym.1 f;obtain ⟨w,x,t,u⟩:=Kq (ym.1 k) h.hor.1 h.hor.2.1;obtain ⟨l,i⟩:=Jr f;have A:=h.len; have B:=Wl b.zA d.sr;refine ⟨put_key h.asc (by simpa using g) (by rw [l,t]),?_,h.hor,fun z a=>?_,fun z a=>?_⟩;show (_++_::_:List Shelf).length<=8
 rw [uF,gP,List.length_take,List.length_drop]; omega;rcases yl.1 a with a | a
 exact e.Cl z (List.mem_of_mem_take a);rcases ya.1 a with rfl | a
 exact ⟨[]++[d.zW],w.append f,qS⟩;exact e.Cl z (List.mem_of_mem_drop a);rcases yl.1 a with a | a
 exact h.AD z (List.mem_of_mem_take a);rcases ya.1 a with rfl | a
 show _=b.zT
 rw [i,u];have:=h.hor;unfold mx; split <;> omega;exact h.AD z (List.mem_of_mem_drop a)
theorem OE {f:Shelf->Shelf × Int}:∀ {l:List Shelf},(each f l).2=0->(each f l).1=l.map (fun s=>(f s).1)∧∀ s ∈ l,(f s).2=0
 | [],_=>⟨rfl,fun s a=>by cases a⟩
 | x :: r, h => by
  rw [each] at h ⊢
  by_cases h1:(f x).2≠0
  ·rw [if_pos h1] at h; exact absurd h h1
  rw [if_neg h1] at h ⊢
  by_cases h2:(each f r).2≠0
  ·rw [if_pos h2] at h; exact absurd h h2
  rw [if_neg h2]
  obtain ⟨h3,h4⟩:=OE (ym.1 h2)
  refine ⟨by rw [h3]; rfl,fun s a=>?_⟩
  rcases ya.1 a with rfl | a
  ·exact ym.1 h1
  ·exact h4 s a
theorem Mt {f:Shelf->Shelf × Int} {l:List Shelf} {k:Nat} {s:Shelf} (e:l[k]?=some s) (h:(each f (l.take k)).2=0) :
  ((f s).2≠0->(each f l).2=(f s).2∧(each f l).1=[])∧((f s).2=0->(each f (l.take (k + 1))).2=0∧(each f (l.take (k + 1))).1=(each f (l.take k)).1++[(f s).1]):=by
 induction l generalizing k with
 | nil=>simp at e
 | cons x r ih =>
  cases k with
  | zero =>
   obtain rfl:x=s:=by simpa using e
   refine ⟨fun a=>by rw [each,zP a]; exact ⟨rfl,rfl⟩,fun a=>?_⟩
   rw [List.take_succ_cons,List.take_zero,each,zI (by simp [a]),each,zI qS]
   exact ⟨rfl,rfl⟩
  | succ k =>
   rw [List.take_succ_cons,each] at h
   by_cases a:(f x).2≠0
   ·rw [zP a] at h; exact absurd h a
   rw [zI a] at h
   by_cases c:(each f (r.take k)).2≠0
   ·rw [zP c] at h; exact absurd h c
   obtain ⟨i,j⟩:=ih (by simpa using e) (ym.1 c)
   refine ⟨fun b=>?_,fun b=>?_⟩
   ·obtain ⟨d,g⟩:=i b
    rw [each,zI a,zP (by rw [d]; exact b)]; exact ⟨d,rfl⟩
   ·obtain ⟨d,g⟩:=j b
    rw [List.take_succ_cons,each,zI a,zI (by simp [d]),List.take_succ_cons,each,zI a,zI c,g]; exact ⟨rfl,rfl⟩
theorem Tf {l:List Shelf} {f:Shelf->Shelf × Int} (h:∀ s ∈ l,(f s).1.zM=s.zM):(l.map fun s=>(f s).1).map key=l.map key:=by
 rw [List.map_map];exact List.map_congr_left fun s a=>by show key (f s).1=key s; unfold key; rw [h s a]
theorem WD {b:CW} {n:Nat} {to:Int} (h:Inv b n) (k:0<=to) (l:to<=1000000):Inv (HJ b to).1 n:=by
 unfold HJ;by_cases g:(each (fun s=>Ab s to) b.zA).2≠0;rw [zP g]; exact h;rw [zI g];obtain ⟨d,e⟩:=OE (ym.1 g);have m:=h.hor;refine ⟨?_,?_,?_,fun z a=>?_,fun z a=>?_⟩;show Mn.Asc ((each _ _).1.map key)
 rw [d,Tf fun s c=>(NT (e s c)).1]; exact h.asc;show (each _ _).1.length<=8
 rw [d,vb]; exact h.len;show 0<=mx _ _∧mx _ _<=1000000∧mx _ _ % 10=0
 unfold mx; split <;> omega;have a:z ∈ (each _ _).1:=a;rw [d] at a;obtain ⟨s,c,rfl⟩:=yr.1 a;obtain ⟨f,i,j⟩:=h.Cl s c;exact ⟨f,i.Ab (e s c),j⟩;have a:z ∈ (each _ _).1:=a;rw [d] at a;obtain ⟨s,c,rfl⟩:=yr.1 a;show (Ab s to).1.zG=mx b.zT (to - to % 10)
 rw [(NT (e s c)).2,h.AD s c]
theorem RH {b:CW} {n:Nat} {a to:Int} (h:Inv b n):Inv (Cn b a to).1 n:=by
 unfold Cn;by_cases i:(each (fun s=>forget s a to) b.zA).2≠0;rw [zP i]; exact h;rw [zI i];obtain ⟨e,f⟩:=OE (ym.1 i);refine ⟨?_,?_,h.hor,fun z c=>?_,fun z c=>?_⟩;show Mn.Asc ((each _ _).1.map key)
 rw [e,Tf fun s d=>(Jj (f s d)).1]; exact h.asc;show (each _ _).1.length<=8
 rw [e,vb]; exact h.len;have c:z ∈ (each _ _).1:=c;rw [e] at c;obtain ⟨s,d,rfl⟩:=yr.1 c;obtain ⟨g,j,k⟩:=h.Cl s d;exact ⟨g,j.forget (f s d),k⟩;have c:z ∈ (each _ _).1:=c;rw [e] at c;obtain ⟨s,d,rfl⟩:=yr.1 c;show (forget s a to).1.zG=b.zT
 rw [(Jj (f s d)).2,h.AD s d]
theorem inv_one {b:CW} {n:Nat} {d:Do} (h:Inv b n):Inv (one b d).1 (n + 1):=by
 have a:=h.up (show n<=n + 1 by omega);unfold one;by_cases c:d.kind=1;rw [zP c]; exact inv_add h;rw [zI c];by_cases i:d.kind=4;rw [zP i]; exact a;rw [zI i];by_cases f:¬ (d.kind=2∨d.kind=3);rw [zP f]; exact a;rw [zI f];by_cases g:d.to < 0∨1000000 < d.to;rw [zP g]; exact a;rw [zI g];by_cases j:d.kind=3;rw [zP j];by_cases e:d.AG < 0∨2 < d.AG;rw [zP e]; exact a;rw [zI e]; exact (RH h).up qO;rw [zI j]; exact (WD h qO qO).up qO
theorem TR:∀ (l:List Do) {b:CW} {n:Nat},Inv b n->Inv (run b l).1 (n + l.length)
 | [],_,_,h=>h
 | d :: r, b, n, h => by
  rw [run,List.length_cons]
  have:=TR r (inv_one (d:=d) h)
  rwa [show n + (r.length + 1)=n + 1 + r.length by omega]
theorem Vy (l:List Do) (a:l.length<=120):Inv (run zero l).1 120:=(TR l inv_zero).up qO
theorem Ld {m:List Match} {a b:Int}:∀ {l:List Shelf} {t:List Label × Sum},t ∈ (look l m a b).1->∃ s ∈ l,t.1=s.zM∧(Sh.choose s a b).2=0∧t.2=(Sh.read s (Sh.choose s a b).1).1
 | [],t,h=>by cases h
 | s :: r, t, h => by
  rw [look] at h
  by_cases h1:¬ zF.yG s.zM m=true
  ·rw [if_pos h1] at h
   obtain ⟨z,d,c⟩:=Ld h
   exact ⟨z,List.mem_cons_of_mem _ d,c⟩
  rw [zI h1] at h
  by_cases c:(Sh.choose s a b).2≠0
  ·rw [zP c] at h; cases h
  rw [zI c] at h
  by_cases e:(Sh.read s (Sh.choose s a b).1).2.2≠0
  ·rw [zP e] at h; cases h
  rw [zI e] at h
  by_cases f:(look r m a b).2≠0
  ·rw [zP f] at h; cases h
  rw [zI f] at h
  rcases ya.1 h with rfl | h
  ·exact ⟨s,uW,rfl,ym.1 c,rfl⟩
  ·obtain ⟨z,d,c⟩:=Ld h
   exact ⟨z,List.mem_cons_of_mem _ d,c⟩
theorem QW {m:List Match} {a b:Int}:∀ (l:List Shelf),(look l m a b).1.length<=l.length
 | []=>Nat.le_refl _
 | s :: r => by
  have:=QW (m:=m) (a:=a) (b:=b) r
  rw [look]
  (repeat' split) <;> simp only [gP,List.length_nil] <;> omega
theorem TK {s:Shelf} {c:List AA} (i:FX s c) {a b:Int} (h:(Sh.choose s a b).2=0):(Sh.read s (Sh.choose s a b).1).1=Agg.of (Roll.inT c a b)∧(Sh.read s (Sh.choose s a b).1).2.2=0∧(Sh.read s (Sh.choose s a b).1).2.1=Kb s (Sh.choose s a b).1∧Kb s (Sh.choose s a b).1<=(Roll.inT c a b).length:=by
 obtain ⟨f,d,_⟩:=MC h;obtain ⟨e,g⟩:=i.covered _ _ _ d;rw [XE f d];exact ⟨e,rfl,rfl,g⟩
theorem Ma {b:CW} (h:Inv b 120):Mn.CV (look b.zA):=fun m x y=>by
 refine ⟨by have:=QW (m:=m) (a:=x) (b:=y) b.zA; have:=h.len; omega,fun t k=>?_⟩
 obtain ⟨s,e,j,g,i⟩:=Ld k
 obtain ⟨c,f,l⟩:=h.Cl s e
 refine ⟨by rw [j]; have:=f.ok.lens.1; omega,fun d=>?_⟩
 rw [i,(TK f g).1]
 exact Mn.MZ (by have:=List.length_filter_le (fun s:AA=>decide (x<=s.time∧s.time < y)) c; show (List.filter _ c).length<=500; omega) (fun s e=>f.Bh s ((List.mem_filter.1 e).1)) d
theorem II {l:List Shelf} {k:Nat} {s:Shelf} (h:l[k]?=some s) (m:List Match) (a b:Int):look (l.drop k) m a b=if ¬ zF.yG s.zM m=true then look (l.drop (k + 1)) m a b else if (Sh.choose s a b).2≠0 then ([],(Sh.choose s a b).2) else if (Sh.read s (Sh.choose s a b).1).2.2≠0 then ([],(Sh.read s (Sh.choose s a b).1).2.2)
  else if (look (l.drop (k + 1)) m a b).2≠0 then ([],(look (l.drop (k + 1)) m a b).2) else ((s.zM,(Sh.read s (Sh.choose s a b).1).1)::(look (l.drop (k + 1)) m a b).1,0):=by
 obtain ⟨c,rfl⟩:=yb.1 h
 rw [uI c,look]
theorem KQ {l:List Shelf} {k:Nat} {s:Shelf} (h:l[k]?=some s) (m:List Match) (a b c:Int):cost (l.drop k) m a b c=if ¬ zF.yG s.zM m=true then cost (l.drop (k + 1)) m a b c else if (Sh.choose s a b).2≠0 then c else if (Sh.read s (Sh.choose s a b).1).2.2≠0 then c else cost (l.drop (k + 1)) m a b (wr (c + (Sh.read s (Sh.choose s a b).1).2.1)):=by
 obtain ⟨d,rfl⟩:=yb.1 h;rw [uI d,cost]
theorem Pl {m:List Match} {a b:Int}:∀ {l:List Shelf},(look l m a b).2≠0->look l m a b=([],(look l m a b).2)
 | [],h=>absurd rfl h
 | x :: r, h => by
  rw [look] at h ⊢
  by_cases h1:¬ zF.yG x.zM m=true
  ·rw [if_pos h1] at h ⊢; exact Pl h
  rw [if_neg h1] at h ⊢
  by_cases h2:(Sh.choose x a b).2≠0
  ·rw [if_pos h2]
  rw [if_neg h2] at h ⊢
  by_cases h3:(Sh.read x (Sh.choose x a b).1).2.2≠0
  ·rw [if_pos h3]
  rw [if_neg h3] at h ⊢
  by_cases h4:(look r m a b).2≠0
  ·rw [if_pos h4]
  ·rw [if_neg h4] at h; exact absurd rfl h
def pre (acc:List (List Label × Sum)) (r:List (List Label × Sum) × Int):List (List Label × Sum) × Int:=if r.2≠0 then ([],r.2) else (acc++r.1,0)
section
variable {l:List Shelf} {k:Nat} {s:Shelf} {m:List Match} {a b c n:Int} {acc:List (List Label × Sum)}
theorem pre_0 (m:List Match) (a b:Int):look l m a b=pre [] (look (l.drop 0) m a b):=by
 rw [List.drop_zero,pre];split;rename_i h; exact Pl h;rename_i h;exact Prod.ext rfl (ym.1 h)
theorem MX (c:l[k]?=some s) (h:look l m a b=pre acc (look (l.drop k) m a b)) (d:¬ zF.yG s.zM m=true):look l m a b=pre acc (look (l.drop (k + 1)) m a b):=by rw [h,II c,zP d]
theorem Mb (d:l[k]?=some s) (h:look l m a b=pre acc (look (l.drop k) m a b)) (e:zF.yG s.zM m=true) (c:(Sh.choose s a b).2≠0):look l m a b=([],(Sh.choose s a b).2):=by
 rw [h,II d,zI (by simp [e]),zP c,pre,zP c]
theorem UB (d:l[k]?=some s) (h:look l m a b=pre acc (look (l.drop k) m a b)) (f:zF.yG s.zM m=true) (e:¬ (Sh.choose s a b).2≠0) (c:(Sh.read s (Sh.choose s a b).1).2.2≠0):look l m a b=([],(Sh.read s (Sh.choose s a b).1).2.2):=by
 rw [h,II d,zI (by simp [f]),zI e,zP c,pre,zP c]
theorem Dp (d:l[k]?=some s) (h:look l m a b=pre acc (look (l.drop k) m a b)) (g:zF.yG s.zM m=true) (f:¬ (Sh.choose s a b).2≠0) (e:¬ (Sh.read s (Sh.choose s a b).1).2.2≠0) :
  look l m a b=pre (acc++[(s.zM,(Sh.read s (Sh.choose s a b).1).1)]) (look (l.drop (k + 1)) m a b):=by
 rw [h,II d,zI (by simp [g]),zI f,zI e]
 unfold pre
 by_cases c:(look (l.drop (k + 1)) m a b).2≠0
 ·rw [zP c,zP c,zP c]
 ·rw [zI c,zI c,zI qS]; simp
theorem Qa (h:look l m a b=pre acc (look (l.drop k) m a b)) (c:l.length<=k):look l m a b=(acc,0):=by
 rw [h,vw c,look,pre,zI qS,uc]
theorem MT (d:l[k]?=some s) (h:cost l m a b n=cost (l.drop k) m a b c) (e:¬ zF.yG s.zM m=true):cost l m a b n=cost (l.drop (k + 1)) m a b c:=by rw [h,KQ d,zP e]
theorem MM (d:l[k]?=some s) (h:cost l m a b n=cost (l.drop k) m a b c) (f:zF.yG s.zM m=true) (e:(Sh.choose s a b).2≠0):cost l m a b n=c:=by rw [h,KQ d,zI (by simp [f]),zP e]
theorem UA (e:l[k]?=some s) (h:cost l m a b n=cost (l.drop k) m a b c) (g:zF.yG s.zM m=true) (f:¬ (Sh.choose s a b).2≠0) (d:(Sh.read s (Sh.choose s a b).1).2.2≠0):cost l m a b n=c:=by rw [h,KQ e,zI (by simp [g]),zI f,zP d]
theorem Dx (e:l[k]?=some s) (h:cost l m a b n=cost (l.drop k) m a b c) (g:zF.yG s.zM m=true) (f:¬ (Sh.choose s a b).2≠0) (d:¬ (Sh.read s (Sh.choose s a b).1).2.2≠0) :
  cost l m a b n=cost (l.drop (k + 1)) m a b (wr (c + (Sh.read s (Sh.choose s a b).1).2.1)):=by rw [h,KQ e,zI (by simp [g]),zI f,zI d]
theorem PF (h:cost l m a b n=cost (l.drop k) m a b c) (d:l.length<=k):cost l m a b n=c:=by rw [h,vw d,cost]
end
end Bs
end
section
namespace Ex
def zB.k (x:zB):Cell:=⟨x.sr.l,0⟩
abbrev OU:zB:=⟨⟨none,0,[]⟩,⟨none,0,[]⟩,⟨none,0,[]⟩,⟨none,0,[]⟩,0,0,0,0,0⟩
theorem VU {α:Type} {enc:α->List Value} {k:Nat} (d:0 < k) (he:Enc enc k) (z:Value) (x:α) (c:z.cells=(enc x).toArray) (q:Nat):(Builtin.zeroCells z.cells q).toList=(List.replicate q x).flatMap enc:=by
 have a:z.cells.size=k:=by rw [c,List.size_toArray,he.len]
 apply List.ext_getElem?;intro j;have g:(Builtin.zeroCells z.cells q).size=q * k:=by simp [Builtin.zeroCells,a]
 have l:((List.replicate q x).flatMap enc).length=q * k:=by rw [BT he.len,List.length_replicate]
 by_cases m:j < q * k;have e:j / k < q:=(Nat.div_lt_iff_lt_mul d).2 m;have f:(List.replicate q x)[j / k]?=some x:=by rw [List.getElem?_replicate,zP e]
 have i:j=j / k * k + j % k:=by rw [Nat.mul_comm]; exact (Nat.div_add_mod j k).symm
 have h:j % k < k:=Nat.mod_lt _ d;have b:(enc x)[j % k]?=some ((enc x)[j % k]'(by rw [he.len]; exact h)):=vA _;rw [show ((List.replicate q x).flatMap enc)[j]?=_ from (congrArg _ i).trans (flat_get he.len _ _ _ _ _ f b)];rw [Array.getElem?_toList,Array.getElem?_eq_getElem qO];simp [Builtin.zeroCells,c,he.len,b];exact (List.getElem?_eq_none (by rw [Array.length_toList,g]; omega)).trans (List.getElem?_eq_none (by rw [l]; omega)).symm
section
variable {P:Program} {N:Nat} {D:List Deferred} {E:Env} {w0 w:World} {M:Fp} {L:List Own} {x:Operand} {T ty:TypeId} {u:Value}
theorem r_celL (q:Nat) {b j:Nat} {cs:List Value} (c:ev E x=some (.pointer (some ⟨b,j,none⟩))) (a:L[q]?=some (BE ⟨b,0,none⟩ cs)) (d:cs[j]?=some u) (e:Cv P T=true):AR P N D E (Mem w0 M L) (.load T x) ty u :=
 gj q (ad:=⟨b,0,none⟩) (j:=j) (by rw [c]; simp [add_lit]) a d e
end
theorem OD {α:Type} {enc:α->List Value} {e k:Nat} {w:World} {z:SlX α} (h:w.ownsRow 0 e k (z.v) z.l.length (z.l.flatMap enc)):Wf z:=by
 obtain ⟨A,c,b,g,f,d⟩:=Ay h;injection b with e1 _ e3;exact ⟨qO,qO,fun a=>by rw [e1]; exact d a⟩
section
variable {w0 w:World} {M:Fp} {L R:List Own} {α:Type} {enc:α->List Value} {ok:(Nat->Prop)->α->World->Prop}
theorem Mem.RD {l l':List α} {z:α} (h:Mem w0 M L w) (q b:Nat) (g:∀ x,Loc (fun S=>ok S x)) (hi:L[q]?=some (AS ok l)) (a:L[b]?=some (okP ok z)) (e:∀ y ∈ l',y ∈ l∨y=z):Mem w0 M (AS ok l'::L) w :=
 h.yO (Av g _) fun i c x f=>by
  rcases e x f with d | rfl
  ·exact c.at_ q _ hi x d
  ·exact c.at_ b _ a
end
theorem as_set1 {a w:World} {M:Fp} {R:List Own} {b t T k n c:Nat} {o:Own} {α:Type} {enc:α->List Value} {A:Option Addr} {u:Value} {l':List α} (e:n=l'.length) (h:Mem a M (o::.blk b [.slice A n c,u] T::Row (.slice A n c) t k enc l'::R) w):Mem a M (o::.blk b [.slice A l'.length c,u] T::Row (.slice A l'.length c) t k enc l'::R) w:=by grind
theorem Gb.toE {w:World} {P0:Nat->Prop} {a:Value->Value} {s:Shelf} {e:Ending} {w':World} (h:Gb w P0 a s e w'):FU w P0 (fun z:zB=>a (.agg (za z).toArray)) (fun z=>z.e=s) (fun z S=>zB.Ok S z) e w':=by
 obtain ⟨u,m,he,o,q,y,t,x,v,rfl,f,b,c,d⟩:=h;obtain ⟨n,g,rfl,_⟩:=f.form;obtain ⟨r,l,rfl,_⟩:=b.form;obtain ⟨p,k,rfl,_⟩:=c.form;obtain ⟨i,j,rfl,_⟩:=d.form;exact ⟨⟨⟨n,g,s.zM⟩,⟨r,l,s.raw⟩,⟨p,k,s.AD⟩,⟨i,j,s.coarse⟩,s.zS,s.zN,s.zG,s.zJ,s.zE⟩,m,he,rfl,o,q,f,b,c,d⟩
theorem Kx {α:Type} {l:List α} {i:Nat} {z:α}:∀ y ∈ l.set i z,y ∈ l∨y=z:=by grind
theorem GO {α:Type} {l:List α} {i:Nat} {z:α}:∀ y ∈ l.take i++z::l.drop i,y ∈ l∨y=z:=by grind
theorem Rl {α:Type} {p:α->Prop} {l l':List α} {z:α} (a:∀ y ∈ l',y ∈ l∨y=z) (h:∀ y ∈ l,p y) (b:p z):∀ y ∈ l',p y:=by grind
abbrev noX (e:Int):zk:=⟨e,0,⟨none,0,[]⟩,0⟩
theorem As (e:Int) (S:Nat->Prop) (w:World):zk.Ok S (noX e) w:=⟨zH.vh _ _ _ _,fun c a=>absurd a (List.not_mem_nil)⟩
structure ShFn (P:Program) (f:Nat) (cap:Array Value) (C:(Nat->Prop)->World->Prop) (g:Shelf->Shelf × Int):Prop where
  call:∀ vs w,(callFunc f vs).run P w=.ok (.enter f vs) w
  loc:Loc C
  run:∀ (s:zB) (w:World) (Pb:Nat->Prop),(∀ b,Pb b->b < w.heap.size)->zB.Ok Pb s w->C Pb w ->
    Calls P f (#[.agg (za s).toArray]++cap) w (FU w Pb (fun z:zB=>.tuple #[.agg (za z).toArray,.int .i64 (g s.e).2]) (fun z=>z.e=(g s.e).1) (fun z S=>zB.Ok S z))
section
variable {g:Shelf->Shelf × Int} {l l':List zB} {k:Nat} {s z:zB}
theorem JK (a:l[k]?=some s) (h:Bs.each g ((l.take k).map zB.e)=(l'.map zB.e,0)) (b:(g s.e).2≠0):(Bs.each g (l.map zB.e)).2=(g s.e).2 :=
 ((Bs.Mt (f:=g) (l:=l.map zB.e) (k:=k) (s:=s.e) (by rw [yV,a]; rfl) (by rw [<-List.map_take,h])).1 b).1
theorem Hw (a:l[k]?=some s) (h:Bs.each g ((l.take k).map zB.e)=(l'.map zB.e,0)) (c:¬ (g s.e).2≠0) (b:z.e=(g s.e).1):Bs.each g ((l.take (k + 1)).map zB.e)=((l'++[z]).map zB.e,0):=by
 have:=(Bs.Mt (f:=g) (l:=l.map zB.e) (k:=k) (s:=s.e) (by rw [yV,a]; rfl) (by rw [<-List.map_take,h])).2 (ym.1 c);rw [<-List.map_take,<-List.map_take,h] at this;refine Prod.ext ?_ this.1;rw [this.2,<-b,yi]; rfl
theorem JT (h:Bs.each g ((l.take k).map zB.e)=(l'.map zB.e,0)) (a:l.length<=k):Bs.each g (l.map zB.e)=(l'.map zB.e,0):=by rwa [vg a] at h
end
structure Gc (T1 T2:Nat) (S:Nat->Prop) (box bp:Nat) (x:yA) (w:World):Prop where
  sbox:S box
  sbp:S bp
  box:w.heap[box]?=some (.cells #[.pointer (some ⟨bp,0,none⟩)] T1 (0,0))
  base:w.heap[bp]?=some (.cells #[x.zA.v,.int .i64 x.zT] T2 (0,0))
  row:zH S 9 za (x.zA.v) x.zA.l w
  all:∀ s ∈ x.zA.l,zB.Ok S s w
section
variable {w0 w:World} {M:Fp} {L:List Own} {S S':Nat->Prop} {F G:World->Prop} {T1 T2 box bp:Nat} {x:yA} {s:zB}
theorem Mem.GG (h:Mem w0 M L w) (q:Nat) (hi:L[q]?=some (.dat S F)) (f:F w->G w) (c:F w->∀ b,S' b->S b) (a:∀ u u':World,(∀ b,S' b->u'.heap[b]?=u.heap[b]?)->G u->G u'):Mem w0 M (.dat S' G::L) w:=by
 have d:=(yb.1 hi).1;have:=(h.dup q hi rfl).wk (i:=0) (o:=.dat S F) (o':=.dat S' G) rfl ⟨f (h.dat hi),a⟩ (c (h.dat hi)) (fun h=>h);exact this
theorem Mem.lent (h:Mem w0 M L w) (q:Nat) (hi:L[q]?=some (.dat S (Gc T1 T2 S box bp x))):Mem w0 M (MH box [.pointer (some ⟨bp,0,none⟩)] T1::MH bp [x.zA.v,.int .i64 x.zT] T2::slO S 9 za (x.zA.v) x.zA.l::L) w:=by
 have f:=h.GG (S':=S) (G:=zH S 9 za (x.zA.v) x.zA.l) q hi (fun h=>h.row) (fun _ _ h=>h) fun _ _ c a=>a.Cl c;have d:=f.GG (S':=(·=bp)) (G:=fun w=>w.heap[bp]?=some (.cells [x.zA.v,.int .i64 x.zT].toArray T2 (0,0))) (q + 1) hi (fun h=>h.base) (fun h b e=>e ▸ h.sbp) fun _ _ c a=>(c _ rfl).trans a;exact d.GG (S':=(·=box)) (G:=fun w=>w.heap[box]?=some (.cells [.pointer (some ⟨bp,0,none⟩)].toArray T1 (0,0))) (q + 2) hi (fun h=>h.box) (fun h b e=>e ▸ h.sbox) fun _ _ c a=>(c _ rfl).trans a
theorem Mem.lentAt (h:Mem w0 M L w) (q:Nat) (hi:L[q]?=some (.dat S (Gc T1 T2 S box bp x))) {i:Nat} (a:x.zA.l[i]?=some s):Mem w0 M (slO S 2 zb (s.sr.v) s.sr.l::slO S 2 zX (s.raw.v) s.raw.l::slO S 8 zO (s.AD.v) s.AD.l::slO S 8 zO (s.coarse.v) s.coarse.l::L) w:=by
 have c:=vQ a;have d:=h.GG (S':=S) (G:=zH S 8 zO (s.coarse.v) s.coarse.l) q hi (fun h=>(h.all s c).coarse) (fun _ _ h=>h) fun _ _ a b=>b.Cl a;have f:=d.GG (S':=S) (G:=zH S 8 zO (s.AD.v) s.AD.l) (q + 1) hi (fun h=>(h.all s c).AD) (fun _ _ h=>h) fun _ _ a b=>b.Cl a;have e:=f.GG (S':=S) (G:=zH S 2 zX (s.raw.v) s.raw.l) (q + 2) hi (fun h=>(h.all s c).raw) (fun _ _ h=>h) fun _ _ a b=>b.Cl a;exact e.GG (S':=S) (G:=zH S 2 zb (s.sr.v) s.sr.l) (q + 3) hi (fun h=>(h.all s c).sr) (fun _ _ h=>h) fun _ _ a b=>b.Cl a
theorem Mem.lentWf (h:Mem w0 M L w) (q:Nat) (hi:L[q]?=some (.dat S (Gc T1 T2 S box bp x))):(∀ s ∈ x.zA.l,zB.Wf s)∧Ex.Wf x.zA:=⟨fun s a=>((h.dat hi).all s a).wf,zH.wf (h.dat hi).row⟩
theorem ND {b T T':Nat} {cs cs':List Value} {C:World->Prop} {H:(Nat->Prop)->World->Prop} (a:Nat) (h:AX [.blk b cs T,.dat S C,.pub H] a):(Own.blk b cs' T').fp a:=by
 obtain ⟨o,c,e,d⟩:=h
 simp only [ya,List.not_mem_nil,or_false] at c
 rcases c with rfl | rfl | rfl
 ·exact d
 all_goals cases e
end
section
variable {w0 w:World} {M:Fp} {L:List Own} {S:Nat->Prop} {C:World->Prop}
theorem Mem.Sc (h:Mem w0 M L w) (g:∀ b,S b->b < w.heap.size) (d:∀ (i:Nat) (o:Own),L[i]?=some o->o.mut=true->∀ b,S b->¬ o.fp b) (r:C w) (n:∀ u u':World,(∀ b,S b->u'.heap[b]?=u.heap[b]?)->C u->C u'):Mem w0 M (.dat S C::L) w:=by
  refine ⟨h.fr,fun i p hi=>?_,?_,?_⟩
  · cases i with
    | zero => obtain rfl : .dat S C = p := by simpa using hi
              exact ⟨⟨r,n⟩,g,fun a=>by cases a⟩
    | succ i=>exact h.ok i p (by simpa using hi)
  · intro i j p q hi l k a b e c
    cases i with
    | zero =>
      obtain rfl:.dat S C=p:=by simpa using hi
      cases j with
      | zero=>exact k rfl
      | succ j=>exact d j q (by simpa using l) (by rcases a with a | a; cases a; exact a) b e c
    | succ i =>
      cases j with
      | zero => obtain rfl : .dat S C = q := by simpa using l
                exact d i p (by simpa using hi) (by rcases a with a | a; exact a; cases a) b c e
      | succ j=>exact h.dj i j p q (by simpa using hi) (by simpa using l) qO a b e c
  · obtain ⟨m,f⟩:=h.pb
    refine ⟨m,f.sub,f.lt,fun i p hi a b e c=>?_,fun i F hi=>?_⟩
    · cases i with
      | zero => obtain rfl : .dat S C = p := by simpa using hi
                cases a
      | succ i=>exact f.dj i p (by simpa using hi) a b e c
    · cases i with
      | zero=>simp at hi
      | succ i=>exact f.at_ i F (by simpa using hi)
theorem Mem.celsY (h:Mem w0 M L w) (q:Nat) {e:SlX zC} (hi:L[q]?=some (okP CelsX.Ok e)):Mem w0 M (slP 2 zu (e.v) e.l::AS zC.Ok e.l::L) w:=by
 have b:=h.imp q hi (Av zC.Ok.loc e.l) fun _ a=>CelsX.Ok.all a;exact b.imp (q + 1) hi (zH.loc 2 zu _ e.l) fun _ a=>CelsX.Ok.cells a
theorem Gc.loc {T1 T2 a d:Nat} {x:yA} (u u':World) (c:∀ b,S b->u'.heap[b]?=u.heap[b]?) (h:Gc T1 T2 S a d x u):Gc T1 T2 S a d x u' :=
 ⟨h.sbox,h.sbp,(c _ h.sbox).trans h.box,(c _ h.sbp).trans h.base,h.row.Cl c,fun s e=>zB.Ok.loc s S S u u' (fun _ h=>h) c (h.all s e)⟩
theorem row_own {α:Type} {enc:α->List Value} {k e i:Nat} {l:List α} {v:Value} (he:Enc enc k) (h:Mem w0 M L w) (hi:L[i]?=some (Row v e k enc l)):zH (fun b=>v.ownBlock=some b) k enc v l w:=by
 have a:=h.row hi
 obtain ⟨A,c,rfl,g,n,p⟩:=Ay a
 refine ⟨A,c,rfl,g,by simpa [maxLen] using n,fun f=>?_⟩
 obtain ⟨ad,rfl⟩:=p f
 have o:(Value.slice (some ad) l.length c).ownBlock=some ad.block:=by
  rcases a.2 with ⟨d,t⟩ | ⟨s,cap,cur,d,_⟩
  ·cases d
  ·injection d with d _ _; injection d with d; subst d; rfl
 exact ⟨ad,rfl,o,fun r x q j u m=>(AM he h i hi).cell rfl q m⟩
variable {P:Program} {N:Nat} {D:List Deferred} {E:Env} {Q:Exit->Act->World->Prop} {ops:Array Oper} {rest:List Oper} {T:TypeId}
  {d:Nat} {ty:TypeId} {pos:String} {aft:Array Edge} {g:Option (Nat × Bool)} {y:Operand}
theorem l_lend {β:Type} {f:Nat} {args:Array Operand} {ts:Array TypeId} {vs cap:List Value} {T1 T2 T3 TI c k cost:Nat} {x:yA} {e:zD} {n n':Int} (O:List Own) (mk:β->Value) (pure:β->Prop) (ok:(Nat->Prop)->β->World->Prop)
    (X:∀ w,Mem w0 M L w->Mem w0 M (.blk cost [.int .i64 n] TI::okP zD.Ok e::.blk c [.pointer (some ⟨k,0,none⟩)] T1::.blk k [x.zA.v,.int .i64 x.zT] T2::Row (x.zA.v) T3 9 za x.zA.l::AS zB.Ok x.zA.l::O) w)
    (K:Want N D ops E g true) (hx:ev E y=some (.func (.func f) #[] cap.toArray)) (q:evs E args.toList=some vs)
    (r:∀ vs w,(callFunc f vs).run P w=.ok (.enter f vs) w) (U:Nat.blt d N=true)
    (V:∀ (S:Nat->Prop) w t,Mem w ⟨AX [.blk cost [.int .i64 n] TI,.dat S (Gc T1 T2 S c k x),okP zD.Ok e],t⟩ [.blk cost [.int .i64 n] TI,.dat S (Gc T1 T2 S c k x),okP zD.Ok e] w ->
      Calls P f (vs++cap).toArray w (Be w [.blk cost [.int .i64 n] TI,.dat S (Gc T1 T2 S c k x),okP zD.Ok e] t mk pure (fun z=>[okP ok z,.blk cost [.int .i64 n'] TI,okP zD.Ok e])))
    (h:∀ z,pure z->WL P N D ops Q rest ((d,mk z)::E) (Mem w0 M (okP ok z::.blk cost [.int .i64 n'] TI::okP zD.Ok e::.blk c [.pointer (some ⟨k,0,none⟩)] T1::.blk k [x.zA.v,.int .i64 x.zT] T2::Row (x.zA.v) T3 9 za x.zA.l::AS zB.Ok x.zA.l::O))) :
    WL P N D ops Q (⟨some d,.call { callee:=.value y,args:=args,argTypes:=ts },ty,pos,aft,g⟩::rest) E (Mem w0 M L) :=
  u6 (Φ:=fun v w'=>∃ z,v=mk z∧pure z∧Mem w0 M (okP ok z::.blk cost [.int .i64 n'] TI::okP zD.Ok e::.blk c [.pointer (some ⟨k,0,none⟩)] T1::.blk k [x.zA.v,.int .i64 x.zT] T2::Row (x.zA.v) T3 9 za x.zA.l::AS zB.Ok x.zA.l::O) w') K hx q r U (fun w m=>by
    have m:=X w m
    obtain ⟨t,F⟩:=m.pb
    have Z:=Mem.give (A:=[.blk cost [.int .i64 n] TI,okP zD.Ok e]) m F
    let S:Nat->Prop:=fun b=>t b∨b=c∨b=k∨(x.zA.v).ownBlock=some b
    have H:∀ b,S b->b < w.heap.size:=by
      rintro b (j | rfl | rfl | j)
      · exact F.lt b j
      · exact (m.ok 2 _ rfl).2.1 _ rfl
      · exact (m.ok 3 _ rfl).2.1 _ rfl
      · exact (m.ok 4 _ rfl).2.1 _ j
    have J:∀ b,S b->b≠cost:=by
      rintro b (j | rfl | rfl | j) e
      · exact F.dj 0 _ rfl rfl b j e
      · exact m.dj 2 0 _ _ rfl rfl qD (.inl rfl) _ rfl e
      · exact m.dj 3 0 _ _ rfl rfl qD (.inl rfl) _ rfl e
      · exact m.dj 4 0 _ _ rfl rfl qD (.inl rfl) _ j e
    have Y:Gc T1 T2 S c k x w:=⟨.inr (.inl rfl),.inr (.inr (.inl rfl)),m.blk (i:=2) rfl,m.blk (i:=3) rfl,(row_own AV m (i:=4) rfl).mono fun b j=>.inr (.inr (.inr j)),
      fun s R=>zB.Ok.loc s t S w w (fun b j=>.inl j) (fun _ _=>rfl) (F.at_ 5 _ rfl s R)⟩
    have u:=(Z.Sc (S:=S) (C:=Gc T1 T2 S c k x) H (fun i o hi p b j W=>by
      cases i with
      | zero => obtain rfl : Own.blk cost [.int .i64 n] TI = o := by simpa using hi
                exact J b j W
      | succ i => cases i with
        | zero => obtain rfl : okP zD.Ok e = o := by simpa using hi
                  cases p
        | succ i=>simp at hi) Y Gc.loc).sel [1,0,2] qD (L':=[.blk cost [.int .i64 n] TI,.dat S (Gc T1 T2 S c k x),okP zD.Ok e]) rfl
    have G:AX [.blk cost [.int .i64 n] TI,okP zD.Ok e]=AX [.blk cost [.int .i64 n] TI,.dat S (Gc T1 T2 S c k x),okP zD.Ok e]:=by
      funext b; apply propext; unfold AX
      constructor
      · rintro ⟨o,B,p,j⟩
        refine ⟨o,?_,p,j⟩
        simp only [ya,List.not_mem_nil,or_false] at B ⊢
        rcases B with h | h
        · exact .inl h
        · exact .inr (.inr h)
      · rintro ⟨o,B,p,j⟩
        simp only [ya,List.not_mem_nil,or_false] at B
        rcases B with rfl | rfl | rfl
        · exact ⟨_,uW,p,j⟩
        all_goals cases p
    rw [G] at u
    have:=V S w t u
    rw [<-List.append_toArray] at this
    refine this.mono fun e' w' ⟨z,he,I,hk⟩=>⟨mk z,he,z,rfl,I,?_⟩
    rw [<-G] at hk
    exact Mem.take (A':=[okP ok z,.blk cost [.int .i64 n'] TI,okP zD.Ok e]) m F hk rfl) (fun v w K a T=>by obtain ⟨z,rfl,I,p⟩:=K; exact h z I w p a T)
end
section
variable {x:yA} {d:vC} {e:zD} {er at_:Int} {z:SlX zC}
theorem ask_1 (b:Pz.parse d.text=(e.e,(er,at_))) (a:er≠0):(x.e,zk.e ⟨er,at_,⟨none,0,[]⟩,0⟩)=(x.e,Bs.ask x.e d.e):=by
 unfold Bs.ask;rw [show d.e.text=d.text from rfl,b,zP a]; rfl
theorem ask_2 (c:Pz.parse d.text=(e.e,(er,at_))) (a:¬ er≠0) (b:Mn.check e.e d.to≠0):(x.e,(noX (Mn.check e.e d.to)).e)=(x.e,Bs.ask x.e d.e):=by
 unfold Bs.ask;rw [show d.e.text=d.text from rfl,c,zI a,zP (show Mn.check e.e d.e.to≠0 from b)]; rfl
theorem ask_3 (f:Pz.parse d.text=(e.e,(er,at_))) (b:¬ er≠0) (c:¬ Mn.check e.e d.to≠0) (a:(Mn.out (Mn.eval (Bs.look (x.zA.l.map zB.e)) d.to e.e)).2≠0):(x.e,(noX (Mn.out (Mn.eval (Bs.look (x.zA.l.map zB.e)) d.to e.e)).2).e)=(x.e,Bs.ask x.e d.e):=by
 unfold Bs.ask;rw [show d.e.text=d.text from rfl,f,zI b,zI (show ¬ Mn.check e.e d.e.to≠0 from c),zP (show (Bs.asked x.e.zA e.e d.e.to).2≠0 from a)]; rfl
theorem ask_4 (a:Pz.parse d.text=(e.e,(er,at_))) (b:¬ er≠0) (f:¬ Mn.check e.e d.to≠0) (c:¬ (Mn.out (Mn.eval (Bs.look (x.zA.l.map zB.e)) d.to e.e)).2≠0) (g:z.l.map zC.e=(Mn.out (Mn.eval (Bs.look (x.zA.l.map zB.e)) d.to e.e)).1) :
  (x.e,zk.e ⟨0,0,z,Mn.AW (Bs.look (x.zA.l.map zB.e)) (Bs.cost (x.zA.l.map zB.e)) d.to e.e 0⟩)=(x.e,Bs.ask x.e d.e):=by
 unfold Bs.ask
 rw [show d.e.text=d.text from rfl,a,zI b,zI (show ¬ Mn.check e.e d.e.to≠0 from f),zI (show ¬ (Bs.asked x.e.zA e.e d.e.to).2≠0 from c)]
 show (x.e,(⟨0,0,z.l.map zC.e,_⟩:Ans))=_
 rw [g]; rfl
theorem Kd {n:Nat} (h:Bs.Inv x.e n):∀ s ∈ x.zA.l,s.sr.l.length<=1048576:=fun s a=>by
 obtain ⟨b,c,_⟩:=h.Cl s.e (yr.2 ⟨s,a,rfl⟩)
 have:s.e.zM.length<=4:=c.ok.lens.1
 exact vN this qD
end
section
variable {w0 w:World} {M:Fp} {L:List Own}
theorem Mem.sealB2 {i j k b:Nat} {cs:List Value} {T:TypeId} {o' a:Own} (h:Mem w0 M L w) (hi:L[i]?=some (.blk b cs T)) (p:L[j]?=some o') (q:L[k]?=some a) (l:Nat.beq i j=false) (d:Nat.beq i k=false) (o:∀ b,M.m b->o'.fp b∨a.fp b):Mem w0 M (L.set i (BE ⟨b,0,none⟩ cs)) w:=by
 refine h.q3 hi rfl (fun c f=>?_) (ve.loc _ _) fun r s=>⟨.inr rfl,fun j u n=>?_⟩;rcases (h.ok i _ hi).2.2 rfl c f with e | e
 exact .inl e;rcases o c e with g | g
 exact absurd g (h.dj i j _ _ hi p (Nat.ne_of_beq_eq_false l) (.inl rfl) c f);exact absurd g (h.dj i k _ _ hi q (Nat.ne_of_beq_eq_false d) (.inl rfl) c f);rw [add_lit];have:=h.cell (j:=0 + j) hi;rw [this]; simpa using n
theorem onlyB {α:Type} {enc:α->List Value} {l:List α} {v:Value} {e k b T T':Nat} {cs cs':List Value} {i g m f:(Nat->Prop)->World->Prop} (a:Nat) (h:AX [.blk b cs T,Row v e k enc l,.pub i,.pub g,.pub m,.pub f] a):(Own.blk b cs' T').fp a∨(Row v e k enc l).fp a:=by
 obtain ⟨o,d,j,c⟩:=h
 simp only [ya,List.not_mem_nil,or_false] at d
 rcases d with rfl | rfl | rfl | rfl | rfl | rfl
 ·exact .inl c
 ·exact .inr c
 all_goals cases j
variable {P:Program} {N:Nat} {D:List Deferred} {E:Env} {Q:Exit->Act->World->Prop} {ops:Array Oper} {rest:List Oper} {T:TypeId}
theorem QH (i j k:Nat) {b:Nat} {cs:List Value} {o' a:Own} (hi:L[i]?=some (.blk b cs T)) (f:L[j]?=some o') (l:L[k]?=some a) (d:Nat.beq i j=false) (c:Nat.beq i k=false) (e:∀ b,M.m b->o'.fp b∨a.fp b) (h:WL P N D ops Q rest E (Mem w0 M (L.set i (BE ⟨b,0,none⟩ cs)))):WL P N D ops Q rest E (Mem w0 M L) :=
 fun w g=>h w (g.sealB2 hi f l d c e)
end
structure DoAt (ba dad:Addr) (d:vC) (S:Nat->Prop) (w:World):Prop where
  box:ve S ba [.pointer (some ((Addr.add dad 0).add 0))] w
  cel:ve S dad (qA d) w
  ok:vC.Ok S d w
theorem DoAt.loc (e b:Addr) (d:vC):Loc (DoAt e b d):=fun S S' u u' a c h=>⟨ve.loc _ _ S S' u u' a c h.box,ve.loc _ _ S S' u u' a c h.cel,vC.Ok.loc d S S' u u' a c h.ok⟩
section
variable {x z:yA} {d:vC} {r:CW × Ans}
theorem Jm (h:d.kind=1) (a:r=Bs.add x.e d.e):r=Bs.one x.e d.e:=a.trans (zP h).symm
theorem Ot (a:¬ d.kind=1) (c:d.kind=4) (b:r=(x.e,Bs.ask x.e d.e)):r=Bs.one x.e d.e:=b.trans ((zI a).trans (zP c)).symm
theorem one_3 (a:¬ d.kind=1) (b:¬ d.kind=4) (h:¬ (d.kind=2∨d.kind=3)):(x.e,(noX 1).e)=Bs.one x.e d.e:=((zI a).trans ((zI b).trans (zP h))).symm
theorem Jc (a:¬ d.kind=1) (b:¬ d.kind=4) (h:d.kind=2∨d.kind=3) (c:d.to < 0∨1000000 < d.to):(x.e,(noX 3).e)=Bs.one x.e d.e:=((zI a).trans ((zI b).trans ((zI (ym.2 h)).trans (zP c)))).symm
theorem Jh (a:¬ d.kind=1) (b:¬ d.kind=4) (h:d.kind=2∨d.kind=3) (c:¬ (d.to < 0∨1000000 < d.to)):Bs.one x.e d.e=if d.kind=3 then (if d.AG < 0∨2 < d.AG then (x.e,Bs.no 1) else Bs.Cn x.e d.AG d.to) else Bs.HJ x.e d.to :=
 (zI a).trans ((zI b).trans ((zI (ym.2 h)).trans (zI c)))
theorem SK (a:¬ d.kind=1) (b:¬ d.kind=4) (h:d.kind=3) (f:¬ (d.to < 0∨1000000 < d.to)) (c:d.AG < 0∨2 < d.AG):(x.e,(noX 1).e)=Bs.one x.e d.e:=by
 rw [Jh a b (.inr h) f,zP h,zP c]; rfl
theorem one_6 (a:¬ d.kind=1) (b:¬ d.kind=4) (h:d.kind=3) (f:¬ (d.to < 0∨1000000 < d.to)) (c:¬ (d.AG < 0∨2 < d.AG))
  (i:z.e=if (Bs.each (fun s=>Sh.forget s d.AG d.to) x.e.zA).2≠0 then x.e else ⟨(Bs.each (fun s=>Sh.forget s d.AG d.to) x.e.zA).1,x.zT⟩):(z.e,(noX (Bs.each (fun s=>Sh.forget s d.AG d.to) x.e.zA).2).e)=Bs.one x.e d.e:=by
 rw [Jh a b (.inr h) f,zP h,zI c,i]
 unfold Bs.Cn
 split
 ·rfl
 ·rename_i g
  show _=(_,Bs.no 0)
  rw [ym.1 g]; rfl
theorem one_7 (a:¬ d.kind=1) (b:¬ d.kind=4) (c:d.kind=2) (f:¬ (d.to < 0∨1000000 < d.to)) (he:(Bs.each (fun s=>Sh.Ab s d.to) x.e.zA).2≠0)
  (g:z.e=if (Bs.each (fun s=>Sh.Ab s d.to) x.e.zA).2≠0 then x.e else ⟨(Bs.each (fun s=>Sh.Ab s d.to) x.e.zA).1,x.zT⟩):(z.e,(noX (Bs.each (fun s=>Sh.Ab s d.to) x.e.zA).2).e)=Bs.one x.e d.e:=by
 rw [Jh a b (.inl c) f,zI qO,g,zP he]
 exact (zP he).symm
theorem one_8 (c:¬ d.kind=1) (g:¬ d.kind=4) (h:d.kind=2) (i:¬ (d.to < 0∨1000000 < d.to)) (he:(Bs.each (fun s=>Sh.Ab s d.to) x.e.zA).2=0)
  (a:z.e=if (Bs.each (fun s=>Sh.Ab s d.to) x.e.zA).2≠0 then x.e else ⟨(Bs.each (fun s=>Sh.Ab s d.to) x.e.zA).1,x.zT⟩):(yA.e ⟨z.zA,Sh.mx z.zT (d.to - d.to % 10)⟩,(noX (Bs.each (fun s=>Sh.Ab s d.to) x.e.zA).2).e)=Bs.one x.e d.e:=by
 rw [zI (ym.2 he)] at a
 have f:z.zA.l.map zB.e=(Bs.each (fun s=>Sh.Ab s d.to) x.e.zA).1:=congrArg CW.zA a
 have b:z.zT=x.zT:=congrArg CW.zT a
 rw [Jh c g (.inl h) i,zI qO,he,b]
 show ((⟨z.zA.l.map zB.e,Sh.mx x.zT (d.to - d.to % 10)⟩:CW),Bs.no 0)=_
 rw [f]
 exact (zI (ym.2 he)).symm
theorem hor_of {g:Shelf->Shelf × Int} (a:z.e=if (Bs.each g x.e.zA).2≠0 then x.e else ⟨(Bs.each g x.e.zA).1,x.zT⟩):z.zT=x.zT:=by
 have h:=congrArg CW.zT a;rw [show z.zT=z.e.zT from rfl,h]; split <;> rfl
end
section
variable {l:List vC} {k:Nat} {s:vC} {x:yA} {z:yA × zk} {zs:List zk} {r:List Ans}
theorem inv_at (h:Bs.run Bs.zero ((l.take k).map vC.e)=(x.e,r)) (a:l.length<=120):Bs.Inv x.e 120:=by
 have:=Bs.Vy ((l.take k).map vC.e) (by rw [vb,List.length_take]; omega)
 rwa [h] at this
theorem Mp (a:l[k]?=some s) (h:Bs.run Bs.zero ((l.take k).map vC.e)=(x.e,zs.map zk.e)) (b:(z.1.e,z.2.e)=Bs.one x.e s.e):Bs.run Bs.zero ((l.take (k + 1)).map vC.e)=(z.1.e,(zs++[z.2]).map zk.e):=by
 rw [Bs.WH a,h,<-b,yi]; rfl
theorem MS (h:120 < (l.length:Int)):Bs.GQ (l.map vC.e)=(Bs.zero,[],5):=by unfold Bs.GQ; rw [zP (by rw [vb]; omega)]
theorem On (h:Bs.run Bs.zero ((l.take k).map vC.e)=(x.e,zs.map zk.e)) (a:l.length<=k) (b:l.length<=120):Bs.GQ (l.map vC.e)=(x.e,zs.map zk.e,0):=by
 rw [vg a] at h;unfold Bs.GQ;rw [zI (by rw [vb]; omega),h]
end
section
variable {x:yA} {d:vC} {s z:zB} {A:Option Addr} {c:Nat}
theorem asc_k {n:Nat} (h:Bs.Inv x.e n):Mn.Asc (x.zA.l.map zB.k):=by have:=h.asc; rw [show x.e.zA=x.zA.l.map zB.e from rfl,List.map_map] at this; exact this
theorem pos_ltS {cs:List zB} {s:List Label} (d:Mn.Asc (cs.map zB.k)) (a:Mn.has (cs.map zB.k) s=true):Mn.pos (cs.map zB.k) s < cs.length:=by
 obtain ⟨c,b,_⟩:=Mn.IL ⟨#[]⟩ 0 d a;have:=(yb.1 b).1;simpa using this
theorem TS {cs:List zB} {s:List Label}:Mn.pos (cs.map zB.k) s<=cs.length:=by have:=Mn.RR (cs.map zB.k) s; simpa using this
theorem Sx {n:Nat} (h:Bs.Inv x.e n):x.zA.l.length<=8:=by have:=h.len; rwa [show x.e.zA=x.zA.l.map zB.e from rfl,vb] at this
theorem TX (t:List Label):Bs.there x.e.zA t=Mn.has (x.zA.l.map zB.k) t:=by unfold Bs.there; rw [show x.e.zA=x.zA.l.map zB.e from rfl,List.map_map]; rfl
theorem IU (t:List Label):Bs.place x.e.zA t=Mn.pos (x.zA.l.map zB.k) t:=by unfold Bs.place; rw [show x.e.zA=x.zA.l.map zB.e from rfl,List.map_map]; rfl
theorem add_1 (a:zF.AE d.sr.l≠0):(x.e,(noX (zF.AE d.sr.l)).e)=Bs.add x.e d.e:=(zP a).symm
theorem add_2 (a:¬ zF.AE d.sr.l≠0) (b:(Codec.AE [d.zW]).err≠0):(x.e,(noX (Codec.AE [d.zW]).err).e)=Bs.add x.e d.e:=((zI a).trans (zP b)).symm
theorem add_3 (b:¬ zF.AE d.sr.l≠0) (c:¬ (Codec.AE [d.zW]).err≠0) (a:d.zW.time < x.zT):(x.e,(noX 9).e)=Bs.add x.e d.e:=((zI b).trans ((zI c).trans (zP a))).symm
theorem add_a (b:¬ zF.AE d.sr.l≠0) (g:¬ (Codec.AE [d.zW]).err≠0) (c:¬ d.zW.time < x.zT) (f:Mn.has (x.zA.l.map zB.k) d.sr.l=true) (a:x.zA.l[Mn.pos (x.zA.l.map zB.k) d.sr.l]?=some s) :
  Bs.add x.e d.e=if (Sh.append s.e d.zW).2≠0 then (x.e,Bs.no (Sh.append s.e d.zW).2) else (⟨x.e.zA.set (Bs.place x.e.zA d.e.sr) (Sh.append s.e d.zW).1,x.zT⟩,Bs.no 0):=by
 refine (zI b).trans ((zI g).trans ((zI c).trans ((zP ((TX _).trans f)).trans ?_)))
 have:x.e.zA[Bs.place x.e.zA d.e.sr]?=some s.e:=by rw [IU,show x.e.zA=x.zA.l.map zB.e from rfl,yV]; exact congrArg (Option.map zB.e) a
 rw [this]; rfl
theorem add_4 (b:¬ zF.AE d.sr.l≠0) (g:¬ (Codec.AE [d.zW]).err≠0) (c:¬ d.zW.time < x.zT) (f:Mn.has (x.zA.l.map zB.k) d.sr.l=true) (a:x.zA.l[Mn.pos (x.zA.l.map zB.k) d.sr.l]?=some s)
  (h:(Sh.append s.e d.zW).2≠0):(x.e,(noX (Sh.append s.e d.zW).2).e)=Bs.add x.e d.e:=by rw [add_a b g c f a,zP h]; rfl
theorem add_5 (b:¬ zF.AE d.sr.l≠0) (h:¬ (Codec.AE [d.zW]).err≠0) (f:¬ d.zW.time < x.zT) (g:Mn.has (x.zA.l.map zB.k) d.sr.l=true) (a:x.zA.l[Mn.pos (x.zA.l.map zB.k) d.sr.l]?=some s)
  (i:¬ (Sh.append s.e d.zW).2≠0) (j:z.e=(Sh.append s.e d.zW).1):(yA.e ⟨⟨A,c,x.zA.l.set (Mn.pos (x.zA.l.map zB.k) d.sr.l) z⟩,x.zT⟩,(noX 0).e)=Bs.add x.e d.e:=by
 rw [add_a b h f g a,zI i,IU,<-j]
 show ((⟨(x.zA.l.set _ z).map zB.e,x.zT⟩:CW),Bs.no 0)=_
 rw [List.map_set]; rfl
theorem Ts (f:¬ zF.AE d.sr.l≠0) (c:¬ (Codec.AE [d.zW]).err≠0) (a:¬ d.zW.time < x.zT) (b:Mn.has (x.zA.l.map zB.k) d.sr.l=false) :
  Bs.add x.e d.e=if x.e.zA.length=8 then (x.e,Bs.no 5) else if (Sh.append (Bs.fresh d.sr.l x.zT) d.zW).2≠0 then (x.e,Bs.no (Sh.append (Bs.fresh d.sr.l x.zT) d.zW).2)
   else (⟨x.e.zA.take (Bs.place x.e.zA d.sr.l)++(Sh.append (Bs.fresh d.sr.l x.zT) d.zW).1::x.e.zA.drop (Bs.place x.e.zA d.sr.l),x.zT⟩,Bs.no 0) :=
 (zI f).trans ((zI c).trans ((zI a).trans (zI (by rw [TX]; intro h; rw [show Mn.has (x.zA.l.map zB.k) d.e.sr=false from b] at h; cases h))))
theorem add_6 (a:¬ zF.AE d.sr.l≠0) (f:¬ (Codec.AE [d.zW]).err≠0) (b:¬ d.zW.time < x.zT) (c:Mn.has (x.zA.l.map zB.k) d.sr.l=false) (g:(x.zA.l.length:Int)=8):(x.e,(noX 5).e)=Bs.add x.e d.e:=by
 rw [Ts a f b c,zP (by rw [show x.e.zA=x.zA.l.map zB.e from rfl,vb]; omega)]; rfl
theorem add_7 (b:¬ zF.AE d.sr.l≠0) (g:¬ (Codec.AE [d.zW]).err≠0) (c:¬ d.zW.time < x.zT) (f:Mn.has (x.zA.l.map zB.k) d.sr.l=false) (h:¬ (x.zA.l.length:Int)=8)
  (a:(Sh.append (Bs.fresh d.sr.l x.zT) d.zW).2≠0):(x.e,(noX (Sh.append (Bs.fresh d.sr.l x.zT) d.zW).2).e)=Bs.add x.e d.e:=by
 rw [Ts b g c f,zI (by rw [show x.e.zA=x.zA.l.map zB.e from rfl,vb]; omega),zP a]; rfl
theorem add_8 (b:¬ zF.AE d.sr.l≠0) (h:¬ (Codec.AE [d.zW]).err≠0) (f:¬ d.zW.time < x.zT) (g:Mn.has (x.zA.l.map zB.k) d.sr.l=false) (j:¬ (x.zA.l.length:Int)=8)
  (a:¬ (Sh.append (Bs.fresh d.sr.l x.zT) d.zW).2≠0) (i:z.e=(Sh.append (Bs.fresh d.sr.l x.zT) d.zW).1) :
  (yA.e ⟨⟨A,c,x.zA.l.take (Mn.pos (x.zA.l.map zB.k) d.sr.l)++z::x.zA.l.drop (Mn.pos (x.zA.l.map zB.k) d.sr.l)⟩,x.zT⟩,(noX 0).e)=Bs.add x.e d.e:=by
 rw [Ts b h f g,zI (by rw [show x.e.zA=x.zA.l.map zB.e from rfl,vb]; omega),zI a,IU,<-i]
 show ((⟨(x.zA.l.take _++z::x.zA.l.drop _).map zB.e,x.zT⟩:CW),Bs.no 0)=_
 rw [yi,vl,List.map_take,List.map_drop]; rfl
end
end Ex
end
section
namespace Ex
@[reducible] def iV (n:Int):Value:=.int .i64 n
@[reducible] def Zs:Value:=.slice none 0 0
@[reducible] def Zx:List Value:=[.int .i64 0,.int .i64 0,.int .i64 0,.string ⟨#[]⟩,.slice none 0 0,.slice none 0 0,.slice none 0 0]
@[reducible] def Wb (T:TypeId) (p:Nat) (s:ByteArray) (i:Nat) (n be ba:Int):Own:=.blk p [.string s,.int .i64 (i:Int),.int .i64 n,.int .i64 be,.int .i64 ba] T
@[reducible] def Rb (T:TypeId) (p:Nat) (s:ByteArray) (i:Nat) (n:Int):Own:=.blk p [.string s,.int .i64 (i:Int),.int .i64 n] T
end Ex
end
section
namespace Ex
def thrown (T:TypeId) (f:Pz.F):Value:=.iface T (.agg (List.toArray [.int .i64 f.1,.int .i64 f.2]))
@[reducible] def pan (T:TypeId) (f:Pz.F):List PanicEntry:=[{ v:=thrown T f,recovered:=false }]
def FY {α:Type} (w:World) (A:List Own) (Pb:Nat->Prop) (PT:TypeId) (mk:α->Value) (pure:α->Prop) (A':α->List Own) (bad:Pz.F->Prop):Ending->World->Prop:=fun e w' =>
  Be w A Pb mk pure A' e w'∨∃ f,e=.panicked (pan PT f)∧bad f∧Fr (AX A) w w'
section
variable {P:Program} {N:Nat} {D:List Deferred} {E E':Env} {S S':World->Prop} {Q:Exit->Act->World->Prop} {K:Act->World->Prop} {w0 w w':World} {M:Fp} {L A A' R:List Own} {Pb:Nat->Prop}
  {ops:Array Oper} {rest:List Oper} {d:Nat} {ty T PT:TypeId} {pos:String} {aft:Array Edge} {g:Option (Nat × Bool)} {v u:Value} {x y:Operand}
theorem Mem.dropA (h:Mem w0 M (A++R) w) (k:Fr (AX A) w w'):Mem w0 M R w':=by
 have d:∀ (j:Nat) (o:Own),R[j]?=some o->(A++R)[A.length + j]?=some o:=fun j o e=>by rw [jU qO]; simpa using e
 have g:∀ b,AX A b->∃ (i:Nat) (o:Own),(A++R)[i]?=some o∧i < A.length∧o.mut=true∧o.fp b:=by
  rintro b ⟨o,u,f,a⟩
  obtain ⟨i,hi,rfl⟩:=List.mem_iff_getElem.1 u
  exact ⟨i,_,by rw [uX hi]; exact vA hi,hi,f,a⟩
 have p:∀ (j:Nat) (o:Own),R[j]?=some o->∀ b,o.fp b->w'.heap[b]?=w.heap[b]?:=fun j o e b a=>k.block b ((h.ok _ o (d j o e)).2.1 b a) fun m=>by
  obtain ⟨i,o',hi,s,f,c⟩:=g b m
  exact h.dj i _ o' o hi (d j o e) qO (.inl f) b c a
 have n:=k.size
 refine ⟨h.fr.trans k fun b a m=>?_,fun i o hi=>?_,fun i j o o' hi e v r=>h.dj _ _ o o' (d i o hi) (d j o' e) qO r,?_⟩
 ·obtain ⟨i,o',hi,_,f,c⟩:=g b m
  exact ((h.ok i o' hi).2.2 f b c).resolve_left qO
 ·obtain ⟨x,y,t⟩:=h.ok _ o (d i o hi)
  exact ⟨Own.GC x (p i o hi),fun b a=>uP (y b a) n,t⟩
 ·obtain ⟨q,l⟩:=h.pb
  refine ⟨q,l.sub,fun b a=>uP (l.lt b a) n,fun i o hi=>l.dj _ o (d i o hi),fun i F hi=>?_⟩
  exact (h.ok _ _ (d i _ hi)).1 q q w w' (fun _ h=>h) (fun b a=>k.block b (l.lt b a) fun m=>by
   obtain ⟨j,o',e,_,f,c⟩:=g b m
   exact l.dj j o' e f b a c) (l.at_ _ F (d i _ hi))
theorem l_giveX {α:Type} {f:Nat} {args:Array Operand} {ts:Array TypeId} {vs cap:List Value} (A R:List Own) (r:α->Value) (c:α->Prop) (A' L':α->List Own) (k:Pz.F->Prop) (p:∀ z,A' z++R=L' z) (t:∀ w,Mem w0 M L w->Mem w0 M (A++R) w) (v:∀ z,(A' z).all (fun o=>o.mut || o.Cu)=true)
  (u:Want N D ops E g true) (K:ev E x=some (.func (.func f) #[] cap.toArray)) (j:evs E args.toList=some vs)
  (i:∀ vs w,(callFunc f vs).run P w=.ok (.enter f vs) w) (G:Nat.blt d N=true)
  (I:∀ w l,Mem w ⟨AX A,l⟩ A w->Calls P f (vs++cap).toArray w (FY w A l PT r c A' k))
  (H:∀ f,k f->WE N D Q (.panic (pan PT f)) E (Mem w0 M R))
  (h:∀ z,c z->WL P N D ops Q rest ((d,r z)::E) (Mem w0 M (L' z))) :
  WL P N D ops Q (⟨some d,.call { callee:=.value x,args:=args,argTypes:=ts },ty,pos,aft,g⟩::rest) E (Mem w0 M L):=fun w J a m=>by
 unfold wpList
 rw [zP (u _ rfl a m)]
 left
 unfold Oper.wp
 rw [IY m K j i rfl,Oper.upon_enter]
 have b:=t w J
 obtain ⟨l,s⟩:=b.pb
 have q:=I w l (b.give s)
 rw [<-List.append_toArray] at q
 refine q.mono ?_
 rintro e w' (⟨z,rfl,y,B⟩ | ⟨f,rfl,C,n⟩)
 ·exact h z y w' (by rw [<-p z]; exact b.take s B (v z)) _ (m.put _ G)
 ·exact H f C w' (b.dropA n) a m
theorem Mem.retX {α:Type} {c:α->Value} {a:α->Prop} {A':α->List Own} {b:Pz.F->Prop} (h:Mem w ⟨AX A,Pb⟩ L w') (z:α) (e:v=c z) (f:a z) (d:Mem w ⟨AX A,Pb⟩ L w'->Mem w ⟨AX A,Pb⟩ (A' z) w'):FY w A Pb PT c a A' b (.returned v) w':=.inl (h.yz z e f d)
theorem Mem.zq {α:Type} {c:α->Value} {b:α->Prop} {A':α->List Own} {a:Pz.F->Prop} (h:Mem w ⟨AX A,Pb⟩ L w') (f:Pz.F) (d:a f):FY w A Pb PT c b A' a (.panicked (pan PT f)) w':=.inr ⟨f,rfl,d,h.fr⟩
theorem zY {c:List PanicEntry} (h:WE N D Q (.panic c) E S):WE N D (Exit.then K Q) (.panic c) E S:=h
theorem yK {c:List PanicEntry} {id:Nat} (h:WE N D Q (.panic c) E S):WE N D (Exit.inBlock id Q) (.panic c) E S:=h
theorem vq {K:Exit->Act->World->Prop} {c:List PanicEntry} (a:∀ c S',WE N D Q (.panic c) [] S'->∀ E',WE N D K (.panic c) E' S') (h:WE N D Q (.panic c) [] S):WE N D K (.panic c) E S:=a c S h E
theorem zd {fn:Func} {R:Ending->World->Prop} {c:List PanicEntry} (h:∀ w,S w->R (.panicked c) w):WE N [] (bodyPost P fn R) (.panic c) E S:=fun w e a b=>⟨b.d,h w e⟩
section
variable {α β γ δ:Type} {c:List PanicEntry}
theorem un {b:α->β->γ->δ->Env} {d:α->β->γ->δ->List Own} {a:α->β->γ->δ->Prop} {μ:α->β->γ->δ->Nat} {m:Nat} (h:WE N D Q (.panic c) E S):WE N D (LQ4 N D w0 M b d a μ m Q) (.panic c) E S:=h
theorem y7 {ε:Type} {b:α->β->γ->δ->ε->Env} {d:α->β->γ->δ->ε->List Own} {a:α->β->γ->δ->ε->Prop} {μ:α->β->γ->δ->ε->Nat} {m:Nat} (h:WE N D Q (.panic c) E S):WE N D (LQ5 N D w0 M b d a μ m Q) (.panic c) E S:=h
end
theorem r_mkI {cs:List Value} (e:ev E x=some (.agg cs.toArray)) (b:P.concrete T=true):AR P N D E S (.makeInterface T x) ty (.iface T (.agg cs.toArray)):=fun o d _ a w c _=>by
 unfold execOp; rw [d]; simp [c.eval e,run_makeInterface _ T _ b]
theorem l_panic (e:Want N D ops E g true) (d:ev E x=some (.iface T v)) (h:WE N D Q (.panic [{ v:=.iface T v,recovered:=false }]) E S):WL P N D ops Q (⟨none,.panic x,ty,pos,aft,g⟩::rest) E S:=fun w c a b=>by
 unfold wpList
 rw [zP (e _ rfl a b)]
 left
 unfold Oper.wp
 rw [show (execOp a.eval ⟨none,.panic x,ty,pos,aft,g⟩).run P w=.halt (.panic (.iface T v)) w from by unfold execOp; simp [b.eval d,Instr.panic,goPanic],Oper.upon_panic]
 exact h w c a b
theorem fp1 {p:Nat} {cs:List Value} {T:TypeId} (b:Nat) (h:AX [.blk p cs T] b):b=p:=by
 obtain ⟨o,c,_,a⟩:=h;rw [yf.1 c] at a; exact a
theorem fp2 {p:Nat} {cs:List Value} {T:TypeId} {F:(Nat->Prop)->World->Prop} (b:Nat) (h:AX [.blk p cs T,.pub F] b):b=p:=by
 obtain ⟨o,a,c,d⟩:=h;rcases ya.1 a with rfl | a
 exact d;rw [yf.1 a] at c; cases c
theorem Mem.notP {o:Own} {i j p:Nat} {cs:List Value} (h:Mem w0 M L w) (hi:L[i]?=some o) (g:L[j]?=some (.blk p cs T)) (c:i≠j) (e:o.mut=true) (f:∀ b,M.m b->b=p):∀ b,o.fp b->w0.heap.size<=b∨M.p b:=fun b d=>by
 rcases (h.ok i o hi).2.2 e b d with a | a
 ·exact .inl a
 ·exact absurd (show (Own.blk p cs T).fp b from f b a) (h.dj i j o _ hi g c (.inl e) b d)
theorem Mem.WI {α:Type} {enc:α->List Value} {k p:Nat} {cs:List Value} {e:TypeId} {l:List α} (he:Enc enc k) (h:Mem w0 M L w) {i j:Nat} (hi:L[i]?=some (Row v e k enc l)) (n:L[j]?=some (.blk p cs T)) (s:∀ b,M.m b->b=p):Mem w0 M (L.set i (slP k enc v l)) w:=by
 have g:i≠j:=by rintro rfl; rw [hi] at n; cases n
 refine h.q3 hi rfl (h.notP hi n g rfl s) (zH.loc _ _ _ _) fun B E=>?_
 have a:=h.row hi
 obtain ⟨A,c,rfl,o,r,y⟩:=Ay a
 refine ⟨A,c,rfl,o,by simpa [maxLen] using r,fun f=>?_⟩
 obtain ⟨ad,rfl⟩:=y f
 have t:(Value.slice (some ad) l.length c).ownBlock=some ad.block:=by
  rcases a.2 with ⟨d,F⟩ | ⟨D,cap,cur,d,_⟩
  ·cases d
  ·injection d with d _ _; injection d with d; subst d; rfl
 refine ⟨ad,rfl,.inr t,fun C x z j u q=>?_⟩
 exact (AM he h i hi).cell rfl z q
theorem vW {α:Type} {enc:α->List Value} {k p:Nat} {cs:List Value} {e:TypeId} {l:List α} (i j:Nat) (he:Enc enc k) (hi:L[i]?=some (Row v e k enc l)) (d:L[j]?=some (.blk p cs T)) (c:∀ b,M.m b->b=p) (h:WL P N D ops Q rest E (Mem w0 M (L.set i (slP k enc v l)))):WL P N D ops Q rest E (Mem w0 M L) :=
 fun w a=>h w (a.WI he hi d c)
theorem Mem.ER (h:Mem w0 M L w) {k n r:Int} {wd:ByteArray} {ms:SlX Match} {bs:SlX ByteArray} {ks:SlX zD} (i:∀ a,DP w0 M L w a->zH a 3 yF (ms.v) ms.l w) (f:∀ a,DP w0 M L w a->zH a 1 Ac (bs.v) bs.l w)
  (m:∀ a,DP w0 M L w a->zH a 7 yD (ks.v) ks.l w) (g:∀ a,DP w0 M L w a->∀ x ∈ ks.l,zD.Ok a x w) (j:wd.size<=100) (b:∀ x ∈ ms.l,x.key.size<=100∧x.val.size<=100) (e:∀ x ∈ bs.l,x.size<=100) :
  Mem w0 M (okP zD.Ok (.mk k n r wd ms bs ks)::L) w :=
 h.yO (zD.Ok.loc _) fun a c=>.mk (i a c) (f a c) (m a c) (g a c) ⟨vN j qD,fun x d=>⟨vN (b x d).1 qD,vN (b x d).2 qD⟩,fun x d=>vN (e x d) qD⟩
theorem UF {f:TypeId} {g:Array Field} (e:ev E x=some (.iface T v)) (b:P.underlying T=some (.struct g)):AR P N D E S (.typeAssert x f T true) ty (.tuple (List.toArray [v,.bool true])):=fun o d _ a w c _=>by
 unfold execOp; rw [d]; simp [c.eval e,Instr.typeAssert,run_underlying b]
def isNil:Value->Bool
  | .nilIface=>true
  | _=>false
theorem SQ {ms:Array (String × TypeId)} (a:P.underlying T=some (.interface ms)) (b:v=.nilIface∨∃ t u,v=.iface t u) (d:Nat):(Op.equalIn (d + 1) T v .nilIface).run P w=.ok (isNil v) w:=by
 rcases b with rfl | ⟨t,u,rfl⟩ <;> simp [Op.equalIn,run_underlying a,isNil]
theorem r_ineq {ms:Array (String × TypeId)} {T':TypeId} (g:ev E x=some v) (b:v=.nilIface∨∃ t u,v=.iface t u) (d:P.underlying T=some (.interface ms)):AR P N D E S (.binOp .neq T x (.const .nilIface) T') ty (.bool (!(isNil v))):=fun o f _ a w e _=>by
 have h:=SQ (w:=w) d b 9999
 have c:a.eval (.const .nilIface)=.nilIface:=rfl
 unfold execOp; rw [f]
 rcases b with rfl | ⟨t,u,rfl⟩ <;> simp [e.eval g,c,eqGuard,binOp,Op.equal,Op.maxDepth,h]
theorem r_ieq {ms:Array (String × TypeId)} {T':TypeId} (g:ev E x=some v) (b:v=.nilIface∨∃ t u,v=.iface t u) (d:P.underlying T=some (.interface ms)):AR P N D E S (.binOp .eql T x (.const .nilIface) T') ty (.bool (isNil v)):=fun o f _ a w e _=>by
 have h:=SQ (w:=w) d b 9999
 have c:a.eval (.const .nilIface)=.nilIface:=rfl
 unfold execOp; rw [f]
 rcases b with rfl | ⟨t,u,rfl⟩ <;> simp [e.eval g,c,eqGuard,binOp,Op.equal,Op.maxDepth,h]
end
def VarI (P:Program) (name:String) (S:Nat->Prop) (w:World):Prop:=(∀ g,P.globalNamed name=some g->S g)∧∃ tp p,w.var? P name=some #[.iface tp p]
theorem VarI.loc (P:Program) (a:String):Loc (VarI P a):=fun S S' u u' e f h=>by
 obtain ⟨d,tp,p,b⟩:=h
 refine ⟨fun g c=>e _ (d g c),tp,p,?_⟩
 unfold World.var? at b ⊢
 cases c:P.globalNamed a with
 | none=>rw [c] at b; cases b
 | some g=>rw [c] at b; simp only [Option.bind_some] at b ⊢; rw [f _ (d g c)]; exact b
end Ex
namespace Pz
open Ex
theorem VS (s:ByteArray) (j:Nat):(s.extract j s.size).data.toList=rest s j:=by
 unfold rest;rw [ByteArray.data_extract,Array.toList_extract,List.extract_eq_take_drop];exact vg (by rw [List.length_drop,Ht]; exact vY _)
theorem pfx_ext (s sg:ByteArray) (j:Nat):Go.Lib.hasPrefix (s.extract j s.size).data.toList sg.data.toList=pfx s sg j:=by unfold Go.Lib.hasPrefix pfx; rw [VS]
theorem SA {s sg:ByteArray} {i j:Nat} (a:blank s i=j) (h:pfx s sg j=true):eat s sg i=(true,j + sg.size):=by unfold eat; rw [a,zP h]
theorem Qy {s sg:ByteArray} {i j:Nat} (a:blank s i=j) (h:¬ pfx s sg j=true):eat s sg i=(false,j):=by unfold eat; rw [a,zI h]
theorem EG (s:ByteArray) {i j:Nat} (h:j<=s.size):(s.extract i j).size=j - i:=by simp_all
theorem So {s:ByteArray} {i j k:Nat} {n:Int} (b:blank s i=j) (c:BX s j=k) (h:¬ (12:Int) < ((s.extract j k).size:Int)) (a:k<=s.size):word s ⟨i,n⟩=.ok (s.extract j k,⟨k,n⟩):=by
 unfold word;show (if 12 < BX s (blank s i) - blank s i then _ else _)=_
 rw [b,c,zI (by rw [EG s a] at h; omega)]; rfl
theorem SF {s:ByteArray} {i j k:Nat} {n:Int} (b:blank s i=j) (c:BX s j=k) (h:(12:Int) < ((s.extract j k).size:Int)) (a:k<=s.size):word s ⟨i,n⟩=.no (7,j):=by
 unfold word;show (if 12 < BX s (blank s i) - blank s i then _ else _)=_
 rw [b,c,zP (by rw [EG s a] at h; omega)]
theorem DL {s:ByteArray} {t:St} {x:ByteArray × St} (a:t.at_<=s.size) (h:word s t=.ok x):x.1.size<=12:=by
 unfold word at h;split at h;cases h;rename_i b;obtain rfl:=Res.ok.inj h;show (s.extract _ _).size<=12
 rw [EG s (Sj (Es a).2).2]; omega
theorem Ak {s:ByteArray} {t:St} {x:ByteArray × St} (a:t.at_<=s.size) (h:name s t=.ok x):x.1.size<=12:=by
 unfold name at h
 cases hw:word s t with
 | no f=>rw [hw] at h; cases h
 | ok y =>
  rw [hw,then_ok] at h
  split at h
  ·cases h
  ·obtain rfl:=Res.ok.inj h; exact DL a hw
theorem KZ:(⟨#[]⟩:ByteArray).size<=12:=by decide
theorem DM {α β:Type} {x:Res α} {g:α->Res β} {b:β} (h:x.then g=.ok b):∃ a,x=.ok a∧g a=.ok b:=by
 cases x with
 | no f=>cases h
 | ok a=>exact ⟨a,rfl,h⟩
theorem RU {s:ByteArray} {t:St} {x:Match × St} (k:t.at_<=s.size) (h:Al s t=.ok x):x.1.key.size<=12∧x.1.val.size<=12:=by
 unfold Al at h;have e:=(Cc ⟨#[33]⟩ k).2;split at h;obtain ⟨a,d,c⟩:=DM h;obtain rfl:=Res.ok.inj c;exact ⟨Ak (t:=t.go _) e d,KZ⟩;obtain ⟨a,d,c⟩:=DM h;have i:=Ak (t:=t.go _) e d;have j:a.2.at_<=s.size:=((HU e).ok_ d).at_;split at c;obtain ⟨b,f,g⟩:=DM c;obtain rfl:=Res.ok.inj g;exact ⟨i,Ak (t:=a.2.go _) (Cc _ j).2 f⟩;split at c;obtain ⟨b,f,g⟩:=DM c;obtain rfl:=Res.ok.inj g;exact ⟨i,Ak (t:=a.2.go _) (Cc _ (Cc _ j).2).2 f⟩;obtain rfl:=Res.ok.inj c;exact ⟨i,KZ⟩
def fold (n:Nat) (l:List UInt8):Nat:=l.foldl (fun n b=>10 * n + (b.toNat - 48)) n
theorem Nk:∀ (l:List UInt8) (n:Nat),n<=fold n l
 | [],n=>Nat.le_refl _
 | c::l,n=>by have:=Nk l (10 * n + (c.toNat - 48)); unfold fold at this ⊢; rw [List.foldl_cons]; omega
theorem Mf:∀ (l:List UInt8) (a:Nat),(∀ c ∈ l,48<=c.toNat∧c.toNat<=57)->a < 18446744073709551616->(Go.Lib.parseUint10 a l=.ok (fold a l)∧fold a l < 18446744073709551616)∨(Go.Lib.parseUint10 a l=.range∧18446744073709551616<=fold a l)
 | [],a,_,h=>.inl ⟨rfl,h⟩
 | c :: l, a, hc, h => by
  have h1:=hc c (uW ..)
  have b:fold a (c::l)=fold (a * 10 + (c.toNat - 48)) l:=by unfold fold; rw [List.foldl_cons,Nat.mul_comm]
  simp only [Go.Lib.parseUint10,zP h1]
  by_cases d:1844674407370955162<=a
  ·rw [zP d]
   refine .inr ⟨rfl,?_⟩
   have:=Nk l (a * 10 + (c.toNat - 48))
   rw [b]; omega
  ·rw [zI d]
   by_cases e:18446744073709551616<=a * 10 + (c.toNat - 48)
   ·rw [zP e]
    have:=Nk l (a * 10 + (c.toNat - 48))
    exact .inr ⟨rfl,by rw [b]; omega⟩
   ·rw [zI e,b]
    exact Mf l _ (fun x f=>hc x (List.mem_cons_of_mem _ f)) qO
theorem Vu {l:List UInt8} (d:l≠[]) (h:∀ c ∈ l,48<=c.toNat∧c.toNat<=57):(Go.Lib.atoiAll l=.ok (EE l:Int)∧EE l < 9223372036854775808)∨(Go.Lib.atoiAll l=.range∧9223372036854775808<=EE l):=by
 cases l with
 | nil=>exact absurd rfl d
 | cons c r =>
  have m:=h c (uW ..)
  have f:=Mf (c::r) 0 h qD
  have j:fold 0 (c::r)=EE (c::r):=rfl
  rw [j] at f
  have a:¬ (c.toNat=43∨c.toNat=45):=qO
  have b:¬ (c.toNat=45):=qO
  unfold Go.Lib.atoiAll
  simp only [zI a,Go.Lib.parseMag,zI d]
  rcases f with ⟨e,i⟩ | ⟨e,k⟩
  ·rw [e]
   simp only [b,not_false_eq_true,true_and,false_and,if_false]
   by_cases g:9223372036854775808<=EE (c::r)
   ·rw [zP g]; exact .inr ⟨rfl,g⟩
   ·rw [zI g]; exact .inl ⟨rfl,qO⟩
  ·rw [e]; exact .inr ⟨rfl,qO⟩
theorem QK:∀ (l:List UInt8) (c:UInt8),c ∈ l.takeWhile dig->48<=c.toNat∧c.toNat<=57
 | b :: l, c, h => by
  rw [List.takeWhile_cons] at h
  split at h
  ·rename_i hb
   rcases List.mem_cons.1 h with rfl | h
   ·simpa [dig] using hb
   ·exact QK l c h
  ·cases h
theorem VO (s:ByteArray) (j:Nat) (p:UInt8->Bool):(s.extract j (run p s j)).data.toList=(rest s j).takeWhile p:=by
 rw [ByteArray.data_extract,Array.toList_extract,List.extract_eq_take_drop];unfold run rest;rw [show j + ((s.data.toList.drop j).takeWhile p).length - j=((s.data.toList.drop j).takeWhile p).length by omega];exact (List.prefix_iff_eq_take.1 (List.takeWhile_prefix p)).symm
theorem ext_dig {s:ByteArray} {j k:Nat} (b:run dig s j=k):∀ c ∈ (s.extract j k).data.toList,48<=c.toNat∧c.toNat<=57:=fun c a=>by
 subst b; rw [VO] at a; exact QK _ c a
theorem sat_dig {l:List UInt8} (a:∀ c ∈ l,48<=c.toNat∧c.toNat<=57):Go.Lib.atoiSat l=9223372036854775807:=by
 unfold Go.Lib.atoiSat
 cases l with
 | nil=>rfl
 | cons c r =>
  have:=a c (uW ..)
  rw [zI]
  intro h
  simp at h
  omega
def Hi (l:List UInt8) (z:Int × Value):Prop:=(z.2=.nilIface∧z.1=(EE l:Int))∨((∃ u v,z.2=.iface u v)∧z.1=9223372036854775807∧9223372036854775808<=EE l)
theorem Hi.ifc {l:List UInt8} {z:Int × Value} (h:Hi l z):z.2=.nilIface∨∃ t u,z.2=.iface t u:=h.imp (·.1) (·.1)
theorem Hi.bad {l:List UInt8} {z:Int × Value} (h:Hi l z) (a:Int) (e:a<=9223372036854775806) (b:((!(isNil z.2))=true∨a < z.1)):a < (EE l:Int):=by
 rcases h with ⟨c,d⟩ | ⟨⟨u,v,c⟩,d,f⟩
 rcases b with b | b
 rw [c] at b; cases b;rw [<-d]; exact b;omega
theorem Hi.Dd {l:List UInt8} {z:Int × Value} (h:Hi l z) (c:¬ (!(isNil z.2))=true):z.1=(EE l:Int):=by
 rcases h with ⟨a,b⟩ | ⟨⟨u,v,a⟩,b,d⟩
 exact b;rw [a] at c; exact absurd rfl c
theorem Ow {s:ByteArray} {i j k:Nat} {n:Int} (a b:Int) (c:blank s i=j) (d:run dig s j=k) (h:(k:Int)=(j:Int)):num s a b ⟨i,n⟩=.no (2,j):=by
 unfold num;show (if run dig s (blank s i)=blank s i then _ else _)=_
 rw [c,d,zP qO]
theorem Lh {s:ByteArray} {i j k:Nat} {n a b:Int} (d:blank s i=j) (e:run dig s j=k) (h:¬ (k:Int)=(j:Int)) (c:Dn s a b j):num s a b ⟨i,n⟩=.no (3,j):=by
 unfold num;show (if run dig s (blank s i)=blank s i then _ else _)=_
 rw [d,e,zI qO,zP c]
theorem Re {s:ByteArray} {i j k:Nat} {n a b:Int} (d:blank s i=j) (e:run dig s j=k) (h:¬ (k:Int)=(j:Int)) (c:¬ Dn s a b j):num s a b ⟨i,n⟩=.ok (Il s j,⟨k,n⟩):=by
 unfold num;show (if run dig s (blank s i)=blank s i then _ else _)=_
 rw [d,e,zI qO,zI c]; rfl
theorem Nu {s:ByteArray} {j k:Nat} (a:run dig s j=k):Il s j=(EE (s.extract j k).data.toList:Int):=by subst a; rfl
theorem atoi_lt {s:ByteArray} {j k:Nat} (h:(k:Int)≠(j:Int)) (c:run dig s j=k) (b:k<=s.size):(s.extract j k).data.toList≠[]:=fun e=>by
 have d:=EG s (i:=j) b
 have a:(s.extract j k).size=(s.extract j k).data.toList.length:=(Ht _).symm
 rw [e] at a
 have f:j<=k:=by subst c; unfold run; omega
 simp at a; omega
theorem KG {s:ByteArray} {j k:Nat} {b a:Int} {z:Int × Value} (g:run dig s j=k) (e:Hi (s.extract j k).data.toList z) (f:a<=9223372036854775806) (h:(!(isNil z.2))=true∨z.1 < b∨a < z.1∨(s[j]?=some 48∧(j:Int) + 1 < (k:Int))):Dn s b a j:=by
 unfold Dn;rw [Nu g];rcases h with h | h | h | ⟨c,d⟩
 exact .inr (.inl (e.bad a f (.inl h)));rcases e with ⟨c,d⟩ | ⟨c,d,i⟩
 exact .inl (by rw [<-d]; exact h);exact .inr (.inl qO);exact .inr (.inl (e.bad a f (.inr h)));exact .inr (.inr ⟨c,by rw [g]; omega⟩)
theorem Ps {s:ByteArray} {j k:Nat} {a b:Int} {z:Int × Value} (c:run dig s j=k) (n:Hi (s.extract j k).data.toList z) (e:¬ (!(isNil z.2))=true) (i:¬ z.1 < a) (f:¬ b < z.1) (g:¬ (s[j]?=some 48∧(j:Int) + 1 < (k:Int))):¬ Dn s a b j∧Il s j=z.1:=by
 have l:=n.Dd e;unfold Dn;rw [Nu c,<-l];refine ⟨?_,rfl⟩;rintro (h | h | ⟨m,d⟩);exact i h;exact f h;exact g ⟨m,by rw [c] at d; omega⟩
theorem at48 {s:ByteArray} {j:Nat} {c:UInt8} (h:s[j]?=some c) (a:(c.toNat:Int)=48):s[j]?=some 48:=by
 rw [h]
 have:c=48:=by
  apply UInt8.toNat_inj.1
  show c.toNat=48
  omega
 rw [this]
theorem not48 {s:ByteArray} {j:Nat} {c:UInt8} (h:s[j]?=some c) (a:¬ (c.toNat:Int)=48) {q:Prop}:¬ (s[j]?=some 48∧q):=fun g=>by
 rw [h] at g
 injection g.1 with g1
 subst g1
 exact a rfl
theorem DG {i:Nat} {n:Int} (h:n + 1<=100):node ⟨i,n⟩=.ok ⟨i,n + 1⟩:=by unfold node; rw [zI (by show ¬ 100 < n + 1; omega)]
theorem Tt {i:Nat} {n:Int} (h:100 < n + 1):node ⟨i,n⟩=.no (4,i):=by unfold node; rw [zP (by show 100 < n + 1; exact h)]
theorem Ou {X:Res (List Match × St)} {s:ByteArray} {q k j:Nat} {m:Int} {ms:List Match} (a:X=Cq s (q + 1) ms ⟨k,m⟩) (he:eat s ⟨#[125]⟩ k=(true,j)):X=.ok (ms,⟨j,m⟩):=by
 rw [a,Cq]; simp only [he,if_true,St.go]
theorem QT {X:Res (List Match × St)} {s:ByteArray} {q k j:Nat} {m:Int} {ms:List Match} (a:X=Cq s (q + 1) ms ⟨k,m⟩) (he:eat s ⟨#[125]⟩ k=(false,j)):X=(if 0 < ms.length then BH s ⟨#[44]⟩ ⟨j,m⟩ else .ok ⟨j,m⟩).then fun u=>if ms.length=5 then .no (5,u.at_) else (Al s u).then fun x=>Cq s q (ms++[x.1]) x.2:=by
 rw [a,Cq]; simp only [he,if_false,St.go,Bool.false_eq_true]
theorem HG {s:ByteArray} {j:Nat} {m:Int} {ms:List Match} (h:¬ (0:Int) < (ms.length:Int)):(if 0 < ms.length then BH s ⟨#[44]⟩ ⟨j,m⟩ else .ok ⟨j,m⟩)=.ok ⟨j,m⟩:=zI qO
theorem Er {s:ByteArray} {j:Nat} {m:Int} {ms:List Match} {r:Res St} (h:(0:Int) < (ms.length:Int)) (he:BH s ⟨#[44]⟩ ⟨j,m⟩=r):(if 0 < ms.length then BH s ⟨#[44]⟩ ⟨j,m⟩ else .ok ⟨j,m⟩)=r:=by grind
theorem DE {X:Res (List Match × St)} {s:ByteArray} {q:Nat} {ms:List Match} {a:Res St} {u:St} {r:Res (Match × St)} (c:X=a.then fun u=>if ms.length=5 then .no (5,u.at_) else (Al s u).then fun x=>Cq s q (ms++[x.1]) x.2) (b:a=.ok u) (e:¬ (ms.length:Int)=5) (d:Al s u=r):X=r.then fun x=>Cq s q (ms++[x.1]) x.2:=by
 rw [c,b,then_ok,zI qO,d]
theorem Qp {X:Res (List Match × St)} {s:ByteArray} {q:Nat} {ms:List Match} {a:Res St} {u:St} (c:X=a.then fun u=>if ms.length=5 then .no (5,u.at_) else (Al s u).then fun x=>Cq s q (ms++[x.1]) x.2) (b:a=.ok u) (d:(ms.length:Int)=5):X=.no (5,u.at_):=by
 rw [c,b,then_ok,zP qO]
theorem HI {s:ByteArray}:∀ (q:Nat) {ms:List Match} {t:St} {x:List Match × St},t.at_<=s.size->Cq s q ms t=.ok x->(∀ m ∈ ms,m.key.size<=12∧m.val.size<=12)->∀ m ∈ x.1,m.key.size<=12∧m.val.size<=12
 | 0,_,_,_,_,h,_=>by cases h
 | q + 1, ms, t, x, ht, h, hms => by
  rw [Cq] at h
  split at h
  ·obtain rfl:=Res.ok.inj h; exact hms
  ·obtain ⟨u,b,c⟩:=DM h
   have d:=(Cc (s:=s) ⟨#[125]⟩ ht).2
   have e:u.at_<=s.size:=by
    split at b
    ·exact ((CI (t:=t.go _) _ d).ok_ b).at_
    ·obtain rfl:=Res.ok.inj b; exact d
   split at c
   ·cases c
   ·obtain ⟨y,f,i⟩:=DM c
    have g:=RU e f
    refine HI q ((Dv e).ok_ f).at_ i fun m a=>?_
    rcases yl.1 a with a | a
    ·exact hms m a
    ·rw [yf.1 a]; exact g
theorem KE {X:Res (List ByteArray × St)} {s:ByteArray} {q k j:Nat} {m:Int} {l:List ByteArray} (a:X=byL s (q + 1) l ⟨k,m⟩) (he:eat s ⟨#[44]⟩ k=(false,j)):X=.ok (l,⟨j,m⟩):=by
 rw [a,byL]; simp only [he,if_false,St.go,Bool.false_eq_true]
theorem KT {X:Res (List ByteArray × St)} {s:ByteArray} {q k j:Nat} {m:Int} {l:List ByteArray} (a:X=byL s (q + 1) l ⟨k,m⟩) (he:eat s ⟨#[44]⟩ k=(true,j)) (b:(l.length:Int)=4):X=.no (5,j):=by
 rw [a,byL]; simp only [he,if_true]; rw [zP qO]
theorem CB {X:Res (List ByteArray × St)} {s:ByteArray} {q k j:Nat} {m:Int} {l:List ByteArray} {r:Res (ByteArray × St)} (a:X=byL s (q + 1) l ⟨k,m⟩) (he:eat s ⟨#[44]⟩ k=(true,j)) (c:¬ (l.length:Int)=4) (b:name s ⟨j,m⟩=r):X=r.then fun x=>byL s q (l++[x.1]) x.2:=by
 rw [a,byL]; simp only [he,if_true,St.go]; rw [zI qO,b]
theorem Cz {s:ByteArray}:∀ (q:Nat) {l:List ByteArray} {t:St} {x:List ByteArray × St},t.at_<=s.size->byL s q l t=.ok x->(∀ m ∈ l,m.size<=12)->∀ m ∈ x.1,m.size<=12
 | 0,_,_,_,_,h,_=>by cases h
 | q + 1, l, t, x, ht, h, hl => by
  rw [byL] at h
  have h0:=(Cc (s:=s) ⟨#[44]⟩ ht).2
  split at h
  ·split at h
   ·cases h
   ·obtain ⟨y,b,c⟩:=DM h
    have d:=Ak (t:=t.go _) h0 b
    refine Cz q ((HU h0).ok_ b).at_ c fun m a=>?_
    rcases yl.1 a with a | a
    ·exact hl m a
    ·rw [yf.1 a]; exact d
  ·obtain rfl:=Res.ok.inj h; exact hl
section
variable {X:Res (Expr × St)} {s:ByteArray} {sub:St->Res (Expr × St)} {BL:List ByteArray} {q k j:Nat} {m:Int} {e:Expr} {wd:ByteArray}
theorem MA (a:X=DO s sub BL (q + 1) e ⟨k,m⟩) (b:pick s BL k=(⟨#[]⟩,j)):X=.ok (e,⟨j,m⟩):=by
 rw [a,DO]; simp only [b,if_true,St.go]
theorem Cd {r:Res (Expr × St)} (b:X=DO s sub BL (q + 1) e ⟨k,m⟩) (a:pick s BL k=(wd,j)) (d:wd≠⟨#[]⟩) (c:sub ⟨j,m⟩=r):X=r.then fun f=>(node f.2).then fun u=>DO s sub BL q (.mk 4 0 0 wd [] [] [e,f.1]) u:=by
 rw [b,DO]; simp only [a,zI d,St.go,c]
theorem Qd {j:Nat} (h:eat s ⟨#[42]⟩ k=(true,j)):pick s star k=(⟨#[42]⟩,j):=by unfold star; simp only [pick,h,if_true]
theorem star0 {j:Nat} (h:eat s ⟨#[42]⟩ k=(false,j)):pick s star k=(⟨#[]⟩,j):=by unfold star; simp only [pick,h,if_false,Bool.false_eq_true]
theorem Qb {j:Nat} (h:eat s ⟨#[43]⟩ k=(true,j)):pick s plus k=(⟨#[43]⟩,j):=by unfold plus; simp only [pick,h,if_true]
theorem Kv {j a:Nat} (h:eat s ⟨#[43]⟩ k=(false,j)) (b:eat s ⟨#[45]⟩ j=(true,a)):pick s plus k=(⟨#[45]⟩,a):=by unfold plus; simp only [pick,h,b,if_true,if_false,Bool.false_eq_true]
theorem plus0 {j a:Nat} (h:eat s ⟨#[43]⟩ k=(false,j)) (b:eat s ⟨#[45]⟩ j=(false,a)):pick s plus k=(⟨#[]⟩,a):=by unfold plus; simp only [pick,h,b,if_false,Bool.false_eq_true]
end
theorem Gh (S:Nat->Prop) (w:World):zD.Ok S (.mk 0 0 0 ⟨#[]⟩ ⟨none,0,[]⟩ ⟨none,0,[]⟩ ⟨none,0,[]⟩) w :=
 .mk (zH.vh _ _ _ _) (zH.vh _ _ _ _) (zH.vh _ _ _ _) (fun x a=>by cases a) ⟨by decide,fun x a=>(by cases a),fun x a=>(by cases a)⟩
theorem Mz {s:ByteArray} (h:(2000:Int) < (s.size:Int)):parse s=(none_,(4,0)):=zP qO
theorem Pp {s:ByteArray} {f:F} (h:¬ (2000:Int) < (s.size:Int)) (a:xpr s 20 ⟨0,0⟩=.no f):parse s=(none_,f):=by unfold parse; rw [zI qO,a]
theorem LI {s:ByteArray} {x:Expr} {j k:Nat} {m:Int} (h:¬ (2000:Int) < (s.size:Int)) (b:xpr s 20 ⟨0,0⟩=.ok (x,⟨j,m⟩)) (a:blank s j=k) (c:k < s.size):parse s=(none_,((2:Int),(k:Int))):=by
 unfold parse; rw [zI qO,b]; simp only [a,zP c]
theorem Ls {s:ByteArray} {x:Expr} {j k:Nat} {m:Int} (h:¬ (2000:Int) < (s.size:Int)) (b:xpr s 20 ⟨0,0⟩=.ok (x,⟨j,m⟩)) (a:blank s j=k) (d:¬ k < s.size) (c:(Lg.shape x 1 0).1≠0):parse s=(none_,((4:Int),(k:Int))):=by
 unfold parse; rw [zI qO,b]; simp only [a,zI d]; rw [zP (show Lg.AE x≠0 from c)]
theorem Qt {s:ByteArray} {x:Expr} {j k:Nat} {m:Int} (h:¬ (2000:Int) < (s.size:Int)) (b:xpr s 20 ⟨0,0⟩=.ok (x,⟨j,m⟩)) (a:blank s j=k) (d:¬ k < s.size) (c:¬ (Lg.shape x 1 0).1≠0):parse s=(x,(0,0)):=by
 unfold parse; rw [zI qO,b]; simp only [a,zI d]; rw [zI (show ¬ Lg.AE x≠0 from c)]
def msR (s wd:ByteArray) (t:St):Res (Match × St) :=
  if (eat s ⟨#[33,61]⟩ t.at_).1=true then (name s (t.go (eat s ⟨#[33,61]⟩ t.at_).2)).then fun y=>.ok (⟨2,wd,y.1⟩,y.2)
  else if (eat s ⟨#[61]⟩ (eat s ⟨#[33,61]⟩ t.at_).2).1=true then (name s (t.go (eat s ⟨#[61]⟩ (eat s ⟨#[33,61]⟩ t.at_).2).2)).then fun y=>.ok (⟨1,wd,y.1⟩,y.2)
  else .ok (⟨3,wd,⟨#[]⟩⟩,t.go (eat s ⟨#[61]⟩ (eat s ⟨#[33,61]⟩ t.at_).2).2)
theorem VL {s:ByteArray} {i a:Nat} {n:Int} (e:eat s ⟨#[33]⟩ i=(false,a)):Al s ⟨i,n⟩=(name s ⟨a,n⟩).then fun x=>msR s x.1 x.2:=by
 unfold Al msR; simp only [e,if_false,Bool.false_eq_true,St.go]
theorem msR_1 {s wd:ByteArray} {a:Nat} {t:St} (e:eat s ⟨#[33,61]⟩ t.at_=(true,a)):msR s wd t=(name s ⟨a,t.nd⟩).then fun y=>.ok (⟨2,wd,y.1⟩,y.2):=by unfold msR; simp only [e,if_true,St.go]
theorem msR_2 {s wd:ByteArray} {b a:Nat} {t:St} (e:eat s ⟨#[33,61]⟩ t.at_=(false,b)) (c:eat s ⟨#[61]⟩ b=(true,a)):msR s wd t=(name s ⟨a,t.nd⟩).then fun y=>.ok (⟨1,wd,y.1⟩,y.2):=by unfold msR; simp only [e,c,if_true,if_false,Bool.false_eq_true,St.go]
theorem msR_3 {s wd:ByteArray} {b a:Nat} {t:St} (e:eat s ⟨#[33,61]⟩ t.at_=(false,b)) (c:eat s ⟨#[61]⟩ b=(false,a)):msR s wd t=.ok (⟨3,wd,⟨#[]⟩⟩,⟨a,t.nd⟩):=by unfold msR; simp only [e,c,if_false,Bool.false_eq_true,St.go]
end Pz
end
section
namespace Ex
class Ce (P:Program) (T:TypeId):Prop where h:Cv P T=true
class Ej (P:Program) (T:TypeId):Prop where h:Dh P T=true
class Bg (P:Program) (T:TypeId) (k b:outParam Nat) (z:outParam Value):Prop where h:Inf P T k b z
class BF (P:Program) (T fs:Nat) (o:outParam Nat):Prop where h:DN P T fs=some o
class PlI (P:Program) (T:TypeId) (l:outParam (List (Nat × Nat))):Prop where h:placesOf P T=some l
class FT (P:Program) (T:TypeId) (e:outParam TypeId):Prop where h:P.underlying T=some (.slice e)
class StrI (P:Program) (T:TypeId):Prop where h:P.underlying T=some .string
class MixI (P:Program):Prop where h:P.follows .mixedOrders=true
section
variable {P:Program} {N:Nat} {D:List Deferred} {E:Env} {S:World->Prop} {Q:Exit->Act->World->Prop} {w0:World} {M:Fp} {L:List Own} {ops:Array Oper} {rest:List Oper} {T ty:TypeId} {v u:Value} {x y:Operand} {op:Op}
  {α:Type} {Sb:Nat->Prop} {k:Nat} {enc:α->List Value} {l:List α} {A:Option Addr} {c len:Nat} {ad:Addr}
def Th (P:Program) (y:Code) (Q:Exit->Act->World->Prop):Exit->Act->World->Prop:=Exit.then (fun a w=>y.wp P Q a w) Q
theorem c_sq {x y:Code} (h:WC P N D x (Th P y Q) E S):WC P N D (.seq x y) Q E S:=fun w hw a ha=>wp_seq (h w hw a ha)
theorem e_gT {y:Code} (h:WC P N D y Q E S):WE N D (Th P y Q) .normal E S:=fun w hw a ha=>h w hw a ha
def Tl (P:Program) (ops:Array Oper) (Q:Exit->Act->World->Prop) (l:List Oper):Act->World->Prop:=fun a w=>wpList P ops Q l a w
theorem jJ {id:Nat} {l:List Oper} (n:Nat) (h:WQ P N D l.toArray (Tl P l.toArray Q (l.drop n)) (l.take n) E S) (hB:Region.lexTailB .any l.toArray n=true:=by kernel_rfl) (hm:P.follows .mixedOrders=true:=by exact MixI.h) (hd:∀ w,S w->S w.drew:=by exact fun _ h=>h.drew):WC P N D (.region id l.toArray true) Q E S :=
 fun w hw a ha=>Gw (C:=S) n hm hB (hd w hw) (h a ha)
theorem q_tl (h:WL P N D ops Q rest E S):WQ P N D ops (Tl P ops Q rest) [] E S:=q_nil fun w hw a ha=>h w hw a ha
theorem bx0 {o:Own}:(o::L)[0]?=some o:=rfl
theorem bxS {i:Nat} {o p:Own} (h:L[i]?=some o):(p::L)[i + 1]?=some o:=by simpa using h
theorem r_lbw (i:Nat) {b k1 by1:Nat} {z1:Value} {cs:List Value} {t:TypeId} (hx:ev E x=some (.pointer (some ⟨b,0,none⟩))) (hL:L[i]?=some (.blk b cs t)) (hl:cs.length=k1) (hg:Dh P T=true) (hs:Inf P T k1 by1 z1) :
  AR P N D E (Mem w0 M L) (.load T x) ty (.agg cs.toArray):=gh i cs hx hL (by subst hl; simp) hl hg hs
theorem r_ldbw (i:Nat) {b k1 by1:Nat} {z1:Value} {cs:List Value} {t:TypeId} (hx:ev E x=some (.pointer (some ⟨b,0,none⟩))) (hL:L[i]?=some (MH b cs t)) (hl:cs.length=k1) (hg:Dh P T=true) (hs:Inf P T k1 by1 z1) :
  AR P N D E (Mem w0 M L) (.load T x) ty (.agg cs.toArray):=r_ldbn i cs hx hL (by subst hl; simp) hl hg hs
theorem r_pl' (q:Nat) {i j:Nat} {e:α} (hx:ev E x=some (.pointer (some ((ad.add (i * k)).add j)))) (hA:A=some ad) (hL:L[q]?=some (slP k enc (.slice A len c) l)) (hi:l[i]?=some e) (hj:(enc e)[j]?=some u) (hf:Cv P T=true):AR P N D E (Mem w0 M L) (.load T x) ty u:=r_pl q hx hL hA hi hj hf
theorem r_el' (q:Nat) {i j:Nat} {e:α} (hx:ev E x=some (.pointer (some ((ad.add (i * k)).add j)))) (hA:A=some ad) (hL:L[q]?=some (slO Sb k enc (.slice A len c) l)) (hi:l[i]?=some e) (hj:(enc e)[j]?=some u) (hf:Cv P T=true):AR P N D E (Mem w0 M L) (.load T x) ty u:=r_el q hx hL hA hi hj hf
theorem r_plw (q:Nat) {i k1 by1:Nat} {z1:Value} {e:α} (hx:ev E x=some (.pointer (some ((ad.add (i * k)).add 0)))) (hA:A=some ad) (hL:L[q]?=some (slP k enc (.slice A len c) l)) (hi:l[i]?=some e) (hl:(enc e).length=k1) (hg:Dh P T=true) (hs:Inf P T k1 by1 z1) :
  AR P N D E (Mem w0 M L) (.load T x) ty (.agg (enc e).toArray):=js q (enc e) hx hL hA hi (by subst hl; simp) hl hg hs
theorem r_elw (q:Nat) {i k1 by1:Nat} {z1:Value} {e:α} (hx:ev E x=some (.pointer (some ((ad.add (i * k)).add 0)))) (hA:A=some ad) (hL:L[q]?=some (slO Sb k enc (.slice A len c) l)) (hi:l[i]?=some e) (hl:(enc e).length=k1) (hg:Dh P T=true) (hs:Inf P T k1 by1 z1) :
  AR P N D E (Mem w0 M L) (.load T x) ty (.agg (enc e).toArray):=r_eln q (enc e) hx hL hA hi (by subst hl; simp) hl hg hs
theorem r_pln' (q:Nat) {i j k1 by1:Nat} {z1:Value} {e:α} {vs:List Value} (hx:ev E x=some (.pointer (some ((ad.add (i * k)).add j)))) (hA:A=some ad) (hL:L[q]?=some (slP k enc (.slice A len c) l)) (hi:l[i]?=some e) (hv:((enc e).drop j).take k1=vs) (hl:vs.length=k1) (hg:Dh P T=true) (hs:Inf P T k1 by1 z1) :
  AR P N D E (Mem w0 M L) (.load T x) ty (.agg vs.toArray):=js q vs hx hL hA hi hv hl hg hs
theorem r_eln' (q:Nat) {i j k1 by1:Nat} {z1:Value} {e:α} {vs:List Value} (hx:ev E x=some (.pointer (some ((ad.add (i * k)).add j)))) (hA:A=some ad) (hL:L[q]?=some (slO Sb k enc (.slice A len c) l)) (hi:l[i]?=some e) (hv:((enc e).drop j).take k1=vs) (hl:vs.length=k1) (hg:Dh P T=true) (hs:Inf P T k1 by1 z1) :
  AR P N D E (Mem w0 M L) (.load T x) ty (.agg vs.toArray):=r_eln q vs hx hL hA hi hv hl hg hs
theorem elx (hA:l≠[]->∃ ad,A=some ad) (i:Nat) (hi:i < l.length:=by first | omega | (simp <;> omega)):∃ ad s,A=some ad∧l[i]?=some s:=by
 obtain ⟨ad,hd⟩:=hA (ne_nil hi);exact ⟨ad,_,hd,vA hi⟩
theorem gx (l:List α) (i:Nat) (hi:i < l.length:=by first | omega | (simp <;> omega)):∃ s,l[i]?=some s:=⟨_,vA hi⟩
def Fu (n:Nat):Prop:=0<=n
theorem Fu.dec {n:Nat} (_:Fu (n + 1)):Fu n:=Nat.zero_le n
structure Wr (R:Prop):Prop where h:R
theorem rr (h : AR P N D E S op ty v := by first
  | (show AR _ _ _ _ _ (.move _) _ _; exact jy rfl)
  | (show AR _ _ _ _ _ (.load _ _) _ _; first | exact vZ _ rfl (by repeat (first | exact bx0 | apply bxS)) (by rfl) Ce.h | exact r_lbw _ rfl (by repeat (first | exact bx0 | apply bxS)) (by rfl) Ej.h Bg.h | exact r_plw _ rfl (by first | assumption | rfl) (by repeat (first | exact bx0 | apply bxS)) (by first | assumption | rfl) (by rfl) Ej.h Bg.h | exact r_pl' _ rfl (by first | assumption | rfl) (by repeat (first | exact bx0 | apply bxS)) (by first | assumption | rfl) (by rfl) Ce.h | exact r_elw _ rfl (by first | assumption | rfl) (by repeat (first | exact bx0 | apply bxS)) (by first | assumption | rfl) (by rfl) Ej.h Bg.h | exact r_el' _ rfl (by first | assumption | rfl) (by repeat (first | exact bx0 | apply bxS)) (by first | assumption | rfl) (by rfl) Ce.h | exact r_ldb _ rfl (by repeat (first | exact bx0 | apply bxS)) (by rfl) Ce.h | exact r_ldbw _ rfl (by repeat (first | exact bx0 | apply bxS)) (by rfl) Ej.h Bg.h | exact gj _ rfl (by repeat (first | exact bx0 | apply bxS)) (by rfl) Ce.h | exact r_celL _ rfl (by repeat (first | exact bx0 | apply bxS)) (by rfl) Ce.h | exact gh _ _ rfl (by repeat (first | exact bx0 | apply bxS)) (by rfl) (by rfl) Ej.h Bg.h | exact r_ldbn _ _ rfl (by repeat (first | exact bx0 | apply bxS)) (by rfl) (by rfl) Ej.h Bg.h | exact r_pln' _ rfl (by first | assumption | rfl) (by repeat (first | exact bx0 | apply bxS)) (by first | assumption | rfl) (by rfl) (by rfl) Ej.h Bg.h | exact r_eln' _ rfl (by first | assumption | rfl) (by repeat (first | exact bx0 | apply bxS)) (by first | assumption | rfl) (by rfl) (by rfl) Ej.h Bg.h)
  | (show AR _ _ _ _ _ (.fieldAddr _ _ _) _ _; first | exact qJ rfl BF.h | exact vk rfl BF.h)
  | (show AR _ _ _ _ _ (.assign _) _ _; exact PO rfl)
  | (show AR _ _ _ _ _ (.binOp _ _ _ _ _) _ _; first | (show AR _ _ _ _ _ (.binOp .eql _ _ _ _) _ _; first | exact jX rfl rfl | exact r_seql rfl rfl) | (show AR _ _ _ _ _ (.binOp .lss _ _ _ _) _ _; first | exact jE rfl rfl | exact r_slss' rfl rfl) | (show AR _ _ _ _ _ (.binOp .add _ _ _ _) _ _; exact vf rfl rfl (by omega)) | (show AR _ _ _ _ _ (.binOp .neq _ _ _ _) _ _; first | exact gc rfl rfl | exact r_sneq rfl rfl) | (show AR _ _ _ _ _ (.binOp .leq _ _ _ _) _ _; first | exact r_leq rfl rfl | exact r_sleq' rfl rfl) | (show AR _ _ _ _ _ (.binOp .gtr _ _ _ _) _ _; first | exact jV rfl rfl | exact r_sgtr' rfl rfl) | (show AR _ _ _ _ _ (.binOp .geq _ _ _ _) _ _; first | exact r_geq rfl rfl | exact r_sgeq' rfl rfl) | (show AR _ _ _ _ _ (.binOp .sub _ _ _ _) _ _; exact gR rfl rfl (by omega)) | (show AR _ _ _ _ _ (.binOp .mul _ _ _ _) _ _; exact gS rfl rfl (by omega)) | (show AR _ _ _ _ _ (.binOp .quo _ _ _ _) _ _; exact r_quon rfl rfl (by omega) (by omega)) | (show AR _ _ _ _ _ (.binOp .rem _ _ _ _) _ _; exact r_remn rfl rfl (by omega) (by omega)))
  | (show AR _ _ _ _ _ (.extract _ _) _ _; exact jD rfl rfl)
  | (show AR _ _ _ _ _ (.indexAddr _ _ _) _ _; exact vO rfl (by first | assumption | rfl) rfl (by rfl) (by first | omega | (simp <;> omega)) FT.h Bg.h)
  | (show AR _ _ _ _ _ (.call _) _ _; first | exact ur rfl FT.h | exact r_slen rfl StrI.h | exact r_min rfl rfl | exact ge rfl rfl)
  | (show AR _ _ _ _ _ (.build _ _) _ _; exact uE _ PlI.h Bg.h rfl rfl)
  | (show AR _ _ _ _ _ (.pick _ _ _) _ _; exact yy rfl rfl)
  | (show AR _ _ _ _ _ (.unOp _ _ _) _ _; exact qt rfl)
  | (show AR _ _ _ _ _ (.nilCheck _) _ _; exact vG rfl)):AR P N D E S op ty v:=h
theorem gB {p:Prop} (h:p:=by
  intro f9 h9
  repeat (replace f9:=f9.dec; first
   | (show WL _ _ _ _ _ (⟨some _,_,_,_,_,none⟩::_) _ _; refine zV rr ?_)
   | (show WQ _ _ _ _ _ (⟨some _,_,_,_,_,none⟩::_) _ _; refine vS rr ?_)
   | (show WC _ _ _ _ _ _ _; first | refine c_sq ?_ | refine zU ?_ | refine vH ?_ | refine vK ?_ | refine yW ?_ | refine yS ?_ | refine yh rfl rfl ?_ | refine yJ rfl rfl ?_ | refine TN MixI.h (by kernel_rfl) (fun _ h=>h.drew) ?_)
   | (show WE _ _ _ _ _ _; first | refine e_gT ?_ | refine zw ?_ | refine yC ?_ | refine zj ?_ | refine vD ?_ | refine zx ?_ | refine vF rfl ?_)
   | (show WL _ _ _ _ _ [] _ _; refine zK ?_)
   | (show WS _ _ _ _ _ _ (⟨some _,_,_,_,_,none⟩::_) _; refine vy rr ?_)
   | (show WL _ _ _ _ _ (⟨none,_,_,_,_,none⟩::_) _ _; first | refine qw _ wn rfl rfl (by repeat (first | exact bx0 | apply bxS)) (by rfl) Bg.h (by rfl) (by rfl) ?_ | refine jd _ wn rfl rfl (by repeat (first | exact bx0 | apply bxS)) Bg.h (by rfl) (by rfl) (by rfl) ?_)
   | (show WL _ _ _ _ _ (⟨some _,_,_,_,_,some _⟩::_) _ _; first | refine yu ?_ | refine yY rr ?_ | refine gQ (wu rfl rfl) rfl ?_)
   | (show WQ _ _ _ _ _ (⟨some _,_,_,_,_,some _⟩::_) _ _; first | refine q_sk ?_ | refine uD rr ?_ | refine q_skip (wu rfl rfl) rfl ?_)
   | (show WQ _ _ _ _ _ [] _ _; first | refine gF ?_ | refine q_tl ?_)
   | (show WS _ _ _ _ _ _ (⟨some _,_,_,_,_,some _⟩::_) _; first | refine s_skip (wg rfl rfl rfl) rfl ?_ | refine s_val (wg rfl rfl rfl) rr rfl ?_ | refine s_skip (wu rfl rfl) rfl ?_)
   | (show WL _ _ _ _ _ (⟨none,_,_,_,_,some _⟩::_) _ _; first | refine qw _ (wg rfl rfl rfl) rfl rfl (by repeat (first | exact bx0 | apply bxS)) (by rfl) Bg.h (by rfl) (by rfl) ?_ | refine jd _ (wg rfl rfl rfl) rfl rfl (by repeat (first | exact bx0 | apply bxS)) Bg.h (by rfl) (by rfl) (by rfl) ?_))
  exact h9.h):p:=h
theorem go (n:Nat) {G R:Prop} (hs:Fu n->Wr R->G:=by exact gB):R->G:=fun h=>hs (Nat.zero_le n) ⟨h⟩
section
variable {d:Nat} {pos:String} {aft:Array Edge} {g:Option (Nat × Bool)} {f by1:Nat} {zv:Value} {args:Array Operand} {ts:Array TypeId} {vs cap zs:List Value} {p:Prop} [Decidable p] {t:Nat} {b:Bool} {K:Act->World->Prop}
theorem zQ {c:Operand} {x y:Code} (ht:p->WC P N D x Q E S) (hf:¬ p->WC P N D y Q E S) (hc:ev E c=some (.bool (decide p)):=by rfl):WC P N D (.cond c x y) Q E S:=yg hc ht hf
theorem yj {c:Operand} {x y:Code} (ht:b=true->WC P N D x Q E S) (hf:b=false->WC P N D y Q E S) (hc:ev E c=some (.bool b):=by rfl):WC P N D (.cond c x y) Q E S:=gm hc ht hf
theorem zm (t:Nat) (h1:p->WL P N D ops Q rest ((t,.bool true)::E) S) (h2:¬ p->WL P N D ops Q rest ((t,.bool false)::E) S) (hl:look E t=some (.bool (decide p)):=by rfl):WL P N D ops Q rest E S:=uQ hl h1 h2
theorem vp (t:Nat) (h1:p->WQ P N D ops K rest ((t,.bool true)::E) S) (h2:¬ p->WQ P N D ops K rest ((t,.bool false)::E) S) (hl:look E t=some (.bool (decide p)):=by rfl):WQ P N D ops K rest E S:=q_case hl h1 h2
theorem jK (t:Nat) (h1:b=true->WL P N D ops Q rest ((t,.bool true)::E) S) (h2:¬ b=true->WL P N D ops Q rest ((t,.bool false)::E) S) (hl:look E t=some (.bool b):=by rfl):WL P N D ops Q rest E S:=TM hl h1 h2
theorem q_cx (t:Nat) (h1:b=true->WQ P N D ops K rest ((t,.bool true)::E) S) (h2:¬ b=true->WQ P N D ops K rest ((t,.bool false)::E) S) (hl:look E t=some (.bool b):=by rfl):WQ P N D ops K rest E S:=q_caseb hl h1 h2
theorem yv (v:Value) (h:WL P N D ops Q rest ((d,v)::E) S):WL P N D ops Q rest ((d,v)::E) S:=h
theorem zl {k:Nat} (h:∀ b,WL P N D ops Q rest ((d,.pointer (some ⟨b,0,none⟩))::E) (Mem w0 M (.blk b zs T::L))) (hw:Want N D ops E g true:=by first | exact wn | exact wg rfl rfl rfl) (hs:Inf P T k by1 (.agg zs.toArray):=by exact Bg.h) (hd:Nat.blt d N=true:=by rfl):WL P N D ops Q (⟨some d,.alloc T,ty,pos,aft,g⟩::rest) E (Mem w0 M L):=u4 hw hs hd h
theorem l_aO {k:Nat} (h:∀ b,WL P N D ops Q rest ((d,.pointer (some ⟨b,0,none⟩))::E) (Mem w0 M (.blk b [zv] T::L))) (hw:Want N D ops E g true:=by first | exact wn | exact wg rfl rfl rfl) (hs:Inf P T k by1 zv:=by exact Bg.h) (hz:zv.cells=#[zv]:=by rfl) (hd:Nat.blt d N=true:=by rfl):WL P N D ops Q (⟨some d,.alloc T,ty,pos,aft,g⟩::rest) E (Mem w0 M L):=Vm hw hs hz hd h
theorem yw (h:∀ b,WL P N D ops Q rest ((d,.pointer (some ⟨b,0,none⟩))::E) (Mem w0 M (.blk b vs T::L))) (hw:Want N D ops E g true:=by first | exact wn | exact wg rfl rfl rfl) (hx:ev E x=some (.agg vs.toArray):=by rfl) (hd:Nat.blt d N=true:=by rfl):WL P N D ops Q (⟨some d,.box T x,ty,pos,aft,g⟩::rest) E (Mem w0 M L):=gt hw hx hd h
theorem qn (h:∀ b,WL P N D ops Q rest ((d,.pointer (some ⟨b,0,none⟩))::E) (Mem w0 M (.blk b [v] T::L))) (hw:Want N D ops E g true:=by first | exact wn | exact wg rfl rfl rfl) (hx:ev E x=some v:=by rfl) (hz:v.cells=#[v]:=by rfl) (hd:Nat.blt d N=true:=by rfl):WL P N D ops Q (⟨some d,.box T x,ty,pos,aft,g⟩::rest) E (Mem w0 M L):=l_box1 hw hx hz hd h
section
variable {fn:Func} {R:Ending->World->Prop} {r r1 r2 r3:ResultVar} {v1 v2 v3:Value} {e:Exit}
theorem rvv {r:ResultVar} (h:DX P N D E S r v:=by first | exact yn rfl | exact uM _ rfl (by repeat (first | exact bx0 | apply bxS)) Ej.h Bg.h (by rfl)):DX P N D E S r v:=h
theorem e_rA (hr:fn.results=#[r]) (hR:∀ w,S w->R (.returned v) w) (he:e=.ret∨e=.normal:=by first | exact .inl rfl | exact .inr rfl) (hv:DX P N [] E S r v:=by exact rvv):WE N [] (bodyPost P fn R) e E S:=yo he hr hv hR
theorem e_rB (hr:fn.results=#[r1,r2]) (hR:∀ w,S w->R (.returned (.tuple #[v1,v2])) w) (he:e=.ret∨e=.normal:=by first | exact .inl rfl | exact .inr rfl) (h1:DX P N [] E S r1 v1:=by exact rvv) (h2:DX P N [] E S r2 v2:=by exact rvv):WE N [] (bodyPost P fn R) e E S:=e_ret2 he hr h1 h2 hR
theorem uN (hr:fn.results=#[r1,r2,r3]) (hR:∀ w,S w->R (.returned (.tuple #[v1,v2,v3])) w) (he:e=.ret∨e=.normal:=by first | exact .inl rfl | exact .inr rfl) (h1:DX P N [] E S r1 v1:=by exact rvv) (h2:DX P N [] E S r2 v2:=by exact rvv) (h3:DX P N [] E S r3 v3:=by exact rvv):WE N [] (bodyPost P fn R) e E S:=e_ret3 he hr h1 h2 h3 hR
theorem zp {c:Code} {Bh:List Value} {w:World} (hf:P.funcs[f]?=some fn) (hS:Mem w M L w) (h:WC P N [] c (bodyPost P fn R) (HZ 0 Bh) (Mem w M L)) (hb:fn.body=some c:=by rfl) (hn:fn.ntmps=N:=by rfl) (hl:Nat.ble Bh.length N=true:=by rfl):Calls P f Bh.toArray w R:=Gv hf hb hn hl hS h
end
theorem yB (hcall:∀ vs w,(callFunc f vs).run P w=.ok (.enter f vs) w) (hw:Want N D ops E g true) (hargs:evs E args.toList=some vs) (hc:∀ w,Mem w0 M L w->Calls P f vs.toArray w (Ret w v)) (h:WL P N D ops Q rest ((d,v)::E) (Mem w0 M L)) (hd:Nat.blt d N=true:=by rfl) :
  WL P N D ops Q (⟨some d,.call { callee:=.value (.func f),args:=args,argTypes:=ts },ty,pos,aft,g⟩::rest) E (Mem w0 M L):=vn hw hargs hcall hd hc h
end
end
section
variable {E:Env} {E1:Env}
theorem kS1 {t0:Nat} {v0:Value} (r:BZ E E1) (h0:look E t0=some v0:=by exact rfl):BZ E ((t0,v0)::E1):=sc h0 (r)
theorem kS2 {t0:Nat} {v0:Value} {t1:Nat} {v1:Value} (r:BZ E E1) (h0:look E t0=some v0:=by exact rfl) (h1:look E t1=some v1:=by exact rfl):BZ E ((t0,v0)::(t1,v1)::E1):=sc h0 (sc h1 (r))
theorem kS3 {t0:Nat} {v0:Value} {t1:Nat} {v1:Value} {t2:Nat} {v2:Value} (r:BZ E E1) (h0:look E t0=some v0:=by exact rfl) (h1:look E t1=some v1:=by exact rfl) (h2:look E t2=some v2:=by exact rfl):BZ E ((t0,v0)::(t1,v1)::(t2,v2)::E1):=sc h0 (sc h1 (sc h2 (r)))
theorem kS4 {t0:Nat} {v0:Value} {t1:Nat} {v1:Value} {t2:Nat} {v2:Value} {t3:Nat} {v3:Value} (r:BZ E E1) (h0:look E t0=some v0:=by exact rfl) (h1:look E t1=some v1:=by exact rfl) (h2:look E t2=some v2:=by exact rfl) (h3:look E t3=some v3:=by exact rfl):BZ E ((t0,v0)::(t1,v1)::(t2,v2)::(t3,v3)::E1):=sc h0 (sc h1 (sc h2 (sc h3 (r))))
theorem kS5 {t0:Nat} {v0:Value} {t1:Nat} {v1:Value} {t2:Nat} {v2:Value} {t3:Nat} {v3:Value} {t4:Nat} {v4:Value} (r:BZ E E1) (h0:look E t0=some v0:=by exact rfl) (h1:look E t1=some v1:=by exact rfl) (h2:look E t2=some v2:=by exact rfl) (h3:look E t3=some v3:=by exact rfl) (h4:look E t4=some v4:=by exact rfl):BZ E ((t0,v0)::(t1,v1)::(t2,v2)::(t3,v3)::(t4,v4)::E1):=sc h0 (sc h1 (sc h2 (sc h3 (sc h4 (r)))))
theorem kS6 {t0:Nat} {v0:Value} {t1:Nat} {v1:Value} {t2:Nat} {v2:Value} {t3:Nat} {v3:Value} {t4:Nat} {v4:Value} {t5:Nat} {v5:Value} (r:BZ E E1) (h0:look E t0=some v0:=by exact rfl) (h1:look E t1=some v1:=by exact rfl) (h2:look E t2=some v2:=by exact rfl) (h3:look E t3=some v3:=by exact rfl) (h4:look E t4=some v4:=by exact rfl) (h5:look E t5=some v5:=by exact rfl):BZ E ((t0,v0)::(t1,v1)::(t2,v2)::(t3,v3)::(t4,v4)::(t5,v5)::E1):=sc h0 (sc h1 (sc h2 (sc h3 (sc h4 (sc h5 (r))))))
theorem kS7 {t0:Nat} {v0:Value} {t1:Nat} {v1:Value} {t2:Nat} {v2:Value} {t3:Nat} {v3:Value} {t4:Nat} {v4:Value} {t5:Nat} {v5:Value} {t6:Nat} {v6:Value} (r:BZ E E1) (h0:look E t0=some v0:=by exact rfl) (h1:look E t1=some v1:=by exact rfl) (h2:look E t2=some v2:=by exact rfl) (h3:look E t3=some v3:=by exact rfl) (h4:look E t4=some v4:=by exact rfl) (h5:look E t5=some v5:=by exact rfl) (h6:look E t6=some v6:=by exact rfl):BZ E ((t0,v0)::(t1,v1)::(t2,v2)::(t3,v3)::(t4,v4)::(t5,v5)::(t6,v6)::E1):=sc h0 (sc h1 (sc h2 (sc h3 (sc h4 (sc h5 (sc h6 (r)))))))
theorem kS8 {t0:Nat} {v0:Value} {t1:Nat} {v1:Value} {t2:Nat} {v2:Value} {t3:Nat} {v3:Value} {t4:Nat} {v4:Value} {t5:Nat} {v5:Value} {t6:Nat} {v6:Value} {t7:Nat} {v7:Value} (r:BZ E E1) (h0:look E t0=some v0:=by exact rfl) (h1:look E t1=some v1:=by exact rfl) (h2:look E t2=some v2:=by exact rfl) (h3:look E t3=some v3:=by exact rfl) (h4:look E t4=some v4:=by exact rfl) (h5:look E t5=some v5:=by exact rfl) (h6:look E t6=some v6:=by exact rfl) (h7:look E t7=some v7:=by exact rfl):BZ E ((t0,v0)::(t1,v1)::(t2,v2)::(t3,v3)::(t4,v4)::(t5,v5)::(t6,v6)::(t7,v7)::E1):=sc h0 (sc h1 (sc h2 (sc h3 (sc h4 (sc h5 (sc h6 (sc h7 (r))))))))
end
end Ex
end
section
open Ex
set_option maxRecDepth 100000
theorem mix:Tryz.prog.follows .mixedOrders=true:=by kernel_rfl
theorem Eh:Ex.Inf Tryz.prog 3 1 8 (.int .i64 0):=by rfl
theorem BO:Ex.Cv Tryz.prog 3=true:=by kernel_rfl
theorem BN:Ex.Inf Tryz.prog 9 1 16 (.string ⟨#[]⟩):=by rfl
theorem Hf:Ex.Cv Tryz.prog 9=true:=by kernel_rfl
theorem flat32:Ex.Cv Tryz.prog 32=true:=by kernel_rfl
theorem Rx:Ex.Inf Tryz.prog 34 4 48 (.agg [.int .i64 0,.int .i64 0,.slice none 0 0,.int .i64 0].toArray):=by rfl
theorem LL:Ex.Inf Tryz.prog 39 1 24 (.slice none 0 0):=by rfl
theorem RJ:Ex.Cv Tryz.prog 39=true:=by kernel_rfl
theorem Ao:Ex.Inf Tryz.prog 41 2 16 (.agg [.int .i64 0,.int .i64 0].toArray):=by rfl
theorem Rw:Ex.Dh Tryz.prog 41=true:=by kernel_rfl
theorem flat47:Ex.Cv Tryz.prog 47=true:=by kernel_rfl
theorem OP:Ex.Cv Tryz.prog 48=true:=by kernel_rfl
theorem BS:Ex.Inf Tryz.prog 50 9 136 (.agg [.slice none 0 0,.slice none 0 0,.slice none 0 0,.slice none 0 0,.int .i64 0,.int .i64 0,.int .i64 0,.int .i64 0,.int .i64 0].toArray):=by rfl
theorem agg50:Ex.Dh Tryz.prog 50=true:=by kernel_rfl
theorem fld50_0:Ex.DN Tryz.prog 50 0=some 0:=by kernel_rfl
theorem flat55:Ex.Cv Tryz.prog 55=true:=by kernel_rfl
theorem inf56:Ex.Inf Tryz.prog 56 1 24 (.slice none 0 0):=by rfl
theorem Nt:Ex.Cv Tryz.prog 56=true:=by kernel_rfl
theorem DR:Ex.Cv Tryz.prog 57=true:=by kernel_rfl
theorem An:Ex.Inf Tryz.prog 59 7 112 (.agg [.int .i64 0,.int .i64 0,.int .i64 0,.string ⟨#[]⟩,.slice none 0 0,.slice none 0 0,.slice none 0 0].toArray):=by rfl
theorem EH:Ex.Dh Tryz.prog 59=true:=by kernel_rfl
theorem LU:Ex.placesOf Tryz.prog 59=some [(0,1),(1,1),(2,1),(3,1),(4,1),(5,1),(6,1)]:=by kernel_rfl
theorem EC:Ex.DN Tryz.prog 59 0=some 0:=by kernel_rfl
theorem Sn:Ex.DN Tryz.prog 59 1=some 1:=by kernel_rfl
theorem Tp:Ex.DN Tryz.prog 59 2=some 2:=by kernel_rfl
theorem OY:Ex.DN Tryz.prog 59 3=some 3:=by kernel_rfl
theorem Su:Ex.DN Tryz.prog 59 4=some 4:=by kernel_rfl
theorem TJ:Ex.DN Tryz.prog 59 5=some 5:=by kernel_rfl
theorem CZ:Ex.DN Tryz.prog 59 6=some 6:=by kernel_rfl
theorem LS:Ex.Inf Tryz.prog 61 2 16 (.agg [.int .i64 0,.int .i64 0].toArray):=by rfl
theorem NM:Ex.Dh Tryz.prog 61=true:=by kernel_rfl
theorem Hd:Ex.Inf Tryz.prog 74 2 32 (.agg [.string ⟨#[]⟩,.string ⟨#[]⟩].toArray):=by rfl
theorem Au:Ex.Inf Tryz.prog 81 2 32 (.agg [.slice none 0 0,.int .i64 0].toArray):=by rfl
theorem fld81_0:Ex.DN Tryz.prog 81 0=some 0:=by kernel_rfl
theorem fld81_1:Ex.DN Tryz.prog 81 1=some 1:=by kernel_rfl
theorem EM:Ex.Inf Tryz.prog 89 7 56 (.agg [.int .i64 0,.int .i64 0,.int .i64 0,.int .i64 0,.int .i64 0,.int .i64 0,.int .i64 0].toArray):=by rfl
theorem agg89:Ex.Dh Tryz.prog 89=true:=by kernel_rfl
theorem inf111:Ex.Inf Tryz.prog 111 2 16 (.agg [.int .i64 0,.int .i64 0].toArray):=by rfl
theorem Vq:Ex.DN Tryz.prog 111 0=some 0:=by kernel_rfl
theorem LN:Ex.DN Tryz.prog 119 0=some 0:=by kernel_rfl
theorem BI:Ex.Inf Tryz.prog 163 8 64 (.agg [.int .i64 0,.int .i64 0,.int .i64 0,.int .i64 0,.int .i64 0,.int .i64 0,.int .i64 0,.int .i64 0].toArray):=by rfl
theorem agg163:Ex.Dh Tryz.prog 163=true:=by kernel_rfl
theorem inf164:Ex.Inf Tryz.prog 164 3 24 (.agg [.int .i64 0,.int .i64 0,.int .i64 0].toArray):=by rfl
theorem agg164:Ex.Dh Tryz.prog 164=true:=by kernel_rfl
theorem OV:Ex.Inf Tryz.prog 172 3 40 (.agg [.bool false,.int .i64 0,.slice none 0 0].toArray):=by rfl
theorem agg172:Ex.Dh Tryz.prog 172=true:=by kernel_rfl
theorem BM:Ex.Inf Tryz.prog 179 3 40 (.agg [.int .i64 0,.string ⟨#[]⟩,.string ⟨#[]⟩].toArray):=by rfl
theorem agg179:Ex.Dh Tryz.prog 179=true:=by kernel_rfl
theorem Kc:Ex.DN Tryz.prog 179 0=some 0:=by kernel_rfl
theorem VG:Ex.DN Tryz.prog 179 1=some 1:=by kernel_rfl
theorem Wy:Ex.DN Tryz.prog 179 2=some 2:=by kernel_rfl
theorem Np:Ex.Inf Tryz.prog 202 2 32 (.agg [.string ⟨#[]⟩,.string ⟨#[]⟩].toArray):=by rfl
theorem agg202:Ex.Dh Tryz.prog 202=true:=by kernel_rfl
theorem Ax:Ex.Inf Tryz.prog 217 3 24 (.agg [.int .i64 0,.int .i64 0,.int .i64 0].toArray):=by rfl
theorem eqv41:EqV Tryz.prog 41 AA zX:=⟨fun a b w=>by
 obtain ⟨f,e⟩:=a
 obtain ⟨c,d⟩:=b
 rw [run_equalIn_struct (P:=Tryz.prog) w 9999 41 _ _ Tryz.underlying41 (by kernel_rfl)]
 simp [go_sem,zX]
 try ((repeat' split) <;> simp_all),by kernel_rfl⟩
theorem eqv74:EqV Tryz.prog 74 Label zb:=⟨fun a b w=>by
 obtain ⟨f,e⟩:=a
 obtain ⟨c,d⟩:=b
 rw [run_equalIn_struct (P:=Tryz.prog) w 9999 74 _ _ Tryz.underlying74 (by kernel_rfl)]
 simp [go_sem,zb,toList_inj]
 try ((repeat' split) <;> simp_all),by kernel_rfl⟩
theorem eqv163:EqV Tryz.prog 163 AB zO:=⟨fun a b w=>by
 obtain ⟨a,⟨h,m,o,e,n,d,f⟩⟩:=a
 obtain ⟨c,⟨g,q,p,k,l,i,j⟩⟩:=b
 rw [run_equalIn_struct (P:=Tryz.prog) w 9999 163 _ _ Tryz.underlying163 (by kernel_rfl)]
 simp [go_sem,zO]
 try ((repeat' split) <;> simp_all),by kernel_rfl⟩
end
section
set_option maxRecDepth 100000
instance:Ex.Ej Tryz.prog 163:=⟨by kernel_rfl⟩
instance:Ex.Ej Tryz.prog 172:=⟨by kernel_rfl⟩
instance:Ex.Ej Tryz.prog 179:=⟨by kernel_rfl⟩
instance:Ex.Ej Tryz.prog 217:=⟨by kernel_rfl⟩
instance:Ex.Ej Tryz.prog 25:=⟨by kernel_rfl⟩
instance:Ex.Ej Tryz.prog 34:=⟨by kernel_rfl⟩
instance:Ex.Ej Tryz.prog 41:=⟨by kernel_rfl⟩
instance:Ex.Ej Tryz.prog 43:=⟨by kernel_rfl⟩
instance:Ex.Ej Tryz.prog 50:=⟨by kernel_rfl⟩
instance:Ex.Ej Tryz.prog 59:=⟨by kernel_rfl⟩
instance:Ex.Ej Tryz.prog 61:=⟨by kernel_rfl⟩
instance:Ex.Ej Tryz.prog 74:=⟨by kernel_rfl⟩
instance:Ex.Ej Tryz.prog 81:=⟨by kernel_rfl⟩
instance:Ex.Ej Tryz.prog 89:=⟨by kernel_rfl⟩
instance:Ex.Ce Tryz.prog 170:=⟨by kernel_rfl⟩
instance:Ex.Ce Tryz.prog 23:=⟨by kernel_rfl⟩
instance:Ex.Ce Tryz.prog 27:=⟨by kernel_rfl⟩
instance:Ex.Ce Tryz.prog 3:=⟨by kernel_rfl⟩
instance:Ex.Ce Tryz.prog 32:=⟨by kernel_rfl⟩
instance:Ex.Ce Tryz.prog 39:=⟨by kernel_rfl⟩
instance:Ex.Ce Tryz.prog 4:=⟨by kernel_rfl⟩
instance:Ex.Ce Tryz.prog 47:=⟨by kernel_rfl⟩
instance:Ex.Ce Tryz.prog 48:=⟨by kernel_rfl⟩
instance:Ex.Ce Tryz.prog 5:=⟨by kernel_rfl⟩
instance:Ex.Ce Tryz.prog 55:=⟨by kernel_rfl⟩
instance:Ex.Ce Tryz.prog 56:=⟨by kernel_rfl⟩
instance:Ex.Ce Tryz.prog 57:=⟨by kernel_rfl⟩
instance:Ex.Ce Tryz.prog 9:=⟨by kernel_rfl⟩
instance:Ex.Ce Tryz.prog 91:=⟨by kernel_rfl⟩
instance:Ex.Ce Tryz.prog 95:=⟨by kernel_rfl⟩
instance:Ex.Ce Tryz.prog 97:=⟨by kernel_rfl⟩
instance:Ex.BF Tryz.prog 114 0 0:=⟨by kernel_rfl⟩
instance:Ex.BF Tryz.prog 114 1 1:=⟨by kernel_rfl⟩
instance:Ex.BF Tryz.prog 114 2 2:=⟨by kernel_rfl⟩
instance:Ex.BF Tryz.prog 163 0 0:=⟨by kernel_rfl⟩
instance:Ex.BF Tryz.prog 163 1 1:=⟨by kernel_rfl⟩
instance:Ex.BF Tryz.prog 164 0 0:=⟨by kernel_rfl⟩
instance:Ex.BF Tryz.prog 164 1 1:=⟨by kernel_rfl⟩
instance:Ex.BF Tryz.prog 164 2 2:=⟨by kernel_rfl⟩
instance:Ex.BF Tryz.prog 172 0 0:=⟨by kernel_rfl⟩
instance:Ex.BF Tryz.prog 172 1 1:=⟨by kernel_rfl⟩
instance:Ex.BF Tryz.prog 172 2 2:=⟨by kernel_rfl⟩
instance:Ex.BF Tryz.prog 176 0 0:=⟨by kernel_rfl⟩
instance:Ex.BF Tryz.prog 176 1 1:=⟨by kernel_rfl⟩
instance:Ex.BF Tryz.prog 179 0 0:=⟨by kernel_rfl⟩
instance:Ex.BF Tryz.prog 179 1 1:=⟨by kernel_rfl⟩
instance:Ex.BF Tryz.prog 179 2 2:=⟨by kernel_rfl⟩
instance:Ex.BF Tryz.prog 208 0 0:=⟨by kernel_rfl⟩
instance:Ex.BF Tryz.prog 208 1 1:=⟨by kernel_rfl⟩
instance:Ex.BF Tryz.prog 208 2 2:=⟨by kernel_rfl⟩
instance:Ex.BF Tryz.prog 208 3 3:=⟨by kernel_rfl⟩
instance:Ex.BF Tryz.prog 217 0 0:=⟨by kernel_rfl⟩
instance:Ex.BF Tryz.prog 217 1 1:=⟨by kernel_rfl⟩
instance:Ex.BF Tryz.prog 217 2 2:=⟨by kernel_rfl⟩
instance:Ex.BF Tryz.prog 25 0 0:=⟨by kernel_rfl⟩
instance:Ex.BF Tryz.prog 25 1 1:=⟨by kernel_rfl⟩
instance:Ex.BF Tryz.prog 34 0 0:=⟨by kernel_rfl⟩
instance:Ex.BF Tryz.prog 34 1 1:=⟨by kernel_rfl⟩
instance:Ex.BF Tryz.prog 34 2 2:=⟨by kernel_rfl⟩
instance:Ex.BF Tryz.prog 34 3 3:=⟨by kernel_rfl⟩
instance:Ex.BF Tryz.prog 41 0 0:=⟨by kernel_rfl⟩
instance:Ex.BF Tryz.prog 41 1 1:=⟨by kernel_rfl⟩
instance:Ex.BF Tryz.prog 43 0 0:=⟨by kernel_rfl⟩
instance:Ex.BF Tryz.prog 43 1 1:=⟨by kernel_rfl⟩
instance:Ex.BF Tryz.prog 43 2 2:=⟨by kernel_rfl⟩
instance:Ex.BF Tryz.prog 43 3 3:=⟨by kernel_rfl⟩
instance:Ex.BF Tryz.prog 43 4 4:=⟨by kernel_rfl⟩
instance:Ex.BF Tryz.prog 43 5 6:=⟨by kernel_rfl⟩
instance:Ex.BF Tryz.prog 50 0 0:=⟨by kernel_rfl⟩
instance:Ex.BF Tryz.prog 50 1 1:=⟨by kernel_rfl⟩
instance:Ex.BF Tryz.prog 50 2 2:=⟨by kernel_rfl⟩
instance:Ex.BF Tryz.prog 50 3 3:=⟨by kernel_rfl⟩
instance:Ex.BF Tryz.prog 50 4 4:=⟨by kernel_rfl⟩
instance:Ex.BF Tryz.prog 50 5 5:=⟨by kernel_rfl⟩
instance:Ex.BF Tryz.prog 50 6 6:=⟨by kernel_rfl⟩
instance:Ex.BF Tryz.prog 50 7 7:=⟨by kernel_rfl⟩
instance:Ex.BF Tryz.prog 50 8 8:=⟨by kernel_rfl⟩
instance:Ex.BF Tryz.prog 59 0 0:=⟨by kernel_rfl⟩
instance:Ex.BF Tryz.prog 59 1 1:=⟨by kernel_rfl⟩
instance:Ex.BF Tryz.prog 59 2 2:=⟨by kernel_rfl⟩
instance:Ex.BF Tryz.prog 59 3 3:=⟨by kernel_rfl⟩
instance:Ex.BF Tryz.prog 59 4 4:=⟨by kernel_rfl⟩
instance:Ex.BF Tryz.prog 59 5 5:=⟨by kernel_rfl⟩
instance:Ex.BF Tryz.prog 59 6 6:=⟨by kernel_rfl⟩
instance:Ex.BF Tryz.prog 61 0 0:=⟨by kernel_rfl⟩
instance:Ex.BF Tryz.prog 61 1 1:=⟨by kernel_rfl⟩
instance:Ex.BF Tryz.prog 74 0 0:=⟨by kernel_rfl⟩
instance:Ex.BF Tryz.prog 74 1 1:=⟨by kernel_rfl⟩
instance:Ex.BF Tryz.prog 81 0 0:=⟨by kernel_rfl⟩
instance:Ex.BF Tryz.prog 81 1 1:=⟨by kernel_rfl⟩
instance:Ex.BF Tryz.prog 89 0 0:=⟨by kernel_rfl⟩
instance:Ex.BF Tryz.prog 89 1 1:=⟨by kernel_rfl⟩
instance:Ex.BF Tryz.prog 89 2 2:=⟨by kernel_rfl⟩
instance:Ex.BF Tryz.prog 89 3 3:=⟨by kernel_rfl⟩
instance:Ex.BF Tryz.prog 89 4 4:=⟨by kernel_rfl⟩
instance:Ex.BF Tryz.prog 89 5 5:=⟨by kernel_rfl⟩
instance:Ex.BF Tryz.prog 89 6 6:=⟨by kernel_rfl⟩
instance:Ex.BF Tryz.prog 93 0 0:=⟨by kernel_rfl⟩
instance:Ex.Bg Tryz.prog 111 2 16 (.agg [.int .i64 0,.int .i64 0].toArray):=⟨by unfold Ex.Inf; kernel_rfl⟩
instance:Ex.Bg Tryz.prog 114 3 32 (.agg [.string ⟨#[]⟩,.int .i64 0,.int .i64 0].toArray):=⟨by unfold Ex.Inf; kernel_rfl⟩
instance:Ex.Bg Tryz.prog 119 1 8 (.agg [.int .i64 0].toArray):=⟨by unfold Ex.Inf; kernel_rfl⟩
instance:Ex.Bg Tryz.prog 163 8 64 (.agg [.int .i64 0,.int .i64 0,.int .i64 0,.int .i64 0,.int .i64 0,.int .i64 0,.int .i64 0,.int .i64 0].toArray):=⟨by unfold Ex.Inf; kernel_rfl⟩
instance:Ex.Bg Tryz.prog 164 3 24 (.agg [.int .i64 0,.int .i64 0,.int .i64 0].toArray):=⟨by unfold Ex.Inf; kernel_rfl⟩
instance:Ex.Bg Tryz.prog 172 3 40 (.agg [.bool false,.int .i64 0,.slice none 0 0].toArray):=⟨by unfold Ex.Inf; kernel_rfl⟩
instance:Ex.Bg Tryz.prog 176 2 16 (.agg [.int .i64 0,.nilFunc].toArray):=⟨by unfold Ex.Inf; kernel_rfl⟩
instance:Ex.Bg Tryz.prog 179 3 40 (.agg [.int .i64 0,.string ⟨#[]⟩,.string ⟨#[]⟩].toArray):=⟨by unfold Ex.Inf; kernel_rfl⟩
instance:Ex.Bg Tryz.prog 202 2 32 (.agg [.string ⟨#[]⟩,.string ⟨#[]⟩].toArray):=⟨by unfold Ex.Inf; kernel_rfl⟩
instance:Ex.Bg Tryz.prog 208 5 48 (.agg [.string ⟨#[]⟩,.int .i64 0,.int .i64 0,.int .i64 0,.int .i64 0].toArray):=⟨by unfold Ex.Inf; kernel_rfl⟩
instance:Ex.Bg Tryz.prog 217 3 24 (.agg [.int .i64 0,.int .i64 0,.int .i64 0].toArray):=⟨by unfold Ex.Inf; kernel_rfl⟩
instance:Ex.Bg Tryz.prog 23 1 24 (.slice none 0 0):=⟨by unfold Ex.Inf; kernel_rfl⟩
instance:Ex.Bg Tryz.prog 25 2 32 (.agg [.slice none 0 0,.int .i64 0].toArray):=⟨by unfold Ex.Inf; kernel_rfl⟩
instance:Ex.Bg Tryz.prog 3 1 8 (.int .i64 0):=⟨by unfold Ex.Inf; kernel_rfl⟩
instance:Ex.Bg Tryz.prog 32 1 24 (.slice none 0 0):=⟨by unfold Ex.Inf; kernel_rfl⟩
instance:Ex.Bg Tryz.prog 34 4 48 (.agg [.int .i64 0,.int .i64 0,.slice none 0 0,.int .i64 0].toArray):=⟨by unfold Ex.Inf; kernel_rfl⟩
instance:Ex.Bg Tryz.prog 39 1 24 (.slice none 0 0):=⟨by unfold Ex.Inf; kernel_rfl⟩
instance:Ex.Bg Tryz.prog 41 2 16 (.agg [.int .i64 0,.int .i64 0].toArray):=⟨by unfold Ex.Inf; kernel_rfl⟩
instance:Ex.Bg Tryz.prog 43 7 80 (.agg [.int .i64 0,.int .i64 0,.int .i64 0,.slice none 0 0,.int .i64 0,.int .i64 0,.string ⟨#[]⟩].toArray):=⟨by unfold Ex.Inf; kernel_rfl⟩
instance:Ex.Bg Tryz.prog 47 1 24 (.slice none 0 0):=⟨by unfold Ex.Inf; kernel_rfl⟩
instance:Ex.Bg Tryz.prog 48 1 24 (.slice none 0 0):=⟨by unfold Ex.Inf; kernel_rfl⟩
instance:Ex.Bg Tryz.prog 5 1 1 (.int .u8 0):=⟨by unfold Ex.Inf; kernel_rfl⟩
instance:Ex.Bg Tryz.prog 50 9 136 (.agg [.slice none 0 0,.slice none 0 0,.slice none 0 0,.slice none 0 0,.int .i64 0,.int .i64 0,.int .i64 0,.int .i64 0,.int .i64 0].toArray):=⟨by unfold Ex.Inf; kernel_rfl⟩
instance:Ex.Bg Tryz.prog 55 1 24 (.slice none 0 0):=⟨by unfold Ex.Inf; kernel_rfl⟩
instance:Ex.Bg Tryz.prog 56 1 24 (.slice none 0 0):=⟨by unfold Ex.Inf; kernel_rfl⟩
instance:Ex.Bg Tryz.prog 57 1 24 (.slice none 0 0):=⟨by unfold Ex.Inf; kernel_rfl⟩
instance:Ex.Bg Tryz.prog 59 7 112 (.agg [.int .i64 0,.int .i64 0,.int .i64 0,.string ⟨#[]⟩,.slice none 0 0,.slice none 0 0,.slice none 0 0].toArray):=⟨by unfold Ex.Inf; kernel_rfl⟩
instance:Ex.Bg Tryz.prog 61 2 16 (.agg [.int .i64 0,.int .i64 0].toArray):=⟨by unfold Ex.Inf; kernel_rfl⟩
instance:Ex.Bg Tryz.prog 74 2 32 (.agg [.string ⟨#[]⟩,.string ⟨#[]⟩].toArray):=⟨by unfold Ex.Inf; kernel_rfl⟩
instance:Ex.Bg Tryz.prog 81 2 32 (.agg [.slice none 0 0,.int .i64 0].toArray):=⟨by unfold Ex.Inf; kernel_rfl⟩
instance:Ex.Bg Tryz.prog 89 7 56 (.agg [.int .i64 0,.int .i64 0,.int .i64 0,.int .i64 0,.int .i64 0,.int .i64 0,.int .i64 0].toArray):=⟨by unfold Ex.Inf; kernel_rfl⟩
instance:Ex.Bg Tryz.prog 9 1 16 (.string ⟨#[]⟩):=⟨by unfold Ex.Inf; kernel_rfl⟩
instance:Ex.Bg Tryz.prog 93 2 32 (.agg [.slice none 0 0,.int .i64 0].toArray):=⟨by unfold Ex.Inf; kernel_rfl⟩
instance:Ex.PlI Tryz.prog 111 [(0,2)]:=⟨by kernel_rfl⟩
instance:Ex.PlI Tryz.prog 114 [(0,1),(1,1),(2,1)]:=⟨by kernel_rfl⟩
instance:Ex.PlI Tryz.prog 119 [(0,1)]:=⟨by kernel_rfl⟩
instance:Ex.PlI Tryz.prog 163 [(0,1),(1,7)]:=⟨by kernel_rfl⟩
instance:Ex.PlI Tryz.prog 164 [(0,1),(1,1),(2,1)]:=⟨by kernel_rfl⟩
instance:Ex.PlI Tryz.prog 172 [(0,1),(1,1),(2,1)]:=⟨by kernel_rfl⟩
instance:Ex.PlI Tryz.prog 176 [(0,1),(1,1)]:=⟨by kernel_rfl⟩
instance:Ex.PlI Tryz.prog 179 [(0,1),(1,1),(2,1)]:=⟨by kernel_rfl⟩
instance:Ex.PlI Tryz.prog 208 [(0,1),(1,1),(2,1),(3,2)]:=⟨by kernel_rfl⟩
instance:Ex.PlI Tryz.prog 217 [(0,1),(1,1),(2,1)]:=⟨by kernel_rfl⟩
instance:Ex.PlI Tryz.prog 25 [(0,1),(1,1)]:=⟨by kernel_rfl⟩
instance:Ex.PlI Tryz.prog 34 [(0,1),(1,1),(2,1),(3,1)]:=⟨by kernel_rfl⟩
instance:Ex.PlI Tryz.prog 50 [(0,1),(1,1),(2,1),(3,1),(4,1),(5,1),(6,1),(7,1),(8,1)]:=⟨by kernel_rfl⟩
instance:Ex.PlI Tryz.prog 59 [(0,1),(1,1),(2,1),(3,1),(4,1),(5,1),(6,1)]:=⟨by kernel_rfl⟩
instance:Ex.PlI Tryz.prog 61 [(0,1),(1,1)]:=⟨by kernel_rfl⟩
instance:Ex.PlI Tryz.prog 81 [(0,1),(1,1)]:=⟨by kernel_rfl⟩
instance:Ex.PlI Tryz.prog 89 [(0,1),(1,1),(2,1),(3,1),(4,1),(5,1),(6,1)]:=⟨by kernel_rfl⟩
instance:Ex.PlI Tryz.prog 93 [(0,2)]:=⟨by kernel_rfl⟩
instance:Ex.FT Tryz.prog 125 39:=⟨Tryz.underlying125⟩
instance:Ex.FT Tryz.prog 126 89:=⟨Tryz.underlying126⟩
instance:Ex.FT Tryz.prog 152 217:=⟨Tryz.underlying152⟩
instance:Ex.FT Tryz.prog 165 164:=⟨Tryz.underlying165⟩
instance:Ex.FT Tryz.prog 203 202:=⟨Tryz.underlying203⟩
instance:Ex.FT Tryz.prog 22 43:=⟨Tryz.underlying22⟩
instance:Ex.FT Tryz.prog 224 172:=⟨Tryz.underlying224⟩
instance:Ex.FT Tryz.prog 23 50:=⟨Tryz.underlying23⟩
instance:Ex.FT Tryz.prog 236 56:=⟨Tryz.underlying236⟩
instance:Ex.FT Tryz.prog 26 34:=⟨Tryz.underlying26⟩
instance:Ex.FT Tryz.prog 32 81:=⟨Tryz.underlying32⟩
instance:Ex.FT Tryz.prog 37 3:=⟨Tryz.underlying37⟩
instance:Ex.FT Tryz.prog 39 74:=⟨Tryz.underlying39⟩
instance:Ex.FT Tryz.prog 47 41:=⟨Tryz.underlying47⟩
instance:Ex.FT Tryz.prog 48 163:=⟨Tryz.underlying48⟩
instance:Ex.FT Tryz.prog 55 179:=⟨Tryz.underlying55⟩
instance:Ex.FT Tryz.prog 56 9:=⟨Tryz.underlying56⟩
instance:Ex.FT Tryz.prog 57 59:=⟨Tryz.underlying57⟩
instance:Ex.FT Tryz.prog 79 5:=⟨Tryz.underlying79⟩
instance:Ex.StrI Tryz.prog 9:=⟨Tryz.underlying9⟩
instance:Ex.MixI Tryz.prog:=⟨by kernel_rfl⟩
end
section
namespace Bs
open Ex Sh
def hostL (h:ByteArray):List Label:=[⟨⟨#[104,111,115,116]⟩,h⟩]
def last (l:List Do):Ans:=if (GQ l).2.2≠0 then no 1 else match (GQ l).2.1.getLast? with | none=>no 1 | some x=>x
def s1 (h:ByteArray) (a v:Int):Shelf:=(append (fresh (hostL h) 0) ⟨a,v⟩).1
def s2 (h:ByteArray) (a v to:Int):Shelf:=(Ab (s1 h a v) to).1
end Bs
namespace Ex
def Eg (z:yA × SlX zk) (S:Nat->Prop) (w:World):Prop:=yA.Ok S z.1 w∧AnssX.Ok S z.2 w
theorem Eg.loc (z:yA × SlX zk):Loc (Eg z):=fun S S' u u' a b h=>⟨yA.Ok.loc _ S S' u u' a b h.1,AnssX.Ok.loc _ S S' u u' a b h.2⟩
theorem Eg.wf {z:yA × SlX zk} {S:Nat->Prop} {w:World} (h:Eg z S w):yA.Wf z.1∧AnssX.Wf z.2:=⟨h.1.wf,h.2.wf⟩
theorem Mem.playX {b w:World} {M:Fp} {L:List Own} (h:Mem b M L w) (q:Nat) {z:yA × SlX zk} (hi:L[q]?=some (.pub (Eg z))):Mem b M (slP 4 uZ (z.2.v) z.2.l::AS zk.Ok z.2.l::okP yA.Ok z.1::L) w:=by
 have c:=h.imp q hi (yA.Ok.loc z.1) fun _ a=>a.1;have d:=c.imp (q + 1) hi (Av zk.Ok.loc z.2.l) fun _ a=>a.2.all;exact d.imp (q + 2) hi (zH.loc 4 uZ _ z.2.l) fun _ a=>a.2.sl
end Ex
end
section
namespace Bs
open Ex Sh
section
variable {a b:yA} {k:Nat} {s t:zB}
instance:DecidableEq CW:=fun a b=>decidable_of_iff (a.zA=b.zA∧a.zT=b.zT) ⟨fun h=>by cases a; cases b; simp only at h; rw [h.1,h.2],fun h=>by rw [h]; exact ⟨rfl,rfl⟩⟩
theorem base_eq (c:a.zT=b.zT) (d:a.zA.l.map zB.e=b.zA.l.map zB.e):a.e=b.e:=by unfold yA.e; rw [c,d]
theorem Pn (h:¬ (a.zT=b.zT∧a.zA.l.length=b.zA.l.length)):¬ a.e=b.e:=fun g=>h ⟨congrArg CW.zT g,by have:=congrArg (fun x:CW=>x.zA.length) g; simpa [yA.e] using this⟩
theorem XC (c:a.zA.l[k]?=some s) (d:b.zA.l[k]?=some t) (h:¬ s.e=t.e):¬ a.e=b.e:=fun g=>h (by
 have:=congrArg (fun x:CW=>x.zA[k]?) g
 simp only [yA.e,yV,c,d,Option.map_some,Option.some.injEq] at this
 exact this)
theorem UU {l m:List zB} (a:l[k]?=some s) (b:m[k]?=some t) (h:(l.take k).map zB.e=(m.take k).map zB.e) (he:s.e=t.e):(l.take (k + 1)).map zB.e=(m.take (k + 1)).map zB.e:=by
 rw [vE,vE,a,b,yi,yi,h];simp [he]
end
end Bs
end
section
namespace Ex
section
variable {P:Program} {N:Nat} {D:List Deferred} {E:Env} {Q:Exit->Act->World->Prop} {w0:World} {M:Fp} {L:List Own} {ops:Array Oper} {rest:List Oper} {d:Nat} {ty:TypeId} {pos:String} {aft:Array Edge} {g:Option (Nat × Bool)} {x:Operand}
theorem l_gv {α:Type} {f:Nat} {args:Array Operand} {ts:Array TypeId} {vs cap:List Value} {mk:α->Value} {pure:α->Prop} {A':α->List Own} (A R:List Own) (is:List Nat) (hw:Want N D ops E g true) (hx:ev E x=some (.func (.func f) #[] cap.toArray)) (hargs:evs E args.toList=some vs)
  (he:(A++R).map some=is.map (fun i=>L[i]?)) (hcall:∀ vs w,(callFunc f vs).run P w=.ok (.enter f vs) w)
  (hc:∀ w Pb,Mem w ⟨AX A,Pb⟩ A w->Calls P f (vs++cap).toArray w (Be w A Pb mk pure A'))
  (h:∀ z,pure z->WL P N D ops Q rest ((d,mk z)::E) (Mem w0 M (A' z++R)))
  (hn:is.Nodup:=by decide) (hq:∀ z,(A' z).all (fun o=>o.mut || o.Cu)=true:=by exact fun _=>rfl) (hd:Nat.blt d N=true:=by rfl) :
  WL P N D ops Q (⟨some d,.call { callee:=.value x,args:=args,argTypes:=ts },ty,pos,aft,g⟩::rest) E (Mem w0 M L) :=
 j0 A R mk pure A' _ (fun _=>rfl) (fun _ h=>h.sel is hn he) hq hw hx hargs hcall hd hc h
theorem l_gw {α:Type} {f:Nat} {args:Array Operand} {ts:Array TypeId} {vs cap:List Value} {PT:Nat} {mk:α->Value} {pure:α->Prop} {A':α->List Own} {bad:Pz.F->Prop} (A R:List Own) (is:List Nat) (hw:Want N D ops E g true) (hx:ev E x=some (.func (.func f) #[] cap.toArray)) (hargs:evs E args.toList=some vs)
  (he:(A++R).map some=is.map (fun i=>L[i]?)) (hcall:∀ vs w,(callFunc f vs).run P w=.ok (.enter f vs) w)
  (hc:∀ w Pb,Mem w ⟨AX A,Pb⟩ A w->Calls P f (vs++cap).toArray w (FY w A Pb PT mk pure A' bad))
  (hb:∀ f,bad f->WE N D Q (.panic (pan PT f)) E (Mem w0 M R))
  (h:∀ z,pure z->WL P N D ops Q rest ((d,mk z)::E) (Mem w0 M (A' z++R)))
  (hn:is.Nodup:=by decide) (hq:∀ z,(A' z).all (fun o=>o.mut || o.Cu)=true:=by exact fun _=>rfl) (hd:Nat.blt d N=true:=by rfl) :
  WL P N D ops Q (⟨some d,.call { callee:=.value x,args:=args,argTypes:=ts },ty,pos,aft,g⟩::rest) E (Mem w0 M L) :=
 l_giveX A R mk pure A' _ bad (fun _=>rfl) (fun _ h=>h.sel is hn he) hq hw hx hargs hcall hd hc hb h
end
end Ex
end
end Go.Proofs.YtgojhpocpajmlaaGreatDoor
