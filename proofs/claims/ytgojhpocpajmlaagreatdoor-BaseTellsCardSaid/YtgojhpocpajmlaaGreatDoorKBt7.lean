/- Laws and walks for the proof of BaseTells, packed by program; each theorem bears its own conditions. -/
import Derived.Test.YtgojhpocpajmlaaGreatDoorRows
import Derived.Carry
import Derived.Deep.Slices
import Derived.Test.YtgojhpocpajmlaaGreatDoorKBt6
set_option linter.unusedVariables false
set_option linter.unusedSimpArgs false
set_option maxHeartbeats 20000000
namespace Go.Proofs.YtgojhpocpajmlaaGreatDoor
section
open Go.ChangeShapes Go.WideShapes Go.ChangeAt Go.RowKit
namespace Ex
theorem Tryz.own_:ownKnob Tryz.prog.godebug=none:=by kernel_rfl
theorem Tryz.laid_:laidOutB Tryz.prog=true:=by kernel_rfl
section
variable {H:Type} {enc:TypeId × Value->H} {P:Program}
theorem He (g:laidOutB P=true) {W i:World} {b:Nat->Bool} (a:Fr no W i):∀ {ts:List TypeId} {vs:List Value} {f:List (DataW H)} {c:List MemPlace},(∀ t ∈ ts,P.readableRec t=true∧t < P.types.size) ->
  DataW.TrodAll enc P W 0 (fun _=>true) true ts vs f c->(∀ p ∈ c,p.block < W.heap.size)->(∀ p ∈ c,b p.block=true)->DataW.TrodAll enc P i 0 b true ts vs f c
 | [],[],[],_,_,h,_,_=>h
 | t :: ts, v :: vs, d :: f, _, hr, ⟨p, q, h1, h2, e⟩, hlt, hs =>
  ⟨p,q,WideElems.Trod_stays g (hr t (List.mem_cons_self ..)).1 (hr t (List.mem_cons_self ..)).2 h1 (fun x hx=>(Fr.below a).same (hlt x (by rw [e]; exact List.mem_append_left _ hx))) (fun x hx=>hs x (by rw [e]; exact List.mem_append_left _ hx)),
   He g a (fun t ht=>hr t (List.mem_cons_of_mem _ ht)) h2 (fun x hx=>hlt x (by rw [e]; exact List.mem_append_right _ hx)) (fun x hx=>hs x (by rw [e]; exact List.mem_append_right _ hx)),e⟩
theorem Uf {f:Func} {s:ChangeSpec} {W u:World} {args:Array Value} {a v:List (DataW H)} {c:List MemPlace} {m:TypeId} (E:laidOutB P=true) (F:∀ t ∈ f.params.toList,P.readableRec t=true∧t < P.types.size)
  (e:f.resultTypes=#[m]) (G:P.underlying m=some .bool) (b:s.vars=[]) (k:DataW.Whole enc P f.params.toList s.vars false W args.toList a v c)
  (z:∀ a:List (DataW H),a.length=f.params.size->(s.fn H a).results=[.lit (.bool true)]∧(s.fn H a).args=a∧(s.fn H a).vars=[]) (o:Fr no W u) :
  s.post enc P f false true false false W args (.bool true) u:=by
 have g:=k.lt
 have j:=k
 obtain ⟨p,q,n,r,rfl,w,B⟩:=k
 rw [b] at r
 obtain ⟨rfl,rfl⟩:=trodVars_none r
 have d:∀ {ts:List TypeId} {vs:List Value} {a:List (DataW H)} {i:List MemPlace},DataW.TrodAll enc P W 0 (fun _=>true) true ts vs a i->a.length=ts.length:=by
  intro ts
  induction ts with
  | nil=>intro vs a i h; cases vs <;> cases a <;> simp_all [DataW.TrodAll]
  | cons t ts ih =>
   intro vs a i h
   cases vs <;> cases a <;> try (simp [DataW.TrodAll] at h; done)
   obtain ⟨_,_,_,C,_⟩:=h
   simp [ih C]
 obtain ⟨A,y,D⟩:=z a (by rw [d n]; simp)
 refine ⟨a,[],_,[],p,[],j,?_,?_,?_,?_,fun h=>by cases h⟩
 ·rw [uc,A,e]
  exact trodAll_mk1 (shut_bool G true)
 ·rw [uc,y]
  exact He E o F n (fun x l=>g x (by simpa using l)) (fun x l=>by simpa using g x (by simpa using l))
 ·rw [uc,D,b]
  exact rfl
 ·exact (Fr.below o).frame _
end
def ok64 (n:Int):Prop:=-9223372036854775808<=n∧n<=9223372036854775807
theorem ok64_wf {n:Int} (h:(Lit.int .i64 n).wf=true):ok64 n:=by
 simpa [Lit.wf,IntKind.min,IntKind.max,IntKind.signed,IntKind.bits,ok64] using h
def RdF (P:Program) (t:TypeId) {α:Type} (e:α->List Value) (ok:α->Prop):Prop :=
  ∀ {H:Type} (enc:TypeId × Value->H) (w:World) (base:Nat) (sp:Nat->Bool) (held:Bool) (fuel:Nat) (cs:List Value) (x:DataW H × List MemPlace),
    DataW.trod enc P w base sp held fuel t cs=some x->∃ a,cs=e a∧ok a
theorem Kh {P:Program} {t:TypeId} (h:P.underlying t=some (.int .i64)):RdF P t GD ok64:=fun _ _ _ _ _ _ _ _ a=>by
 obtain ⟨n,e,_,b⟩:=DataW.trod_int h a
 exact ⟨n,e,ok64_wf b⟩
def okStr (s:ByteArray):Prop:=s.size<=maxLen
theorem RX {P:Program} {t:TypeId} (h:P.underlying t=some .string):RdF P t Ac okStr:=fun _ _ _ _ _ _ _ _ a=>by
 obtain ⟨s,e,_,b⟩:=DataW.trod_string h a
 exact ⟨s,e,b⟩
theorem st_fld {H:Type} {enc:TypeId × Value->H} {P:Program} {w:World} {base:Nat} {g:Nat->Bool} {a:Bool} {fuel:Nat} {t:TypeId} {cs:List Value} {x:DataW H × List MemPlace} {i:Array Field} (m:P.underlying t=some (.struct i))
  (h:DataW.trod enc P w base g a fuel t cs=some x):cs.length=P.cellsOf t∧∃ n,∀ (j:Nat) (f:Field),i[j]?=some f->∃ y,DataW.trod enc P w base g a n f.type ((cs.drop f.offset).take (P.cellsOf f.type))=some y:=by
 obtain ⟨d,n,_,_,k,b,l⟩:=DataW.trod_struct m h
 refine ⟨k,n,fun j f e=>?_⟩
 have c:j < d.length:=by rw [b]; exact (Array.getElem?_eq_some_iff.1 e).1
 exact ⟨d[j],(l j f e).trans (vA c)⟩
end Ex
end
section
open Go.ChangeShapes Go.WideShapes Go.ChangeAt Go.RowKit
namespace Ex
theorem list2 {l:List Value} (h:l.length=2):∃ c0 c1,l=[c0,c1]:=by
 match l,h with
 | [c0,c1],_=>exact ⟨_,_,rfl⟩
theorem list7 {l:List Value} (h:l.length=7):∃ c0 c1 c2 c3 c4 c5 c6,l=[c0,c1,c2,c3,c4,c5,c6]:=by
 match l,h with
 | [c0,c1,c2,c3,c4,c5,c6],_=>exact ⟨_,_,_,_,_,_,_,rfl⟩
def VF (s:AA):Prop:=ok64 s.time∧ok64 s.value
def SD (s:Label):Prop:=okStr s.key∧okStr s.val
theorem VK:RdF Tryz.prog 41 zX VF:=fun {H} en w base sp held fuel cs x hx=>by
 obtain ⟨f,n,g⟩:=st_fld Tryz.underlying41 hx
 rw [show Tryz.prog.cellsOf 41=2 from by kernel_rfl] at f
 obtain ⟨i,q,rfl⟩:=list2 f
 obtain ⟨p,a⟩:=g 0 _ rfl
 replace a:DataW.trod en Tryz.prog w base sp held n 3 (List.take (Tryz.prog.cellsOf 3) (List.drop 0 _))=some p:=a
 rw [show Tryz.prog.cellsOf 3=1 from by kernel_rfl] at a
 obtain ⟨e,j,k⟩:=Kh Tryz.underlying3 en w base sp held n _ _ a
 have d:[i]=GD e:=j
 simp only [Ac,GD,List.cons.injEq,and_true] at d
 subst d
 obtain ⟨l,b⟩:=g 1 _ rfl
 replace b:DataW.trod en Tryz.prog w base sp held n 3 (List.take (Tryz.prog.cellsOf 3) (List.drop 1 _))=some l:=b
 rw [show Tryz.prog.cellsOf 3=1 from by kernel_rfl] at b
 obtain ⟨h,m,o⟩:=Kh Tryz.underlying3 en w base sp held n _ _ b
 have c:[q]=GD h:=m
 simp only [Ac,GD,List.cons.injEq,and_true] at c
 subst c
 exact ⟨⟨e,h⟩,rfl,⟨k,o⟩⟩
theorem rdLabel:RdF Tryz.prog 74 zb SD:=fun {H} en w base sp held fuel cs x hx=>by
 obtain ⟨f,n,g⟩:=st_fld Tryz.underlying74 hx
 rw [show Tryz.prog.cellsOf 74=2 from by kernel_rfl] at f
 obtain ⟨i,q,rfl⟩:=list2 f
 obtain ⟨p,a⟩:=g 0 _ rfl
 replace a:DataW.trod en Tryz.prog w base sp held n 9 (List.take (Tryz.prog.cellsOf 9) (List.drop 0 _))=some p:=a
 rw [show Tryz.prog.cellsOf 9=1 from by kernel_rfl] at a
 obtain ⟨e,j,k⟩:=RX Tryz.underlying9 en w base sp held n _ _ a
 have d:[i]=Ac e:=j
 simp only [Ac,GD,List.cons.injEq,and_true] at d
 subst d
 obtain ⟨l,b⟩:=g 1 _ rfl
 replace b:DataW.trod en Tryz.prog w base sp held n 9 (List.take (Tryz.prog.cellsOf 9) (List.drop 1 _))=some l:=b
 rw [show Tryz.prog.cellsOf 9=1 from by kernel_rfl] at b
 obtain ⟨h,m,o⟩:=RX Tryz.underlying9 en w base sp held n _ _ b
 have c:[q]=Ac h:=m
 simp only [Ac,GD,List.cons.injEq,and_true] at c
 subst c
 exact ⟨⟨e,h⟩,rfl,⟨k,o⟩⟩
end Ex
end
section
open Go.ChangeShapes Go.WideShapes Go.ChangeAt Go.RowKit
namespace Ex
theorem Me {H:Type} {enc:TypeId × Value->H} {P:Program} {t B:TypeId} {α:Type} {e:α->List Value} {ok:α->Prop} {k fuel:Nat} {W:World} {M:Nat->Bool} {f:Bool} (hr:∀ n,n < fuel->∀ cs x,DataW.trod enc P W 0 M f n B cs=some x->∃ a,cs=e a∧ok a) (ht:P.underlying t=some (.slice B)) (S:P.cellsOf B=k) (I:0 < k) (he:∀ a,(e a).length=k) {cs:List Value} {x:DataW H × List MemPlace}
  (X:DataW.trod enc P W 0 M f fuel t cs=some x):∃ s:SlX α,cs=[.slice s.A s.l.length s.c]∧zH (In W) k e (.slice s.A s.l.length s.c) s.l W∧∀ a ∈ s.l,ok a:=by
 rcases DataW.trod_slice ht X with ⟨h0,_⟩ | ⟨a,n,cap,E,L,m,a0,z,D,_,V,Y,q,v,J,F⟩
 ·exact ⟨⟨none,0,[]⟩,h0,zH.vh _ _ _ _,qS⟩
 ·have r:∀ i,i < n->∃ x:α,ok x∧∀ (j:Nat) (u:Value),(e x)[j]?=some u->W.cell? ((a.add (i * k)).add j)=some u:=by
   intro i d
   have h:=v i d
   rw [vA qO,Option.bind_eq_some_iff] at h
   obtain ⟨cs',O,C⟩:=h
   rw [S] at O
   obtain ⟨x,U,T⟩:=hr m qO _ _ C
   obtain ⟨_,a1,w⟩:=World.cells?_some O
   refine ⟨x,T,fun j u N=>?_⟩
   rw [U] at w
   have Z:j < k:=by rw [<-he x]; exact (yb.1 N).1
   exact (w j Z).trans N
  obtain ⟨l,o,g⟩:∃ l:List α,l.length=n∧∀ i x,l[i]?=some x->ok x∧∀ (j:Nat) (u:Value),(e x)[j]?=some u->W.cell? ((a.add (i * k)).add j)=some u:=by
   clear v q V z J F D
   induction n with
   | zero=>exact ⟨[],rfl,qS⟩
   | succ n ih =>
    obtain ⟨l,h,R⟩:=ih (fun i d=>r i qO)
    obtain ⟨x,K⟩:=r n qO
    refine ⟨l++[x],by simp [h],fun i y b=>?_⟩
    rw [List.getElem?_append] at b
    split at b
    ·exact R i y b
    ·rename_i Q
     have d:i=n:=by
      have:i - l.length < [x].length:=(yb.1 b).1
      simp at this; omega
     subst d
     simp [h] at b
     subst b
     exact K
  refine ⟨⟨some a,cap,l⟩,by rw [z,o],⟨some a,cap,rfl,by show l.length<=cap; omega,Y,fun G=>⟨a,rfl,?_,fun i x K=>(g i x K).2⟩⟩,fun y b=>?_⟩
  ·obtain ⟨y,b⟩:=List.exists_mem_of_ne_nil l G
   obtain ⟨i,p,rfl⟩:=List.getElem_of_mem b
   have h:=(g i l[i] (vA p)).2 0 ((e l[i])[0]'(by rw [he]; exact I)) (vA _)
   have:=block_lt_of_cell h
   rwa [Ck,Ck] at this
  ·obtain ⟨i,p,rfl⟩:=List.getElem_of_mem b
   exact (g i _ (vA p)).1
def LenX {H:Type} (d:DataW H) (n:Nat):Prop:=(d=.nil∧n=0)∨∃ es sp,d=.slice es sp∧es.length=n
def AllX {H:Type} {α:Type} (ok:α->DataW H->Prop) (d:DataW H) (l:List α):Prop:=∃ ds:List (DataW H),((d=.nil∧ds=[])∨∃ sp,d=.slice ds sp)∧ds.length=l.length∧∀ (i:Nat) (a:α) (e:DataW H),l[i]?=some a->ds[i]?=some e->ok a e
theorem AllX.len {H:Type} {α:Type} {ok:α->DataW H->Prop} {d:DataW H} {l:List α} (h:AllX ok d l):LenX d l.length:=by
 obtain ⟨c,a,b,_⟩:=h;rcases a with ⟨a,rfl⟩ | ⟨e,a⟩
 exact .inl ⟨a,b.symm⟩;exact .inr ⟨_,_,a,b⟩
theorem AllX.all {H:Type} {α:Type} {ok:α->DataW H->Prop} {d:DataW H} {l:List α} (h:AllX ok d l):∀ a ∈ l,∃ e,ok a e∧∃ b f,d=.slice b f∧e ∈ b:=fun a n=>by
 obtain ⟨b,c,j,m⟩:=h
 obtain ⟨i,hi⟩:=List.mem_iff_getElem?.1 n
 have k:=(yb.1 hi).1
 have g:b[i]?=some (b[i]'qO):=vA _
 refine ⟨_,m i a _ hi g,b,?_⟩
 rcases c with ⟨_,rfl⟩ | ⟨f,c⟩
 ·exfalso; have j:0=l.length:=j; omega
 ·exact ⟨f,c,vQ g⟩
theorem stx_fld {H:Type} {enc:TypeId × Value->H} {P:Program} {w:World} {base:Nat} {g:Nat->Bool} {a:Bool} {fuel:Nat} {t:TypeId} {cs:List Value} {x:DataW H × List MemPlace} {i:Array Field} (o:P.underlying t=some (.struct i))
  (h:DataW.trod enc P w base g a fuel t cs=some x):cs.length=P.cellsOf t∧∃ n,fuel=n + 1∧∀ (j:Nat) (f:Field),i[j]?=some f->∃ y,DataW.trod enc P w base g a n f.type ((cs.drop f.offset).take (P.cellsOf f.type))=some y:=by
 obtain ⟨d,n,m,_,k,b,l⟩:=DataW.trod_struct o h
 refine ⟨k,n,m,fun j f e=>?_⟩
 have c:j < d.length:=by rw [b]; exact (Array.getElem?_eq_some_iff.1 e).1
 exact ⟨d[j],(l j f e).trans (vA c)⟩
def RdX (P:Program) (t:TypeId) {α:Type} (e:α->List Value) (ok:α->World->Prop):Prop :=
  ∀ {H:Type} (enc:TypeId × Value->H) (W:World) (sp:Nat->Bool) (held:Bool) (fuel:Nat) (cs:List Value) (x:DataW H × List MemPlace),DataW.trod enc P W 0 sp held fuel t cs=some x->∃ a,cs=e a∧ok a W
theorem RdF.x {P:Program} {t:TypeId} {α:Type} {e:α->List Value} {ok:α->Prop} (h:RdF P t e ok):RdX P t e (fun a _=>ok a):=fun enc W d b fuel cs x c=>h enc W 0 d b fuel cs x c
theorem open_xs {H:Type} {enc:TypeId × Value->H} {P:Program} {t g:TypeId} {α:Type} {e:α->List Value} {ok:α->World->Prop} {k:Nat} (u:RdX P g e ok) (w:P.underlying t=some (.slice g)) (z:P.cellsOf g=k) (i:0 < k) (he:∀ a,(e a).length=k) {W:World} {j:Nat->Bool} {b:Bool} {v:Value} {d:DataW H} {p:List MemPlace}
  (m:∃ A n c,v=.slice A n c) (h:DataW.Trod enc P W 0 j b t v d p):∃ l:List α,zH (In W) k e v l W∧∀ a ∈ l,ok a W:=by
 obtain ⟨fuel,o⟩:=h
 obtain ⟨A,n,c,rfl⟩:=m
 obtain ⟨s,f,r,q⟩:=Me (ok:=fun a=>ok a W) (fun n _ cs x y=>u enc W j b n cs x y) w z i he o
 have f:[Value.slice A n c]=[.slice s.A s.l.length s.c]:=f
 injection f with f
 exact ⟨s.l,by rw [f]; exact r,q⟩
end Ex
end
section
open Go.ChangeShapes Go.WideShapes Go.ChangeAt Go.RowKit
namespace Ex
theorem rdDoXS:RdX Tryz.prog 43 qA (fun a W=>vC.Ok (In W) a W∧DA a.sr.l):=fun {H} en W sp held fuel=>by
 intro cs x t
 obtain ⟨y,n,hn,i⟩:=stx_fld Tryz.underlying43 t
 rw [show Tryz.prog.cellsOf 43=7 from by kernel_rfl] at y
 obtain ⟨C,K,J,F,S,E,R,rfl⟩:=list7 y
 obtain ⟨T,g⟩:=i 0 _ rfl
 replace g:DataW.trod en Tryz.prog W 0 sp held n 3 (List.take (Tryz.prog.cellsOf 3) (List.drop 0 _))=some T:=g
 rw [show Tryz.prog.cellsOf 3=1 from by kernel_rfl] at g
 obtain ⟨u,M,o0⟩:=Kh Tryz.underlying3 en W 0 sp held n _ _ g
 have o:[C]=GD u:=M
 simp only [Ac,GD,List.cons.injEq,and_true] at o
 subst o
 obtain ⟨N,h⟩:=i 1 _ rfl
 replace h:DataW.trod en Tryz.prog W 0 sp held n 3 (List.take (Tryz.prog.cellsOf 3) (List.drop 1 _))=some N:=h
 rw [show Tryz.prog.cellsOf 3=1 from by kernel_rfl] at h
 obtain ⟨B,O,o1⟩:=Kh Tryz.underlying3 en W 0 sp held n _ _ h
 have r:[K]=GD B:=O
 simp only [Ac,GD,List.cons.injEq,and_true] at r
 subst r
 obtain ⟨Q,f⟩:=i 2 _ rfl
 replace f:DataW.trod en Tryz.prog W 0 sp held n 3 (List.take (Tryz.prog.cellsOf 3) (List.drop 2 _))=some Q:=f
 rw [show Tryz.prog.cellsOf 3=1 from by kernel_rfl] at f
 obtain ⟨v,L,Y⟩:=Kh Tryz.underlying3 en W 0 sp held n _ _ f
 have j:[J]=GD v:=L
 simp only [Ac,GD,List.cons.injEq,and_true] at j
 subst j
 obtain ⟨A,b⟩:=i 3 _ rfl
 replace b:DataW.trod en Tryz.prog W 0 sp held n 39 (List.take (Tryz.prog.cellsOf 39) (List.drop 3 _))=some A:=b
 rw [show Tryz.prog.cellsOf 39=1 from by kernel_rfl] at b
 replace b:DataW.trod en Tryz.prog W 0 sp held n 39 [F]=some A:=b
 obtain ⟨V,s,I,X⟩:=Me (e:=zb) (ok:=SD) (k:=2) (fun m _ cs x t=>RdF.x rdLabel en W sp held m cs x t) Tryz.underlying39 (by kernel_rfl) qD (fun _=>rfl) b
 injection s with s
 subst s
 obtain ⟨U,d⟩:=i 4 _ rfl
 replace d:DataW.trod en Tryz.prog W 0 sp held n 41 (List.take (Tryz.prog.cellsOf 41) (List.drop 4 _))=some U:=d
 rw [show Tryz.prog.cellsOf 41=2 from by kernel_rfl] at d
 obtain ⟨z,P,Z⟩:=VK en W 0 sp held n _ _ d
 have q:[S,E]=zX z:=P
 simp only [zX,List.cons.injEq,and_true] at q
 obtain ⟨rfl,rfl⟩:=q
 obtain ⟨D,c⟩:=i 5 _ rfl
 replace c:DataW.trod en Tryz.prog W 0 sp held n 9 (List.take (Tryz.prog.cellsOf 9) (List.drop 6 _))=some D:=c
 rw [show Tryz.prog.cellsOf 9=1 from by kernel_rfl] at c
 obtain ⟨w,G,o5⟩:=RX Tryz.underlying9 en W 0 sp held n _ _ c
 have p:[R]=Ac w:=G
 simp only [Ac,GD,List.cons.injEq,and_true] at p
 subst p
 exact ⟨⟨u,B,v,V,z,w⟩,rfl,⟨I⟩,X⟩
end Ex
end
end Go.Proofs.YtgojhpocpajmlaaGreatDoor
