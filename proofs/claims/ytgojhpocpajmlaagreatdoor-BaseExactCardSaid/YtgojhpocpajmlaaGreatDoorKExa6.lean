/- Laws and walks for the proof of BaseExact, packed by program; each theorem bears its own conditions. -/
import Derived.Test.YtgojhpocpajmlaaGreatDoorKExa5
namespace Go.Proofs.YtgojhpocpajmlaaGreatDoor
section
open Go.ChangeShapes Go.WideShapes Go.ChangeAt Go.RowKit
namespace Ex
set_option linter.unusedSimpArgs false
theorem list2 {l:List Value} (h:l.length=2):∃ c0 c1,l=[c0,c1]:=by
  match l,h with
  | [c0,c1],_=>exact ⟨_,_,rfl⟩
theorem list7 {l:List Value} (h:l.length=7):∃ c0 c1 c2 c3 c4 c5 c6,l=[c0,c1,c2,c3,c4,c5,c6]:=by
  match l,h with
  | [c0,c1,c2,c3,c4,c5,c6],_=>exact ⟨_,_,_,_,_,_,_,rfl⟩
def okSample (s:Sample):Prop:=ok64 s.time∧ok64 s.value
def okLabel (s:Label):Prop:=okStr s.key∧okStr s.val
theorem rdSample:RdF Tryz.prog 41 zR okSample:=fun {H} en w base sp held fuel cs x hx=>by
  obtain ⟨hl,n,hf⟩:=st_fld Tryz.underlying41 hx
  rw [show Tryz.prog.cellsOf 41=2 from by kernel_rfl] at hl
  obtain ⟨c0,c1,rfl⟩:=list2 hl
  obtain ⟨y0,hy0⟩:=hf 0 _ rfl
  replace hy0:DataW.trod en Tryz.prog w base sp held n 3 (List.take (Tryz.prog.cellsOf 3) (List.drop 0 _))=some y0:=hy0
  rw [show Tryz.prog.cellsOf 3=1 from by kernel_rfl] at hy0
  obtain ⟨a0,e0,o0⟩:=rd_int Tryz.underlying3 en w base sp held n _ _ hy0
  have e0':[c0]=intE a0:=e0
  simp only [strE,intE,List.cons.injEq,and_true] at e0'
  subst e0'
  obtain ⟨y1,hy1⟩:=hf 1 _ rfl
  replace hy1:DataW.trod en Tryz.prog w base sp held n 3 (List.take (Tryz.prog.cellsOf 3) (List.drop 1 _))=some y1:=hy1
  rw [show Tryz.prog.cellsOf 3=1 from by kernel_rfl] at hy1
  obtain ⟨a1,e1,o1⟩:=rd_int Tryz.underlying3 en w base sp held n _ _ hy1
  have e1':[c1]=intE a1:=e1
  simp only [strE,intE,List.cons.injEq,and_true] at e1'
  subst e1'
  exact ⟨⟨a0,a1⟩,rfl,⟨o0,o1⟩⟩
theorem rdLabel:RdF Tryz.prog 74 zQ okLabel:=fun {H} en w base sp held fuel cs x hx=>by
  obtain ⟨hl,n,hf⟩:=st_fld Tryz.underlying74 hx
  rw [show Tryz.prog.cellsOf 74=2 from by kernel_rfl] at hl
  obtain ⟨c0,c1,rfl⟩:=list2 hl
  obtain ⟨y0,hy0⟩:=hf 0 _ rfl
  replace hy0:DataW.trod en Tryz.prog w base sp held n 9 (List.take (Tryz.prog.cellsOf 9) (List.drop 0 _))=some y0:=hy0
  rw [show Tryz.prog.cellsOf 9=1 from by kernel_rfl] at hy0
  obtain ⟨a0,e0,o0⟩:=rd_str Tryz.underlying9 en w base sp held n _ _ hy0
  have e0':[c0]=strE a0:=e0
  simp only [strE,intE,List.cons.injEq,and_true] at e0'
  subst e0'
  obtain ⟨y1,hy1⟩:=hf 1 _ rfl
  replace hy1:DataW.trod en Tryz.prog w base sp held n 9 (List.take (Tryz.prog.cellsOf 9) (List.drop 1 _))=some y1:=hy1
  rw [show Tryz.prog.cellsOf 9=1 from by kernel_rfl] at hy1
  obtain ⟨a1,e1,o1⟩:=rd_str Tryz.underlying9 en w base sp held n _ _ hy1
  have e1':[c1]=strE a1:=e1
  simp only [strE,intE,List.cons.injEq,and_true] at e1'
  subst e1'
  exact ⟨⟨a0,a1⟩,rfl,⟨o0,o1⟩⟩
end Ex
end
section
open Go.ChangeShapes Go.WideShapes Go.ChangeAt Go.RowKit
namespace Ex
theorem rdx_slice {H:Type} {enc:TypeId × Value→H} {P:Program} {t et:TypeId} {α:Type} {e:α→List Value} {ok:α→Prop} {k fuel:Nat} {W:World} {sp:Nat→Bool} {held:Bool} (hr:∀ n,n < fuel→∀ cs x,DataW.trod enc P W 0 sp held n et cs=some x→∃ a,cs=e a∧ok a) (ht:P.underlying t=some (.slice et)) (hk:P.cellsOf et=k) (hk0:0 < k) (he:∀ a,(e a).length=k) {cs:List Value} {x:DataW H × List MemPlace}
    (hf:DataW.trod enc P W 0 sp held fuel t cs=some x):∃ s:SlX α,cs=[.slice s.A s.l.length s.c]∧zD (In W) k e (.slice s.A s.l.length s.c) s.l W∧∀ a ∈ s.l,ok a:=by
  rcases DataW.trod_slice ht hf with ⟨h0,_⟩ | ⟨a,n,cap,elems,rest,m,hfu,hcs,hx0,_,hl,hm,hlen,hel,hs1,hs2⟩
  · exact ⟨⟨none,0,[]⟩,h0,zD.zy _ _ _ _,by simp⟩
  · have hex:∀ i,i < n→∃ x:α,ok x∧∀ (j:Nat) (u:Value),(e x)[j]?=some u→W.cell? ((a.add (i * k)).add j)=some u:=by
      intro i hin
      have h1:=hel i hin
      rw [List.getElem?_eq_getElem qO,Option.bind_eq_some_iff] at h1
      obtain ⟨cs',hc,ht'⟩:=h1
      rw [hk] at hc
      obtain ⟨x,ex,ox⟩:=hr m qO _ _ ht'
      obtain ⟨_,hcl,hat⟩:=World.cells?_some hc
      refine ⟨x,ox,fun j u hu=>?_⟩
      rw [ex] at hat
      have hj:j < k:=by rw [← he x]; exact (List.getElem?_eq_some_iff.1 hu).1
      exact (hat j hj).trans hu
    obtain ⟨l,hlen',hl'⟩:∃ l:List α,l.length=n∧∀ i x,l[i]?=some x→ok x∧∀ (j:Nat) (u:Value),(e x)[j]?=some u→W.cell? ((a.add (i * k)).add j)=some u:=by
      clear hel hlen hl hcs hs1 hs2 hx0
      induction n with
      | zero=>exact ⟨[],rfl,by simp⟩
      | succ n ih =>
        obtain ⟨l,h1,h2⟩:=ih (fun i hin=>hex i qO)
        obtain ⟨x,hx⟩:=hex n qO
        refine ⟨l++[x],by simp [h1],fun i y hy=>?_⟩
        rw [List.getElem?_append] at hy
        split at hy
        · exact h2 i y hy
        · rename_i hge
          have hin:i=n:=by
            have:i - l.length < [x].length:=(List.getElem?_eq_some_iff.1 hy).1
            simp at this; omega
          subst hin
          simp [h1] at hy
          subst hy
          exact hx
    refine ⟨⟨some a,cap,l⟩,by rw [hcs,hlen'],⟨some a,cap,rfl,by show l.length≤cap; omega,hm,fun hne=>⟨a,rfl,?_,fun i x hx=>(hl' i x hx).2⟩⟩,fun y hy=>?_⟩
    · obtain ⟨y,hy⟩:=List.exists_mem_of_ne_nil l hne
      obtain ⟨i,hi',rfl⟩:=List.getElem_of_mem hy
      have h1:=(hl' i l[i] (List.getElem?_eq_getElem hi')).2 0 ((e l[i])[0]'(by rw [he]; exact hk0)) (List.getElem?_eq_getElem _)
      have:=block_lt_of_cell h1
      rwa [add_block,add_block] at this
    · obtain ⟨i,hi',rfl⟩:=List.getElem_of_mem hy
      exact (hl' i _ (List.getElem?_eq_getElem hi')).1
def LenX {H:Type} (d:DataW H) (n:Nat):Prop:=(d=.nil∧n=0)∨∃ es sp,d=.slice es sp∧es.length=n
def AllX {H:Type} {α:Type} (ok:α→DataW H→Prop) (d:DataW H) (l:List α):Prop:=∃ ds:List (DataW H),((d=.nil∧ds=[])∨∃ sp,d=.slice ds sp)∧ds.length=l.length∧∀ (i:Nat) (a:α) (e:DataW H),l[i]?=some a→ds[i]?=some e→ok a e
theorem AllX.len {H:Type} {α:Type} {ok:α→DataW H→Prop} {d:DataW H} {l:List α} (h:AllX ok d l):LenX d l.length:=by
  obtain ⟨ds,h1,h2,_⟩:=h
  rcases h1 with ⟨h1,rfl⟩ | ⟨sp,h1⟩
  · exact .inl ⟨h1,h2.symm⟩
  · exact .inr ⟨_,_,h1,h2⟩
theorem AllX.all {H:Type} {α:Type} {ok:α→DataW H→Prop} {d:DataW H} {l:List α} (h:AllX ok d l):∀ a ∈ l,∃ e,ok a e∧∃ ds sp,d=.slice ds sp∧e ∈ ds:=fun a ha=>by
  obtain ⟨ds,h1,h2,h3⟩:=h
  obtain ⟨i,hi⟩:=List.mem_iff_getElem?.1 ha
  have hlt:=(List.getElem?_eq_some_iff.1 hi).1
  have hd:ds[i]?=some (ds[i]'qO):=List.getElem?_eq_getElem _
  refine ⟨_,h3 i a _ hi hd,ds,?_⟩
  rcases h1 with ⟨_,rfl⟩ | ⟨sp,h1⟩
  · exfalso; have h2:0=l.length:=h2; omega
  · exact ⟨sp,h1,List.mem_of_getElem? hd⟩
theorem stx_fld {H:Type} {enc:TypeId × Value→H} {P:Program} {w:World} {base:Nat} {sp:Nat→Bool} {held:Bool} {fuel:Nat} {t:TypeId} {cs:List Value} {x:DataW H × List MemPlace} {fs:Array Field} (ht:P.underlying t=some (.struct fs))
    (h:DataW.trod enc P w base sp held fuel t cs=some x):cs.length=P.cellsOf t∧∃ n,fuel=n + 1∧∀ (j:Nat) (f:Field),fs[j]?=some f→∃ y,DataW.trod enc P w base sp held n f.type ((cs.drop f.offset).take (P.cellsOf f.type))=some y:=by
  obtain ⟨xs,n,hn,_,hl,hlen,hg⟩:=DataW.trod_struct ht h
  refine ⟨hl,n,hn,fun j f hj=>?_⟩
  have hjl:j < xs.length:=by rw [hlen]; exact (Array.getElem?_eq_some_iff.1 hj).1
  exact ⟨xs[j],(hg j f hj).trans (List.getElem?_eq_getElem hjl)⟩
def RdX (P:Program) (t:TypeId) {α:Type} (e:α→List Value) (ok:α→World→Prop):Prop :=
  ∀ {H:Type} (enc:TypeId × Value→H) (W:World) (sp:Nat→Bool) (held:Bool) (fuel:Nat) (cs:List Value) (x:DataW H × List MemPlace),DataW.trod enc P W 0 sp held fuel t cs=some x→∃ a,cs=e a∧ok a W
theorem RdF.x {P:Program} {t:TypeId} {α:Type} {e:α→List Value} {ok:α→Prop} (h:RdF P t e ok):RdX P t e (fun a _=>ok a):=fun enc W sp held fuel cs x hx=>h enc W 0 sp held fuel cs x hx
theorem open_xs {H:Type} {enc:TypeId × Value→H} {P:Program} {t et:TypeId} {α:Type} {e:α→List Value} {ok:α→World→Prop} {k:Nat} (hr:RdX P et e ok) (ht:P.underlying t=some (.slice et)) (hk:P.cellsOf et=k) (hk0:0 < k) (he:∀ a,(e a).length=k) {W:World} {sp:Nat→Bool} {held:Bool} {v:Value} {d:DataW H} {p:List MemPlace}
    (hv:∃ A n c,v=.slice A n c) (h:DataW.Trod enc P W 0 sp held t v d p):∃ l:List α,zD (In W) k e v l W∧∀ a ∈ l,ok a W:=by
  obtain ⟨fuel,hf⟩:=h
  obtain ⟨A,n,c,rfl⟩:=hv
  obtain ⟨s,h1,h2,h3⟩:=rdx_slice (ok:=fun a=>ok a W) (fun n _ cs x hx=>hr enc W sp held n cs x hx) ht hk hk0 he hf
  have h1:[Value.slice A n c]=[.slice s.A s.l.length s.c]:=h1
  injection h1 with h1
  exact ⟨s.l,by rw [h1]; exact h2,h3⟩
end Ex
end
section
open Go.ChangeShapes Go.WideShapes Go.ChangeAt Go.RowKit
namespace Ex
set_option linter.unusedVariables false
set_option linter.unusedSimpArgs false
theorem rdDoX:RdX Tryz.prog 43 y8 (fun a W=>zn.Ok (In W) a W):=fun {H} en W sp held fuel=>by
  intro cs x hx
  obtain ⟨hl,n,hn,hf⟩:=stx_fld Tryz.underlying43 hx
  rw [show Tryz.prog.cellsOf 43=7 from by kernel_rfl] at hl
  obtain ⟨c0,c1,c2,c3,c4,c5,c6,rfl⟩:=list7 hl
  obtain ⟨y0,hy0⟩:=hf 0 _ rfl
  replace hy0:DataW.trod en Tryz.prog W 0 sp held n 3 (List.take (Tryz.prog.cellsOf 3) (List.drop 0 _))=some y0:=hy0
  rw [show Tryz.prog.cellsOf 3=1 from by kernel_rfl] at hy0
  obtain ⟨a0,e0,o0⟩:=rd_int Tryz.underlying3 en W 0 sp held n _ _ hy0
  have e0':[c0]=intE a0:=e0
  simp only [strE,intE,List.cons.injEq,and_true] at e0'
  subst e0'
  obtain ⟨y1,hy1⟩:=hf 1 _ rfl
  replace hy1:DataW.trod en Tryz.prog W 0 sp held n 3 (List.take (Tryz.prog.cellsOf 3) (List.drop 1 _))=some y1:=hy1
  rw [show Tryz.prog.cellsOf 3=1 from by kernel_rfl] at hy1
  obtain ⟨a1,e1,o1⟩:=rd_int Tryz.underlying3 en W 0 sp held n _ _ hy1
  have e1':[c1]=intE a1:=e1
  simp only [strE,intE,List.cons.injEq,and_true] at e1'
  subst e1'
  obtain ⟨y2,hy2⟩:=hf 2 _ rfl
  replace hy2:DataW.trod en Tryz.prog W 0 sp held n 3 (List.take (Tryz.prog.cellsOf 3) (List.drop 2 _))=some y2:=hy2
  rw [show Tryz.prog.cellsOf 3=1 from by kernel_rfl] at hy2
  obtain ⟨a2,e2,o2⟩:=rd_int Tryz.underlying3 en W 0 sp held n _ _ hy2
  have e2':[c2]=intE a2:=e2
  simp only [strE,intE,List.cons.injEq,and_true] at e2'
  subst e2'
  obtain ⟨y3,hy3⟩:=hf 3 _ rfl
  replace hy3:DataW.trod en Tryz.prog W 0 sp held n 39 (List.take (Tryz.prog.cellsOf 39) (List.drop 3 _))=some y3:=hy3
  rw [show Tryz.prog.cellsOf 39=1 from by kernel_rfl] at hy3
  replace hy3:DataW.trod en Tryz.prog W 0 sp held n 39 [c3]=some y3:=hy3
  obtain ⟨s3,e3,f3,o3⟩:=rdx_slice (e:=zQ) (ok:=okLabel) (k:=2) (fun m _ cs x hx=>RdF.x rdLabel en W sp held m cs x hx) Tryz.underlying39 (by kernel_rfl) qD (fun _=>rfl) hy3
  injection e3 with e3
  subst e3
  obtain ⟨y4,hy4⟩:=hf 4 _ rfl
  replace hy4:DataW.trod en Tryz.prog W 0 sp held n 41 (List.take (Tryz.prog.cellsOf 41) (List.drop 4 _))=some y4:=hy4
  rw [show Tryz.prog.cellsOf 41=2 from by kernel_rfl] at hy4
  obtain ⟨a4,e4,o4⟩:=rdSample en W 0 sp held n _ _ hy4
  have e4':[c4,c5]=zR a4:=e4
  simp only [zR,List.cons.injEq,and_true] at e4'
  obtain ⟨rfl,rfl⟩:=e4'
  obtain ⟨y5,hy5⟩:=hf 5 _ rfl
  replace hy5:DataW.trod en Tryz.prog W 0 sp held n 9 (List.take (Tryz.prog.cellsOf 9) (List.drop 6 _))=some y5:=hy5
  rw [show Tryz.prog.cellsOf 9=1 from by kernel_rfl] at hy5
  obtain ⟨a5,e5,o5⟩:=rd_str Tryz.underlying9 en W 0 sp held n _ _ hy5
  have e5':[c6]=strE a5:=e5
  simp only [strE,intE,List.cons.injEq,and_true] at e5'
  subst e5'
  exact ⟨⟨a0,a1,a2,s3,a4,a5⟩,rfl,⟨f3⟩⟩
end Ex
end
end Go.Proofs.YtgojhpocpajmlaaGreatDoor
