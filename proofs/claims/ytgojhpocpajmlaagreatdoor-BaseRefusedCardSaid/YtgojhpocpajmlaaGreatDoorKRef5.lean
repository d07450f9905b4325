/- Laws and walks for the proof of BaseRefused, packed by program; each theorem bears its own conditions. -/
import Derived.Lib.AtoiAll
import Derived.Lib.Strings
import Derived.Shelf.Strings.Builder1
import Derived.Shelf.Strings.Builder2
import Derived.Shelf.Strings.OnBuilder
import Derived.Shelf.Strconv.Atoi
import Derived.Shelf.Strconv.Itoa0
import Derived.Shelf.Strconv.Itoa1
import Derived.Shelf.LaysM
import Derived.Shelf.Strconv.Itoa2
import Derived.Shelf.Strconv.Itoa3
import Derived.Shelf.Strconv.AtoiErrFast
import Derived.Shelf.Strconv.ParseIntEmpty
import Derived.Shelf.Strconv.AtoiFail
import Derived.Shelf.Strconv.Clone
import Derived.Shelf.Strconv.SyntaxError
import Derived.Shelf.LaysC
import Derived.Shelf.Strconv.ToError
import Derived.Shelf.Strconv.AtoiErr
import Derived.Shelf.Strconv.ErrVar
import Derived.Shelf.Strconv.Lower
import Derived.Shelf.Strconv.ParseUint10
import Derived.Shelf.Strconv.ParseUint10Empty
import Derived.Shelf.Strconv.ParseUint10Any
import Derived.Shelf.Strconv.ParseInt10
import Derived.Shelf.Strconv.AtoiLong
import Derived.Shelf.Strconv.AtoiInnerAll
import Derived.Shelf.Strconv.RangeError
import Derived.Shelf.Strconv.ToErrorRange
import Derived.Shelf.Strconv.AtoiAll
import Derived.Shelf.Strconv.ErrVarAll
import Derived.Shelf.Strings.Prefix
import Derived.Shelf.Slices.Turned
import Derived.Test.YtgojhpocpajmlaaGreatDoorProg
import Derived.Test.YtgojhpocpajmlaaGreatDoorKRef4
namespace Go.Proofs.YtgojhpocpajmlaaGreatDoor
section
open Tryz
open Ex
set_option linter.unusedVariables false
set_option linter.unusedSimpArgs false
set_option maxHeartbeats 1000000 in
theorem c_gwindow (vad ead : Addr) (time n : Int) (f : Nat) (fcap : Array Value) (o : Int → Own) (S : Nat → Prop) (C : World → Prop) (lk : Look) (sk : Sk) (e : zC) (Pb : Nat → Prop) (w : World) (hG : Mem w ⟨fpOf [(o n), .dat S C, celP vad [iV time, .func (.func f) #[] fcap], celP ead [iV e.kind, iV e.n, iV e.range, .string e.word, .slice e.ms.A e.ms.l.length e.ms.c, .slice e.by_.A e.by_.l.length e.by_.c, .slice e.kids.A e.kids.l.length e.kids.c], okP zC.Ok e], Pb⟩ [(o n), .dat S C, celP vad [iV time, .func (.func f) #[] fcap], celP ead [iV e.kind, iV e.n, iV e.range, .string e.word, .slice e.ms.A e.ms.l.length e.ms.c, .slice e.by_.A e.by_.l.length e.by_.c, .slice e.kids.A e.kids.l.length e.kids.c], okP zC.Ok e] w) (hf : WinG prog f fcap o S C lk sk) (hg : Mn.GoodLook lk) (ht : 0 ≤ time ∧ time ≤ 1000000) (hr : 1 ≤ e.range ∧ e.range ≤ 100000) :
    Calls prog 155 #[.pointer (some ((Addr.add vad 0).add 0)),.pointer (some ((Addr.add ead 0).add 0))] w (RetA w [(o n),.dat S C,celP vad [iV time,.func (.func f) #[] fcap],celP ead [iV e.kind,iV e.n,iV e.range,.string e.word,.slice e.ms.A e.ms.l.length e.ms.c,.slice e.by_.A e.by_.l.length e.by_.c,.slice e.kids.A e.kids.l.length e.kids.c],okP zC.Ok e] Pb (fun z:yO=>.tuple #[.agg (uY z).toArray,iV (Mn.window lk time e.word e.ms.l e.range).2]) (fun z=>z.e=(Mn.window lk time e.word e.ms.l e.range).1) (fun z=>[okP yO.Ok z,o (sk e.ms.l (Mn.frm time e.range) time n),celP vad [iV time,.func (.func f) #[] fcap],celP ead (yl e),okP zC.Ok e])):=by
 have hwe:=(hG.vQ (i:=4) rfl).wf
 refine fstart (N:=76) (vals:=[.pointer (some ((Addr.add vad 0).add 0)),.pointer (some ((Addr.add ead 0).add 0))]) (S:=Mem w ⟨fpOf [(o n),.dat S C,celP vad [iV time,.func (.func f) #[] fcap],celP ead [iV e.kind,iV e.n,iV e.range,.string e.word,.slice e.ms.A e.ms.l.length e.ms.c,.slice e.by_.A e.by_.l.length e.by_.c,.slice e.kids.A e.kids.l.length e.kids.c],okP zC.Ok e],Pb⟩ [(o n),.dat S C,celP vad [iV time,.func (.func f) #[] fcap],celP ead [iV e.kind,iV e.n,iV e.range,.string e.word,.slice e.ms.A e.ms.l.length e.ms.c,.slice e.by_.A e.by_.l.length e.by_.c,.slice e.kids.A e.kids.l.length e.kids.c],okP zC.Ok e]) func155 rfl rfl rfl hG (zG fun _ hK1=>yC wn inf172 rfl fun b4=>zP rfl (zD hK1 (zS fun _ hK2=>vL (Mem w ⟨fpOf [(o n),.dat S C,celP vad [iV time,.func (.func f) #[] fcap],celP ead [iV e.kind,iV e.n,iV e.range,.string e.word,.slice e.ms.A e.ms.l.length e.ms.c,.slice e.by_.A e.by_.l.length e.by_.c,.slice e.kids.A e.kids.l.length e.kids.c],okP zC.Ok e],Pb⟩ [.blk b4 [.bool false,iV 0,Zs] 172,.dat S C,celP vad [iV time,.func (.func f) #[] fcap],celP ead [iV e.kind,iV e.n,iV e.range,.string e.word,.slice e.ms.A e.ms.l.length e.ms.c,.slice e.by_.A e.by_.l.length e.by_.c,.slice e.kids.A e.kids.l.length e.kids.c],okP zC.Ok e]) mix (fun _ h=>h.drew) rfl (vK 8 [0,1,2,3,4,5,6,7,8,9,10,11,12,13,14,15,16,17,18,19,20,21] [0,2,3,4,5] rfl fun KS hKS=>yD (zi rfl) (yD (zT rfl) (yD (yy rfl fld176_1) (yD (yz 2 rfl rfl rfl flat170) ?_)))))))
 refine yD (zi rfl) (yD (zT rfl) (yD (yy rfl fld59_4) (yD (yz 3 rfl rfl rfl flat55) (yD (zi rfl) (yD (zT rfl) (yD (yy rfl fld176_0) (yD (yz 2 rfl rfl rfl flat3) (yD (zi rfl) (yD (zT rfl) (yD (yy rfl fld59_2) (yD (yz 3 rfl rfl rfl flat3) ?_)))))))))))
 refine yD (vw rfl rfl (by omega)) (yD (uj rfl rfl) (yD (zi rfl) (yD (zT rfl) (yD (yy rfl fld176_0) (yD (yz 2 rfl rfl rfl flat3) (yd hKS (yY 7 22 (yb (i:=22) rfl fun KN hKN=>yV (fun _ h=>h.exprX 5 rfl) ?_))))))))
 obtain ⟨hc1,hm1,hA1⟩:=hwe.ms
 obtain ⟨hc2,hm2,hA2⟩:=hwe.by_
 obtain ⟨hc3,hm3,hA3⟩:=hwe.kids
 refine yV (fun _ h=>(h.dup 6 rfl rfl).dup 1 rfl rfl) (l_callA [(o n),.dat S C,slP 3 yg (.slice e.ms.A e.ms.l.length e.ms.c) e.ms.l] [slP 3 yg (.slice e.ms.A e.ms.l.length e.ms.c) e.ms.l,slP 1 strE (.slice e.by_.A e.by_.l.length e.by_.c) e.by_.l,slP 7 yl (.slice e.kids.A e.kids.l.length e.kids.c) e.kids.l,allP zC.Ok e.kids.l,.blk b4 [.bool false,iV 0,Zs] 172,.dat S C,celP vad [iV time,.func (.func f) #[] fcap],celP ead [iV e.kind,iV e.n,iV e.range,.string e.word,.slice e.ms.A e.ms.l.length e.ms.c,.slice e.by_.A e.by_.l.length e.by_.c,.slice e.kids.A e.kids.l.length e.kids.c],okP zC.Ok e] (winV (lk e.ms.l (Mn.frm time e.range) time).2) (fun z=>vu.is z (lk e.ms.l (Mn.frm time e.range) time).1) (fun z=>[.pub (fun S=>vu.Ok S z),o (sk e.ms.l (Mn.frm time e.range) time n)]) (S9 [7,1,0,2,3,4,5,6,8,9,10,11]) (fun _=>hq2 (hf.ok _)) wn rfl rfl hf.call rfl (fun w1 Pb hG=>hf.run ⟨e.ms.A,e.ms.c,e.ms.l⟩ (Mn.frm time e.range) time n w1 Pb hG (Mn.frm_nn _ _) ht.2) fun z1 hz1=>v7 0 rfl (fun S w h=>vu.Ok.wf h) fun hw1=>yV (fun _ h=>h.winX 0 rfl) ?_)
 obtain ⟨hc4,hm4,hA4⟩:=hw1.sr
 obtain ⟨hc5,hm5,hA5⟩:=hw1.sm
 refine yP hKN [9,10,11,12,13] (vK 0 [23,24,25,26,27,28,29] [9,10,11,12,13] rfl fun KS hKS=>yD (zi rfl) (yD (yG rfl rfl) (yD (yG rfl rfl) (yD (yG rfl rfl) (yD (yk rfl) (yD (yk rfl) (yD (yk rfl) (yd hKS (yu (by kernel_rfl) (zy hK2 (zS fun _ hK3=>?_)))))))))))
 refine zG fun _ hK4=>zE rfl (zB (vD rfl rfl) (zD hK4 (zZ rfl (fun h1=>?_) (fun h1=>?_))))
 · refine zG fun _ hK5=>zB (zz [.bool false,iV 0,Zs] pl172 inf172 rfl rfl) (zE rfl (zr 9 wn rfl rfl rfl inf172 rfl rfl rfl (zP rfl (zD hK5 (zX (zK (yT (.inl rfl) results155 (zt 9 rfl rfl agg172 inf172 rfl) (zR rfl) fun w1 hM=>?_)))))))
   have hb9:Mn.window lk time e.word e.ms.l e.range=(Mn.zero,(lk e.ms.l (Mn.frm time e.range) time).2):=by rw [Mn.window,if_pos (by simpa using h1)]
   have hn9:(sk e.ms.l (Mn.frm time e.range) time n)=sk e.ms.l (Mn.frm time e.range) time n:=rfl
   have hM:=hM.vU (yO.Ok.loc (⟨false,0,⟨none,0,[]⟩⟩:yO)) fun Pb pp=>⟨zJ.yq _ _ _ _,fun c hc=>by cases hc⟩
   exact hM.vV (⟨false,0,⟨none,0,[]⟩⟩:yO) (by first | (rw [hb9]; done) | (rw [hb9]; rfl)) (by first | (rw [hb9]; done) | (rw [hb9]; rfl)) (fun h=>by rw [← hn9]; exact h.sel [0,5,12,13,14] (by decide) rfl)
 refine yK hK3 (zG fun _ hK6=>zB (zz [.bool true,iV 0,Zs] pl172 inf172 rfl rfl) (yC wn inf172 rfl fun b9=>zr 0 wn rfl rfl rfl inf172 rfl rfl rfl (zD hK6 (zS fun _ hK7=>zG fun _ hK8=>zE rfl (zB (yW rfl underlying125) (zE rfl (zD hK8 ?_)))))))
 refine zk ?_
 have hl1:z1.sr.l.length=(lk e.ms.l (Mn.frm time e.range) time).1.length:=by have:=congrArg List.length hz1.1; simpa using this
 have hl2:z1.sm.l.length=(lk e.ms.l (Mn.frm time e.range) time).1.length:=by have:=congrArg List.length hz1.2; simpa using this
 have hl3:=(hg e.ms.l (Mn.frm time e.range) time).1
 refine jZ (fun _ h=>h.uP zO 81 2 yi) (je (fun _ h=>h.all0 zO.Ok.loc) (ur (fun (k:Nat) (cs:List zO) (ov:Value)=>[(1,.pointer (some ((Addr.add ead 0).add 0))),(4,.pointer (some ⟨b4,0,none⟩)),(7,.slice z1.sm.A z1.sm.l.length z1.sm.c),(9,.pointer (some ⟨b9,0,none⟩)),(46,.slice z1.sr.A z1.sr.l.length z1.sr.c),(47,iV z1.sr.l.length),(48,iV k)]) (fun (k:Nat) (cs:List zO) (ov:Value)=>[allP zO.Ok cs,Row ov 81 2 yi cs,.blk b9 [.bool true,iV 0,ov] 172,slP 1 serE (.slice z1.sr.A z1.sr.l.length z1.sr.c) z1.sr.l,allP vF.Ok z1.sr.l,slP 7 sumE (.slice z1.sm.A z1.sm.l.length z1.sm.c) z1.sm.l,.pub (fun S=>vu.Ok S z1),(o (sk e.ms.l (Mn.frm time e.range) time n)),slP 3 yg (.slice e.ms.A e.ms.l.length e.ms.c) e.ms.l,slP 1 strE (.slice e.by_.A e.by_.l.length e.by_.c) e.by_.l,slP 7 yl (.slice e.kids.A e.kids.l.length e.kids.c) e.kids.l,allP zC.Ok e.kids.l,.blk b4 [.bool false,iV 0,Zs] 172,.dat S C,celP vad [iV time,.func (.func f) #[] fcap],celP ead [iV e.kind,iV e.n,iV e.range,.string e.word,.slice e.ms.A e.ms.l.length e.ms.c,.slice e.by_.A e.by_.l.length e.by_.c,.slice e.kids.A e.kids.l.length e.kids.c],okP zC.Ok e]) (fun (k:Nat) (cs:List zO) (ov:Value)=>k≤z1.sr.l.length∧(∀ x ∈ cs,zO.Wf x)∧cs.map zO.e=Mn.winCells e.word ((lk e.ms.l (Mn.frm time e.range) time).1.take k)∧cs.length≤k) (fun (k:Nat) (cs:List zO) (ov:Value)=>z1.sr.l.length - k) 0 [] (Zs) (sc rfl (sc rfl (sc rfl (sc rfl (sc rfl (sc rfl (sc (ji (by omega)) sn))))))) (fun _ h=>h) ?_ (fun k cs ov hI1=>?_)))
 · exact ⟨Nat.zero_le _,fun x hx=>(by cases hx),rfl,Nat.le_refl _⟩
 have hwf:=hI1.2.1
 have hlen:=hI1.2.2.2
 refine vW 1 (l:=cs) rfl fun A1 cp1 hv1 hc6 hm6 hA6=>?_
 subst hv1
 refine zG fun _ hK9=>zB (yR rfl rfl) (zD hK9 (zS fun _ hK10=>zZ rfl (fun h2=>?_) (fun h2=>?_)))
 · refine yK hK10 (zS fun _ hK11=>zk (zG fun _ hK12=>zE rfl ?_))
   obtain ⟨ad1,hd1⟩:=hA4 (ne_nil (i:=k) (by first | omega | (simp <;> omega)))
   refine zB (y6 (i:=k) rfl hd1 rfl (by omega) (by first | omega | (simp <;> omega)) underlying125 inf39) ?_
   obtain ⟨s1,hs1⟩:∃ x,z1.sr.l[k]?=some x:=⟨_,List.getElem?_eq_getElem (by first | omega | (simp <;> omega))⟩
   refine zB (jY 3 rfl rfl hd1 hs1 rfl flat39) (zP rfl (zP rfl (zD hK12 (zS fun _ hK13=>vN mix (by kernel_rfl) (fun _ h=>h.drew) (yn rfl (zq (zT rfl) (zq (yy rfl fld59_3) (zq (yz 15 rfl rfl rfl flat9) (yn rfl (yn rfl ?_))))))))))
   obtain ⟨ad2,hd2⟩:=hA5 (ne_nil (i:=k) (by first | omega | (simp <;> omega)))
   refine zq (y6 (i:=k) rfl hd2 rfl (by omega) (by first | omega | (simp <;> omega)) underlying126 inf89) ?_
   obtain ⟨s2,hs2⟩:∃ x,z1.sm.l[k]?=some x:=⟨_,List.getElem?_eq_getElem (by first | omega | (simp <;> omega))⟩
   refine zq (vy 5 [iV s2.count,iV s2.total,iV s2.min,iV s2.max,iV s2.first,iV s2.last,iV s2.rise] rfl rfl hd2 hs2 rfl rfl agg89 inf89) (vP wn rfl call35 rfl (fun w1 hM=>c_Value e.word s2 w1) (yn rfl (zq (yG rfl rfl) (zq (yG rfl rfl) (zq (yk rfl) (zq (yk rfl) (vJ (zy hK13 (zG fun _ hK14=>zE rfl (zD hK14 (yp rfl (fun h3=>?_) (fun h3=>?_))))))))))))
   · refine zL (zB (za rfl fld172_2) (zB (zg 2 rfl rfl rfl flat32) (zE rfl (zE rfl (zB (zz [.slice s1.sr.A s1.sr.l.length s1.sr.c,iV ((Agg.value e.word s2).1)] pl81 inf81 rfl rfl) (yw yi ([(zO.mk ⟨s1.sr.A,s1.sr.c,s1.sr.l⟩ ((Agg.value e.word s2).1))]:List zO) wn underlying32 inf81 rfl rfl rfl rfl (by decide) (by decide) rfl fun b71=>vG 2 cs ([(zO.mk ⟨s1.sr.A,s1.sr.c,s1.sr.l⟩ ((Agg.value e.word s2).1))]:List zO) encCellX wn rfl rfl rfl (fun _ hM=>(RowSl encCellX hM 0 rfl)) underlying32 inf81 rfl rfl (by simp only [List.length_append,List.length_cons,List.length_nil]; omega) rfl fun A2 cp2 hc7 hm7 hA7=>?_))))))
     have hw3:=hw1.all _ (List.mem_of_getElem? hs1)
     refine yV (fun _ h=>h.one 5 vF.Ok.loc rfl hs1) (yV (fun _ h=>h.serX 0 rfl) ?_)
     obtain ⟨hc8,hm8,hA8⟩:=hw3.sr
     refine yV (fun _ h=>h.allCell (n:=(Agg.value e.word s2).1) 3 0 rfl rfl) ?_
     have hw2:∀ x ∈ (cs++([(zO.mk ⟨s1.sr.A,s1.sr.c,s1.sr.l⟩ ((Agg.value e.word s2).1))]:List zO)),zO.Wf x:=fun x hx=>(List.mem_append.1 hx).elim (hwf x) fun h=>by rw [List.mem_singleton.1 h]; exact ⟨⟨by omega,by omega,hA8⟩⟩
     refine zB (za rfl fld172_2) (yt 6 wn rfl rfl rfl rfl inf32 rfl rfl (zl (zm (zy hK11 (zL (zB (zw rfl rfl (by omega)) (zE rfl (zl (vI (k + 1) (cs++([(zO.mk ⟨s1.sr.A,s1.sr.c,s1.sr.l⟩ ((Agg.value e.word s2).1))]:List zO)) (.slice A2 ((cs++([(zO.mk ⟨s1.sr.A,s1.sr.c,s1.sr.l⟩ ((Agg.value e.word s2).1))]:List zO)).length) cp2) (sc rfl (sc rfl (sc rfl (sc rfl (sc rfl (sc rfl (sc (ji (by omega)) sn))))))) (S9 [0,5,6,7,8,9,10,11,12,13,14,15,16,17,18,19,20]) ?_ ?_)))))))))
     · exact ⟨by omega,hw2,by rw [Mn.winCells_at (s:=s1.sr.l) (m:=s2) (by rw [← hz1.1,List.getElem?_map,hs1]; rfl) (by rw [← hz1.2]; exact hs2),if_pos h3,List.map_append,hI1.2.2.1]; rfl,by simp only [List.length_append,List.length_cons,List.length_nil]; omega⟩
     omega
   refine yU (zm (zy hK11 (zL (zB (zw rfl rfl (by omega)) (zE rfl (zl (vI (k + 1) cs (.slice A1 cs.length cp1) (sc rfl (sc rfl (sc rfl (sc rfl (sc rfl (sc rfl (sc (ji (by omega)) sn))))))) (fun _ h=>h) ?_ ?_)))))))
   · exact ⟨by omega,hwf,by rw [Mn.winCells_at (s:=s1.sr.l) (m:=s2) (by rw [← hz1.1,List.getElem?_map,hs1]; rfl) (by rw [← hz1.2]; exact hs2),if_neg (by simpa using h3),List.append_nil]; exact hI1.2.2.1,by omega⟩
   omega
 refine yZ (yH (uN (yI (zy hK7 (zG fun _ hK15=>zB (yM 2 [.bool true,iV 0,.slice A1 cs.length cp1] rfl rfl rfl rfl agg172 inf172) (zr 12 wn rfl rfl rfl inf172 rfl rfl rfl (zP rfl (zD hK15 (zX (yT (.inl rfl) results155 (zt 12 rfl rfl agg172 inf172 rfl) (zR rfl) fun w1 hM=>?_))))))))))
 have hb9:Mn.window lk time e.word e.ms.l e.range=(⟨true,0,cs.map zO.e⟩,0):=by rw [Mn.window,if_neg (by simpa using h1),hI1.2.2.1,List.take_of_length_le (by omega)]
 have hM:=hM.um encCellX (i:=1) (j:=7) rfl rfl (by decide) (fun b hb=>hf.fpc _ _ b (only5 b hb))
 have hn9:(sk e.ms.l (Mn.frm time e.range) time n)=sk e.ms.l (Mn.frm time e.range) time n:=rfl
 have hM:=hM.vU (yO.Ok.loc (⟨true,0,⟨A1,cp1,cs⟩⟩:yO)) fun Pb pp=>⟨pp.sl 1 rfl,pp.at_ 0 _ rfl⟩
 exact hM.vV (⟨true,0,⟨A1,cp1,cs⟩⟩:yO) (by first | (rw [hb9]; done) | (rw [hb9]; rfl)) (by first | (rw [hb9]; done) | (rw [hb9]; rfl)) (fun h=>by rw [← hn9]; exact h.sel [0,8,15,16,17] (by decide) rfl)
def uz (e : zC) : Prop := ∀ (vad ead : Addr) (time n : Int) (f : Nat) (fcap : Array Value) (o : Int → Own) (S : Nat → Prop) (C : World → Prop) (lk : Look) (sk : Sk) (Pb : Nat → Prop) (w : World) (hG : Mem w ⟨fpOf [(o n), .dat S C, celP vad [iV time, .func (.func f) #[] fcap], celP ead [iV e.kind, iV e.n, iV e.range, .string e.word, .slice e.ms.A e.ms.l.length e.ms.c, .slice e.by_.A e.by_.l.length e.by_.c, .slice e.kids.A e.kids.l.length e.kids.c], okP zC.Ok e], Pb⟩ [(o n), .dat S C, celP vad [iV time, .func (.func f) #[] fcap], celP ead [iV e.kind, iV e.n, iV e.range, .string e.word, .slice e.ms.A e.ms.l.length e.ms.c, .slice e.by_.A e.by_.l.length e.by_.c, .slice e.kids.A e.kids.l.length e.kids.c], okP zC.Ok e] w) (hf : WinG prog f fcap o S C lk sk) (hg : Mn.GoodLook lk) (ht : 0 ≤ time ∧ time ≤ 1000000) (hr : Mn.right e.e),
    Calls prog 103 #[.pointer (some ((Addr.add vad 0).add 0)),.pointer (some ((Addr.add ead 0).add 0))] w (RetA w [(o n),.dat S C,celP vad [iV time,.func (.func f) #[] fcap],celP ead [iV e.kind,iV e.n,iV e.range,.string e.word,.slice e.ms.A e.ms.l.length e.ms.c,.slice e.by_.A e.by_.l.length e.by_.c,.slice e.kids.A e.kids.l.length e.kids.c],okP zC.Ok e] Pb (fun z:yO=>.tuple #[.agg (uY z).toArray,iV (Mn.eval lk time e.e).2]) (fun z=>z.e=(Mn.eval lk time e.e).1) (fun z=>[okP yO.Ok z,o (Mn.evalN lk sk time e.e n),celP vad [iV time,.func (.func f) #[] fcap],celP ead (yl e),okP zC.Ok e]))
set_option maxHeartbeats 2000000 in
theorem c_gexpr (vad ead : Addr) (time n : Int) (f : Nat) (fcap : Array Value) (o : Int → Own) (S : Nat → Prop) (C : World → Prop) (lk : Look) (sk : Sk) (e : zC) (Pb : Nat → Prop) (w : World) (hG : Mem w ⟨fpOf [(o n), .dat S C, celP vad [iV time, .func (.func f) #[] fcap], celP ead [iV e.kind, iV e.n, iV e.range, .string e.word, .slice e.ms.A e.ms.l.length e.ms.c, .slice e.by_.A e.by_.l.length e.by_.c, .slice e.kids.A e.kids.l.length e.kids.c], okP zC.Ok e], Pb⟩ [(o n), .dat S C, celP vad [iV time, .func (.func f) #[] fcap], celP ead [iV e.kind, iV e.n, iV e.range, .string e.word, .slice e.ms.A e.ms.l.length e.ms.c, .slice e.by_.A e.by_.l.length e.by_.c, .slice e.kids.A e.kids.l.length e.kids.c], okP zC.Ok e] w) (hf : WinG prog f fcap o S C lk sk) (hg : Mn.GoodLook lk) (ht : 0 ≤ time ∧ time ≤ 1000000) (hr : Mn.right e.e) (ih : ∀ k : zC, SizeOf.sizeOf k < SizeOf.sizeOf e → uz k) :
    Calls prog 103 #[.pointer (some ((Addr.add vad 0).add 0)),.pointer (some ((Addr.add ead 0).add 0))] w (RetA w [(o n),.dat S C,celP vad [iV time,.func (.func f) #[] fcap],celP ead [iV e.kind,iV e.n,iV e.range,.string e.word,.slice e.ms.A e.ms.l.length e.ms.c,.slice e.by_.A e.by_.l.length e.by_.c,.slice e.kids.A e.kids.l.length e.kids.c],okP zC.Ok e] Pb (fun z:yO=>.tuple #[.agg (uY z).toArray,iV (Mn.eval lk time e.e).2]) (fun z=>z.e=(Mn.eval lk time e.e).1) (fun z=>[okP yO.Ok z,o (Mn.evalN lk sk time e.e n),celP vad [iV time,.func (.func f) #[] fcap],celP ead (yl e),okP zC.Ok e])):=by
 have hwe:=(hG.vQ (i:=4) rfl).wf
 have hre:=(Mn.right_e hr).1
 have hrk:=(Mn.right_e hr).2
 refine fstart (N:=89) (vals:=[.pointer (some ((Addr.add vad 0).add 0)),.pointer (some ((Addr.add ead 0).add 0))]) (S:=Mem w ⟨fpOf [(o n),.dat S C,celP vad [iV time,.func (.func f) #[] fcap],celP ead [iV e.kind,iV e.n,iV e.range,.string e.word,.slice e.ms.A e.ms.l.length e.ms.c,.slice e.by_.A e.by_.l.length e.by_.c,.slice e.kids.A e.kids.l.length e.kids.c],okP zC.Ok e],Pb⟩ [(o n),.dat S C,celP vad [iV time,.func (.func f) #[] fcap],celP ead [iV e.kind,iV e.n,iV e.range,.string e.word,.slice e.ms.A e.ms.l.length e.ms.c,.slice e.by_.A e.by_.l.length e.by_.c,.slice e.kids.A e.kids.l.length e.kids.c],okP zC.Ok e]) func103 rfl rfl rfl hG (zG fun _ hK1=>yC wn inf172 rfl fun b4=>zP rfl (zD hK1 (zS fun _ hK2=>zG fun _ hK3=>zE rfl (zB (zT rfl) (zB (yy rfl fld59_0) (zB (yz 4 rfl rfl rfl flat3) (zD hK3 ?_)))))))
 refine zk (zG fun _ hK4=>zB (yf rfl rfl) (zP rfl (zD hK4 (zZ rfl (fun h1=>?_) (fun h1=>?_)))))
 · refine zG fun _ hK5=>zE rfl (zB (zT rfl) (zB (yy rfl fld59_1) (zB (yz 4 rfl rfl rfl flat3) (zB (zz [.bool false,iV e.n,Zs] pl172 inf172 rfl rfl) (zr 0 wn rfl rfl rfl inf172 rfl rfl rfl (zP rfl (zD hK5 (zX (yA (zK (yT (.inl rfl) results103 (zt 0 rfl rfl agg172 inf172 rfl) (zR rfl) fun w1 hM=>?_)))))))))))
   have hb9:Mn.eval lk time e.e=(⟨false,e.n,[]⟩,0):=by rw [Mn.eval_e,if_pos h1]
   have hn9:n=Mn.evalN lk sk time e.e n:=by rw [Mn.evalN_e lk sk time e n,if_pos h1]
   have hM:=hM.vU (yO.Ok.loc (⟨false,e.n,⟨none,0,[]⟩⟩:yO)) fun Pb pp=>⟨zJ.yq _ _ _ _,fun c hc=>by cases hc⟩
   exact hM.vV (⟨false,e.n,⟨none,0,[]⟩⟩:yO) (by first | (rw [hb9]; done) | (rw [hb9]; rfl)) (by first | (rw [hb9]; done) | (rw [hb9]; rfl)) (fun h=>by rw [← hn9]; exact h.sel [0,2,4,5,6] (by decide) rfl)
 refine zG fun _ hK6=>zB (yf rfl rfl) (zP rfl (zD hK6 (zZ rfl (fun h2=>?_) (fun h2=>?_))))
 · refine zG fun _ hK7=>zE rfl (zE rfl (yV (fun _ h=>h.dup 2 rfl rfl) (vO (α:=yO) [(o n),.dat S C,celP vad [iV time,.func (.func f) #[] fcap],celP ead [iV e.kind,iV e.n,iV e.range,.string e.word,.slice e.ms.A e.ms.l.length e.ms.c,.slice e.by_.A e.by_.l.length e.by_.c,.slice e.kids.A e.kids.l.length e.kids.c],okP zC.Ok e] [.blk b4 [.bool false,iV 0,Zs] 172,.dat S C] (fun z=>.tuple #[.agg (uY z).toArray,iV (Mn.window lk time e.word e.ms.l e.range).2]) (fun z=>z.e=(Mn.window lk time e.word e.ms.l e.range).1) (fun z1=>[okP yO.Ok z1,(o (sk e.ms.l (Mn.frm time e.range) time n)),celP vad [iV time,.func (.func f) #[] fcap],celP ead [iV e.kind,iV e.n,iV e.range,.string e.word,.slice e.ms.A e.ms.l.length e.ms.c,.slice e.by_.A e.by_.l.length e.by_.c,.slice e.kids.A e.kids.l.length e.kids.c],okP zC.Ok e]) _ (fun _=>rfl) (S9 [2,0,4,5,6,1,3]) (fun _=>hq5 (hf.ok _)) wn rfl rfl call155 rfl (fun w1 Pb hG=>c_gwindow vad ead time n f fcap o S C lk sk e Pb w1 hG hf hg ht (by omega)) fun z1 hz1=>v7 0 rfl (fun S w h=>yO.Ok.wf h) fun hw1=>zB (yG rfl rfl) (zB (yG rfl rfl) (zr 5 wn rfl rfl rfl inf172 rfl rfl rfl (zP rfl (zD hK7 (zX (yA (zK (yT (.inl rfl) results103 (zt 5 rfl rfl agg172 inf172 rfl) (zR rfl) fun w1 hM=>?_)))))))))))
   have hb9:Mn.eval lk time e.e=Mn.window lk time e.word e.ms.l e.range:=by rw [Mn.eval_e,if_neg h1,if_pos h2]
   have hn9:(sk e.ms.l (Mn.frm time e.range) time n)=Mn.evalN lk sk time e.e n:=by rw [Mn.evalN_e lk sk time e n,if_neg h1,if_pos h2]
   have hM:=hM.vU (yO.Ok.loc z1) fun Pb pp=>pp.at_ 0 _ rfl
   exact hM.vV z1 (by first | (rw [hb9]; done) | (rw [hb9]; rfl)) (by rw [hb9]; exact hz1) (fun h=>by rw [← hn9]; exact h.sel [0,2,3,4,5] (by decide) rfl)
 refine yU (zm (zy hK2 (zG fun _ hK8=>vE (uY:yO→List Value) 172 3 (yV (fun _ h=>h.all0 yO.Ok.loc) (zP rfl (zD hK8 (zS fun _ hK9=>zG fun _ hK10=>zE rfl (zB (zT rfl) (zB (yy rfl fld59_6) (zB (yz 6 rfl rfl rfl flat57) ?_))))))))))
 refine zB (yW rfl underlying57) (zE rfl (zD hK10 (zk (uK (fun (k:Nat) (vs:List yO) (m:Int) (vv:Value)=>[(0,.pointer (some ((Addr.add vad 0).add 0))),(1,.pointer (some ((Addr.add ead 0).add 0))),(4,.pointer (some ⟨b4,0,none⟩)),(6,vv),(32,iV e.kids.l.length),(33,iV k)]) (fun (k:Nat) (vs:List yO) (m:Int) (vv:Value)=>[allP yO.Ok vs,Row vv 172 3 uY vs,.blk b4 [.bool false,iV 0,Zs] 172,(o m),.dat S C,celP vad [iV time,.func (.func f) #[] fcap],celP ead [iV e.kind,iV e.n,iV e.range,.string e.word,.slice e.ms.A e.ms.l.length e.ms.c,.slice e.by_.A e.by_.l.length e.by_.c,.slice e.kids.A e.kids.l.length e.kids.c],okP zC.Ok e]) (fun (k:Nat) (vs:List yO) (m:Int) (vv:Value)=>k≤e.kids.l.length∧(∀ x ∈ vs,yO.Wf x)∧Mn.evals lk time (e.kids.l.map zC.e)=(vs.map yO.e++(Mn.evals lk time ((e.kids.l.drop k).map zC.e)).1,(Mn.evals lk time ((e.kids.l.drop k).map zC.e)).2)∧vs.length=k∧Mn.evalsN lk sk time (e.kids.l.map zC.e) n=Mn.evalsN lk sk time ((e.kids.l.drop k).map zC.e) m) (fun (k:Nat) (vs:List yO) (m:Int) (vv:Value)=>e.kids.l.length - k) 0 [] n (Zs) (sc rfl (sc rfl (sc rfl (sc rfl (sc rfl (sc (ji (by omega)) sn)))))) (fun _ h=>h) ?_ (fun k vs m vv hI1=>?_)))))
 · exact ⟨Nat.zero_le _,fun x hx=>(by cases hx),Mn.evals_0 _ _ _,rfl,rfl⟩
 have hwf:=hI1.2.1
 have hlen:=hI1.2.2.2.1
 refine vW 1 (l:=vs) rfl fun A1 cp1 hv1 hc1 hm1 hA1=>?_
 subst hv1
 refine zG fun _ hK11=>zB (yR rfl rfl) (zD hK11 (zS fun _ hK12=>zZ rfl (fun h3=>?_) (fun h3=>?_)))
 · refine yK hK12 (zS fun _ hK13=>zk (zG fun _ hK14=>zE rfl (zP rfl (zD hK14 (zG fun _ hK15=>zE rfl (zE rfl (zB (zT rfl) (zB (yy rfl fld59_6) ?_))))))))
   refine zB (yz 6 rfl rfl rfl flat57) (zE rfl (yV (fun _ h=>h.exprX 7 rfl) ?_))
   obtain ⟨hc2,hm2,hA2⟩:=hwe.ms
   obtain ⟨hc3,hm3,hA3⟩:=hwe.by_
   obtain ⟨hc4,hm4,hA4⟩:=hwe.kids
   obtain ⟨ad1,hd1⟩:=hA4 (ne_nil (i:=k) (by first | omega | (simp <;> omega)))
   refine zB (y6 (i:=k) rfl hd1 rfl (by omega) (by first | omega | (simp <;> omega)) underlying57 inf59) ?_
   obtain ⟨s1,hs1⟩:∃ x,e.kids.l[k]?=some x:=⟨_,List.getElem?_eq_getElem (by first | omega | (simp <;> omega))⟩
   refine yV (fun _ h=>h.celAt 2 rfl hd1 hs1) ?_
   have hw2:=hwe.all _ (List.mem_of_getElem? hs1)
   refine yV (fun _ h=>h.one 4 zC.Ok.loc rfl hs1) (yV (fun _ h=>h.dup 10 rfl rfl) (vO (α:=yO) [(o m),.dat S C,celP vad [iV time,.func (.func f) #[] fcap],celP (Addr.add ad1 (k * 7)) [iV s1.kind,iV s1.n,iV s1.range,.string s1.word,.slice s1.ms.A s1.ms.l.length s1.ms.c,.slice s1.by_.A s1.by_.l.length s1.by_.c,.slice s1.kids.A s1.kids.l.length s1.kids.c],okP zC.Ok s1] [slP 3 yg (.slice e.ms.A e.ms.l.length e.ms.c) e.ms.l,slP 1 strE (.slice e.by_.A e.by_.l.length e.by_.c) e.by_.l,slP 7 yl (.slice e.kids.A e.kids.l.length e.kids.c) e.kids.l,allP zC.Ok e.kids.l,allP yO.Ok vs,Row (.slice A1 vs.length cp1) 172 3 uY vs,.blk b4 [.bool false,iV 0,Zs] 172,.dat S C,celP ead [iV e.kind,iV e.n,iV e.range,.string e.word,.slice e.ms.A e.ms.l.length e.ms.c,.slice e.by_.A e.by_.l.length e.by_.c,.slice e.kids.A e.kids.l.length e.kids.c],okP zC.Ok e] (fun z=>.tuple #[.agg (uY z).toArray,iV (Mn.eval lk time s1.e).2]) (fun z=>z.e=(Mn.eval lk time s1.e).1) (fun z2=>[okP yO.Ok z2,(o (Mn.evalN lk sk time s1.e m)),celP vad [iV time,.func (.func f) #[] fcap],celP (Addr.add ad1 (k * 7)) [iV s1.kind,iV s1.n,iV s1.range,.string s1.word,.slice s1.ms.A s1.ms.l.length s1.ms.c,.slice s1.by_.A s1.by_.l.length s1.by_.c,.slice s1.kids.A s1.kids.l.length s1.kids.c],okP zC.Ok s1]) _ (fun _=>rfl) (S9 [10,0,12,2,1,3,4,5,6,7,8,9,11,13,14]) (fun _=>hq5 (hf.ok _)) wn rfl rfl call103 rfl (fun w1 Pb hG=>ih s1 (zC.kid_lt (List.mem_of_getElem? hs1)) vad (Addr.add ad1 (k * 7)) time m f fcap o S C lk sk Pb w1 hG hf hg ht (hrk _ (List.mem_of_getElem? (by assumption)))) fun z2 hz2=>v7 0 rfl (fun S w h=>yO.Ok.wf h) fun hw3=>zE rfl (zB (yG rfl rfl) (zB (yG rfl rfl) (yC wn inf172 rfl fun b8=>zr 0 wn rfl rfl rfl inf172 rfl rfl rfl (zP rfl (zD hK15 (zS fun _ hK16=>?_))))))))
   refine zG fun _ hK17=>zE rfl (zB (vD rfl rfl) (zD hK17 (zZ rfl (fun h4=>?_) (fun h4=>?_))))
   · refine zG fun _ hK18=>zB (zz [.bool false,iV 0,Zs] pl172 inf172 rfl rfl) (zE rfl (zr 12 wn rfl rfl rfl inf172 rfl rfl rfl (zP rfl (zD hK18 (zX (zK (yA (zK (e_loop4_r (yA (zK (yT (.inl rfl) results103 (zt 12 rfl rfl agg172 inf172 rfl) (zR rfl) fun w1 hM=>?_))))))))))))
     have hv9:=Mn.evals_bad hI1.2.2.1 hs1 h4
     have hb9:Mn.eval lk time e.e=(Mn.zero,(Mn.eval lk time s1.e).2):=by rw [Mn.eval_e,if_neg h1,if_neg h2,if_pos (by rw [hv9]; exact h4),hv9]
     have hn9:(Mn.evalN lk sk time s1.e m)=Mn.evalN lk sk time e.e n:=by rw [Mn.evalN_e lk sk time e n,if_neg h1,if_neg h2]; exact (Mn.evalsN_bad hI1.2.2.2.2 hs1 h4).symm
     have hM:=hM.vU (yO.Ok.loc (⟨false,0,⟨none,0,[]⟩⟩:yO)) fun Pb pp=>⟨zJ.yq _ _ _ _,fun c hc=>by cases hc⟩
     exact hM.vV (⟨false,0,⟨none,0,[]⟩⟩:yO) (by first | (rw [hb9]; done) | (rw [hb9]; rfl)) (by first | (rw [hb9]; done) | (rw [hb9]; rfl)) (fun h=>by rw [← hn9]; exact h.sel [0,3,4,15,16] (by decide) rfl)
   refine yK hK16 (zL (zE rfl (zB (yM 0 [.bool z2.vec,iV z2.n,.slice z2.cells.A z2.cells.l.length z2.cells.c] rfl rfl rfl rfl agg172 inf172) (yw uY ([z2]:List yO) wn underlying224 inf172 rfl rfl rfl rfl (by decide) (by decide) rfl fun b53=>vG 12 vs ([z2]:List yO) encValX wn rfl rfl rfl (fun _ hM=>(RowSl encValX hM 0 rfl)) underlying224 inf172 rfl rfl (by simp only [List.length_append,List.length_cons,List.length_nil]; omega) rfl fun A2 cp2 hc5 hm5 hA5=>yV (fun _ h=>h.allSnoc 11 2 yO.Ok.loc rfl rfl) ?_))))
   have hw4:∀ x ∈ (vs++([z2]:List yO)),yO.Wf x:=fun x hx=>(List.mem_append.1 hx).elim (hwf x) fun h=>by rw [List.mem_singleton.1 h]; exact hw3
   refine zP rfl (zl (zm (zy hK13 (zL (zB (zw rfl rfl (by omega)) (zE rfl (zl (vY (k + 1) (vs++([z2]:List yO)) (Mn.evalN lk sk time s1.e m) (.slice A2 ((vs++([z2]:List yO)).length) cp2) (sc rfl (sc rfl (sc rfl (sc rfl (sc rfl (sc (ji (by omega)) sn)))))) (S9 [0,13,14,4,15,5,16,17]) ?_ ?_))))))))
   · exact ⟨by omega,hw4,Mn.evals_next hI1.2.2.1 hs1 hz2 (by have:=h4; omega),by simp only [List.length_append,List.length_cons,List.length_nil]; omega,Mn.evalsN_next hI1.2.2.2.2 hs1 (by have:=h4; omega)⟩
   omega
 refine yZ (yH (uC (yI (zy hK9 (zS fun _ hK19=>zG fun _ hK20=>?_)))))
 have hev:=Mn.evals_end hI1.2.2.1 (by omega)
 have hgs:=Mn.good_of hg hev hrk
 refine zE rfl (zB (zT rfl) (zB (yy rfl fld59_0) (zB (yz 6 rfl rfl rfl flat3) (zB (yf rfl rfl) (zD hK20 (zZ rfl (fun h5=>?_) (fun h5=>?_)))))))
 · refine zS fun _ hK21=>vL (Mem w ⟨fpOf [(o n),.dat S C,celP vad [iV time,.func (.func f) #[] fcap],celP ead [iV e.kind,iV e.n,iV e.range,.string e.word,.slice e.ms.A e.ms.l.length e.ms.c,.slice e.by_.A e.by_.l.length e.by_.c,.slice e.kids.A e.kids.l.length e.kids.c],okP zC.Ok e],Pb⟩ [allP yO.Ok vs,Row (.slice A1 vs.length cp1) 172 3 uY vs,(o m),.dat S C,celP vad [iV time,.func (.func f) #[] fcap],celP ead [iV e.kind,iV e.n,iV e.range,.string e.word,.slice e.ms.A e.ms.l.length e.ms.c,.slice e.by_.A e.by_.l.length e.by_.c,.slice e.kids.A e.kids.l.length e.kids.c],okP zC.Ok e]) mix (fun _ h=>h.drew) rfl (vK 5 [0,1,2,3,4,5,6,7,8,9,10,11] [0,1,3,4,5,6,7] rfl fun KS hKS=>yD (zi rfl) (yD (zT rfl) (yD (yy rfl fld59_3) (yD (yz 5 rfl rfl rfl flat9) (yD (zi rfl) (yD (zT rfl) (yD (yy rfl fld59_5) (yD (yz 5 rfl rfl rfl flat56) (yD (zi rfl) ?_)))))))))
   obtain ⟨ad2,hd2⟩:=hA1 (ne_nil (i:=0) (by first | omega | (simp <;> omega)))
   refine yD (y6 (i:=0) rfl hd2 rfl (by omega) (by first | omega | (simp <;> omega)) underlying224 inf172) (yD (yy rfl fld172_2) ?_)
   obtain ⟨s2,hs2⟩:∃ x,vs[0]?=some x:=⟨_,List.getElem?_eq_getElem (by first | omega | (simp <;> omega))⟩
   obtain ⟨hx1_s2,hx2_s2,hx3_s2,hx4_s2⟩:=(hgs _ (List.mem_of_getElem? hs2)).x
   refine yD (u9 1 encValX rfl rfl hd2 hs2 rfl flat32) (yd hKS (yY 4 12 (yb (i:=12) rfl fun KN hKN=>yV (fun _ h=>h.exprX 7 rfl) ?_)))
   obtain ⟨hc6,hm6,hA6⟩:=hwe.ms
   obtain ⟨hc7,hm7,hA7⟩:=hwe.by_
   obtain ⟨hc8,hm8,hA8⟩:=hwe.kids
   have hw5:=hwf _ (List.mem_of_getElem? hs2)
   refine yV (fun _ h=>h.one 4 yO.Ok.loc rfl hs2) (yV (fun _ h=>h.valX 0 rfl) ?_)
   obtain ⟨hc9,hm9,hA9⟩:=hw5.cells
   refine vi (β:=yO) (fun z=>.tuple #[.agg (uY z).toArray,iV ((Mn.all e.word e.by_.l (s2.cells.l.map zO.e)).2)]) (fun z=>z.e=(Mn.all e.word e.by_.l (s2.cells.l.map zO.e)).1) (fun z S=>yO.Ok S z) (fun z=>yO.Ok.loc z) wn rfl call156 rfl (fun w1 Pb hM pp=>c_mall e.word _ e.by_.l _ s2.cells.l Pb w1 pp.lt (pp.sl 4 rfl) (pp.sl 0 rfl) (pp.at_ 1 _ rfl) (by assumption) (by assumption) (by assumption)) fun z3 hz3=>v7 0 rfl (fun S w h=>yO.Ok.wf h) fun hw6=>yP hKN [8,9,11,12,13,14,15] (vK 2 [13,14] [8,9,11,12,13,14,15] rfl fun KS hKS=>yD (yG rfl rfl) (yD (yG rfl rfl) (yd hKS (yY 1 15 (yb (i:=15) rfl fun KN hKN=>zr 10 wn rfl rfl rfl inf172 rfl rfl rfl (yP hKN [8,9,11,12,13,14,15] (vK 0 [16] [8,9,11,12,13,14,15] rfl fun KS hKS=>?_)))))))
   refine yD (yk rfl) (yd hKS (yu (by kernel_rfl) (zy hK21 (zX (zK (yT (.inl rfl) results103 (zt 10 rfl rfl agg172 inf172 rfl) (zR rfl) fun w1 hM=>?_))))))
   have hb9:Mn.eval lk time e.e=Mn.all e.word e.by_.l (s2.cells.l.map zO.e):=by rw [Mn.eval_e,if_neg h1,if_neg h2,if_neg (by rw [hev]; simp),hev,Mn.close_all h5 hs2]
   have hn9:m=Mn.evalN lk sk time e.e n:=by rw [Mn.evalN_e lk sk time e n,if_neg h1,if_neg h2]; exact (Mn.evalsN_end hI1.2.2.2.2 (by omega)).symm
   have hM:=hM.vU (yO.Ok.loc z3) fun Pb pp=>pp.at_ 0 _ rfl
   exact hM.vV z3 (by first | (rw [hb9]; done) | (rw [hb9]; rfl)) (by rw [hb9]; exact hz3) (fun h=>by rw [← hn9]; exact h.sel [0,12,14,15,16] (by decide) rfl)
 refine yK hK19 (zS fun _ hK22=>vL (Mem w ⟨fpOf [(o n),.dat S C,celP vad [iV time,.func (.func f) #[] fcap],celP ead [iV e.kind,iV e.n,iV e.range,.string e.word,.slice e.ms.A e.ms.l.length e.ms.c,.slice e.by_.A e.by_.l.length e.by_.c,.slice e.kids.A e.kids.l.length e.kids.c],okP zC.Ok e],Pb⟩ [allP yO.Ok vs,Row (.slice A1 vs.length cp1) 172 3 uY vs,(o m),.dat S C,celP vad [iV time,.func (.func f) #[] fcap],celP ead [iV e.kind,iV e.n,iV e.range,.string e.word,.slice e.ms.A e.ms.l.length e.ms.c,.slice e.by_.A e.by_.l.length e.by_.c,.slice e.kids.A e.kids.l.length e.kids.c],okP zC.Ok e]) mix (fun _ h=>h.drew) rfl (vK 5 [0,1,2,3,4,5,6,7,8,9] [0,1,3,4,5,6,7] rfl fun KS hKS=>yD (zi rfl) (yD (zT rfl) (yD (yy rfl fld59_3) (yD (yz 5 rfl rfl rfl flat9) (yD (zi rfl) ?_))))))
 obtain ⟨ad3,hd3⟩:=hA1 (ne_nil (i:=0) (by first | omega | (simp <;> omega)))
 refine yD (y6 (i:=0) rfl hd3 rfl (by omega) (by first | omega | (simp <;> omega)) underlying224 inf172) ?_
 obtain ⟨s3,hs3⟩:∃ x,vs[0]?=some x:=⟨_,List.getElem?_eq_getElem (by first | omega | (simp <;> omega))⟩
 obtain ⟨hx1_s3,hx2_s3,hx3_s3,hx4_s3⟩:=(hgs _ (List.mem_of_getElem? hs3)).x
 refine yD (jE 1 [.bool s3.vec,iV s3.n,.slice s3.cells.A s3.cells.l.length s3.cells.c] encValX rfl rfl hd3 hs3 rfl rfl agg172 inf172) (yD (zi rfl) (yD (y6 (i:=1) rfl hd3 rfl (by omega) (by first | omega | (simp <;> omega)) underlying224 inf172) ?_))
 obtain ⟨s4,hs4⟩:∃ x,vs[1]?=some x:=⟨_,List.getElem?_eq_getElem (by first | omega | (simp <;> omega))⟩
 obtain ⟨hx1_s4,hx2_s4,hx3_s4,hx4_s4⟩:=(hgs _ (List.mem_of_getElem? hs4)).x
 refine yD (jE 1 [.bool s4.vec,iV s4.n,.slice s4.cells.A s4.cells.l.length s4.cells.c] encValX rfl rfl hd3 hs4 rfl rfl agg172 inf172) (yd hKS (yY 4 10 (yb (i:=10) rfl fun KN hKN=>?_)))
 have hw7:=hwf _ (List.mem_of_getElem? hs3)
 refine yV (fun _ h=>h.one 0 yO.Ok.loc rfl hs3) ?_
 have hw8:=hwf _ (List.mem_of_getElem? hs4)
 refine yV (fun _ h=>h.one 1 yO.Ok.loc rfl hs4) (vi (β:=yO) (fun z=>.tuple #[.agg (uY z).toArray,iV ((Mn.bin e.word s3.e s4.e).2)]) (fun z=>z.e=(Mn.bin e.word s3.e s4.e).1) (fun z S=>yO.Ok S z) (fun z=>yO.Ok.loc z) wn rfl call157 rfl (fun w1 Pb hM pp=>c_bin e.word s3 s4 Pb w1 pp.lt (pp.at_ 1 _ rfl) (pp.at_ 0 _ rfl) (by assumption) (by assumption) (by assumption) (by assumption)) fun z4 hz4=>v7 0 rfl (fun S w h=>yO.Ok.wf h) fun hw9=>yP hKN [3,4,6,7,8,9,10] (vK 2 [11,12] [3,4,6,7,8,9,10] rfl fun KS hKS=>yD (yG rfl rfl) (yD (yG rfl rfl) (yd hKS (yY 1 13 (yb (i:=13) rfl fun KN hKN=>zr 5 wn rfl rfl rfl inf172 rfl rfl rfl (yP hKN [3,4,6,7,8,9,10] ?_)))))))
 refine vK 0 [14] [3,4,6,7,8,9,10] rfl fun KS hKS=>yD (yk rfl) (yd hKS (yu (by kernel_rfl) (zy hK22 (zX (yT (.inl rfl) results103 (zt 5 rfl rfl agg172 inf172 rfl) (zR rfl) fun w1 hM=>?_)))))
 have hb9:Mn.eval lk time e.e=Mn.bin e.word s3.e s4.e:=by rw [Mn.eval_e,if_neg h1,if_neg h2,if_neg (by rw [hev]; simp),hev,Mn.close_bin h5 hs3 hs4]
 have hn9:m=Mn.evalN lk sk time e.e n:=by rw [Mn.evalN_e lk sk time e n,if_neg h1,if_neg h2]; exact (Mn.evalsN_end hI1.2.2.2.2 (by omega)).symm
 have hM:=hM.vU (yO.Ok.loc z4) fun Pb pp=>pp.at_ 0 _ rfl
 exact hM.vV z4 (by first | (rw [hb9]; done) | (rw [hb9]; rfl)) (by rw [hb9]; exact hz4) (fun h=>by rw [← hn9]; exact h.sel [0,7,9,10,11] (by decide) rfl)
theorem c_gexpr_step (e:zC) (ih:∀ k:zC,SizeOf.sizeOf k < SizeOf.sizeOf e→uz k):uz e:=fun vad ead time n f fcap o S C lk sk Pb w hG hf hg ht hr=>c_gexpr vad ead time n f fcap o S C lk sk e Pb w hG hf hg ht hr ih
theorem c_gexpr_all (e:zC):uz e:=recX c_gexpr_step e
theorem c_geval (time n : Int) (f : Nat) (fcap : Array Value) (o : Int → Own) (S : Nat → Prop) (C : World → Prop) (lk : Look) (sk : Sk) (e : zC) (Pb : Nat → Prop) (w : World) (hG : Mem w ⟨fpOf [(o n), .dat S C, okP zC.Ok e], Pb⟩ [(o n), .dat S C, okP zC.Ok e] w) (hf : WinG prog f fcap o S C lk sk) (hg : Mn.GoodLook lk) (ht : 0 ≤ time ∧ time ≤ 1000000) (hr : Mn.right e.e) :
    Calls prog 58 #[.agg (List.toArray [iV e.kind,iV e.n,iV e.range,.string e.word,.slice e.ms.A e.ms.l.length e.ms.c,.slice e.by_.A e.by_.l.length e.by_.c,.slice e.kids.A e.kids.l.length e.kids.c]),iV time,.func (.func f) #[] fcap] w (RetA w [(o n),.dat S C,okP zC.Ok e] Pb (celsV (Mn.out (Mn.eval lk time e.e)).2) (fun z=>z.l.map zO.e=(Mn.out (Mn.eval lk time e.e)).1) (fun z=>[okP CelsX.Ok z,o (Mn.evalN lk sk time e.e n),okP zC.Ok e])):=by
 have hwe:=(hG.vQ (i:=2) rfl).wf
 refine fstart (N:=30) (vals:=[.agg (List.toArray [iV e.kind,iV e.n,iV e.range,.string e.word,.slice e.ms.A e.ms.l.length e.ms.c,.slice e.by_.A e.by_.l.length e.by_.c,.slice e.kids.A e.kids.l.length e.kids.c]),iV time,.func (.func f) #[] fcap]) (S:=Mem w ⟨fpOf [(o n),.dat S C,okP zC.Ok e],Pb⟩ [(o n),.dat S C,okP zC.Ok e]) func58 rfl rfl rfl hG (zG fun _ hK1=>vS wn rfl rfl fun b3=>zP rfl (zP rfl (zD hK1 (zG fun _ hK2=>zE rfl (zE rfl (zB (zz [iV time,.func (.func f) #[] fcap] pl176 inf176 rfl rfl) (vS wn rfl rfl fun b14=>l_sealBO 1 2 rfl rfl rfl (fun b hb=>hf.fpc _ _ b (only3 b hb)) ?_)))))))
 refine l_sealBO 0 2 rfl rfl rfl (fun b hb=>hf.fpc _ _ b (only3 b hb)) (yV (fun _ h=>h.dup 3 rfl rfl) (vO (α:=yO) [(o n),.dat S C,celP ⟨b14,0,none⟩ [iV time,.func (.func f) #[] fcap],celP ⟨b3,0,none⟩ [iV e.kind,iV e.n,iV e.range,.string e.word,.slice e.ms.A e.ms.l.length e.ms.c,.slice e.by_.A e.by_.l.length e.by_.c,.slice e.kids.A e.kids.l.length e.kids.c],okP zC.Ok e] [.dat S C] (fun z=>.tuple #[.agg (uY z).toArray,iV (Mn.eval lk time e.e).2]) (fun z=>z.e=(Mn.eval lk time e.e).1) (fun z1=>[okP yO.Ok z1,(o (Mn.evalN lk sk time e.e n)),celP ⟨b14,0,none⟩ [iV time,.func (.func f) #[] fcap],celP ⟨b3,0,none⟩ [iV e.kind,iV e.n,iV e.range,.string e.word,.slice e.ms.A e.ms.l.length e.ms.c,.slice e.by_.A e.by_.l.length e.by_.c,.slice e.kids.A e.kids.l.length e.kids.c],okP zC.Ok e]) _ (fun _=>rfl) (S9 [3,0,1,2,5,4]) (fun _=>hq5 (hf.ok _)) wn rfl rfl call103 rfl (fun w1 Pb hG=>c_gexpr_all e ⟨b14,0,none⟩ ⟨b3,0,none⟩ time n f fcap o S C lk sk Pb w1 hG hf hg ht hr) fun z1 hz1=>v7 0 rfl (fun S w h=>yO.Ok.wf h) fun hw1=>zE rfl (zB (yG rfl rfl) (zB (yG rfl rfl) (yC wn inf172 rfl fun b8=>zr 0 wn rfl rfl rfl inf172 rfl rfl rfl (zP rfl (zD hK2 (zS fun _ hK3=>?_))))))))
 refine zG fun _ hK4=>zE rfl (zB (vD rfl rfl) (zD hK4 (zZ rfl (fun h1=>?_) (fun h1=>?_))))
 · refine zG fun _ hK5=>zE rfl (zP rfl (zP rfl (zD hK5 (zX (zK (yT (.inl rfl) results58 (zR rfl) (zR rfl) fun w1 hM=>?_))))))
   have hb9:Mn.out (Mn.eval lk time e.e)=([],(Mn.eval lk time e.e).2):=by rw [Mn.out,if_pos (by simpa using h1)]
   have hM:=hM.vU (CelsX.Ok.loc (⟨none,0,[]⟩:SlX zO)) fun Pb pp=>⟨zJ.yq _ _ _ _,fun c hc=>(by cases hc)⟩
   exact hM.vV (⟨none,0,[]⟩:SlX zO) (by first | (rw [hb9]; done) | (rw [hb9]; rfl)) (by first | (rw [hb9]; done) | (rw [hb9]; rfl)) (fun h=>h.sel [0,3,6] (by decide) rfl)
 refine yK hK3 (zS fun _ hK6=>zG fun _ hK7=>zB (za rfl fld172_0) (zB (zg 0 rfl rfl rfl flat4) (zB (vC rfl) (zD hK7 (yp rfl (fun h2=>?_) (fun h2=>?_))))))
 · refine zG fun _ hK8=>zB (za rfl fld172_1) (zB (zg 0 rfl rfl rfl flat3) (zB (zz [Zs,iV z1.n] pl81 inf81 rfl rfl) (yw yi ([(zO.mk ⟨none,0,[]⟩ z1.n)]:List zO) wn underlying32 inf81 rfl rfl rfl rfl (by decide) (by decide) rfl fun b27=>zP rfl (zP rfl (zD hK8 (zX (zK (yT (.inl rfl) results58 (zR rfl) (zR rfl) fun w1 hM=>?_))))))))
   have hv9:(Mn.eval lk time e.e).1.vec=z1.vec:=by rw [← hz1]; rfl
   have hn9:(Mn.eval lk time e.e).1.n=z1.n:=by rw [← hz1]; rfl
   have hb9:Mn.out (Mn.eval lk time e.e)=([⟨[],z1.n⟩],0):=by rw [Mn.out,if_neg (by simpa using h1),if_neg (by rw [hv9]; simpa using h2),hn9]
   have hM:=hM.um encCellX (i:=0) (j:=3) rfl rfl (by decide) (fun b hb=>hf.fpc _ _ b (only3 b hb))
   have hM:=hM.vU (CelsX.Ok.loc (⟨(some ⟨b27,0,none⟩),1,([(zO.mk ⟨none,0,[]⟩ z1.n)]:List zO)⟩:SlX zO)) fun Pb pp=>⟨pp.sl 0 rfl,fun c hc=>by obtain rfl:=List.mem_singleton.1 hc; exact ⟨zJ.yq _ _ _ _⟩⟩
   exact hM.vV (⟨(some ⟨b27,0,none⟩),1,([(zO.mk ⟨none,0,[]⟩ z1.n)]:List zO)⟩:SlX zO) (by first | (rw [hb9]; done) | (rw [hb9]; rfl)) (by first | (rw [hb9]; done) | (rw [hb9]; rfl)) (fun h=>h.sel [0,4,7] (by decide) rfl)
 refine yK hK6 (zG fun _ hK9=>zB (za rfl fld172_2) (zB (zg 0 rfl rfl rfl flat32) (zP rfl (zP rfl (zD hK9 (zX (yT (.inl rfl) results58 (zR rfl) (zR rfl) fun w1 hM=>?_)))))))
 have hv9:(Mn.eval lk time e.e).1.vec=z1.vec:=by rw [← hz1]; rfl
 have hn9:(Mn.eval lk time e.e).1.cells=z1.cells.l.map zO.e:=by rw [← hz1]; rfl
 have hb9:Mn.out (Mn.eval lk time e.e)=(z1.cells.l.map zO.e,0):=by rw [Mn.out,if_neg (by simpa using h1),if_pos (by rw [hv9]; simpa using h2),hn9]
 have hM:=hM.vU (CelsX.Ok.loc z1.cells) fun Pb pp=>⟨(pp.at_ 1 _ rfl).cells,(pp.at_ 1 _ rfl).all⟩
 exact hM.vV z1.cells (by first | (rw [hb9]; done) | (rw [hb9]; rfl)) (by first | (rw [hb9]; done) | (rw [hb9]; rfl)) (fun h=>h.sel [0,3,6] (by decide) rfl)
end
section
namespace Ex
set_option linter.unusedVariables false
def thrown (T:TypeId) (f:Pz.F):Value:=.iface T (.agg (List.toArray [.int .i64 f.1,.int .i64 f.2]))
@[reducible] def pan (T:TypeId) (f:Pz.F):List PanicEntry:=[{ v:=thrown T f,recovered:=false }]
def RetX {α : Type} (w : World) (A : List Own) (Pb : Nat → Prop) (PT : TypeId) (mk : α → Value) (pure : α → Prop) (A' : α → List Own) (bad : Pz.F → Prop) : Ending → World → Prop := fun e w' =>
  RetA w A Pb mk pure A' e w'∨∃ f,e=.panicked (pan PT f)∧bad f∧Fr (fpOf A) w w'
section
variable {P : Program} {N : Nat} {D : List Deferred} {E E' : Env} {S S' : World → Prop} {Q : Exit → Act → World → Prop} {K : Act → World → Prop} {w0 w w' : World} {M : Fp} {L A A' R : List Own} {Pb : Nat → Prop}
  {ops:Array Oper} {rest:List Oper} {d:Nat} {ty T PT:TypeId} {pos:String} {aft:Array Edge} {g:Option (Nat × Bool)} {v u:Value} {x y:Operand}
theorem Mem.dropA (h : Mem w0 M (A ++ R) w) (k : Fr (fpOf A) w w') : Mem w0 M R w' := by
  have hR:∀ (j:Nat) (o:Own),R[j]?=some o→(A++R)[A.length + j]?=some o:=fun j o hj=>by rw [List.getElem?_append_right (by omega)]; simpa using hj
  have hfA : ∀ b, fpOf A b → ∃ (i : Nat) (o : Own), (A ++ R)[i]? = some o ∧ i < A.length ∧ o.mut = true ∧ o.fp b := by
    rintro b ⟨o,ho,hm,hb⟩
    obtain ⟨i,hi,rfl⟩:=List.mem_iff_getElem.1 ho
    exact ⟨i,_,by rw [List.getElem?_append_left hi]; exact List.getElem?_eq_getElem hi,hi,hm,hb⟩
  have hRk : ∀ (j : Nat) (o : Own), R[j]? = some o → ∀ b, o.fp b → w'.heap[b]? = w.heap[b]? := fun j o hj b hb => k.block b ((h.ok _ o (hR j o hj)).2.1 b hb) fun hf => by
    obtain ⟨i,o',hi,hil,hm,hb'⟩:=hfA b hf
    exact h.dj i _ o' o hi (hR j o hj) (by omega) (.inl hm) b hb' hb
  have hsz:=k.size
  refine ⟨h.fr.trans k fun b hb hf=>?_,fun i o hi=>?_,fun i j o o' hi hj hij hmm=>h.dj _ _ o o' (hR i o hi) (hR j o' hj) (by omega) hmm,?_⟩
  · obtain ⟨i,o',hi,_,hm,hb'⟩:=hfA b hf
    exact ((h.ok i o' hi).2.2 hm b hb').resolve_left (by omega)
  · obtain ⟨a1,a2,a3⟩:=h.ok _ o (hR i o hi)
    exact ⟨Own.holds_keep a1 (hRk i o hi),fun b hb=>Nat.lt_of_lt_of_le (a2 b hb) hsz,a3⟩
  · obtain ⟨Pb,pp⟩:=h.pb
    refine ⟨Pb,pp.sub,fun b hb=>Nat.lt_of_lt_of_le (pp.lt b hb) hsz,fun i o hi=>pp.dj _ o (hR i o hi),fun i F hi=>?_⟩
    exact (h.ok _ _ (hR i _ hi)).1 Pb Pb w w' (fun _ h => h) (fun b hb => k.block b (pp.lt b hb) fun hf => by
      obtain ⟨j,o',hj,_,hm,hb'⟩:=hfA b hf
      exact pp.dj j o' hj hm b hb hb') (pp.at_ _ F (hR i _ hi))
theorem yJ {α : Type} {f : Nat} {args : Array Operand} {ts : Array TypeId} {vs cap : List Value} (A R : List Own) (mk : α → Value) (pure : α → Prop) (A' L' : α → List Own) (bad : Pz.F → Prop) (hL' : ∀ z, A' z ++ R = L' z) (hA : ∀ w, Mem w0 M L w → Mem w0 M (A ++ R) w) (hq : ∀ z, (A' z).all (fun o => o.mut || o.isPub) = true)
    (hw:Want N D ops E g true) (hx:ev E x=some (.func (.func f) #[] cap.toArray)) (hargs:evs E args.toList=some vs)
    (hcall:∀ vs w,(callFunc f vs).run P w=.ok (.enter f vs) w) (hd:Nat.blt d N=true)
    (hc:∀ w Pb,Mem w ⟨fpOf A,Pb⟩ A w→Calls P f (vs++cap).toArray w (RetX w A Pb PT mk pure A' bad))
    (hb:∀ f,bad f→WE N D Q (.panic (pan PT f)) E (Mem w0 M R))
    (h:∀ z,pure z→WL P N D ops Q rest ((d,mk z)::E) (Mem w0 M (L' z))) :
    WL P N D ops Q (⟨some d,.call { callee:=.value x,args:=args,argTypes:=ts },ty,pos,aft,g⟩::rest) E (Mem w0 M L):=fun w hS a ha=>by
  unfold wpList
  rw [if_pos (hw _ rfl a ha)]
  left
  unfold Oper.wp
  rw [run_call ha hx hargs hcall rfl,Oper.upon_enter]
  have hS':=hA w hS
  obtain ⟨Pb,pp⟩:=hS'.pb
  have h9:=hc w Pb (hS'.give pp)
  rw [← List.append_toArray] at h9
  refine h9.mono ?_
  rintro e w' (⟨z,rfl,hz,hk⟩ | ⟨f,rfl,hf,hfr⟩)
  · exact h z hz w' (by rw [← hL' z]; exact hS'.take pp hk (hq z)) _ (ha.put _ hd)
  · exact hb f hf w' (hS'.dropA hfr) a ha
theorem Mem.uX {α:Type} {mk:α→Value} {pure:α→Prop} {A':α→List Own} {bad:Pz.F→Prop} (h:Mem w ⟨fpOf A,Pb⟩ L w') (z:α) (hv:v=mk z) (hz:pure z) (hs:Mem w ⟨fpOf A,Pb⟩ L w'→Mem w ⟨fpOf A,Pb⟩ (A' z) w'):RetX w A Pb PT mk pure A' bad (.returned v) w':=.inl (h.vV z hv hz hs)
theorem Mem.yS {α:Type} {mk:α→Value} {pure:α→Prop} {A':α→List Own} {bad:Pz.F→Prop} (h:Mem w ⟨fpOf A,Pb⟩ L w') (f:Pz.F) (hf:bad f):RetX w A Pb PT mk pure A' bad (.panicked (pan PT f)) w':=.inr ⟨f,rfl,hf,h.fr⟩
theorem zu {c:List PanicEntry} (h:WE N D Q (.panic c) E S):WE N D (Exit.then K Q) (.panic c) E S:=h
theorem yv {c:List PanicEntry} {id:Nat} (h:WE N D Q (.panic c) E S):WE N D (Exit.inBlock id Q) (.panic c) E S:=h
theorem vo {K:Exit→Act→World→Prop} {c:List PanicEntry} (hP:∀ c S',WE N D Q (.panic c) [] S'→∀ E',WE N D K (.panic c) E' S') (h:WE N D Q (.panic c) [] S):WE N D K (.panic c) E S:=hP c S h E
theorem yE {fn:Func} {R:Ending→World→Prop} {c:List PanicEntry} (h:∀ w,S w→R (.panicked c) w):WE N [] (bodyPost P fn R) (.panic c) E S:=fun w hw a ha=>⟨ha.d,h w hw⟩
section
variable {α β γ δ:Type} {c:List PanicEntry}
theorem uO {env:α→β→γ→δ→Env} {Lf:α→β→γ→δ→List Own} {inv:α→β→γ→δ→Prop} {μ:α→β→γ→δ→Nat} {m:Nat} (h:WE N D Q (.panic c) E S):WE N D (LQ4 N D w0 M env Lf inv μ m Q) (.panic c) E S:=h
theorem vT {ε:Type} {env:α→β→γ→δ→ε→Env} {Lf:α→β→γ→δ→ε→List Own} {inv:α→β→γ→δ→ε→Prop} {μ:α→β→γ→δ→ε→Nat} {m:Nat} (h:WE N D Q (.panic c) E S):WE N D (LQ5 N D w0 M env Lf inv μ m Q) (.panic c) E S:=h
end
theorem r_mkI {cs : List Value} (hx : ev E x = some (.agg cs.toArray)) (hT : P.concrete T = true) : Runs P N D E S (.makeInterface T x) ty (.iface T (.agg cs.toArray)) := fun o ho _ a w ha _ => by
  unfold execOp; rw [ho]; simp [ha.eval hx,run_makeInterface _ T _ hT]
theorem l_panic (hw : Want N D ops E g true) (hx : ev E x = some (.iface T v)) (h : WE N D Q (.panic [{ v := .iface T v, recovered := false }]) E S) : WL P N D ops Q (⟨none, .panic x, ty, pos, aft, g⟩ :: rest) E S := fun w hS a ha => by
  unfold wpList
  rw [if_pos (hw _ rfl a ha)]
  left
  unfold Oper.wp
  rw [show (execOp a.eval ⟨none,.panic x,ty,pos,aft,g⟩).run P w=.halt (.panic (.iface T v)) w from by unfold execOp; simp [ha.eval hx,Instr.panic,goPanic],Oper.upon_panic]
  exact h w hS a ha
theorem fp2 {p : Nat} {cs : List Value} {T : TypeId} {F : (Nat → Prop) → World → Prop} (b : Nat) (h : fpOf [.blk p cs T, .pub F] b) : b = p := by
  obtain ⟨o,ho,hm,hb⟩:=h
  rcases List.mem_cons.1 ho with rfl | ho
  · exact hb
  · rw [List.mem_singleton.1 ho] at hm; cases hm
theorem Mem.notP {o : Own} {i j p : Nat} {cs : List Value} (h : Mem w0 M L w) (hi : L[i]? = some o) (hj : L[j]? = some (.blk p cs T)) (hij : i ≠ j) (hm : o.mut = true) (hM : ∀ b, M.m b → b = p) : ∀ b, o.fp b → w0.heap.size ≤ b ∨ M.p b := fun b hb => by
  rcases (h.ok i o hi).2.2 hm b hb with h1 | h1
  · exact .inl h1
  · exact absurd (show (Own.blk p cs T).fp b from hM b h1) (h.dj i j o _ hi hj hij (.inl hm) b hb)
theorem Mem.sealRowX {α : Type} {enc : α → List Value} {k p : Nat} {cs : List Value} {e : TypeId} {l : List α} (he : Enc enc k) (h : Mem w0 M L w) {i j : Nat} (hi : L[i]? = some (Row v e k enc l)) (hj : L[j]? = some (.blk p cs T)) (hM : ∀ b, M.m b → b = p) : Mem w0 M (L.set i (slP k enc v l)) w := by
  have hij:i≠j:=by rintro rfl; rw [hi] at hj; cases hj
  refine h.gG hi rfl (h.notP hi hj hij rfl hM) (zJ.loc _ _ _ _) fun Pb pp=>?_
  have hrow:=h.row hi
  obtain ⟨A,c,rfl,e2,e3,e4⟩:=row_form' hrow
  refine ⟨A,c,rfl,e2,by simpa [maxLen] using e3,fun hne=>?_⟩
  obtain ⟨ad,rfl⟩:=e4 hne
  have hb : (Value.slice (some ad) l.length c).ownBlock = some ad.block := by
    rcases hrow.2 with ⟨h1,h2⟩ | ⟨gb,cap,cur,h1,_⟩
    · cases h1
    · injection h1 with h1 _ _; injection h1 with h1; subst h1; rfl
  refine ⟨ad,rfl,.inr hb,fun i' x hx j u hu=>?_⟩
  exact (RowSl he h i hi).cell rfl hx hu
theorem uD {α : Type} {enc : α → List Value} {k p : Nat} {cs : List Value} {e : TypeId} {l : List α} (i j : Nat) (he : Enc enc k) (hi : L[i]? = some (Row v e k enc l)) (hj : L[j]? = some (.blk p cs T)) (hM : ∀ b, M.m b → b = p) (h : WL P N D ops Q rest E (Mem w0 M (L.set i (slP k enc v l)))) : WL P N D ops Q rest E (Mem w0 M L) :=
  fun w hS=>h w (hS.sealRowX he hi hj hM)
theorem Mem.exprG (h : Mem w0 M L w) {k n r : Int} {wd : ByteArray} {ms : SlX Match} {bs : SlX ByteArray} {ks : SlX zC} (hm : ∀ Pb, Pubs w0 M L w Pb → zJ Pb 3 yg (.slice ms.A ms.l.length ms.c) ms.l w) (hb : ∀ Pb, Pubs w0 M L w Pb → zJ Pb 1 strE (.slice bs.A bs.l.length bs.c) bs.l w)
    (hk:∀ Pb,Pubs w0 M L w Pb→zJ Pb 7 yl (.slice ks.A ks.l.length ks.c) ks.l w) (ha:∀ Pb,Pubs w0 M L w Pb→∀ x ∈ ks.l,zC.Ok Pb x w) (hw:wd.size≤100) (hms:∀ x ∈ ms.l,x.key.size≤100∧x.val.size≤100) (hbs:∀ x ∈ bs.l,x.size≤100) :
    Mem w0 M (okP zC.Ok (.mk k n r wd ms bs ks)::L) w :=
  h.vU (zC.Ok.loc _) fun Pb pp=>.mk (hm Pb pp) (hb Pb pp) (hk Pb pp) (ha Pb pp) ⟨Nat.le_trans hw (by decide),fun x hx=>⟨Nat.le_trans (hms x hx).1 (by decide),Nat.le_trans (hms x hx).2 (by decide)⟩,fun x hx=>Nat.le_trans (hbs x hx) (by decide)⟩
theorem vR (d:Nat) (v:Value) (L:List Own) (h:WL P N D ops Q rest ((d,v)::E) (Mem w0 M L)):WL P N D ops Q rest ((d,v)::E) (Mem w0 M L):=h
theorem r_tassert {xT : TypeId} {fs : Array Field} (hx : ev E x = some (.iface T v)) (hT : P.underlying T = some (.struct fs)) : Runs P N D E S (.typeAssert x xT T true) ty (.tuple (List.toArray [v, .bool true])) := fun o ho _ a w ha _ => by
  unfold execOp; rw [ho]; simp [ha.eval hx,Instr.typeAssert,run_underlying hT]
def isNil : Value → Bool
  | .nilIface=>true
  | _=>false
theorem run_ieq {ms : Array (String × TypeId)} (hT : P.underlying T = some (.interface ms)) (hv : v = .nilIface ∨ ∃ t u, v = .iface t u) (d : Nat) : (Op.equalIn (d + 1) T v .nilIface).run P w = .ok (isNil v) w := by
  rcases hv with rfl | ⟨t,u,rfl⟩ <;> simp [Op.equalIn,run_underlying hT,isNil]
theorem r_ineq {ms : Array (String × TypeId)} {T' : TypeId} (hx : ev E x = some v) (hv : v = .nilIface ∨ ∃ t u, v = .iface t u) (hT : P.underlying T = some (.interface ms)) : Runs P N D E S (.binOp .neq T x (.const .nilIface) T') ty (.bool (!(isNil v))) := fun o ho _ a w ha _ => by
  have h:=run_ieq (w:=w) hT hv 9999
  have hy:a.eval (.const .nilIface)=.nilIface:=rfl
  unfold execOp; rw [ho]
  rcases hv with rfl | ⟨t,u,rfl⟩ <;> simp [ha.eval hx,hy,eqGuard,binOp,Op.equal,Op.maxDepth,h]
theorem r_ieq {ms : Array (String × TypeId)} {T' : TypeId} (hx : ev E x = some v) (hv : v = .nilIface ∨ ∃ t u, v = .iface t u) (hT : P.underlying T = some (.interface ms)) : Runs P N D E S (.binOp .eql T x (.const .nilIface) T') ty (.bool (isNil v)) := fun o ho _ a w ha _ => by
  have h:=run_ieq (w:=w) hT hv 9999
  have hy:a.eval (.const .nilIface)=.nilIface:=rfl
  unfold execOp; rw [ho]
  rcases hv with rfl | ⟨t,u,rfl⟩ <;> simp [ha.eval hx,hy,eqGuard,binOp,Op.equal,Op.maxDepth,h]
end
def VarI (P:Program) (name:String) (S:Nat→Prop) (w:World):Prop:=(∀ g,P.globalNamed name=some g→S g)∧∃ tp p,w.var? P name=some #[.iface tp p]
theorem VarI.loc (P : Program) (name : String) : Loc (VarI P name) := fun S S' u u' hs hk h => by
  obtain ⟨h1,tp,p,h2⟩:=h
  refine ⟨fun g hg=>hs _ (h1 g hg),tp,p,?_⟩
  unfold World.var? at h2 ⊢
  cases hg:P.globalNamed name with
  | none=>rw [hg] at h2; cases h2
  | some g=>rw [hg] at h2; simp only [Option.bind_some] at h2 ⊢; rw [hk _ (h1 g hg)]; exact h2
end Ex
namespace Pz
open Ex
theorem rest_ext (s : ByteArray) (j : Nat) : (s.extract j s.size).data.toList = rest s j := by
  unfold rest
  rw [ByteArray.data_extract,Array.toList_extract,List.extract_eq_take_drop]
  exact List.take_of_length_le (by rw [List.length_drop,size_l]; exact Nat.le_refl _)
theorem pfx_ext (s sg:ByteArray) (j:Nat):Go.Lib.hasPrefix (s.extract j s.size).data.toList sg.data.toList=pfx s sg j:=by unfold Go.Lib.hasPrefix pfx; rw [rest_ext]
theorem eat_yes {s sg:ByteArray} {i j:Nat} (hj:blank s i=j) (h:pfx s sg j=true):eat s sg i=(true,j + sg.size):=by unfold eat; rw [hj,if_pos h]
theorem eat_no {s sg:ByteArray} {i j:Nat} (hj:blank s i=j) (h:¬ pfx s sg j=true):eat s sg i=(false,j):=by unfold eat; rw [hj,if_neg h]
theorem ext_size (s:ByteArray) {i j:Nat} (h:j≤s.size):(s.extract i j).size=j - i:=by rw [ByteArray.size_extract]; omega
theorem word_ok {s : ByteArray} {i j k : Nat} {n : Int} (hj : blank s i = j) (hk : wend s j = k) (h : ¬ (12 : Int) < ((s.extract j k).size : Int)) (hs : k ≤ s.size) : word s ⟨i, n⟩ = .ok (s.extract j k, ⟨k, n⟩) := by
  unfold word
  show (if 12 < wend s (blank s i) - blank s i then _ else _)=_
  rw [hj,hk,if_neg (by rw [ext_size s hs] at h; omega)]; rfl
theorem word_no {s : ByteArray} {i j k : Nat} {n : Int} (hj : blank s i = j) (hk : wend s j = k) (h : (12 : Int) < ((s.extract j k).size : Int)) (hs : k ≤ s.size) : word s ⟨i, n⟩ = .no (7, j) := by
  unfold word
  show (if 12 < wend s (blank s i) - blank s i then _ else _)=_
  rw [hj,hk,if_pos (by rw [ext_size s hs] at h; omega)]
theorem word_size {s : ByteArray} {t : St} {x : ByteArray × St} (ht : t.at_ ≤ s.size) (h : word s t = .ok x) : x.1.size ≤ 12 := by
  unfold word at h
  split at h
  · cases h
  · rename_i h1
    obtain rfl:=Res.ok.inj h
    show (s.extract _ _).size≤12
    rw [ext_size s (wend_le (blank_le ht).2).2]; omega
theorem name_size {s : ByteArray} {t : St} {x : ByteArray × St} (ht : t.at_ ≤ s.size) (h : name s t = .ok x) : x.1.size ≤ 12 := by
  unfold name at h
  cases hw:word s t with
  | no f=>rw [hw] at h; cases h
  | ok y =>
    rw [hw,then_ok] at h
    split at h
    · cases h
    · obtain rfl:=Res.ok.inj h; exact word_size ht hw
theorem empty_size:(⟨#[]⟩:ByteArray).size≤12:=by decide
theorem then_some {α β : Type} {x : Res α} {g : α → Res β} {b : β} (h : x.then g = .ok b) : ∃ a, x = .ok a ∧ g a = .ok b := by
  cases x with
  | no f=>cases h
  | ok a=>exact ⟨a,rfl,h⟩
theorem match_size {s : ByteArray} {t : St} {x : Match × St} (ht : t.at_ ≤ s.size) (h : match_ s t = .ok x) : x.1.key.size ≤ 12 ∧ x.1.val.size ≤ 12 := by
  unfold match_ at h
  have h0:=(eat_le ⟨#[33]⟩ ht).2
  split at h
  · obtain ⟨a,h1,h2⟩:=then_some h
    obtain rfl:=Res.ok.inj h2
    exact ⟨name_size (t:=t.go _) h0 h1,empty_size⟩
  · obtain ⟨a,h1,h2⟩:=then_some h
    have hn:=name_size (t:=t.go _) h0 h1
    have ha:a.2.at_≤s.size:=((name_go h0).ok_ h1).at_
    split at h2
    · obtain ⟨b,h3,h4⟩:=then_some h2
      obtain rfl:=Res.ok.inj h4
      exact ⟨hn,name_size (t:=a.2.go _) (eat_le _ ha).2 h3⟩
    · split at h2
      · obtain ⟨b,h3,h4⟩:=then_some h2
        obtain rfl:=Res.ok.inj h4
        exact ⟨hn,name_size (t:=a.2.go _) (eat_le _ (eat_le _ ha).2).2 h3⟩
      · obtain rfl:=Res.ok.inj h2
        exact ⟨hn,empty_size⟩
def fold (n:Nat) (l:List UInt8):Nat:=l.foldl (fun n b=>10 * n + (b.toNat - 48)) n
theorem fold_ge : ∀ (l : List UInt8) (n : Nat), n ≤ fold n l
  | [],n=>Nat.le_refl _
  | c::l,n=>by have:=fold_ge l (10 * n + (c.toNat - 48)); unfold fold at this ⊢; rw [List.foldl_cons]; omega
theorem parse_dig : ∀ (l : List UInt8) (acc : Nat), (∀ c ∈ l, 48 ≤ c.toNat ∧ c.toNat ≤ 57) → acc < 18446744073709551616 → (Go.Lib.parseUint10 acc l = .ok (fold acc l) ∧ fold acc l < 18446744073709551616) ∨ (Go.Lib.parseUint10 acc l = .range ∧ 18446744073709551616 ≤ fold acc l)
  | [],acc,_,h=>.inl ⟨rfl,h⟩
  | c :: l, acc, hc, h => by
    have h1:=hc c (List.mem_cons_self ..)
    have hf:fold acc (c::l)=fold (acc * 10 + (c.toNat - 48)) l:=by unfold fold; rw [List.foldl_cons,Nat.mul_comm]
    simp only [Go.Lib.parseUint10,if_pos h1]
    by_cases g1:1844674407370955162≤acc
    · rw [if_pos g1]
      refine .inr ⟨rfl,?_⟩
      have:=fold_ge l (acc * 10 + (c.toNat - 48))
      rw [hf]; omega
    · rw [if_neg g1]
      by_cases g2:18446744073709551616≤acc * 10 + (c.toNat - 48)
      · rw [if_pos g2]
        have:=fold_ge l (acc * 10 + (c.toNat - 48))
        exact .inr ⟨rfl,by rw [hf]; omega⟩
      · rw [if_neg g2,hf]
        exact parse_dig l _ (fun x hx=>hc x (List.mem_cons_of_mem _ hx)) (by omega)
theorem atoi_dig {l : List UInt8} (hl : l ≠ []) (hc : ∀ c ∈ l, 48 ≤ c.toNat ∧ c.toNat ≤ 57) : (Go.Lib.atoiAll l = .ok (dval l : Int) ∧ dval l < 9223372036854775808) ∨ (Go.Lib.atoiAll l = .range ∧ 9223372036854775808 ≤ dval l) := by
  cases l with
  | nil=>exact absurd rfl hl
  | cons c r =>
    have h1:=hc c (List.mem_cons_self ..)
    have hp:=parse_dig (c::r) 0 hc (by decide)
    have hd:fold 0 (c::r)=dval (c::r):=rfl
    rw [hd] at hp
    have h43:¬ (c.toNat=43∨c.toNat=45):=by omega
    have h45:¬ (c.toNat=45):=by omega
    unfold Go.Lib.atoiAll
    simp only [if_neg h43,Go.Lib.parseMag,if_neg hl]
    rcases hp with ⟨e,hlt⟩ | ⟨e,hle⟩
    · rw [e]
      simp only [h45,not_false_eq_true,true_and,false_and,if_false]
      by_cases g:9223372036854775808≤dval (c::r)
      · rw [if_pos g]; exact .inr ⟨rfl,g⟩
      · rw [if_neg g]; exact .inl ⟨rfl,by omega⟩
    · rw [e]; exact .inr ⟨rfl,by omega⟩
theorem take_dig : ∀ (l : List UInt8) (c : UInt8), c ∈ l.takeWhile dig → 48 ≤ c.toNat ∧ c.toNat ≤ 57
  | b :: l, c, h => by
    rw [List.takeWhile_cons] at h
    split at h
    · rename_i hb
      rcases List.mem_cons.1 h with rfl | h
      · simpa [dig] using hb
      · exact take_dig l c h
    · cases h
theorem ext_take (s : ByteArray) (j : Nat) (p : UInt8 → Bool) : (s.extract j (run p s j)).data.toList = (rest s j).takeWhile p := by
  rw [ByteArray.data_extract,Array.toList_extract,List.extract_eq_take_drop]
  unfold run rest
  rw [show j + ((s.data.toList.drop j).takeWhile p).length - j=((s.data.toList.drop j).takeWhile p).length by omega]
  exact (List.prefix_iff_eq_take.1 (List.takeWhile_prefix p)).symm
theorem ext_dig {s : ByteArray} {j k : Nat} (hk : run dig s j = k) : ∀ c ∈ (s.extract j k).data.toList, 48 ≤ c.toNat ∧ c.toNat ≤ 57 := fun c hc => by
  subst hk; rw [ext_take] at hc; exact take_dig _ c hc
theorem sat_dig {l : List UInt8} (hd : ∀ c ∈ l, 48 ≤ c.toNat ∧ c.toNat ≤ 57) : Go.Lib.atoiSat l = 9223372036854775807 := by
  unfold Go.Lib.atoiSat
  cases l with
  | nil=>rfl
  | cons c r =>
    have:=hd c (List.mem_cons_self ..)
    rw [if_neg]
    intro h
    simp at h
    omega
def AtoiR (l:List UInt8) (z:Int × Value):Prop:=(z.2=.nilIface∧z.1=(dval l:Int))∨((∃ u v,z.2=.iface u v)∧z.1=9223372036854775807∧9223372036854775808≤dval l)
theorem AtoiR.ifc {l:List UInt8} {z:Int × Value} (h:AtoiR l z):z.2=.nilIface∨∃ t u,z.2=.iface t u:=h.imp (·.1) (·.1)
theorem AtoiR.bad {l : List UInt8} {z : Int × Value} (h : AtoiR l z) (most : Int) (hm : most ≤ 9223372036854775806) (hn : ((!(isNil z.2)) = true ∨ most < z.1)) : most < (dval l : Int) := by
  rcases h with ⟨h1,h2⟩ | ⟨⟨u,v,h1⟩,h2,h3⟩
  · rcases hn with hn | hn
    · rw [h1] at hn; cases hn
    · rw [← h2]; exact hn
  · omega
theorem AtoiR.good {l : List UInt8} {z : Int × Value} (h : AtoiR l z) (hn : ¬ (!(isNil z.2)) = true) : z.1 = (dval l : Int) := by
  rcases h with ⟨h1,h2⟩ | ⟨⟨u,v,h1⟩,h2,h3⟩
  · exact h2
  · rw [h1] at hn; exact absurd rfl hn
theorem num_form {s : ByteArray} {i j k : Nat} {n : Int} (least most : Int) (hj : blank s i = j) (hk : run dig s j = k) (h : (k : Int) = (j : Int)) : num s least most ⟨i, n⟩ = .no (2, j) := by
  unfold num
  show (if run dig s (blank s i)=blank s i then _ else _)=_
  rw [hj,hk,if_pos (by omega)]
theorem num_no {s : ByteArray} {i j k : Nat} {n least most : Int} (hj : blank s i = j) (hk : run dig s j = k) (h : ¬ (k : Int) = (j : Int)) (hb : badNum s least most j) : num s least most ⟨i, n⟩ = .no (3, j) := by
  unfold num
  show (if run dig s (blank s i)=blank s i then _ else _)=_
  rw [hj,hk,if_neg (by omega),if_pos hb]
theorem num_ok {s : ByteArray} {i j k : Nat} {n least most : Int} (hj : blank s i = j) (hk : run dig s j = k) (h : ¬ (k : Int) = (j : Int)) (hb : ¬ badNum s least most j) : num s least most ⟨i, n⟩ = .ok (numAt s j, ⟨k, n⟩) := by
  unfold num
  show (if run dig s (blank s i)=blank s i then _ else _)=_
  rw [hj,hk,if_neg (by omega),if_neg hb]; rfl
theorem num_at {s:ByteArray} {j k:Nat} (hk:run dig s j=k):numAt s j=(dval (s.extract j k).data.toList:Int):=by subst hk; rfl
theorem atoi_lt {s : ByteArray} {j k : Nat} (h : (k : Int) ≠ (j : Int)) (hk : run dig s j = k) (hs : k ≤ s.size) : (s.extract j k).data.toList ≠ [] := fun e => by
  have h1:=ext_size s (i:=j) hs
  have h2:(s.extract j k).size=(s.extract j k).data.toList.length:=(size_l _).symm
  rw [e] at h2
  have h3:j≤k:=by subst hk; unfold run; omega
  simp at h2; omega
theorem num_bad {s : ByteArray} {j k : Nat} {least most : Int} {z : Int × Value} (hk : run dig s j = k) (hz : AtoiR (s.extract j k).data.toList z) (hm : most ≤ 9223372036854775806) (h : (!(isNil z.2)) = true ∨ z.1 < least ∨ most < z.1 ∨ (s[j]? = some 48 ∧ (j : Int) + 1 < (k : Int))) : badNum s least most j := by
  unfold badNum
  rw [num_at hk]
  rcases h with h | h | h | ⟨h1,h2⟩
  · exact .inr (.inl (hz.bad most hm (.inl h)))
  · rcases hz with ⟨h1,h2⟩ | ⟨h1,h2,h3⟩
    · exact .inl (by rw [← h2]; exact h)
    · exact .inr (.inl (by omega))
  · exact .inr (.inl (hz.bad most hm (.inr h)))
  · exact .inr (.inr ⟨h1,by rw [hk]; omega⟩)
theorem num_good {s : ByteArray} {j k : Nat} {least most : Int} {z : Int × Value} (hk : run dig s j = k) (hz : AtoiR (s.extract j k).data.toList z) (h1 : ¬ (!(isNil z.2)) = true) (h2 : ¬ z.1 < least) (h3 : ¬ most < z.1) (h4 : ¬ (s[j]? = some 48 ∧ (j : Int) + 1 < (k : Int))) : ¬ badNum s least most j ∧ numAt s j = z.1 := by
  have hg:=hz.good h1
  unfold badNum
  rw [num_at hk,← hg]
  refine ⟨?_,rfl⟩
  rintro (h | h | ⟨h5,h6⟩)
  · exact h2 h
  · exact h3 h
  · exact h4 ⟨h5,by rw [hk] at h6; omega⟩
theorem at48 {s : ByteArray} {j : Nat} {c : UInt8} (h : s[j]? = some c) (hc : (c.toNat : Int) = 48) : s[j]? = some 48 := by
  rw [h]
  have : c = 48 := by
    apply UInt8.toNat_inj.1
    show c.toNat=48
    omega
  rw [this]
theorem not48 {s : ByteArray} {j : Nat} {c : UInt8} (h : s[j]? = some c) (hc : ¬ (c.toNat : Int) = 48) {q : Prop} : ¬ (s[j]? = some 48 ∧ q) := fun g => by
  rw [h] at g
  injection g.1 with g1
  subst g1
  exact hc rfl
theorem node_yes {i:Nat} {n:Int} (h:n + 1≤100):node ⟨i,n⟩=.ok ⟨i,n + 1⟩:=by unfold node; rw [if_neg (by show ¬ 100 < n + 1; omega)]
theorem node_no {i:Nat} {n:Int} (h:100 < n + 1):node ⟨i,n⟩=.no (4,i):=by unfold node; rw [if_pos (by show 100 < n + 1; exact h)]
theorem win_done {X : Res (List Match × St)} {s : ByteArray} {q k j : Nat} {m : Int} {ms : List Match} (hX : X = winL s (q + 1) ms ⟨k, m⟩) (he : eat s ⟨#[125]⟩ k = (true, j)) : X = .ok (ms, ⟨j, m⟩) := by
  rw [hX,winL]; simp only [he,if_true,St.go]
theorem win_more {X : Res (List Match × St)} {s : ByteArray} {q k j : Nat} {m : Int} {ms : List Match} (hX : X = winL s (q + 1) ms ⟨k, m⟩) (he : eat s ⟨#[125]⟩ k = (false, j)) : X = (if 0 < ms.length then must s ⟨#[44]⟩ ⟨j, m⟩ else .ok ⟨j, m⟩).then fun u => if ms.length = 5 then .no (5, u.at_) else (match_ s u).then fun x => winL s q (ms ++ [x.1]) x.2 := by
  rw [hX,winL]; simp only [he,if_false,St.go,Bool.false_eq_true]
theorem win_sep {s:ByteArray} {j:Nat} {m:Int} {ms:List Match} (h:¬ (0:Int) < (ms.length:Int)):(if 0 < ms.length then must s ⟨#[44]⟩ ⟨j,m⟩ else .ok ⟨j,m⟩)=.ok ⟨j,m⟩:=if_neg (by omega)
theorem win_sep' {s:ByteArray} {j:Nat} {m:Int} {ms:List Match} {r:Res St} (h:(0:Int) < (ms.length:Int)) (he:must s ⟨#[44]⟩ ⟨j,m⟩=r):(if 0 < ms.length then must s ⟨#[44]⟩ ⟨j,m⟩ else .ok ⟨j,m⟩)=r:=by rw [if_pos (by omega),he]
theorem win_next {X : Res (List Match × St)} {s : ByteArray} {q : Nat} {ms : List Match} {a : Res St} {u : St} {r : Res (Match × St)} (hX : X = a.then fun u => if ms.length = 5 then .no (5, u.at_) else (match_ s u).then fun x => winL s q (ms ++ [x.1]) x.2) (ha : a = .ok u) (h5 : ¬ (ms.length : Int) = 5) (hm : match_ s u = r) : X = r.then fun x => winL s q (ms ++ [x.1]) x.2 := by
  rw [hX,ha,then_ok,if_neg (by omega),hm]
theorem win_many {X : Res (List Match × St)} {s : ByteArray} {q : Nat} {ms : List Match} {a : Res St} {u : St} (hX : X = a.then fun u => if ms.length = 5 then .no (5, u.at_) else (match_ s u).then fun x => winL s q (ms ++ [x.1]) x.2) (ha : a = .ok u) (h5 : (ms.length : Int) = 5) : X = .no (5, u.at_) := by
  rw [hX,ha,then_ok,if_pos (by omega)]
theorem winL_size {s : ByteArray} : ∀ (q : Nat) {ms : List Match} {t : St} {x : List Match × St}, t.at_ ≤ s.size → winL s q ms t = .ok x → (∀ m ∈ ms, m.key.size ≤ 12 ∧ m.val.size ≤ 12) → ∀ m ∈ x.1, m.key.size ≤ 12 ∧ m.val.size ≤ 12
  | 0,_,_,_,_,h,_=>by cases h
  | q + 1, ms, t, x, ht, h, hms => by
    rw [winL] at h
    split at h
    · obtain rfl:=Res.ok.inj h; exact hms
    · obtain ⟨u,h1,h2⟩:=then_some h
      have h0:=(eat_le (s:=s) ⟨#[125]⟩ ht).2
      have hu : u.at_ ≤ s.size := by
        split at h1
        · exact ((must_fine (t:=t.go _) _ h0).ok_ h1).at_
        · obtain rfl:=Res.ok.inj h1; exact h0
      split at h2
      · cases h2
      · obtain ⟨y,h3,h4⟩:=then_some h2
        have hy:=match_size hu h3
        refine winL_size q ((match_fine hu).ok_ h3).at_ h4 fun m hm=>?_
        rcases List.mem_append.1 hm with hm | hm
        · exact hms m hm
        · rw [List.mem_singleton.1 hm]; exact hy
theorem by_done {X : Res (List ByteArray × St)} {s : ByteArray} {q k j : Nat} {m : Int} {l : List ByteArray} (hX : X = byL s (q + 1) l ⟨k, m⟩) (he : eat s ⟨#[44]⟩ k = (false, j)) : X = .ok (l, ⟨j, m⟩) := by
  rw [hX,byL]; simp only [he,if_false,St.go,Bool.false_eq_true]
theorem by_many {X : Res (List ByteArray × St)} {s : ByteArray} {q k j : Nat} {m : Int} {l : List ByteArray} (hX : X = byL s (q + 1) l ⟨k, m⟩) (he : eat s ⟨#[44]⟩ k = (true, j)) (h4 : (l.length : Int) = 4) : X = .no (5, j) := by
  rw [hX,byL]; simp only [he,if_true]; rw [if_pos (by omega)]
theorem by_next {X : Res (List ByteArray × St)} {s : ByteArray} {q k j : Nat} {m : Int} {l : List ByteArray} {r : Res (ByteArray × St)} (hX : X = byL s (q + 1) l ⟨k, m⟩) (he : eat s ⟨#[44]⟩ k = (true, j)) (h4 : ¬ (l.length : Int) = 4) (hr : name s ⟨j, m⟩ = r) : X = r.then fun x => byL s q (l ++ [x.1]) x.2 := by
  rw [hX,byL]; simp only [he,if_true,St.go]; rw [if_neg (by omega),hr]
theorem byL_size {s : ByteArray} : ∀ (q : Nat) {l : List ByteArray} {t : St} {x : List ByteArray × St}, t.at_ ≤ s.size → byL s q l t = .ok x → (∀ m ∈ l, m.size ≤ 12) → ∀ m ∈ x.1, m.size ≤ 12
  | 0,_,_,_,_,h,_=>by cases h
  | q + 1, l, t, x, ht, h, hl => by
    rw [byL] at h
    have h0:=(eat_le (s:=s) ⟨#[44]⟩ ht).2
    split at h
    · split at h
      · cases h
      · obtain ⟨y,h3,h4⟩:=then_some h
        have hy:=name_size (t:=t.go _) h0 h3
        refine byL_size q ((name_go h0).ok_ h3).at_ h4 fun m hm=>?_
        rcases List.mem_append.1 hm with hm | hm
        · exact hl m hm
        · rw [List.mem_singleton.1 hm]; exact hy
    · obtain rfl:=Res.ok.inj h; exact hl
section
variable {X:Res (Expr × St)} {s:ByteArray} {sub:St→Res (Expr × St)} {signs:List ByteArray} {q k j:Nat} {m:Int} {e:Expr} {wd:ByteArray}
theorem bin_done (hX : X = binL s sub signs (q + 1) e ⟨k, m⟩) (hp : pick s signs k = (⟨#[]⟩, j)) : X = .ok (e, ⟨j, m⟩) := by
  rw [hX,binL]; simp only [hp,if_true,St.go]
theorem bin_next {r : Res (Expr × St)} (hX : X = binL s sub signs (q + 1) e ⟨k, m⟩) (hp : pick s signs k = (wd, j)) (hw : wd ≠ ⟨#[]⟩) (hr : sub ⟨j, m⟩ = r) : X = r.then fun f => (node f.2).then fun u => binL s sub signs q (.mk 4 0 0 wd [] [] [e, f.1]) u := by
  rw [hX,binL]; simp only [hp,if_neg hw,St.go,hr]
theorem star1 {j:Nat} (h:eat s ⟨#[42]⟩ k=(true,j)):pick s star k=(⟨#[42]⟩,j):=by unfold star; simp only [pick,h,if_true]
theorem star0 {j:Nat} (h:eat s ⟨#[42]⟩ k=(false,j)):pick s star k=(⟨#[]⟩,j):=by unfold star; simp only [pick,h,if_false,Bool.false_eq_true]
theorem plus1 {j:Nat} (h:eat s ⟨#[43]⟩ k=(true,j)):pick s plus k=(⟨#[43]⟩,j):=by unfold plus; simp only [pick,h,if_true]
theorem minus1 {j j':Nat} (h:eat s ⟨#[43]⟩ k=(false,j)) (h':eat s ⟨#[45]⟩ j=(true,j')):pick s plus k=(⟨#[45]⟩,j'):=by unfold plus; simp only [pick,h,h',if_true,if_false,Bool.false_eq_true]
theorem plus0 {j j':Nat} (h:eat s ⟨#[43]⟩ k=(false,j)) (h':eat s ⟨#[45]⟩ j=(false,j')):pick s plus k=(⟨#[]⟩,j'):=by unfold plus; simp only [pick,h,h',if_false,Bool.false_eq_true]
end
theorem okZero (S : Nat → Prop) (w : World) : zC.Ok S (.mk 0 0 0 ⟨#[]⟩ ⟨none, 0, []⟩ ⟨none, 0, []⟩ ⟨none, 0, []⟩) w :=
  .mk (zJ.yq _ _ _ _) (zJ.yq _ _ _ _) (zJ.yq _ _ _ _) (fun x hx=>by cases hx) ⟨by decide,fun x hx=>(by cases hx),fun x hx=>(by cases hx)⟩
theorem parse_big {s:ByteArray} (h:(2000:Int) < (s.size:Int)):parse s=(none_,(4,0)):=if_pos (by omega)
theorem parse_no {s:ByteArray} {f:F} (h:¬ (2000:Int) < (s.size:Int)) (hx:xpr s 20 ⟨0,0⟩=.no f):parse s=(none_,f):=by unfold parse; rw [if_neg (by omega),hx]
theorem parse_form {s : ByteArray} {x : Expr} {j k : Nat} {m : Int} (h : ¬ (2000 : Int) < (s.size : Int)) (hx : xpr s 20 ⟨0, 0⟩ = .ok (x, ⟨j, m⟩)) (hb : blank s j = k) (hk : k < s.size) : parse s = (none_, ((2 : Int), (k : Int))) := by
  unfold parse; rw [if_neg (by omega),hx]; simp only [hb,if_pos hk]
theorem parse_much {s : ByteArray} {x : Expr} {j k : Nat} {m : Int} (h : ¬ (2000 : Int) < (s.size : Int)) (hx : xpr s 20 ⟨0, 0⟩ = .ok (x, ⟨j, m⟩)) (hb : blank s j = k) (hk : ¬ k < s.size) (hw : (Lg.shape x 1 0).1 ≠ 0) : parse s = (none_, ((4 : Int), (k : Int))) := by
  unfold parse; rw [if_neg (by omega),hx]; simp only [hb,if_neg hk]; rw [if_pos (show Lg.wrong x≠0 from hw)]
theorem parse_ok {s : ByteArray} {x : Expr} {j k : Nat} {m : Int} (h : ¬ (2000 : Int) < (s.size : Int)) (hx : xpr s 20 ⟨0, 0⟩ = .ok (x, ⟨j, m⟩)) (hb : blank s j = k) (hk : ¬ k < s.size) (hw : ¬ (Lg.shape x 1 0).1 ≠ 0) : parse s = (x, (0, 0)) := by
  unfold parse; rw [if_neg (by omega),hx]; simp only [hb,if_neg hk]; rw [if_neg (show ¬ Lg.wrong x≠0 from hw)]
end Pz
end
end Go.Proofs.YtgojhpocpajmlaaGreatDoor
section
namespace Go.Proofs
open Go.Shelf
open Go.RowKit in
open Go.RowKit Go.Sort Go.Lib in
def Tryz.laysC172_ren:Go.Shelf.Ren:=⟨fun | 172=>212 | 244=>224 | 245=>225 | 247=>232 | 279=>233 | 280=>234 | 281=>235 | 282=>236 | 287=>240 | 316=>241 | 171=>107 | 205=>242 | 321=>243 | 322=>244 | 243=>159 | 246=>199 | 283=>218 | 284=>219 | 285=>220 | 286=>221 | 129=>228 | 317=>227 | 318=>229 | 319=>230 | 320=>231 | 337=>238 | 338=>239 | n=>n,fun | 9=>9 | 3=>3 | 75=>183 | 76=>185 | 4=>4 | 5=>5 | 167=>279 | 37=>79 | 0=>0 | 85=>280 | 2=>2 | 168=>282 | 53=>266 | 175=>287 | 46=>228 | 210=>291 | 127=>190 | 145=>298 | 143=>296 | 21=>21 | 171=>265 | 173=>269 | 212=>275 | 51=>276 | 20=>20 | 213=>277 | 232=>293 | 233=>294 | 80=>139 | n=>n,fun | 15=>2 | 16=>3 | 17=>0 | 18=>4 | 19=>5 | n=>n⟩
theorem Tryz.laysC172 : Go.Proofs.LaysC.n172 Tryz.prog Tryz.laysC172_ren := {
  mixed:=by kernel_rfl
  f129:=Tryz.func228.trans (congrArg some (by kernel_rfl))
  f171:=Tryz.func107.trans (congrArg some (by kernel_rfl))
  f172:=Tryz.func212.trans (congrArg some (by kernel_rfl))
  f205:=Tryz.func242.trans (congrArg some (by kernel_rfl))
  f243:=Tryz.func159.trans (congrArg some (by kernel_rfl))
  f244:=Tryz.func224.trans (congrArg some (by kernel_rfl))
  f245:=Tryz.func225.trans (congrArg some (by kernel_rfl))
  f246:=Tryz.func199.trans (congrArg some (by kernel_rfl))
  f247:=Tryz.func232.trans (congrArg some (by kernel_rfl))
  f279:=Tryz.func233.trans (congrArg some (by kernel_rfl))
  f280:=Tryz.func234.trans (congrArg some (by kernel_rfl))
  f281:=Tryz.func235.trans (congrArg some (by kernel_rfl))
  f282:=Tryz.func236.trans (congrArg some (by kernel_rfl))
  f283:=Tryz.func218.trans (congrArg some (by kernel_rfl))
  f284:=Tryz.func219.trans (congrArg some (by kernel_rfl))
  f285:=Tryz.func220.trans (congrArg some (by kernel_rfl))
  f286:=Tryz.func221.trans (congrArg some (by kernel_rfl))
  f287:=Tryz.func240.trans (congrArg some (by kernel_rfl))
  f316:=Tryz.func241.trans (congrArg some (by kernel_rfl))
  f317:=Tryz.func227.trans (congrArg some (by kernel_rfl))
  f318:=Tryz.func229.trans (congrArg some (by kernel_rfl))
  f319:=Tryz.func230.trans (congrArg some (by kernel_rfl))
  f320:=Tryz.func231.trans (congrArg some (by kernel_rfl))
  f321:=Tryz.func243.trans (congrArg some (by kernel_rfl))
  f322:=Tryz.func244.trans (congrArg some (by kernel_rfl))
  f337:=Tryz.func238.trans (congrArg some (by kernel_rfl))
  f338:=Tryz.func239.trans (congrArg some (by kernel_rfl))
  t0:=Tryz.underlying0
  a0:=Tryz.isAgg0
  z0:=Tryz.sizeOf0
  v0:=Tryz.zeroValue0
  t2:=Tryz.underlying2
  a2:=Tryz.isAgg2
  z2:=Tryz.sizeOf2
  v2:=Tryz.zeroValue2
  t3:=Tryz.underlying3
  a3:=Tryz.isAgg3
  z3:=Tryz.sizeOf3
  v3:=Tryz.zeroValue3
  t4:=Tryz.underlying4
  a4:=Tryz.isAgg4
  z4:=Tryz.sizeOf4
  v4:=Tryz.zeroValue4
  t5:=Tryz.underlying5
  a5:=Tryz.isAgg5
  z5:=Tryz.sizeOf5
  v5:=Tryz.zeroValue5
  t9:=Tryz.underlying9
  a9:=Tryz.isAgg9
  z9:=Tryz.sizeOf9
  v9:=Tryz.zeroValue9
  t20:=Tryz.underlying20
  a20:=Tryz.isAgg20
  z20:=Tryz.sizeOf20
  v20:=Tryz.zeroValue20
  t21:=Tryz.underlying21
  a21:=Tryz.isAgg21
  z21:=Tryz.sizeOf21
  v21:=Tryz.zeroValue21
  t37:=Tryz.underlying79
  a37:=Tryz.isAgg79
  z37:=Tryz.sizeOf79
  v37:=Tryz.zeroValue79
  t46:=Tryz.underlying228
  a46:=Tryz.isAgg228
  z46:=Tryz.sizeOf228
  v46:=Tryz.zeroValue228
  t51:=Tryz.underlying276
  a51:=Tryz.isAgg276
  z51:=Tryz.sizeOf276
  v51:=Tryz.zeroValue276
  t53:=Tryz.underlying266
  a53:=Tryz.isAgg266
  z53:=Tryz.sizeOf266
  v53:=Tryz.zeroValue266
  t75:=Tryz.underlying183
  a75:=Tryz.isAgg183
  z75:=Tryz.sizeOf183
  v75:=Tryz.zeroValue183
  t76:=Tryz.underlying185
  a76:=Tryz.isAgg185
  z76:=Tryz.sizeOf185
  v76:=Tryz.zeroValue185
  t85:=Tryz.underlying280
  a85:=Tryz.isAgg280
  z85:=Tryz.sizeOf280
  v85:=Tryz.zeroValue280
  t127:=Tryz.underlying190
  a127:=Tryz.isAgg190
  z127:=Tryz.sizeOf190
  v127:=Tryz.zeroValue190
  t143:=Tryz.underlying296
  a143:=Tryz.isAgg296
  z143:=Tryz.sizeOf296
  v143:=Tryz.zeroValue296
  t145:=Tryz.underlying298
  a145:=Tryz.isAgg298
  z145:=Tryz.sizeOf298
  v145:=Tryz.zeroValue298
  t167:=Tryz.underlying279
  a167:=Tryz.isAgg279
  z167:=Tryz.sizeOf279
  v167:=Tryz.zeroValue279
  t168:=Tryz.underlying282
  a168:=Tryz.isAgg282
  z168:=Tryz.sizeOf282
  v168:=Tryz.zeroValue282
  t171:=Tryz.underlying265
  a171:=Tryz.isAgg265
  z171:=Tryz.sizeOf265
  v171:=Tryz.zeroValue265
  t173:=Tryz.underlying269
  a173:=Tryz.isAgg269
  z173:=Tryz.sizeOf269
  v173:=Tryz.zeroValue269
  t175:=Tryz.underlying287
  a175:=Tryz.isAgg287
  z175:=Tryz.sizeOf287
  v175:=Tryz.zeroValue287
  t210:=Tryz.underlying291
  a210:=Tryz.isAgg291
  z210:=Tryz.sizeOf291
  v210:=Tryz.zeroValue291
  t212:=Tryz.underlying275
  a212:=Tryz.isAgg275
  z212:=Tryz.sizeOf275
  v212:=Tryz.zeroValue275
  t213:=Tryz.underlying277
  a213:=Tryz.isAgg277
  z213:=Tryz.sizeOf277
  t232:=Tryz.underlying293
  a232:=Tryz.isAgg293
  z232:=Tryz.sizeOf293
  v232:=Tryz.zeroValue293
  t233:=Tryz.underlying294
  a233:=Tryz.isAgg294
  z233:=Tryz.sizeOf294
  v233:=Tryz.zeroValue294
  g15:=by kernel_rfl
  g16:=by kernel_rfl
  g17:=by kernel_rfl
  g18:=by kernel_rfl
  g19:=by kernel_rfl
  t80:=Tryz.underlying139
  a80:=Tryz.isAgg139
  z80:=Tryz.sizeOf139
  v80:=Tryz.zeroValue139
  i0:=by kernel_rfl
  i2:=by kernel_rfl
  i3:=by kernel_rfl
  i4:=by kernel_rfl
  i5:=by kernel_rfl
  i9:=by kernel_rfl
  i20:=by kernel_rfl
  i21:=by kernel_rfl
  i37:=by kernel_rfl
  i46:=by kernel_rfl
  i51:=by kernel_rfl
  i53:=by kernel_rfl
  i75:=by kernel_rfl
  i76:=by kernel_rfl
  i80:=by kernel_rfl
  i85:=by kernel_rfl
  i127:=by kernel_rfl
  i143:=by kernel_rfl
  i145:=by kernel_rfl
  i167:=by kernel_rfl
  i168:=by kernel_rfl
  i171:=by kernel_rfl
  i173:=by kernel_rfl
  i175:=by kernel_rfl
  i210:=by kernel_rfl
  i212:=by kernel_rfl
  i232:=by kernel_rfl
  i233:=by kernel_rfl
  m15:=by kernel_rfl
  m16:=by kernel_rfl
  m17:=by kernel_rfl
  m18:=by kernel_rfl
  m19:=by kernel_rfl
  c0:=by kernel_rfl
  c2:=by kernel_rfl
  c3:=by kernel_rfl
  c4:=by kernel_rfl
  c5:=by kernel_rfl
  c9:=by kernel_rfl
  c20:=by kernel_rfl
  c21:=by kernel_rfl
  c37:=by kernel_rfl
  c46:=by kernel_rfl
  c51:=by kernel_rfl
  c53:=by kernel_rfl
  c75:=by kernel_rfl
  c76:=by kernel_rfl
  c80:=by kernel_rfl
  c85:=by kernel_rfl
  c127:=by kernel_rfl
  c143:=by kernel_rfl
  c145:=by kernel_rfl
  c167:=by kernel_rfl
  c168:=by kernel_rfl
  c171:=by kernel_rfl
  c173:=by kernel_rfl
  c175:=by kernel_rfl
  c210:=by kernel_rfl
  c212:=by kernel_rfl
  c213:=by kernel_rfl
  c232:=by kernel_rfl
  c233:=by kernel_rfl }
open Go.RowKit in
theorem Tryz.strconv_Atoi_ok (s : ByteArray) (hmax : s.size ≤ 9223372036854775806) (v : Int) (h : Lib.atoiAll s.data.toList = .ok v) (w : World) :
    Calls Tryz.prog 212 #[.string s] w fun e w'=>e=.returned (.tuple #[.int .i64 v,.nilIface])∧(w'=w∨∃ t,w'=Lib.bytesWorld w 5 t):=Any.strconv_Atoi_ok Tryz.laysC172 s hmax v h w
open Go.RowKit in
theorem Tryz.strconv_Atoi_range_var (s : ByteArray) (hlim : s.size ≤ 281474976710656) (h : Lib.atoiAll s.data.toList = .range) (tp : TypeId) (p : Value) (w : World) (hvar : w.var? Tryz.prog "strconv.ErrRange" = some #[.iface tp p]) :
    Calls Tryz.prog 212 #[.string s] w fun e w'=>∃ N,e=.returned (.tuple #[.int .i64 (Lib.atoiSat s.data.toList),.iface 282 (.pointer (some ⟨N,0,none⟩))])∧w.heap.size≤N∧w'.heap[N]?=some (.cells #[.string ⟨#[65,116,111,105]⟩,.string s,.iface tp p] 291 (0,0))∧Below w.heap.size w w':=Any.strconv_Atoi_range_var Tryz.laysC172 s hlim h tp p w hvar
def Tryz.lays99_ren:Go.Shelf.Ren:=⟨fun | 99=>148 | 206=>184 | n=>n,fun | 9=>9 | 4=>4 | 3=>3 | n=>n,fun | n=>n⟩
theorem Tryz.lays99 : Go.Proofs.Lays.n99 Tryz.prog Tryz.lays99_ren := {
  mixed:=by kernel_rfl
  f99:=Tryz.func148.trans (congrArg some (by kernel_rfl))
  f206:=Tryz.func184.trans (congrArg some (by kernel_rfl))
  t3:=Tryz.underlying3
  a3:=Tryz.isAgg3
  z3:=Tryz.sizeOf3
  v3:=Tryz.zeroValue3
  t4:=Tryz.underlying4
  a4:=Tryz.isAgg4
  z4:=Tryz.sizeOf4
  v4:=Tryz.zeroValue4
  t9:=Tryz.underlying9
  a9:=Tryz.isAgg9
  z9:=Tryz.sizeOf9
  v9:=Tryz.zeroValue9 }
open Go.RowKit Go.Lib in
theorem Tryz.strings_HasPrefix (s p : ByteArray) (w : World) :
    Calls Tryz.prog 148 #[.string s,.string p] w fun e w'=>e=.returned (.bool (Lib.hasPrefix s.data.toList p.data.toList))∧w'=w:=Any.strings_HasPrefix Tryz.lays99 s p w
end Go.Proofs
end
namespace Go.Proofs.YtgojhpocpajmlaaGreatDoor
section
open Tryz
open Ex
set_option linter.unusedVariables false
set_option linter.unusedSimpArgs false
def zd : (Nat → Prop) → World → Prop := VarI prog "strconv.ErrRange"
theorem zd.loc:Ex.Loc zd:=VarI.loc _ _
theorem c_pfx (a b:ByteArray) (w:World):Calls prog 148 #[.string a,.string b] w (Ret w (.bool (Go.Lib.hasPrefix a.data.toList b.data.toList))):=(Tryz.strings_HasPrefix a b w).mono fun e w' ⟨he,hw⟩=>⟨he,by rw [hw]; exact Fr.refl _ _⟩
theorem c_atoi (t : ByteArray) (P0 : Nat → Prop) (w : World) (hP0 : ∀ b, P0 b → b < w.heap.size) (hne : t.data.toList ≠ []) (hd : ∀ c ∈ t.data.toList, 48 ≤ c.toNat ∧ c.toNat ≤ 57) (hl : t.size ≤ 2000) (hE : zd P0 w) :
    Calls prog 212 #[.string t] w (RetE w P0 (fun z:Int × Value=>.tuple (List.toArray [iV z.1,z.2])) (fun z=>Pz.AtoiR t.data.toList z) (fun _ _ _=>True)):=by
 rcases Pz.atoi_dig hne hd with ⟨h1,h2⟩ | ⟨h1,h2⟩
 · refine (Tryz.strconv_Atoi_ok t (by omega) _ h1 w).mono fun e w' ⟨he,hw⟩=>⟨((Pz.dval t.data.toList:Int),.nilIface),fun _=>False,he,.inl ⟨rfl,rfl⟩,?_,fun _ h=>h.elim,trivial⟩
   rcases hw with rfl | ⟨x,rfl⟩
   · exact Fr.refl _ _
   exact Fr.of_below (Go.Lib.bytesWorld_below _ _ _)
 obtain ⟨_,tp,q,hv⟩:=hE
 refine (Tryz.strconv_Atoi_range_var t (by omega) h1 tp q w hv).mono fun e w' ⟨N,he,_,_,hb⟩=>⟨(Go.Lib.atoiSat t.data.toList,_),fun _=>False,he,.inr ⟨⟨_,_,rfl⟩,Pz.sat_dig hd,h2⟩,Fr.of_below hb,fun _ h=>h.elim,trivial⟩
theorem vj (p : Nat) (s : ByteArray) (i : Nat) (n : Int) (err : Int) (Pb : Nat → Prop) (w : World) (hG : Mem w ⟨fpOf [Rb 114 p s i n, .pub zd], Pb⟩ [Rb 114 p s i n, .pub zd] w)  :
    Calls prog 54 #[.pointer (some ⟨p,0,none⟩),iV err] w (RetX w [Rb 114 p s i n,.pub zd] Pb 111 (fun _:Unit=>.tuple #[]) (fun _=>False) (fun _=>[Rb 114 p s i n,.pub zd]) (fun f=>f=(err,(i:Int)))):=by
 refine fstart (N:=12) (vals:=[.pointer (some ⟨p,0,none⟩),iV err]) (S:=Mem w ⟨fpOf [Rb 114 p s i n,.pub zd],Pb⟩ [Rb 114 p s i n,.pub zd]) func54 rfl rfl rfl hG (zL (zE rfl (zE rfl (zB (zT rfl) (zB (za rfl fld114_1) (zB (zg 0 rfl rfl rfl flat3) (zB (zz [iV err,iV i] pl61 inf61 rfl rfl) (zB (zz [iV err,iV i] pl111 inf111 rfl rfl) (zB (r_mkI rfl (by kernel_rfl)) (l_panic wn rfl (yE fun w1 hM=>?_)))))))))))
 exact hM.yS (err,(i:Int)) rfl
theorem uf (p : Nat) (s : ByteArray) (i : Nat) (n : Int) (Pb : Nat → Prop) (w : World) (hG : Mem w ⟨fpOf [Rb 114 p s i n, .pub zd], Pb⟩ [Rb 114 p s i n, .pub zd] w) (hi : i ≤ s.size) (hs : s.size ≤ 2000) :
    Calls prog 53 #[.pointer (some ⟨p,0,none⟩)] w (RetA w [Rb 114 p s i n,.pub zd] Pb (fun _:Nat=>.tuple #[]) (fun z=>Pz.blank s i=z∧i≤z∧z≤s.size) (fun z=>[Rb 114 p s z n,.pub zd])):=by
 refine fstart (N:=31) (vals:=[.pointer (some ⟨p,0,none⟩)]) (S:=Mem w ⟨fpOf [Rb 114 p s i n,.pub zd],Pb⟩ [Rb 114 p s i n,.pub zd]) func53 rfl rfl rfl hG (zk (y8 (fun (k:Nat)=>[(0,.pointer (some ⟨p,0,none⟩))]) (fun (k:Nat)=>[Rb 114 p s k n,.pub zd]) (fun (k:Nat)=>i≤k∧k≤s.size∧Pz.blank s i=Pz.blank s k) (fun (k:Nat)=>s.size - k) i (sc rfl sn) (fun _ h=>h) ?_ (fun k hI1=>?_)))
 · exact ⟨Nat.le_refl _,hi,rfl⟩
 refine zS fun _ hK1=>zS fun _ hK2=>vN mix (by kernel_rfl) (fun _ h=>h.drew) (yn rfl (zq (zT rfl) (zq (za rfl fld114_1) (zq (zg 0 rfl rfl rfl flat3) (yn rfl (zq (zT rfl) (zq (za rfl fld114_0) (zq (zg 0 rfl rfl rfl flat9) (zq (uV rfl underlying9) ?_)))))))))
 refine zq (yR rfl rfl) (yn rfl (vh (t:=12) rfl (fun h1=>?_) (fun h1=>?_)))
 · refine yL (zi rfl) (yL (zT rfl) (yL (za rfl fld114_0) (yL (zg 0 rfl rfl rfl flat9) (yL (zi rfl) (yL (zT rfl) (yL (za rfl fld114_1) (yL (zg 0 rfl rfl rfl flat3) ?_)))))))
   obtain ⟨c1,hc1⟩:∃ x,s[k]?=some x:=⟨_,byte_at (by first | omega | (simp <;> omega))⟩
   refine yL (jI rfl rfl (by omega) hc1 underlying9) (yL (yf rfl rfl) (zq (zM rfl rfl) (vJ (zy hK2 (zZ rfl (fun h2=>?_) (fun h2=>?_))))))
   · refine yK hK1 (zk (zL (zE rfl (zB (zT rfl) (zB (za rfl fld114_1) (zB (zg 0 rfl rfl rfl flat3) (zB (zw rfl rfl (by omega)) (zB (zT rfl) (zB (za rfl fld114_1) (yt 0 wn rfl rfl rfl rfl inf3 rfl rfl (zl (zm (yX (k + 1) (sc rfl sn) (fun _ h=>h) ?_ ?_)))))))))))))
     · exact ⟨by omega,by omega,hI1.2.2.trans (Pz.blank_step hc1 h2)⟩
     omega
   refine yZ (yH (yj (yI (jX (.inr rfl) results53  fun w1 hM=>?_))))
   exact hM.vV (k) rfl ⟨hI1.2.2.trans (Pz.blank_stop hc1 h2),hI1.1,hI1.2.1⟩ (fun h=>h.sel [0,1] (by decide) rfl)
 refine yB (yB (yB (yB (yB (yB (yB (yB (yB (yB (zq (zM rfl rfl) (vJ (zy hK2 ?_))))))))))))
 refine yr rfl rfl (yZ (yH (yj (yI (jX (.inr rfl) results53  fun w1 hM=>?_)))))
 exact hM.vV (k) rfl ⟨hI1.2.2.trans (Pz.blank_end (by omega)),hI1.1,hI1.2.1⟩ (fun h=>h.sel [0,1] (by decide) rfl)
theorem ui (p : Nat) (s : ByteArray) (i : Nat) (n : Int) (sg : ByteArray) (Pb : Nat → Prop) (w : World) (hG : Mem w ⟨fpOf [Rb 114 p s i n, .pub zd], Pb⟩ [Rb 114 p s i n, .pub zd] w) (hi : i ≤ s.size) (hs : s.size ≤ 2000) :
    Calls prog 98 #[.pointer (some ⟨p,0,none⟩),.string sg] w (RetA w [Rb 114 p s i n,.pub zd] Pb (fun z:Bool × Nat=>.bool z.1) (fun z=>Pz.eat s sg i=z∧i≤z.2∧z.2≤s.size) (fun z=>[Rb 114 p s z.2 n,.pub zd])):=by
 refine fstart (N:=28) (vals:=[.pointer (some ⟨p,0,none⟩),.string sg]) (S:=Mem w ⟨fpOf [Rb 114 p s i n,.pub zd],Pb⟩ [Rb 114 p s i n,.pub zd]) func98 rfl rfl rfl hG (zG fun _ hK1=>zP rfl (zD hK1 (zG fun _ hK2=>zE rfl (vO (α:=Nat) [Rb 114 p s i n,.pub zd] [] (fun _=>.tuple #[]) (fun j1=>(Pz.blank s i=j1∧i≤j1∧j1≤s.size)) (fun j1=>[Rb 114 p s j1 n,.pub zd]) _ (fun _=>rfl) (S9 [0,1]) (fun _=>rfl) wn rfl rfl call53 rfl (fun w1 Pb hG=>uf p s i n Pb w1 hG (by omega) (by omega)) fun j1 hz1=>?_))))
 obtain ⟨hz1e,hz1a,hz1b⟩:=hz1
 refine zD hK2 (zS fun _ hK3=>zS fun _ hK4=>vN mix (by kernel_rfl) (fun _ h=>h.drew) (yn rfl (zq (zT rfl) (zq (za rfl fld114_0) (zq (zg 0 rfl rfl rfl flat9) (yn rfl (zq (zT rfl) (zq (za rfl fld114_1) (zq (zg 0 rfl rfl rfl flat3) ?_)))))))))
 refine zq (r_sslice_l (l:=j1) rfl rfl (by omega) (by first | omega | (simp <;> omega)) underlying9) (yn rfl (vP wn rfl call148 rfl (fun w1 hM=>c_pfx (s.extract j1 s.size) sg w1) (zq (vC rfl) (vJ (zy hK4 (yp rfl (fun h1=>?_) (fun h1=>?_)))))))
 · refine zG fun _ hK5=>zP rfl (zD hK5 (zX (zK (zY (.inl rfl) results98 (zR rfl) fun w1 hM=>?_))))
   have h9:Pz.eat s sg i=(false,j1):=Pz.eat_no hz1e (by rw [← Pz.pfx_ext]; simpa using h1)
   exact hM.vV (false,j1) rfl ⟨h9,by have:=Pz.eat_le sg hi; rw [h9] at this; exact this⟩ (fun h=>h.sel [0,1] (by decide) rfl)
 refine yK hK3 (zG fun _ hK6=>?_)
 have hpl:=Pz.pfx_le (s:=s) (sg:=sg) (i:=j1) (by rw [← Pz.pfx_ext]; simpa using h1) (by omega)
 refine zE rfl (zB (zT rfl) (zB (za rfl fld114_1) (zB (zg 0 rfl rfl rfl flat3) (zE rfl (zB (uV rfl underlying9) (zB (zw rfl rfl (by omega)) (zB (zT rfl) (zB (za rfl fld114_1) (yt 0 wn rfl rfl rfl rfl inf3 rfl rfl (zD hK6 (zG fun _ hK7=>?_)))))))))))
 refine zP rfl (zD hK7 (zX (zY (.inl rfl) results98 (zR rfl) fun w1 hM=>?_)))
 have h9:Pz.eat s sg i=(true,(j1 + sg.size)):=Pz.eat_yes hz1e (by rw [← Pz.pfx_ext]; simpa using h1)
 exact hM.vV (true,(j1 + sg.size)) rfl ⟨h9,by have:=Pz.eat_le sg hi; rw [h9] at this; exact this⟩ (fun h=>h.sel [0,1] (by decide) rfl)
theorem uA (p : Nat) (s : ByteArray) (i : Nat) (n : Int) (sg : ByteArray) (Pb : Nat → Prop) (w : World) (hG : Mem w ⟨fpOf [Rb 114 p s i n, .pub zd], Pb⟩ [Rb 114 p s i n, .pub zd] w) (hi : i ≤ s.size) (hs : s.size ≤ 2000) (hn : 0 ≤ n ∧ n ≤ 100) :
    Calls prog 179 #[.pointer (some ⟨p,0,none⟩),.string sg] w (RetX w [Rb 114 p s i n,.pub zd] Pb 111 (fun z:Pz.St=>.tuple #[]) (fun z=>Pz.must s sg ⟨i,n⟩=.ok z∧Pz.Good s ⟨i,n⟩ z) (fun z=>[Rb 114 p s z.at_ z.nd,.pub zd]) (fun f=>Pz.must s sg ⟨i,n⟩=.no f)):=by
 refine fstart (N:=10) (vals:=[.pointer (some ⟨p,0,none⟩),.string sg]) (S:=Mem w ⟨fpOf [Rb 114 p s i n,.pub zd],Pb⟩ [Rb 114 p s i n,.pub zd]) func179 rfl rfl rfl hG (zG fun _ hK1=>zE rfl (zE rfl (vO (α:=(Bool × Nat)) [Rb 114 p s i n,.pub zd] [] (fun z:Bool × Nat=>.bool z.1) (fun z1=>(Pz.eat s sg i=z1∧i≤z1.2∧z1.2≤s.size)) (fun z1=>[Rb 114 p s z1.2 n,.pub zd]) _ (fun _=>rfl) (S9 [0,1]) (fun _=>rfl) wn rfl rfl call98 rfl (fun w1 Pb hG=>ui p s i n sg Pb w1 hG (by omega) (by omega)) fun z1 hz1=>?_)))
 obtain ⟨bo1,j1⟩:=z1
 have he1:Pz.eat s sg i=(bo1,j1):=hz1.1
 have hz1a:i≤j1:=hz1.2.1
 have hz1b:j1≤s.size:=hz1.2.2
 refine vR 6 (.bool bo1) [Rb 114 p s j1 n,.pub zd] (zB (vC rfl) (zD hK1 (yp rfl (fun h1=>?_) (fun h1=>?_))))
 · have g1:bo1=false:=by simpa using h1
   refine zL (zE rfl (yJ (α:=Unit) (PT:=111) [Rb 114 p s j1 n,.pub zd] [] (fun _:Unit=>.tuple #[]) (fun z2=>False) (fun z2=>[Rb 114 p s j1 n,.pub zd]) _ (fun f1=>f1=(2,(j1:Int))) (fun _=>rfl) (S9 [0,1]) (fun _=>rfl) wn rfl rfl call54 rfl (fun w1 Pb hG=>vj p s j1 n 2 Pb w1 hG) ?_ fun z2 hz2=>?_))
   · intro f1 hf1
     refine yE fun w1 hM=>?_
     exact hM.yS f1 (by first | (simp only [Pz.then_ok,Pz.then_no,Pz.St.go,lgc,Pz.must,he1,g1,h1,hf1]; done) | simp [Pz.then_ok,Pz.then_no,Pz.St.go,lgc,Pz.must,he1,g1,h1,hf1])
   exact hz2.elim
 have g2:bo1=true:=by simpa using h1
 refine yU (jX (.inr rfl) results179  fun w1 hM=>?_)
 have h9:Pz.must s sg ⟨i,n⟩=.ok ⟨j1,n⟩:=by first | (simp only [Pz.then_ok,Pz.then_no,Pz.St.go,lgc,Pz.must,he1,g2,h1]; done) | simp [Pz.then_ok,Pz.then_no,Pz.St.go,lgc,Pz.must,he1,g2,h1]
 exact hM.uX (⟨j1,n⟩:Pz.St) rfl ⟨h9,(Pz.must_fine _ hi).ok_ h9⟩ (fun h=>h.sel [0,1] (by decide) rfl)
theorem jz (p : Nat) (s : ByteArray) (i : Nat) (n : Int) (Pb : Nat → Prop) (w : World) (hG : Mem w ⟨fpOf [Rb 114 p s i n, .pub zd], Pb⟩ [Rb 114 p s i n, .pub zd] w) (hi : i ≤ s.size) (hs : s.size ≤ 2000) (hn : 0 ≤ n ∧ n ≤ 100) :
    Calls prog 180 #[.pointer (some ⟨p,0,none⟩)] w (RetX w [Rb 114 p s i n,.pub zd] Pb 111 (fun z:ByteArray × Pz.St=>.string z.1) (fun z=>Pz.word s ⟨i,n⟩=.ok z∧Pz.Good s ⟨i,n⟩ z.2) (fun z=>[Rb 114 p s z.2.at_ z.2.nd,.pub zd]) (fun f=>Pz.word s ⟨i,n⟩=.no f)):=by
 refine fstart (N:=73) (vals:=[.pointer (some ⟨p,0,none⟩)]) (S:=Mem w ⟨fpOf [Rb 114 p s i n,.pub zd],Pb⟩ [Rb 114 p s i n,.pub zd]) func180 rfl rfl rfl hG (zG fun _ hK1=>zP rfl (zD hK1 (zG fun _ hK2=>zE rfl (vO (α:=Nat) [Rb 114 p s i n,.pub zd] [] (fun _=>.tuple #[]) (fun j1=>(Pz.blank s i=j1∧i≤j1∧j1≤s.size)) (fun j1=>[Rb 114 p s j1 n,.pub zd]) _ (fun _=>rfl) (S9 [0,1]) (fun _=>rfl) wn rfl rfl call53 rfl (fun w1 Pb hG=>uf p s i n Pb w1 hG (by omega) (by omega)) fun j1 hz1=>?_))))
 obtain ⟨hz1e,hz1a,hz1b⟩:=hz1
 refine zD hK2 (zG fun _ hK3=>zE rfl (zB (zT rfl) (zB (za rfl fld114_1) (zB (zg 0 rfl rfl rfl flat3) (zP rfl (zD hK3 (vm [(0,.pointer (some ⟨p,0,none⟩)),(3,iV ((Pz.wend s j1):Int))] (Mem w ⟨fpOf [Rb 114 p s i n,.pub zd],Pb⟩ [.pub (fun _ _=>j1≤Pz.wend s j1∧Pz.wend s j1≤s.size),Rb 114 p s j1 n,.pub zd]) (fun _ hK4=>?_) ?_)))))))
 · refine zk (y8 (fun (k:Nat)=>[(0,.pointer (some ⟨p,0,none⟩)),(3,iV k)]) (fun (k:Nat)=>[Rb 114 p s j1 n,.pub zd]) (fun (k:Nat)=>(k=j1∨(j1 < k∧Pz.wend s j1=Pz.run Pz.wch s k))∧j1≤k∧k≤s.size) (fun (k:Nat)=>s.size - k) j1 (sc rfl (sc rfl sn)) (fun _ h=>h) ?_ (fun k hI1=>?_))
   · exact ⟨.inl rfl,Nat.le_refl _,by omega⟩
   refine zS fun _ hK5=>zG fun _ hK6=>zE rfl (zE rfl (zB (zT rfl) (zB (za rfl fld114_0) (zB (zg 0 rfl rfl rfl flat9) (zB (uV rfl underlying9) (zB (yR rfl rfl) (zD hK6 (zZ rfl (fun h1=>?_) (fun h1=>?_)))))))))
   · refine yK hK5 (zk (zG fun _ hK7=>zE rfl (zB (zT rfl) (zB (za rfl fld114_0) (zB (zg 0 rfl rfl rfl flat9) (zE rfl ?_))))))
     obtain ⟨c1,hc1⟩:∃ x,s[k]?=some x:=⟨_,byte_at (by first | omega | (simp <;> omega))⟩
     refine zB (jI rfl rfl (by omega) hc1 underlying9) (zP rfl (zD hK7 (zS fun _ hK8=>vm [(0,.pointer (some ⟨p,0,none⟩)),(3,iV k),(50,.bool (decide ((((c1.toNat:Int) < 97)∧(((k:Int)=(j1:Int))∨((((c1.toNat:Int) < 48)∧((c1.toNat:Int)≠95))∨(¬ ((c1.toNat:Int) < 48)∧((57 < (c1.toNat:Int))∧((c1.toNat:Int)≠95))))))∨(¬ ((c1.toNat:Int) < 97)∧((122 < (c1.toNat:Int))∧(((k:Int)=(j1:Int))∨((((c1.toNat:Int) < 48)∧((c1.toNat:Int)≠95))∨(¬ ((c1.toNat:Int) < 48)∧((57 < (c1.toNat:Int))∧((c1.toNat:Int)≠95))))))))))] (Mem w ⟨fpOf [Rb 114 p s i n,.pub zd],Pb⟩ [Rb 114 p s j1 n,.pub zd]) (fun _ hK9=>?_) ?_)))
     · refine zL (zE rfl (zB (yR rfl rfl) (zE rfl (yQ (t:=27) rfl (fun h2=>?_) (fun h2=>?_)))))
       · refine zQ (zQ (zB (zM rfl rfl) (zE rfl (zb (zi rfl) (zb (zi rfl) (zb (zT rfl) (zb (za rfl fld114_1) (zb (zg 0 rfl rfl rfl flat3) (zb (yf rfl rfl) (zb (zi rfl) (yQ (t:=38) rfl (fun h3=>?_) (fun h3=>?_))))))))))))
         · refine zQ (zQ (zQ (y7 (wu rfl rfl) rfl (y7 (wu rfl rfl) rfl (zQ (zQ (y7 (wu rfl rfl) rfl (y7 (wu rfl rfl) rfl (zQ (zb (zM rfl rfl) (zB (zM rfl rfl) ?_)))))))))))
           refine zl (ym hK9 (sc rfl (sc rfl (sc (jt (Or.inl ⟨h2,(Or.inl h3)⟩)) sn))) (fun _ h=>h))
         refine zb (zi rfl) (zb (yR rfl rfl) (zb (zi rfl) (yQ (t:=41) rfl (fun h4=>?_) (fun h4=>?_))))
         · refine zQ (zQ (zb (zM rfl rfl) (zb (zi rfl) (zb (zi rfl) (zb (vD rfl rfl) (zb (zM rfl rfl) (zb (zM rfl rfl) (zB (zM rfl rfl) ?_))))))))
           refine zl (ym hK9 (sc rfl (sc rfl (sc (jp (iff_ite_l h2 (iff_or_right h3 (iff_ite_l h4 Iff.rfl)))) sn))) (fun _ h=>h))
         refine zb (zi rfl) (zb (vH rfl rfl) (zb (zM rfl rfl) (zb (zi rfl) (yQ (t:=45) rfl (fun h5=>?_) (fun h5=>?_)))))
         · refine zb (zi rfl) (zb (vD rfl rfl) (zb (zM rfl rfl) (zb (zM rfl rfl) (zB (zM rfl rfl) ?_))))
           refine zl (ym hK9 (sc rfl (sc rfl (sc (jp (iff_ite_l h2 (iff_or_right h3 (iff_ite_r h4 (iff_and_right h5 Iff.rfl))))) sn))) (fun _ h=>h))
         refine zQ (zQ (zb (zM rfl rfl) (zb (zM rfl rfl) (zB (zM rfl rfl) ?_))))
         refine zl (ym hK9 (sc rfl (sc rfl (sc (jf (fun g=>g.elim (fun k=>(fun g=>g.elim h3 (fun g=>g.elim (fun k=>h4 k.1) (fun k=>(fun g=>h5 g.1) k.2))) k.2) (fun k=>k.1 h2))) sn))) (fun _ h=>h))
       refine zb (zi rfl) (zb (vH rfl rfl) (zB (zM rfl rfl) (zE rfl (yQ (t:=31) rfl (fun h6=>?_) (fun h6=>?_)))))
       · refine zb (zi rfl) (zb (zi rfl) (zb (zT rfl) (zb (za rfl fld114_1) (zb (zg 0 rfl rfl rfl flat3) (zb (yf rfl rfl) (zb (zi rfl) (yQ (t:=38) rfl (fun h7=>?_) (fun h7=>?_))))))))
         · refine zQ (zQ (zQ (y7 (wu rfl rfl) rfl (y7 (wu rfl rfl) rfl (zQ (zQ (y7 (wu rfl rfl) rfl (y7 (wu rfl rfl) rfl (zQ (zb (zM rfl rfl) (zB (zM rfl rfl) ?_)))))))))))
           refine zl (ym hK9 (sc rfl (sc rfl (sc (jt (Or.inr ⟨h2,⟨h6,(Or.inl h7)⟩⟩)) sn))) (fun _ h=>h))
         refine zb (zi rfl) (zb (yR rfl rfl) (zb (zi rfl) (yQ (t:=41) rfl (fun h8=>?_) (fun h8=>?_))))
         · refine zQ (zQ (zb (zM rfl rfl) (zb (zi rfl) (zb (zi rfl) (zb (vD rfl rfl) (zb (zM rfl rfl) (zb (zM rfl rfl) (zB (zM rfl rfl) ?_))))))))
           refine zl (ym hK9 (sc rfl (sc rfl (sc (jp (iff_ite_r h2 (iff_and_right h6 (iff_or_right h7 (iff_ite_l h8 Iff.rfl))))) sn))) (fun _ h=>h))
         refine zb (zi rfl) (zb (vH rfl rfl) (zb (zM rfl rfl) (zb (zi rfl) (yQ (t:=45) rfl (fun h9=>?_) (fun h9=>?_)))))
         · refine zb (zi rfl) (zb (vD rfl rfl) (zb (zM rfl rfl) (zb (zM rfl rfl) (zB (zM rfl rfl) ?_))))
           refine zl (ym hK9 (sc rfl (sc rfl (sc (jp (iff_ite_r h2 (iff_and_right h6 (iff_or_right h7 (iff_ite_r h8 (iff_and_right h9 Iff.rfl)))))) sn))) (fun _ h=>h))
         refine zQ (zQ (zb (zM rfl rfl) (zb (zM rfl rfl) (zB (zM rfl rfl) ?_))))
         refine zl (ym hK9 (sc rfl (sc rfl (sc (jf (fun g=>g.elim (fun k=>h2 k.1) (fun k=>(fun g=>(fun g=>g.elim h7 (fun g=>g.elim (fun k=>h8 k.1) (fun k=>(fun g=>h9 g.1) k.2))) g.2) k.2))) sn))) (fun _ h=>h))
       refine zQ (zQ (zQ (zQ (zQ (zQ (zQ (y7 (wu rfl rfl) rfl (y7 (wu rfl rfl) rfl (y7 (wu rfl rfl) rfl (y7 (wu rfl rfl) rfl (y7 (wu rfl rfl) rfl ?_)))))))))))
       refine y7 (wu rfl rfl) rfl (y7 (wu rfl rfl) rfl (y7 (wu rfl rfl) rfl (y7 (wu rfl rfl) rfl (y7 (wu rfl rfl) rfl (zQ (zB (zM rfl rfl) ?_))))))
       refine zl (ym hK9 (sc rfl (sc rfl (sc (jf (fun g=>g.elim (fun k=>h2 k.1) (fun k=>(fun g=>h6 g.1) k.2))) sn))) (fun _ h=>h))
     refine zZ rfl (fun h10=>?_) (fun h10=>?_)
     · have hw9:Pz.wend s j1=k:=Pz.wend_done hc1 hI1.1 (by omega)
       refine yZ (yH (uo rfl (yj (yI (ym hK4 (sc rfl (sc (ji (by omega)) sn)) (fun _ h=>have h:=Mem.fact ((by rw [hw9]; exact ⟨hI1.2.1,hI1.2.2⟩)) h; h))))))
     refine yK hK8 (zL (zE rfl (zB (zw rfl rfl (by omega)) (zP rfl (zl (zm (yX (k + 1) (sc rfl (sc (ji (by omega)) sn)) (fun _ h=>h) ?_ ?_)))))))
     · exact ⟨.inr ⟨by omega,Pz.wend_next hc1 hI1.1 (by omega)⟩,by omega,by omega⟩
     omega
   have hw9:Pz.wend s j1=k:=Pz.wend_end (by omega) hI1.1
   refine yZ (yH (yj (yI (ym hK4 (sc rfl (sc (ji (by omega)) sn)) (fun _ h=>have h:=Mem.fact ((by rw [hw9]; exact ⟨hI1.2.1,hI1.2.2⟩)) h; h)))))
 refine c_fact fun hF=>zS fun _ hK10=>vN mix (by kernel_rfl) (fun _ h=>h.drew) (yn rfl (zq (zT rfl) (zq (za rfl fld114_0) (zq (zg 0 rfl rfl rfl flat9) (yn rfl (zq (zT rfl) (zq (za rfl fld114_1) (zq (zg 0 rfl rfl rfl flat3) (yn rfl ?_)))))))))
 refine zq (r_sslice_lh (l:=j1) (h:=(Pz.wend s j1)) rfl rfl (by omega) rfl (by omega) (by first | omega | (simp <;> omega)) (by first | omega | (simp <;> omega)) underlying9) (zq (yk rfl) (vJ (zy hK10 (zS fun _ hK11=>zG fun _ hK12=>zE rfl (zB (uV rfl underlying9) (zB (vH rfl rfl) (zD hK12 (zZ rfl (fun h11=>?_) (fun h11=>?_)))))))))
 · refine zL (zE rfl (yJ (α:=Unit) (PT:=111) [Rb 114 p s j1 n,.pub zd] [] (fun _:Unit=>.tuple #[]) (fun z1=>False) (fun z1=>[Rb 114 p s j1 n,.pub zd]) _ (fun f1=>f1=(7,(j1:Int))) (fun _=>rfl) (S9 [0,1]) (fun _=>rfl) wn rfl rfl call54 rfl (fun w1 Pb hG=>vj p s j1 n 7 Pb w1 hG) ?_ fun z1 hz2=>?_))
   · intro f1 hf1
     refine zu (yE fun w1 hM=>?_)
     exact hM.yS f1 (by rw [hf1]; exact Pz.word_no hz1e rfl h11 (by omega))
   exact hz2.elim
 refine yK hK11 (zG fun _ hK13=>zE rfl (zE rfl (zB (zT rfl) (zB (za rfl fld114_1) (yt 0 wn rfl rfl rfl rfl inf3 rfl rfl (zD hK13 (zG fun _ hK14=>zE rfl (zP rfl (zD hK14 ?_)))))))))
 refine zX (zY (.inl rfl) results180 (zR rfl) fun w1 hM=>?_)
 have h9:Pz.word s ⟨i,n⟩=.ok ((s.extract j1 (Pz.wend s j1)),⟨(Pz.wend s j1),n⟩):=by exact Pz.word_ok hz1e rfl h11 (by omega)
 exact hM.uX (((s.extract j1 (Pz.wend s j1)),⟨(Pz.wend s j1),n⟩):ByteArray × Pz.St) rfl ⟨h9,(Pz.word_fine hi).ok_ h9⟩ (fun h=>h.sel [0,1] (by decide) rfl)
theorem uG (p : Nat) (s : ByteArray) (i : Nat) (n : Int) (Pb : Nat → Prop) (w : World) (hG : Mem w ⟨fpOf [Rb 114 p s i n, .pub zd], Pb⟩ [Rb 114 p s i n, .pub zd] w) (hi : i ≤ s.size) (hs : s.size ≤ 2000) (hn : 0 ≤ n ∧ n ≤ 100) :
    Calls prog 211 #[.pointer (some ⟨p,0,none⟩)] w (RetX w [Rb 114 p s i n,.pub zd] Pb 111 (fun z:ByteArray × Pz.St=>.string z.1) (fun z=>Pz.name s ⟨i,n⟩=.ok z∧Pz.Good s ⟨i,n⟩ z.2) (fun z=>[Rb 114 p s z.2.at_ z.2.nd,.pub zd]) (fun f=>Pz.name s ⟨i,n⟩=.no f)):=by
 refine fstart (N:=11) (vals:=[.pointer (some ⟨p,0,none⟩)]) (S:=Mem w ⟨fpOf [Rb 114 p s i n,.pub zd],Pb⟩ [Rb 114 p s i n,.pub zd]) func211 rfl rfl rfl hG (zG fun _ hK1=>zP rfl (zD hK1 (zG fun _ hK2=>zE rfl (yJ (α:=ByteArray × Pz.St) (PT:=111) [Rb 114 p s i n,.pub zd] [] (fun z:ByteArray × Pz.St=>.string z.1) (fun z1=>Pz.word s ⟨i,n⟩=.ok z1∧Pz.Good s ⟨i,n⟩ z1.2) (fun z1=>[Rb 114 p s z1.2.at_ z1.2.nd,.pub zd]) _ (fun f1=>Pz.word s ⟨i,n⟩=.no f1) (fun _=>rfl) (S9 [0,1]) (fun _=>rfl) wn rfl rfl call180 rfl (fun w1 Pb hG=>jz p s i n  Pb w1 hG (by omega) (by omega) (by omega) ) ?_ fun z1 hz1=>?_))))
 · intro f1 hf1
   refine zu (yE fun w1 hM=>?_)
   exact hM.yS f1 (by first | (simp only [Pz.then_ok,Pz.then_no,Pz.St.go,lgc,Pz.name,hf1]; done) | simp [Pz.then_ok,Pz.then_no,Pz.St.go,lgc,Pz.name,hf1])
 obtain ⟨wd1,j1,m1⟩:=z1
 have he1:Pz.word s ⟨i,n⟩=.ok (wd1,⟨j1,m1⟩):=hz1.1
 have ga1:j1≤s.size:=hz1.2.at_
 have gm1:n≤m1:=hz1.2.mono
 have gn1:m1≤100:=hz1.2.most (show n≤100 by omega)
 have wz1:wd1.size≤12:=Pz.word_size (t:=⟨i,n⟩) (show i≤_ by omega) he1
 refine vR 5 (.string wd1) [Rb 114 p s j1 m1,.pub zd] (zP rfl (zD hK2 (zS fun _ hK3=>zG fun _ hK4=>zE rfl (zB (vf rfl rfl) (zD hK4 (zZ rfl (fun h1=>?_) (fun h1=>?_)))))))
 · have g1:(wd1=⟨#[]⟩)=True:=eq_true h1
   refine zL (zE rfl (yJ (α:=Unit) (PT:=111) [Rb 114 p s j1 m1,.pub zd] [] (fun _:Unit=>.tuple #[]) (fun z2=>False) (fun z2=>[Rb 114 p s j1 m1,.pub zd]) _ (fun f2=>f2=(2,(j1:Int))) (fun _=>rfl) (S9 [0,1]) (fun _=>rfl) wn rfl rfl call54 rfl (fun w1 Pb hG=>vj p s j1 m1 2 Pb w1 hG) ?_ fun z2 hz2=>?_))
   · intro f2 hf2
     refine zu (yE fun w1 hM=>?_)
     exact hM.yS f2 (by first | (simp only [Pz.then_ok,Pz.then_no,Pz.St.go,lgc,Pz.name,he1,g1,hf2]; done) | simp [Pz.then_ok,Pz.then_no,Pz.St.go,lgc,Pz.name,he1,g1,hf2])
   exact hz2.elim
 have g2:(wd1=⟨#[]⟩)=False:=eq_false h1
 refine yK hK3 (zG fun _ hK5=>zE rfl (zP rfl (zD hK5 (zX (zY (.inl rfl) results211 (zR rfl) fun w1 hM=>?_)))))
 have h9:Pz.name s ⟨i,n⟩=.ok (wd1,⟨j1,m1⟩):=by first | (simp only [Pz.then_ok,Pz.then_no,Pz.St.go,lgc,Pz.name,he1,g2]; done) | simp [Pz.then_ok,Pz.then_no,Pz.St.go,lgc,Pz.name,he1,g2]
 exact hM.uX ((wd1,⟨j1,m1⟩):ByteArray × Pz.St) rfl ⟨h9,(Pz.name_fine hi).ok_ h9⟩ (fun h=>h.sel [0,1] (by decide) rfl)
theorem c_num (p : Nat) (s : ByteArray) (i : Nat) (n : Int) (least : Int) (most : Int) (Pb : Nat → Prop) (w : World) (hG : Mem w ⟨fpOf [Rb 114 p s i n, .pub zd], Pb⟩ [Rb 114 p s i n, .pub zd] w) (hi : i ≤ s.size) (hs : s.size ≤ 2000) (hn : 0 ≤ n ∧ n ≤ 100) (hm : most ≤ 9223372036854775806) :
    Calls prog 182 #[.pointer (some ⟨p,0,none⟩),iV least,iV most] w (RetX w [Rb 114 p s i n,.pub zd] Pb 111 (fun z:Int × Pz.St=>iV z.1) (fun z=>Pz.num s least most ⟨i,n⟩=.ok z∧Pz.Good s ⟨i,n⟩ z.2) (fun z=>[Rb 114 p s z.2.at_ z.2.nd,.pub zd]) (fun f=>Pz.num s least most ⟨i,n⟩=.no f)):=by
 refine fstart (N:=105) (vals:=[.pointer (some ⟨p,0,none⟩),iV least,iV most]) (S:=Mem w ⟨fpOf [Rb 114 p s i n,.pub zd],Pb⟩ [Rb 114 p s i n,.pub zd]) func182 rfl rfl rfl hG (zG fun _ hK1=>zP rfl (zD hK1 (zG fun _ hK2=>zE rfl (vO (α:=Nat) [Rb 114 p s i n,.pub zd] [] (fun _=>.tuple #[]) (fun j1=>(Pz.blank s i=j1∧i≤j1∧j1≤s.size)) (fun j1=>[Rb 114 p s j1 n,.pub zd]) _ (fun _=>rfl) (S9 [0,1]) (fun _=>rfl) wn rfl rfl call53 rfl (fun w1 Pb hG=>uf p s i n Pb w1 hG (by omega) (by omega)) fun j1 hz1=>?_))))
 obtain ⟨hz1e,hz1a,hz1b⟩:=hz1
 refine zD hK2 (zG fun _ hK3=>zE rfl (zB (zT rfl) (zB (za rfl fld114_1) (zB (zg 0 rfl rfl rfl flat3) (zP rfl (zD hK3 (vm [(0,.pointer (some ⟨p,0,none⟩)),(1,iV least),(2,iV most),(7,iV ((Pz.run Pz.dig s j1):Int))] (Mem w ⟨fpOf [Rb 114 p s i n,.pub zd],Pb⟩ [.pub (fun _ _=>j1≤Pz.run Pz.dig s j1∧Pz.run Pz.dig s j1≤s.size),Rb 114 p s j1 n,.pub zd]) (fun _ hK4=>?_) ?_)))))))
 · refine zk (y8 (fun (k:Nat)=>[(0,.pointer (some ⟨p,0,none⟩)),(1,iV least),(2,iV most),(7,iV k)]) (fun (k:Nat)=>[Rb 114 p s j1 n,.pub zd]) (fun (k:Nat)=>Pz.run Pz.dig s j1=Pz.run Pz.dig s k∧j1≤k∧k≤s.size) (fun (k:Nat)=>s.size - k) j1 (sc rfl (sc rfl (sc rfl (sc rfl sn)))) (fun _ h=>h) ?_ (fun k hI1=>?_))
   · exact ⟨rfl,Nat.le_refl _,by omega⟩
   refine zS fun _ hK5=>zG fun _ hK6=>zE rfl (zE rfl (zB (zT rfl) (zB (za rfl fld114_0) (zB (zg 0 rfl rfl rfl flat9) (zB (uV rfl underlying9) (zB (yR rfl rfl) (zE rfl (yQ (t:=23) rfl (fun h1=>?_) (fun h1=>?_)))))))))
   · refine zb (zi rfl) (zb (zT rfl) (zb (za rfl fld114_0) (zb (zg 0 rfl rfl rfl flat9) (zb (zi rfl) ?_))))
     obtain ⟨c1,hc1⟩:∃ x,s[k]?=some x:=⟨_,byte_at (by omega)⟩
     refine zb (jI rfl rfl (by omega) hc1 underlying9) (zb (vn rfl rfl) (zB (zM rfl rfl) (zE rfl (yQ (t:=32) rfl (fun h2=>?_) (fun h2=>?_)))))
     · refine zb (zi rfl) (zb (zT rfl) (zb (za rfl fld114_0) (zb (zg 0 rfl rfl rfl flat9) (zb (zi rfl) (zb (jI rfl rfl (by omega) hc1 underlying9) (zb (u4 rfl rfl) (zB (zM rfl rfl) (zD hK6 (zZ rfl (fun h3=>?_) (fun h3=>?_))))))))))
       · refine yK hK5 (zk (zL (zE rfl (zB (zw rfl rfl (by omega)) (zP rfl (zl (zm (yX (k + 1) (sc rfl (sc rfl (sc rfl (sc (ji (by omega)) sn)))) (fun _ h=>h) ?_ ?_))))))))
         · exact ⟨hI1.1.trans (Pz.dig_step hc1 (by omega)),by omega,by omega⟩
         omega
       have hw9:Pz.run Pz.dig s j1=k:=hI1.1.trans (Pz.dig_stop hc1 (by omega))
       refine yZ (yH (yj (yI (ym hK4 (sc rfl (sc rfl (sc rfl (sc (ji (by omega)) sn)))) (fun _ h=>have h:=Mem.fact ((by rw [hw9]; exact ⟨hI1.2.1,hI1.2.2⟩)) h; h)))))
     refine zQ (zQ (zQ (zQ (zQ (zQ (zQ (zB (zM rfl rfl) (zD hK6 (yr rfl rfl ?_)))))))))
     have hw9:Pz.run Pz.dig s j1=k:=hI1.1.trans (Pz.dig_stop hc1 (by omega))
     refine yZ (yH (yj (yI (ym hK4 (sc rfl (sc rfl (sc rfl (sc (ji (by omega)) sn)))) (fun _ h=>have h:=Mem.fact ((by rw [hw9]; exact ⟨hI1.2.1,hI1.2.2⟩)) h; h)))))
   refine zQ (zQ (zQ (zQ (zQ (zQ (zQ (zB (zM rfl rfl) (zE rfl (zQ (zQ (zQ ?_)))))))))))
   refine zQ (zQ (zQ (zQ (zB (zM rfl rfl) (zD hK6 (yr rfl rfl ?_))))))
   have hw9:Pz.run Pz.dig s j1=k:=hI1.1.trans (Pz.run_end (by omega))
   refine yZ (yH (yj (yI (ym hK4 (sc rfl (sc rfl (sc rfl (sc (ji (by omega)) sn)))) (fun _ h=>have h:=Mem.fact ((by rw [hw9]; exact ⟨hI1.2.1,hI1.2.2⟩)) h; h)))))
 refine c_fact fun hF=>zS fun _ hK7=>zG fun _ hK8=>zE rfl (zE rfl (zB (zT rfl) (zB (za rfl fld114_1) (zB (zg 0 rfl rfl rfl flat3) (zB (yf rfl rfl) (zD hK8 (zZ rfl (fun h4=>?_) (fun h4=>?_))))))))
 · refine zL (zE rfl (yJ (α:=Unit) (PT:=111) [Rb 114 p s j1 n,.pub zd] [] (fun _:Unit=>.tuple #[]) (fun z1=>False) (fun z1=>[Rb 114 p s j1 n,.pub zd]) _ (fun f1=>f1=(2,(j1:Int))) (fun _=>rfl) (S9 [0,1]) (fun _=>rfl) wn rfl rfl call54 rfl (fun w1 Pb hG=>vj p s j1 n 2 Pb w1 hG) ?_ fun z1 hz2=>?_))
   · intro f1 hf1
     refine zu (yE fun w1 hM=>?_)
     exact hM.yS f1 (by rw [hf1]; exact Pz.num_form least most hz1e rfl h4)
   exact hz2.elim
 refine yK hK7 (zS fun _ hK9=>vL (Mem w ⟨fpOf [Rb 114 p s i n,.pub zd],Pb⟩ [Rb 114 p s j1 n,.pub zd]) mix (fun _ h=>h.drew) rfl (u6 (f:=6) [0,1,2,3,4,5,6,7,8,9] rfl rfl (by kernel_rfl) (by kernel_rfl) (fun _ h=>h) fun KS hKS=>yD (zi rfl) (yD (zT rfl) (yD (za rfl fld114_0) (yD (zg 0 rfl rfl rfl flat9) (yD (zi rfl) (yD (zT rfl) (yD (za rfl fld114_1) (yD (zg 0 rfl rfl rfl flat3) ?_)))))))))
 refine yD (zi rfl) (yD (r_sslice_lh (l:=j1) (h:=(Pz.run Pz.dig s j1)) rfl rfl (by omega) rfl (by omega) (by omega) (by omega) underlying9) (yd hKS (yY 5 10 (yN (i:=10) rfl fun KN hKN hPN=>vi (β:=Int × Value) (fun z=>.tuple (List.toArray [iV z.1,z.2])) (fun z=>Pz.AtoiR (s.extract j1 (Pz.run Pz.dig s j1)).data.toList z) (fun _ _ _=>True) (fun _=>fun _ _ _ _ _ _ _=>trivial) wn rfl call212 rfl (fun w1 Pb hM pp=>c_atoi (s.extract j1 (Pz.run Pz.dig s j1)) Pb w1 pp.lt (Pz.atoi_lt h4 rfl (by omega)) (Pz.ext_dig rfl) (by rw [Pz.ext_size _ (by omega)]; omega) (pp.at_ 1 _ rfl)) fun z2 hz3=>ul (fun _ h=>h.drop1) (zl (hKN _ _ (fun _ h=>h) (u6 (f:=0) [11,12,13,14,15] rfl rfl (by kernel_rfl) (by kernel_rfl) (fun _ h=>h) fun KS hKS=>yD (zi rfl) (yD (yG rfl rfl) (yD (yG rfl rfl) ?_)))))))))
 refine yD (yk rfl) (yD (yk rfl) (yd hKS (yu (by kernel_rfl) (zy hK9 (zS fun _ hK10=>zS fun _ hK11=>vN mix (by kernel_rfl) (fun _ h=>h.drew) (yn rfl (zq (r_ineq rfl hz3.ifc underlying183) (yn rfl (jj (t:=67) rfl (fun h5=>?_) (fun h5=>?_))))))))))
 · have g1:(isNil z2.2)=false:=by simpa using h5
   refine yB (yB (yB (zq (zM rfl rfl) (yn rfl (yB (yB (yB (zq (zM rfl rfl) (yn rfl (yB (yB ?_)))))))))))
   refine yB (yB (yB (yB (yB (yB (yB (yB (yB (yx (wu rfl rfl) rfl (yx (wu rfl rfl) rfl (yx (wu rfl rfl) rfl ?_)))))))))))
   refine yx (wu rfl rfl) rfl (yx (wu rfl rfl) rfl (yx (wu rfl rfl) rfl (yx (wu rfl rfl) rfl (yB (zq (zM rfl rfl) (vJ (zy hK11 (vM rfl rfl (zL (zE rfl (yJ (α:=Unit) (PT:=111) [Rb 114 p s j1 n,.pub zd] [] (fun _:Unit=>.tuple #[]) (fun z3=>False) (fun z3=>[Rb 114 p s j1 n,.pub zd]) _ (fun f2=>f2=(3,(j1:Int))) (fun _=>rfl) (S9 [0,1]) (fun _=>rfl) wn rfl rfl call54 rfl (fun w1 Pb hG=>vj p s j1 n 3 Pb w1 hG) ?_ fun z3 hz4=>?_)))))))))))
   · intro f2 hf2
     refine zu (yE fun w1 hM=>?_)
     exact hM.yS f2 (by rw [hf2]; exact Pz.num_no hz1e rfl h4 (Pz.num_bad rfl hz3 hm (.inl h5)))
   exact hz4.elim
 have g2:(isNil z2.2)=true:=by simpa using h5
 refine yL (zi rfl) (yL (zi rfl) (yL (yR rfl rfl) (zq (zM rfl rfl) (yn rfl (vh (t:=72) rfl (fun h6=>?_) (fun h6=>?_))))))
 · refine yB (yB (yB (zq (zM rfl rfl) (yn rfl (yB (yB (yB (yB (yB (yB (yB ?_)))))))))))
   refine yB (yB (yB (yB (yx (wu rfl rfl) rfl (yx (wu rfl rfl) rfl (yx (wu rfl rfl) rfl (yx (wu rfl rfl) rfl (yx (wu rfl rfl) rfl (yx (wu rfl rfl) rfl (yx (wu rfl rfl) rfl (yB ?_)))))))))))
   refine zq (zM rfl rfl) (vJ (zy hK11 (vM rfl rfl (zL (zE rfl (yJ (α:=Unit) (PT:=111) [Rb 114 p s j1 n,.pub zd] [] (fun _:Unit=>.tuple #[]) (fun z4=>False) (fun z4=>[Rb 114 p s j1 n,.pub zd]) _ (fun f3=>f3=(3,(j1:Int))) (fun _=>rfl) (S9 [0,1]) (fun _=>rfl) wn rfl rfl call54 rfl (fun w1 Pb hG=>vj p s j1 n 3 Pb w1 hG) ?_ fun z4 hz5=>?_))))))
   · intro f3 hf3
     refine zu (yE fun w1 hM=>?_)
     exact hM.yS f3 (by rw [hf3]; exact Pz.num_no hz1e rfl h4 (Pz.num_bad rfl hz3 hm (.inr (.inl h6))))
   exact hz5.elim
 refine yL (zi rfl) (yL (zi rfl) (yL (vH rfl rfl) (zq (zM rfl rfl) (yn rfl (vh (t:=77) rfl (fun h7=>?_) (fun h7=>?_))))))
 · refine yB (yB (yB (yB (yB (yB (yB (yB (yB (yB (yB (yx (wu rfl rfl) rfl ?_)))))))))))
   refine yx (wu rfl rfl) rfl (yx (wu rfl rfl) rfl (yx (wu rfl rfl) rfl (yx (wu rfl rfl) rfl (yx (wu rfl rfl) rfl (yx (wu rfl rfl) rfl (yB (zq (zM rfl rfl) (vJ (zy hK11 (vM rfl rfl (zL (zE rfl ?_))))))))))))
   refine yJ (α:=Unit) (PT:=111) [Rb 114 p s j1 n,.pub zd] [] (fun _:Unit=>.tuple #[]) (fun z5=>False) (fun z5=>[Rb 114 p s j1 n,.pub zd]) _ (fun f4=>f4=(3,(j1:Int))) (fun _=>rfl) (S9 [0,1]) (fun _=>rfl) wn rfl rfl call54 rfl (fun w1 Pb hG=>vj p s j1 n 3 Pb w1 hG) ?_ fun z5 hz6=>?_
   · intro f4 hf4
     refine zu (yE fun w1 hM=>?_)
     exact hM.yS f4 (by rw [hf4]; exact Pz.num_no hz1e rfl h4 (Pz.num_bad rfl hz3 hm (.inr (.inr (.inl h7)))))
   exact hz6.elim
 refine yL (zi rfl) (yL (zT rfl) (yL (za rfl fld114_0) (yL (zg 0 rfl rfl rfl flat9) (yL (zi rfl) (yL (zT rfl) (yL (za rfl fld114_1) (yL (zg 0 rfl rfl rfl flat3) ?_)))))))
 obtain ⟨c2,hc2⟩:∃ x,s[j1]?=some x:=⟨_,byte_at (by omega)⟩
 refine yL (jI rfl rfl (by omega) hc2 underlying9) (yL (yf rfl rfl) (yL (zi rfl) (vh (t:=88) rfl (fun h8=>?_) (fun h8=>?_))))
 · refine yL (zi rfl) (yL (zi rfl) (yL (zT rfl) (yL (za rfl fld114_1) (yL (zg 0 rfl rfl rfl flat3) (yL (zw rfl rfl (by omega)) (yL (vH rfl rfl) (yL (zM rfl rfl) (zq (zM rfl rfl) (vJ (zy hK11 (zZ rfl (fun h9=>?_) (fun h9=>?_))))))))))))
   · refine zL (zE rfl (yJ (α:=Unit) (PT:=111) [Rb 114 p s j1 n,.pub zd] [] (fun _:Unit=>.tuple #[]) (fun z6=>False) (fun z6=>[Rb 114 p s j1 n,.pub zd]) _ (fun f5=>f5=(3,(j1:Int))) (fun _=>rfl) (S9 [0,1]) (fun _=>rfl) wn rfl rfl call54 rfl (fun w1 Pb hG=>vj p s j1 n 3 Pb w1 hG) ?_ fun z6 hz7=>?_))
     · intro f5 hf5
       refine zu (yE fun w1 hM=>?_)
       exact hM.yS f5 (by rw [hf5]; exact Pz.num_no hz1e rfl h4 (Pz.num_bad rfl hz3 hm (.inr (.inr (.inr ⟨Pz.at48 hc2 h8,h9⟩)))))
     exact hz7.elim
   refine yK hK10 (zG fun _ hK12=>zE rfl (zE rfl (zB (zT rfl) (zB (za rfl fld114_1) (yt 0 wn rfl rfl rfl rfl inf3 rfl rfl (zD hK12 (zG fun _ hK13=>zE rfl (zP rfl (zD hK13 ?_)))))))))
   refine zX (zY (.inl rfl) results182 (zR rfl) fun w1 hM=>?_)
   have h8:=Pz.num_good rfl hz3 h5 h6 h7 (fun g=>h9 g.2)
   have h9:Pz.num s least most ⟨i,n⟩=.ok (z2.1,⟨(Pz.run Pz.dig s j1),n⟩):=by rw [← h8.2]; exact Pz.num_ok hz1e rfl h4 h8.1
   exact hM.uX ((z2.1,⟨(Pz.run Pz.dig s j1),n⟩):Int × Pz.St) rfl ⟨h9,(Pz.num_fine _ _ hi).ok_ h9⟩ (fun h=>h.sel [0,1] (by decide) rfl)
 refine yB (yB (yB (yB (yB (yB (yB (yL (zM rfl rfl) (zq (zM rfl rfl) (vJ (zy hK11 (yr rfl rfl (yK hK10 ?_))))))))))))
 refine zG fun _ hK14=>zE rfl (zE rfl (zB (zT rfl) (zB (za rfl fld114_1) (yt 0 wn rfl rfl rfl rfl inf3 rfl rfl (zD hK14 (zG fun _ hK15=>zE rfl (zP rfl (zD hK15 (zX (zY (.inl rfl) results182 (zR rfl) fun w1 hM=>?_))))))))))
 have h8:=Pz.num_good rfl hz3 h5 h6 h7 (Pz.not48 hc2 h8)
 have h9:Pz.num s least most ⟨i,n⟩=.ok (z2.1,⟨(Pz.run Pz.dig s j1),n⟩):=by rw [← h8.2]; exact Pz.num_ok hz1e rfl h4 h8.1
 exact hM.uX ((z2.1,⟨(Pz.run Pz.dig s j1),n⟩):Int × Pz.St) rfl ⟨h9,(Pz.num_fine _ _ hi).ok_ h9⟩ (fun h=>h.sel [0,1] (by decide) rfl)
theorem ug (p : Nat) (s : ByteArray) (i : Nat) (n : Int) (k m r : Int) (wd : ByteArray) (A4 : Option Addr) (l4 c4 : Nat) (A5 : Option Addr) (l5 c5 : Nat) (A6 : Option Addr) (l6 c6 : Nat) (Pb : Nat → Prop) (w : World) (hG : Mem w ⟨fpOf [Rb 114 p s i n, .pub zd], Pb⟩ [Rb 114 p s i n, .pub zd] w) (hi : i ≤ s.size) (hs : s.size ≤ 2000) (hn : 0 ≤ n ∧ n ≤ 100) :
    Calls prog 99 #[.pointer (some ⟨p,0,none⟩),.agg (List.toArray [iV k,iV m,iV r,.string wd,.slice A4 l4 c4,.slice A5 l5 c5,.slice A6 l6 c6])] w (RetX w [Rb 114 p s i n,.pub zd] Pb 111 (fun _:Unit=>.agg (List.toArray [iV k,iV m,iV r,.string wd,.slice A4 l4 c4,.slice A5 l5 c5,.slice A6 l6 c6])) (fun _=>n + 1≤100) (fun _=>[Rb 114 p s i (n + 1),.pub zd]) (fun f=>Pz.node ⟨i,n⟩=.no f)):=by
 refine fstart (N:=20) (vals:=[.pointer (some ⟨p,0,none⟩),.agg (List.toArray [iV k,iV m,iV r,.string wd,.slice A4 l4 c4,.slice A5 l5 c5,.slice A6 l6 c6])]) (S:=Mem w ⟨fpOf [Rb 114 p s i n,.pub zd],Pb⟩ [Rb 114 p s i n,.pub zd]) func99 rfl rfl rfl hG (zG fun _ hK1=>vS wn rfl rfl fun b3=>yC wn inf59 rfl fun b4=>zD hK1 (zS fun _ hK2=>zG fun _ hK3=>zE rfl (zB (zT rfl) (zB (za rfl fld114_2) (zB (zg 2 rfl rfl rfl flat3) (zB (zw rfl rfl (by omega)) ?_))))))
 refine zB (zT rfl) (zB (za rfl fld114_2) (yt 2 wn rfl rfl rfl rfl inf3 rfl rfl (zD hK3 (zG fun _ hK4=>zE rfl (zB (zT rfl) (zB (za rfl fld114_2) (zB (zg 2 rfl rfl rfl flat3) (zB (vH rfl rfl) (zD hK4 (zZ rfl (fun h1=>?_) (fun h1=>?_)))))))))))
 · refine zL (zE rfl (yJ (α:=Unit) (PT:=111) [Rb 114 p s i (n + 1),.pub zd] [.blk b4 Zx 59,.blk b3 [iV k,iV m,iV r,.string wd,.slice A4 l4 c4,.slice A5 l5 c5,.slice A6 l6 c6] 59] (fun _:Unit=>.tuple #[]) (fun z1=>False) (fun z1=>[Rb 114 p s i (n + 1),.pub zd]) _ (fun f1=>f1=(4,(i:Int))) (fun _=>rfl) (S9 [2,3,0,1]) (fun _=>rfl) wn rfl rfl call54 rfl (fun w1 Pb hG=>vj p s i (n + 1) 4 Pb w1 hG) ?_ fun z1 hz1=>?_))
   · intro f1 hf1
     refine zu (yE fun w1 hM=>?_)
     exact hM.yS f1 (by rw [hf1]; exact Pz.node_no h1)
   exact hz1.elim
 refine yK hK2 (zG fun _ hK5=>zB (yM 1 [iV k,iV m,iV r,.string wd,.slice A4 l4 c4,.slice A5 l5 c5,.slice A6 l6 c6] rfl rfl rfl rfl agg59 inf59) (zr 0 wn rfl rfl rfl inf59 rfl rfl rfl (zD hK5 (zX (zY (.inl rfl) results99 (zt 0 rfl rfl agg59 inf59 rfl) fun w1 hM=>?_)))))
 exact hM.uX () rfl (by have:=h1; omega) (fun h=>h.sel [2,3] (by decide) rfl)
theorem jH (p : Nat) (s : ByteArray) (i : Nat) (n : Int) (Pb : Nat → Prop) (w : World) (hG : Mem w ⟨fpOf [Rb 114 p s i n, .pub zd], Pb⟩ [Rb 114 p s i n, .pub zd] w) (hi : i ≤ s.size) (hs : s.size ≤ 2000) (hn : 0 ≤ n ∧ n ≤ 100) :
    Calls prog 213 #[.pointer (some ⟨p,0,none⟩)] w (RetX w [Rb 114 p s i n,.pub zd] Pb 111 (fun z:Match × Pz.St=>.agg (yg z.1).toArray) (fun z=>Pz.match_ s ⟨i,n⟩=.ok z∧Pz.Good s ⟨i,n⟩ z.2) (fun z=>[Rb 114 p s z.2.at_ z.2.nd,.pub zd]) (fun f=>Pz.match_ s ⟨i,n⟩=.no f)):=by
 refine fstart (N:=27) (vals:=[.pointer (some ⟨p,0,none⟩)]) (S:=Mem w ⟨fpOf [Rb 114 p s i n,.pub zd],Pb⟩ [Rb 114 p s i n,.pub zd]) func213 rfl rfl rfl hG (zG fun _ hK1=>yC wn inf179 rfl fun b2=>zD hK1 (zS fun _ hK2=>zG fun _ hK3=>zE rfl (vO (α:=(Bool × Nat)) [Rb 114 p s i n,.pub zd] [.blk b2 [iV 0,.string ⟨#[]⟩,.string ⟨#[]⟩] 179] (fun z:Bool × Nat=>.bool z.1) (fun z1=>(Pz.eat s ⟨#[33]⟩ i=z1∧i≤z1.2∧z1.2≤s.size)) (fun z1=>[Rb 114 p s z1.2 n,.pub zd]) _ (fun _=>rfl) (S9 [1,2,0]) (fun _=>rfl) wn rfl rfl call98 rfl (fun w1 Pb hG=>ui p s i n ⟨#[33]⟩ Pb w1 hG (by omega) (by omega)) fun z1 hz1=>?_)))
 obtain ⟨bo1,j1⟩:=z1
 have he1:Pz.eat s ⟨#[33]⟩ i=(bo1,j1):=hz1.1
 have hz1a:i≤j1:=hz1.2.1
 have hz1b:j1≤s.size:=hz1.2.2
 refine vR 5 (.bool bo1) [Rb 114 p s j1 n,.pub zd,.blk b2 [iV 0,.string ⟨#[]⟩,.string ⟨#[]⟩] 179] (zD hK3 (yp rfl (fun h1=>?_) (fun h1=>?_)))
 · refine zG fun _ hK4=>zE rfl (yJ (α:=ByteArray × Pz.St) (PT:=111) [Rb 114 p s j1 n,.pub zd] [.blk b2 [iV 0,.string ⟨#[]⟩,.string ⟨#[]⟩] 179] (fun z:ByteArray × Pz.St=>.string z.1) (fun z2=>Pz.name s ⟨j1,n⟩=.ok z2∧Pz.Good s ⟨j1,n⟩ z2.2) (fun z2=>[Rb 114 p s z2.2.at_ z2.2.nd,.pub zd]) _ (fun f1=>Pz.name s ⟨j1,n⟩=.no f1) (fun _=>rfl) (S9 [0,1,2]) (fun _=>rfl) wn rfl rfl call211 rfl (fun w1 Pb hG=>uG p s j1 n  Pb w1 hG (by omega) (by omega) (by omega) ) ?_ fun z2 hz2=>?_)
   · intro f1 hf1
     refine zu (zu (yE fun w1 hM=>?_))
     exact hM.yS f1 (by first | (simp only [Pz.then_ok,Pz.then_no,Pz.St.go,lgc,Pz.match_,he1,h1,hf1]; done) | simp [Pz.then_ok,Pz.then_no,Pz.St.go,lgc,Pz.match_,he1,h1,hf1])
   obtain ⟨wd1,j2,m1⟩:=z2
   have he2:Pz.name s ⟨j1,n⟩=.ok (wd1,⟨j2,m1⟩):=hz2.1
   have ga1:j2≤s.size:=hz2.2.at_
   have gm1:n≤m1:=hz2.2.mono
   have gn1:m1≤100:=hz2.2.most (show n≤100 by omega)
   have wz1:wd1.size≤12:=Pz.name_size (t:=⟨j1,n⟩) (show j1≤_ by omega) he2
   refine vR 7 (.string wd1) [Rb 114 p s j2 m1,.pub zd,.blk b2 [iV 0,.string ⟨#[]⟩,.string ⟨#[]⟩] 179] (zB (zz [iV 4,.string wd1,.string ⟨#[]⟩] pl179 inf179 rfl rfl) (zr 2 wn rfl rfl rfl inf179 rfl rfl rfl (zD hK4 (zX (zK (zY (.inl rfl) results213 (zt 2 rfl rfl agg179 inf179 rfl) fun w1 hM=>?_))))))
   have h9:Pz.match_ s ⟨i,n⟩=.ok ((⟨4,wd1,⟨#[]⟩⟩:Match),⟨j2,m1⟩):=by first | (simp only [Pz.then_ok,Pz.then_no,Pz.St.go,lgc,Pz.match_,he1,he2,h1]; done) | simp [Pz.then_ok,Pz.then_no,Pz.St.go,lgc,Pz.match_,he1,he2,h1]
   exact hM.uX (((⟨4,wd1,⟨#[]⟩⟩:Match),⟨j2,m1⟩):Match × Pz.St) rfl ⟨h9,(Pz.match_fine hi).ok_ h9⟩ (fun h=>h.sel [0,1] (by decide) rfl)
 have g1:bo1=false:=by simpa using h1
 refine yK hK2 (zG fun _ hK5=>zE rfl (yJ (α:=ByteArray × Pz.St) (PT:=111) [Rb 114 p s j1 n,.pub zd] [.blk b2 [iV 0,.string ⟨#[]⟩,.string ⟨#[]⟩] 179] (fun z:ByteArray × Pz.St=>.string z.1) (fun z3=>Pz.name s ⟨j1,n⟩=.ok z3∧Pz.Good s ⟨j1,n⟩ z3.2) (fun z3=>[Rb 114 p s z3.2.at_ z3.2.nd,.pub zd]) _ (fun f2=>Pz.name s ⟨j1,n⟩=.no f2) (fun _=>rfl) (S9 [0,1,2]) (fun _=>rfl) wn rfl rfl call211 rfl (fun w1 Pb hG=>uG p s j1 n  Pb w1 hG (by omega) (by omega) (by omega) ) ?_ fun z3 hz3=>?_))
 · intro f2 hf2
   refine zu (yE fun w1 hM=>?_)
   exact hM.yS f2 (by first | (simp only [Pz.then_ok,Pz.then_no,Pz.St.go,lgc,Pz.match_,he1,g1,h1,hf2]; done) | simp [Pz.then_ok,Pz.then_no,Pz.St.go,lgc,Pz.match_,he1,g1,h1,hf2])
 obtain ⟨wd2,j3,m2⟩:=z3
 have he3:Pz.name s ⟨j1,n⟩=.ok (wd2,⟨j3,m2⟩):=hz3.1
 have ga2:j3≤s.size:=hz3.2.at_
 have gm2:n≤m2:=hz3.2.mono
 have gn2:m2≤100:=hz3.2.most (show n≤100 by omega)
 have wz2:wd2.size≤12:=Pz.name_size (t:=⟨j1,n⟩) (show j1≤_ by omega) he3
 refine vR 10 (.string wd2) [Rb 114 p s j3 m2,.pub zd,.blk b2 [iV 0,.string ⟨#[]⟩,.string ⟨#[]⟩] 179] (zB (zz [iV 3,.string wd2,.string ⟨#[]⟩] pl179 inf179 rfl rfl) (yC wn inf179 rfl fun b3=>zr 0 wn rfl rfl rfl inf179 rfl rfl rfl (zD hK5 (zS fun _ hK6=>zk (zG fun _ hK7=>zE rfl (vO (α:=(Bool × Nat)) [Rb 114 p s j3 m2,.pub zd] [.blk b3 [iV 3,.string wd2,.string ⟨#[]⟩] 179,.blk b2 [iV 0,.string ⟨#[]⟩,.string ⟨#[]⟩] 179] (fun z:Bool × Nat=>.bool z.1) (fun z4=>(Pz.eat s ⟨#[33,61]⟩ j3=z4∧j3≤z4.2∧z4.2≤s.size)) (fun z4=>[Rb 114 p s z4.2 m2,.pub zd]) _ (fun _=>rfl) (S9 [1,2,0,3]) (fun _=>rfl) wn rfl rfl call98 rfl (fun w1 Pb hG=>ui p s j3 m2 ⟨#[33,61]⟩ Pb w1 hG (by omega) (by omega)) fun z4 hz4=>?_))))))
 obtain ⟨bo2,j4⟩:=z4
 have he4:Pz.eat s ⟨#[33,61]⟩ j3=(bo2,j4):=hz4.1
 have hz4a:j3≤j4:=hz4.2.1
 have hz4b:j4≤s.size:=hz4.2.2
 refine vR 14 (.bool bo2) [Rb 114 p s j4 m2,.pub zd,.blk b3 [iV 3,.string wd2,.string ⟨#[]⟩] 179,.blk b2 [iV 0,.string ⟨#[]⟩,.string ⟨#[]⟩] 179] (zP rfl (zD hK7 (yp rfl (fun h2=>?_) (fun h2=>?_))))
 · refine zL (zE rfl (yJ (α:=ByteArray × Pz.St) (PT:=111) [Rb 114 p s j4 m2,.pub zd] [.blk b3 [iV 3,.string wd2,.string ⟨#[]⟩] 179,.blk b2 [iV 0,.string ⟨#[]⟩,.string ⟨#[]⟩] 179] (fun z:ByteArray × Pz.St=>.string z.1) (fun z5=>Pz.name s ⟨j4,m2⟩=.ok z5∧Pz.Good s ⟨j4,m2⟩ z5.2) (fun z5=>[Rb 114 p s z5.2.at_ z5.2.nd,.pub zd]) _ (fun f3=>Pz.name s ⟨j4,m2⟩=.no f3) (fun _=>rfl) (S9 [0,1,2,3]) (fun _=>rfl) wn rfl rfl call211 rfl (fun w1 Pb hG=>uG p s j4 m2  Pb w1 hG (by omega) (by omega) (by omega) ) ?_ fun z5 hz5=>?_))
   · intro f3 hf3
     refine yv (zu (yE fun w1 hM=>?_))
     exact hM.yS f3 (by first | (simp only [Pz.then_ok,Pz.then_no,Pz.St.go,lgc,Pz.match_,he1,g1,he3,he4,h1,h2,hf3]; done) | simp [Pz.then_ok,Pz.then_no,Pz.St.go,lgc,Pz.match_,he1,g1,he3,he4,h1,h2,hf3])
   obtain ⟨wd3,j5,m3⟩:=z5
   have he5:Pz.name s ⟨j4,m2⟩=.ok (wd3,⟨j5,m3⟩):=hz5.1
   have ga3:j5≤s.size:=hz5.2.at_
   have gm3:m2≤m3:=hz5.2.mono
   have gn3:m3≤100:=hz5.2.most (show m2≤100 by omega)
   have wz3:wd3.size≤12:=Pz.name_size (t:=⟨j4,m2⟩) (show j4≤_ by omega) he5
   refine vR 16 (.string wd3) [Rb 114 p s j5 m3,.pub zd,.blk b3 [iV 3,.string wd2,.string ⟨#[]⟩] 179,.blk b2 [iV 0,.string ⟨#[]⟩,.string ⟨#[]⟩] 179] (zB (za rfl fld179_0) (yt 2 wn rfl rfl rfl rfl inf3 rfl rfl (zB (za rfl fld179_2) (yt 2 wn rfl rfl rfl rfl inf9 rfl rfl (zl (zm (zy hK6 (zG fun _ hK8=>zB (yM 2 [iV 2,.string wd2,.string wd3] rfl rfl rfl rfl agg179 inf179) (zr 3 wn rfl rfl rfl inf179 rfl rfl rfl (zD hK8 (zX (zY (.inl rfl) results213 (zt 3 rfl rfl agg179 inf179 rfl) fun w1 hM=>?_))))))))))))
   have h9:Pz.match_ s ⟨i,n⟩=.ok ((⟨2,wd2,wd3⟩:Match),⟨j5,m3⟩):=by first | (simp only [Pz.then_ok,Pz.then_no,Pz.St.go,lgc,Pz.match_,he1,g1,he3,he4,he5,h1,h2]; done) | simp [Pz.then_ok,Pz.then_no,Pz.St.go,lgc,Pz.match_,he1,g1,he3,he4,he5,h1,h2]
   exact hM.uX (((⟨2,wd2,wd3⟩:Match),⟨j5,m3⟩):Match × Pz.St) rfl ⟨h9,(Pz.match_fine hi).ok_ h9⟩ (fun h=>h.sel [0,1] (by decide) rfl)
 have g2:bo2=false:=by simpa using h2
 refine zG fun _ hK9=>zE rfl (vO (α:=(Bool × Nat)) [Rb 114 p s j4 m2,.pub zd] [.blk b3 [iV 3,.string wd2,.string ⟨#[]⟩] 179,.blk b2 [iV 0,.string ⟨#[]⟩,.string ⟨#[]⟩] 179] (fun z:Bool × Nat=>.bool z.1) (fun z6=>(Pz.eat s ⟨#[61]⟩ j4=z6∧j4≤z6.2∧z6.2≤s.size)) (fun z6=>[Rb 114 p s z6.2 m2,.pub zd]) _ (fun _=>rfl) (S9 [0,1,2,3]) (fun _=>rfl) wn rfl rfl call98 rfl (fun w1 Pb hG=>ui p s j4 m2 ⟨#[61]⟩ Pb w1 hG (by omega) (by omega)) fun z6 hz6=>?_)
 obtain ⟨bo3,j6⟩:=z6
 have he6:Pz.eat s ⟨#[61]⟩ j4=(bo3,j6):=hz6.1
 have hz6a:j4≤j6:=hz6.2.1
 have hz6b:j6≤s.size:=hz6.2.2
 refine vR 21 (.bool bo3) [Rb 114 p s j6 m2,.pub zd,.blk b3 [iV 3,.string wd2,.string ⟨#[]⟩] 179,.blk b2 [iV 0,.string ⟨#[]⟩,.string ⟨#[]⟩] 179] (zP rfl (zD hK9 (yp rfl (fun h3=>?_) (fun h3=>?_))))
 · refine zL (zE rfl (yJ (α:=ByteArray × Pz.St) (PT:=111) [Rb 114 p s j6 m2,.pub zd] [.blk b3 [iV 3,.string wd2,.string ⟨#[]⟩] 179,.blk b2 [iV 0,.string ⟨#[]⟩,.string ⟨#[]⟩] 179] (fun z:ByteArray × Pz.St=>.string z.1) (fun z7=>Pz.name s ⟨j6,m2⟩=.ok z7∧Pz.Good s ⟨j6,m2⟩ z7.2) (fun z7=>[Rb 114 p s z7.2.at_ z7.2.nd,.pub zd]) _ (fun f4=>Pz.name s ⟨j6,m2⟩=.no f4) (fun _=>rfl) (S9 [0,1,2,3]) (fun _=>rfl) wn rfl rfl call211 rfl (fun w1 Pb hG=>uG p s j6 m2  Pb w1 hG (by omega) (by omega) (by omega) ) ?_ fun z7 hz7=>?_))
   · intro f4 hf4
     refine yv (zu (yE fun w1 hM=>?_))
     exact hM.yS f4 (by first | (simp only [Pz.then_ok,Pz.then_no,Pz.St.go,lgc,Pz.match_,he1,g1,he3,he4,g2,he6,h1,h2,h3,hf4]; done) | simp [Pz.then_ok,Pz.then_no,Pz.St.go,lgc,Pz.match_,he1,g1,he3,he4,g2,he6,h1,h2,h3,hf4])
   obtain ⟨wd4,j7,m4⟩:=z7
   have he7:Pz.name s ⟨j6,m2⟩=.ok (wd4,⟨j7,m4⟩):=hz7.1
   have ga4:j7≤s.size:=hz7.2.at_
   have gm4:m2≤m4:=hz7.2.mono
   have gn4:m4≤100:=hz7.2.most (show m2≤100 by omega)
   have wz4:wd4.size≤12:=Pz.name_size (t:=⟨j6,m2⟩) (show j6≤_ by omega) he7
   refine vR 23 (.string wd4) [Rb 114 p s j7 m4,.pub zd,.blk b3 [iV 3,.string wd2,.string ⟨#[]⟩] 179,.blk b2 [iV 0,.string ⟨#[]⟩,.string ⟨#[]⟩] 179] (zB (za rfl fld179_0) (yt 2 wn rfl rfl rfl rfl inf3 rfl rfl (zB (za rfl fld179_2) (yt 2 wn rfl rfl rfl rfl inf9 rfl rfl (zl (zm (zy hK6 (zG fun _ hK10=>zB (yM 2 [iV 1,.string wd2,.string wd4] rfl rfl rfl rfl agg179 inf179) (zr 3 wn rfl rfl rfl inf179 rfl rfl rfl (zD hK10 (zX (zY (.inl rfl) results213 (zt 3 rfl rfl agg179 inf179 rfl) fun w1 hM=>?_))))))))))))
   have h9:Pz.match_ s ⟨i,n⟩=.ok ((⟨1,wd2,wd4⟩:Match),⟨j7,m4⟩):=by first | (simp only [Pz.then_ok,Pz.then_no,Pz.St.go,lgc,Pz.match_,he1,g1,he3,he4,g2,he6,he7,h1,h2,h3]; done) | simp [Pz.then_ok,Pz.then_no,Pz.St.go,lgc,Pz.match_,he1,g1,he3,he4,g2,he6,he7,h1,h2,h3]
   exact hM.uX (((⟨1,wd2,wd4⟩:Match),⟨j7,m4⟩):Match × Pz.St) rfl ⟨h9,(Pz.match_fine hi).ok_ h9⟩ (fun h=>h.sel [0,1] (by decide) rfl)
 have g3:bo3=false:=by simpa using h3
 refine yU (zm (zy hK6 (zG fun _ hK11=>zB (yM 2 [iV 3,.string wd2,.string ⟨#[]⟩] rfl rfl rfl rfl agg179 inf179) (zr 3 wn rfl rfl rfl inf179 rfl rfl rfl (zD hK11 (zX (zY (.inl rfl) results213 (zt 3 rfl rfl agg179 inf179 rfl) fun w1 hM=>?_)))))))
 have h9:Pz.match_ s ⟨i,n⟩=.ok ((⟨3,wd2,⟨#[]⟩⟩:Match),⟨j6,m2⟩):=by first | (simp only [Pz.then_ok,Pz.then_no,Pz.St.go,lgc,Pz.match_,he1,g1,he3,he4,g2,he6,g3,h1,h2,h3]; done) | simp [Pz.then_ok,Pz.then_no,Pz.St.go,lgc,Pz.match_,he1,g1,he3,he4,g2,he6,g3,h1,h2,h3]
 exact hM.uX (((⟨3,wd2,⟨#[]⟩⟩:Match),⟨j6,m2⟩):Match × Pz.St) rfl ⟨h9,(Pz.match_fine hi).ok_ h9⟩ (fun h=>h.sel [0,1] (by decide) rfl)
end
section
open Tryz
open Ex
set_option linter.unusedVariables false
set_option linter.unusedSimpArgs false
set_option maxHeartbeats 1000000 in
theorem c_window (p : Nat) (s : ByteArray) (i : Nat) (n : Int) (word : ByteArray) (Pb : Nat → Prop) (w : World) (hG : Mem w ⟨fpOf [Rb 114 p s i n, .pub zd], Pb⟩ [Rb 114 p s i n, .pub zd] w) (hi : i ≤ s.size) (hs : s.size ≤ 2000) (hn : 0 ≤ n ∧ n ≤ 100) (hwd : word.size ≤ 12) :
    Calls prog 183 #[.pointer (some ⟨p,0,none⟩),.string word] w (RetX w [Rb 114 p s i n,.pub zd] Pb 111 (fun z:zC × Pz.St=>.agg (yl z.1).toArray) (fun z=>Pz.window s word ⟨i,n⟩=.ok (z.1.e,z.2)∧Pz.Good s ⟨i,n⟩ z.2) (fun z=>[Rb 114 p s z.2.at_ z.2.nd,.pub zd,okP zC.Ok z.1]) (fun f=>Pz.window s word ⟨i,n⟩=.no f)):=by
 refine fstart (N:=46) (vals:=[.pointer (some ⟨p,0,none⟩),.string word]) (S:=Mem w ⟨fpOf [Rb 114 p s i n,.pub zd],Pb⟩ [Rb 114 p s i n,.pub zd]) func183 rfl rfl rfl hG (zG fun _ hK1=>yC wn inf59 rfl fun b4=>zD hK1 (zG fun _ hK2=>zE rfl (yJ (α:=Pz.St) (PT:=111) [Rb 114 p s i n,.pub zd] [.blk b4 Zx 59] (fun z:Pz.St=>.tuple #[]) (fun z1=>Pz.must s ⟨#[40]⟩ ⟨i,n⟩=.ok z1∧Pz.Good s ⟨i,n⟩ z1) (fun z1=>[Rb 114 p s z1.at_ z1.nd,.pub zd]) _ (fun f1=>Pz.must s ⟨#[40]⟩ ⟨i,n⟩=.no f1) (fun _=>rfl) (S9 [1,2,0]) (fun _=>rfl) wn rfl rfl call179 rfl (fun w1 Pb hG=>uA p s i n ⟨#[40]⟩ Pb w1 hG (by omega) (by omega) (by omega) ) ?_ fun z1 hz1=>?_)))
 · intro f1 hf1
   refine zu (yE fun w1 hM=>?_)
   exact hM.yS f1 (by first | (simp only [Pz.then_ok,Pz.then_no,Pz.St.go,lgc,Pz.window,zC.e,zC.es,hf1]; done) | simp [Pz.then_ok,Pz.then_no,Pz.St.go,lgc,Pz.window,zC.e,zC.es,hf1])
 obtain ⟨j1,m1⟩:=z1
 have he1:Pz.must s ⟨#[40]⟩ ⟨i,n⟩=.ok ⟨j1,m1⟩:=hz1.1
 have ga1:j1≤s.size:=hz1.2.at_
 have gm1:n≤m1:=hz1.2.mono
 have gn1:m1≤100:=hz1.2.most (show n≤100 by omega)
 refine vR 7 (.tuple (List.toArray [])) [Rb 114 p s j1 m1,.pub zd,.blk b4 Zx 59] (zD hK2 (zG fun _ hK3=>zE rfl (yJ (α:=Pz.St) (PT:=111) [Rb 114 p s j1 m1,.pub zd] [.blk b4 Zx 59] (fun z:Pz.St=>.tuple #[]) (fun z2=>Pz.must s ⟨#[123]⟩ ⟨j1,m1⟩=.ok z2∧Pz.Good s ⟨j1,m1⟩ z2) (fun z2=>[Rb 114 p s z2.at_ z2.nd,.pub zd]) _ (fun f2=>Pz.must s ⟨#[123]⟩ ⟨j1,m1⟩=.no f2) (fun _=>rfl) (S9 [0,1,2]) (fun _=>rfl) wn rfl rfl call179 rfl (fun w1 Pb hG=>uA p s j1 m1 ⟨#[123]⟩ Pb w1 hG (by omega) (by omega) (by omega) ) ?_ fun z2 hz2=>?_)))
 · intro f2 hf2
   refine zu (yE fun w1 hM=>?_)
   exact hM.yS f2 (by first | (simp only [Pz.then_ok,Pz.then_no,Pz.St.go,lgc,Pz.window,zC.e,zC.es,he1,hf2]; done) | simp [Pz.then_ok,Pz.then_no,Pz.St.go,lgc,Pz.window,zC.e,zC.es,he1,hf2])
 obtain ⟨j2,m2⟩:=z2
 have he2:Pz.must s ⟨#[123]⟩ ⟨j1,m1⟩=.ok ⟨j2,m2⟩:=hz2.1
 have ga2:j2≤s.size:=hz2.2.at_
 have gm2:m1≤m2:=hz2.2.mono
 have gn2:m2≤100:=hz2.2.most (show m1≤100 by omega)
 refine vR 9 (.tuple (List.toArray [])) [Rb 114 p s j2 m2,.pub zd,.blk b4 Zx 59] (zD hK3 (zG fun _ hK4=>zE rfl (zB (zz [iV 2,iV 0,iV 0,.string word,Zs,Zs,Zs] pl59 inf59 rfl rfl) (yC wn inf59 rfl fun b5=>zr 0 wn rfl rfl rfl inf59 rfl rfl rfl (zD hK4 (zS fun _ hK5=>zk (jZ (fun _ h=>h.uP Match 179 3 yg) (jR (fun (ms:List Match) (k:Nat) (m:Int) (q:Nat) (rv:Value)=>[(0,.pointer (some ⟨p,0,none⟩)),(4,.pointer (some ⟨b4,0,none⟩)),(5,.pointer (some ⟨b5,0,none⟩))]) (fun (ms:List Match) (k:Nat) (m:Int) (q:Nat) (rv:Value)=>[Row rv 179 3 yg ms,.blk b5 [iV 2,iV 0,iV 0,.string word,rv,Zs,Zs] 59,Rb 114 p s k m,.pub zd,.blk b4 Zx 59]) (fun (ms:List Match) (k:Nat) (m:Int) (q:Nat) (rv:Value)=>Pz.winL s 6 [] ⟨j2,m2⟩=Pz.winL s (q + 1) ms ⟨k,m⟩∧ms.length + q=5∧k≤s.size∧m2≤m∧m≤100) (fun (ms:List Match) (k:Nat) (m:Int) (q:Nat) (rv:Value)=>q) [] j2 m2 5 (Zs) (sc rfl (sc rfl (sc rfl sn))) (fun _ h=>h) ?_ (fun ms k m q rv hI1=>?_)))))))))
 · exact ⟨rfl,rfl,by omega,by omega,by omega⟩
 refine vW 0 (l:=ms) rfl fun A1 cp1 hv1 hc1 hm1 hA1=>?_
 subst hv1
 refine zS fun _ hK6=>zG fun _ hK7=>zE rfl (vO (α:=(Bool × Nat)) [Rb 114 p s k m,.pub zd] [Row (.slice A1 ms.length cp1) 179 3 yg ms,.blk b5 [iV 2,iV 0,iV 0,.string word,.slice A1 ms.length cp1,Zs,Zs] 59,.blk b4 Zx 59] (fun z:Bool × Nat=>.bool z.1) (fun z3=>(Pz.eat s ⟨#[125]⟩ k=z3∧k≤z3.2∧z3.2≤s.size)) (fun z3=>[Rb 114 p s z3.2 m,.pub zd]) _ (fun _=>rfl) (S9 [2,3,0,1,4]) (fun _=>rfl) wn rfl rfl call98 rfl (fun w1 Pb hG=>ui p s k m ⟨#[125]⟩ Pb w1 hG (by omega) (by omega)) fun z3 hz3=>?_)
 obtain ⟨bo1,j3⟩:=z3
 have he3:Pz.eat s ⟨#[125]⟩ k=(bo1,j3):=hz3.1
 have hz3a:k≤j3:=hz3.2.1
 have hz3b:j3≤s.size:=hz3.2.2
 refine vR 13 (.bool bo1) [Rb 114 p s j3 m,.pub zd,Row (.slice A1 ms.length cp1) 179 3 yg ms,.blk b5 [iV 2,iV 0,iV 0,.string word,.slice A1 ms.length cp1,Zs,Zs] 59,.blk b4 Zx 59] (zB (vC rfl) (zD hK7 (yp rfl (fun h1=>?_) (fun h1=>?_))))
 · have g1:bo1=false:=by simpa using h1
   have hx1:=Pz.win_more hI1.1 (by rw [he3,g1])
   refine yK hK6 (zk (zS fun _ hK8=>zG fun _ hK9=>zB (za rfl fld59_4) (zB (zg 3 rfl rfl rfl flat55) (zB (yW rfl underlying55) (zB (vH rfl rfl) (zD hK9 (zZ rfl (fun h2=>?_) (fun h2=>?_))))))))
   · refine zL (zE rfl (yJ (α:=Pz.St) (PT:=111) [Rb 114 p s j3 m,.pub zd] [Row (.slice A1 ms.length cp1) 179 3 yg ms,.blk b5 [iV 2,iV 0,iV 0,.string word,.slice A1 ms.length cp1,Zs,Zs] 59,.blk b4 Zx 59] (fun z:Pz.St=>.tuple #[]) (fun z4=>Pz.must s ⟨#[44]⟩ ⟨j3,m⟩=.ok z4∧Pz.Good s ⟨j3,m⟩ z4) (fun z4=>[Rb 114 p s z4.at_ z4.nd,.pub zd]) _ (fun f3=>Pz.must s ⟨#[44]⟩ ⟨j3,m⟩=.no f3) (fun _=>rfl) (S9 [0,1,2,3,4]) (fun _=>rfl) wn rfl rfl call179 rfl (fun w1 Pb hG=>uA p s j3 m ⟨#[44]⟩ Pb w1 hG (by omega) (by omega) (by omega) ) ?_ fun z4 hz4=>?_))
     · intro f3 hf3
       refine zu (yv (vT (yv (zu (yE fun w1 hM=>?_)))))
       have hY:=hx1.trans (by rw [Pz.win_sep' h2 hf3,Pz.then_no])
       exact hM.yS f3 (by simp only [Pz.then_ok,Pz.then_no,Pz.St.go,lgc,Pz.window,zC.e,zC.es,he1,he2,he3,g1,hY])
     obtain ⟨j4,m3⟩:=z4
     have he4:Pz.must s ⟨#[44]⟩ ⟨j3,m⟩=.ok ⟨j4,m3⟩:=hz4.1
     have ga3:j4≤s.size:=hz4.2.at_
     have gm3:m≤m3:=hz4.2.mono
     have gn3:m3≤100:=hz4.2.most (show m≤100 by omega)
     refine vR 20 (.tuple (List.toArray [])) [Rb 114 p s j4 m3,.pub zd,Row (.slice A1 ms.length cp1) 179 3 yg ms,.blk b5 [iV 2,iV 0,iV 0,.string word,.slice A1 ms.length cp1,Zs,Zs] 59,.blk b4 Zx 59] (zD hK8 (zS fun _ hK10=>zG fun _ hK11=>zB (za rfl fld59_4) (zB (zg 3 rfl rfl rfl flat55) (zB (yW rfl underlying55) (zB (yf rfl rfl) (zD hK11 (zZ rfl (fun h3=>?_) (fun h3=>?_))))))))
     · refine zL (zE rfl (yJ (α:=Unit) (PT:=111) [Rb 114 p s j4 m3,.pub zd] [Row (.slice A1 ms.length cp1) 179 3 yg ms,.blk b5 [iV 2,iV 0,iV 0,.string word,.slice A1 ms.length cp1,Zs,Zs] 59,.blk b4 Zx 59] (fun _:Unit=>.tuple #[]) (fun z5=>False) (fun z5=>[Rb 114 p s j4 m3,.pub zd]) _ (fun f4=>f4=(5,(j4:Int))) (fun _=>rfl) (S9 [0,1,2,3,4]) (fun _=>rfl) wn rfl rfl call54 rfl (fun w1 Pb hG=>vj p s j4 m3 5 Pb w1 hG) ?_ fun z5 hz5=>?_))
       · intro f4 hf4
         refine zu (yv (vT (yv (zu (yE fun w1 hM=>?_)))))
         have hY:=Pz.win_many hx1 (Pz.win_sep' h2 he4) h3
         exact hM.yS f4 (by simp only [Pz.then_ok,Pz.then_no,Pz.St.go,lgc,Pz.window,zC.e,zC.es,he1,he2,he3,g1,he4,hY,hf4])
       exact hz5.elim
     refine yK hK10 (vL (Mem w ⟨fpOf [Rb 114 p s i n,.pub zd],Pb⟩ [.pub zd,.blk b4 Zx 59]) mix (fun _ h=>h.drew) rfl (vK 6 [0,2] [1,4] rfl fun KS hKS=>yD (za rfl fld59_4) (yD (zi rfl) (yd hKS (vX (f:=5) (i:=1) (j:=3) rfl (by kernel_rfl) ?_ ?_)))))
     · refine yN (i:=1) rfl fun KN hKN hPN=>zB (zg 3 rfl rfl rfl flat55) (yP hKN [1,4] (yY 4 3 (yN (i:=3) rfl fun KN hKN hPN=>yJ (α:=Match × Pz.St) (PT:=111) [Rb 114 p s j4 m3,.pub zd] [Row (.slice A1 ms.length cp1) 179 3 yg ms,.blk b5 [iV 2,iV 0,iV 0,.string word,.slice A1 ms.length cp1,Zs,Zs] 59,.blk b4 Zx 59] (fun z:Match × Pz.St=>.agg (yg z.1).toArray) (fun z6=>Pz.match_ s ⟨j4,m3⟩=.ok z6∧Pz.Good s ⟨j4,m3⟩ z6.2) (fun z6=>[Rb 114 p s z6.2.at_ z6.2.nd,.pub zd]) _ (fun f5=>Pz.match_ s ⟨j4,m3⟩=.no f5) (fun _=>rfl) (S9 [0,1,2,3,4]) (fun _=>rfl) wn rfl rfl call213 rfl (fun w1 Pb hG=>jH p s j4 m3  Pb w1 hG (by omega) (by omega) (by omega) ) ?_ fun z6 hz6=>?_)))
       · intro f5 hf5
         refine vo hPN (yv (vT (yv (zu (yE fun w1 hM=>?_)))))
         have hY:=Pz.win_next hx1 (Pz.win_sep' h2 he4) h3 hf5
         rw [Pz.then_no] at hY
         exact hM.yS f5 (by simp only [Pz.then_ok,Pz.then_no,Pz.St.go,lgc,Pz.window,zC.e,zC.es,he1,he2,he3,g1,he4,hY])
       obtain ⟨mt1,j5,m4⟩:=z6
       have he5:Pz.match_ s ⟨j4,m3⟩=.ok (mt1,⟨j5,m4⟩):=hz6.1
       have ga4:j5≤s.size:=hz6.2.at_
       have gm4:m3≤m4:=hz6.2.mono
       have gn4:m4≤100:=hz6.2.most (show m3≤100 by omega)
       refine vR 30 (.agg (List.toArray [iV mt1.kind,.string mt1.key,.string mt1.val])) [Rb 114 p s j5 m4,.pub zd,Row (.slice A1 ms.length cp1) 179 3 yg ms,.blk b5 [iV 2,iV 0,iV 0,.string word,.slice A1 ms.length cp1,Zs,Zs] 59,.blk b4 Zx 59] (yP hKN [1,4] (yY 3 4 (yN (i:=4) rfl fun KN hKN hPN=>yw yg ([mt1]:List Match) wn underlying55 inf179 rfl rfl rfl rfl (by decide) (by decide) rfl fun b31=>yP hKN [2,5] (yY 2 5 (yN (i:=5) rfl fun KN hKN hPN=>vG 3 ms ([mt1]:List Match) encMatch wn rfl rfl rfl (fun _ hM=>(RowSl encMatch hM 0 rfl)) underlying55 inf179 rfl rfl (by simp only [List.length_append,List.length_cons,List.length_nil]; omega) rfl fun A2 cp2 hc2 hm2 hA2=>yP hKN [2,5] (vK 1 [6] [2,5] rfl fun KS hKS=>yD (za rfl fld59_4) ?_))))))
       refine yd hKS (yY 0 7 (yN (i:=7) rfl fun KN hKN hPN=>yt 4 wn rfl rfl rfl rfl inf55 rfl rfl (yP hKN [2,5] (yu (by kernel_rfl) (zm (vd (ms++([mt1]:List Match)) j5 m4 (q - 1) (.slice A2 ((ms++([mt1]:List Match)).length) cp2) (sc rfl (sc rfl (sc rfl sn))) (S9 [3,4,1,2,5]) ?_ ?_))))))
       · have hY:=Pz.win_next hx1 (Pz.win_sep' h2 he4) h3 he5
         rw [Pz.then_ok] at hY
         exact ⟨hY.trans (by rw [show q - 1 + 1=q by omega]),by simp only [List.length_append,List.length_cons,List.length_nil]; omega,by omega,by omega,by omega⟩
       omega
     refine yN (i:=3) rfl fun KN hKN hPN=>yJ (α:=Match × Pz.St) (PT:=111) [Rb 114 p s j4 m3,.pub zd] [Row (.slice A1 ms.length cp1) 179 3 yg ms,.blk b5 [iV 2,iV 0,iV 0,.string word,.slice A1 ms.length cp1,Zs,Zs] 59,.blk b4 Zx 59] (fun z:Match × Pz.St=>.agg (yg z.1).toArray) (fun z7=>Pz.match_ s ⟨j4,m3⟩=.ok z7∧Pz.Good s ⟨j4,m3⟩ z7.2) (fun z7=>[Rb 114 p s z7.2.at_ z7.2.nd,.pub zd]) _ (fun f6=>Pz.match_ s ⟨j4,m3⟩=.no f6) (fun _=>rfl) (S9 [0,1,2,3,4]) (fun _=>rfl) wn rfl rfl call213 rfl (fun w1 Pb hG=>jH p s j4 m3  Pb w1 hG (by omega) (by omega) (by omega) ) ?_ fun z7 hz7=>?_
     · intro f6 hf6
       refine vo hPN (yv (vT (yv (zu (yE fun w1 hM=>?_)))))
       have hY:=Pz.win_next hx1 (Pz.win_sep' h2 he4) h3 hf6
       rw [Pz.then_no] at hY
       exact hM.yS f6 (by simp only [Pz.then_ok,Pz.then_no,Pz.St.go,lgc,Pz.window,zC.e,zC.es,he1,he2,he3,g1,he4,hY])
     obtain ⟨mt2,j6,m5⟩:=z7
     have he6:Pz.match_ s ⟨j4,m3⟩=.ok (mt2,⟨j6,m5⟩):=hz7.1
     have ga5:j6≤s.size:=hz7.2.at_
     have gm5:m3≤m5:=hz7.2.mono
     have gn5:m5≤100:=hz7.2.most (show m3≤100 by omega)
     refine vR 30 (.agg (List.toArray [iV mt2.kind,.string mt2.key,.string mt2.val])) [Rb 114 p s j6 m5,.pub zd,Row (.slice A1 ms.length cp1) 179 3 yg ms,.blk b5 [iV 2,iV 0,iV 0,.string word,.slice A1 ms.length cp1,Zs,Zs] 59,.blk b4 Zx 59] (yP hKN [1,4] (vX (f:=4) (i:=1) (j:=4) rfl (by kernel_rfl) ?_ ?_))
     · refine yN (i:=1) rfl fun KN hKN hPN=>zB (zg 3 rfl rfl rfl flat55) (yP hKN [1,4] (yY 3 4 (yN (i:=4) rfl fun KN hKN hPN=>yw yg ([mt2]:List Match) wn underlying55 inf179 rfl rfl rfl rfl (by decide) (by decide) rfl fun b31=>yP hKN [2,5] (yY 2 5 (yN (i:=5) rfl fun KN hKN hPN=>vG 3 ms ([mt2]:List Match) encMatch wn rfl rfl rfl (fun _ hM=>(RowSl encMatch hM 0 rfl)) underlying55 inf179 rfl rfl (by simp only [List.length_append,List.length_cons,List.length_nil]; omega) rfl fun A3 cp3 hc3 hm3 hA3=>yP hKN [2,5] (vK 1 [6] [2,5] rfl fun KS hKS=>?_))))))
       refine yD (za rfl fld59_4) (yd hKS (yY 0 7 (yN (i:=7) rfl fun KN hKN hPN=>yt 4 wn rfl rfl rfl rfl inf55 rfl rfl (yP hKN [2,5] (yu (by kernel_rfl) (zm (vd (ms++([mt2]:List Match)) j6 m5 (q - 1) (.slice A3 ((ms++([mt2]:List Match)).length) cp3) (sc rfl (sc rfl (sc rfl sn))) (S9 [3,4,1,2,5]) ?_ ?_)))))))
       · have hY:=Pz.win_next hx1 (Pz.win_sep' h2 he4) h3 he6
         rw [Pz.then_ok] at hY
         exact ⟨hY.trans (by rw [show q - 1 + 1=q by omega]),by simp only [List.length_append,List.length_cons,List.length_nil]; omega,by omega,by omega,by omega⟩
       omega
     refine yN (i:=4) rfl fun KN hKN hPN=>yw yg ([mt2]:List Match) wn underlying55 inf179 rfl rfl rfl rfl (by decide) (by decide) rfl fun b31=>yP hKN [2,5] (yY 3 1 (yN (i:=1) rfl fun KN hKN hPN=>zB (zg 4 rfl rfl rfl flat55) (yP hKN [2,5] (yY 2 5 (yN (i:=5) rfl fun KN hKN hPN=>vG 3 ms ([mt2]:List Match) encMatch wn rfl rfl rfl (fun _ hM=>(RowSl encMatch hM 0 rfl)) underlying55 inf179 rfl rfl (by simp only [List.length_append,List.length_cons,List.length_nil]; omega) rfl fun A4 cp4 hc4 hm4 hA4=>yP hKN [2,5] (vK 1 [6] [2,5] rfl fun KS hKS=>?_))))))
     refine yD (za rfl fld59_4) (yd hKS (yY 0 7 (yN (i:=7) rfl fun KN hKN hPN=>yt 4 wn rfl rfl rfl rfl inf55 rfl rfl (yP hKN [2,5] (yu (by kernel_rfl) (zm (vd (ms++([mt2]:List Match)) j6 m5 (q - 1) (.slice A4 ((ms++([mt2]:List Match)).length) cp4) (sc rfl (sc rfl (sc rfl sn))) (S9 [3,4,1,2,5]) ?_ ?_)))))))
     · have hY:=Pz.win_next hx1 (Pz.win_sep' h2 he4) h3 he6
       rw [Pz.then_ok] at hY
       exact ⟨hY.trans (by rw [show q - 1 + 1=q by omega]),by simp only [List.length_append,List.length_cons,List.length_nil]; omega,by omega,by omega,by omega⟩
     omega
   refine yK hK8 (zS fun _ hK12=>zG fun _ hK13=>zB (za rfl fld59_4) (zB (zg 3 rfl rfl rfl flat55) (zB (yW rfl underlying55) (zB (yf rfl rfl) (zD hK13 (zZ rfl (fun h4=>?_) (fun h4=>?_)))))))
   · refine zL (zE rfl (yJ (α:=Unit) (PT:=111) [Rb 114 p s j3 m,.pub zd] [Row (.slice A1 ms.length cp1) 179 3 yg ms,.blk b5 [iV 2,iV 0,iV 0,.string word,.slice A1 ms.length cp1,Zs,Zs] 59,.blk b4 Zx 59] (fun _:Unit=>.tuple #[]) (fun z8=>False) (fun z8=>[Rb 114 p s j3 m,.pub zd]) _ (fun f7=>f7=(5,(j3:Int))) (fun _=>rfl) (S9 [0,1,2,3,4]) (fun _=>rfl) wn rfl rfl call54 rfl (fun w1 Pb hG=>vj p s j3 m 5 Pb w1 hG) ?_ fun z8 hz8=>?_))
     · intro f7 hf7
       refine zu (yv (vT (yv (zu (yE fun w1 hM=>?_)))))
       have hY:=Pz.win_many hx1 (Pz.win_sep h2) h4
       exact hM.yS f7 (by simp only [Pz.then_ok,Pz.then_no,Pz.St.go,lgc,Pz.window,zC.e,zC.es,he1,he2,he3,g1,hY,hf7])
     exact hz8.elim
   refine yK hK12 (vL (Mem w ⟨fpOf [Rb 114 p s i n,.pub zd],Pb⟩ [.pub zd,.blk b4 Zx 59]) mix (fun _ h=>h.drew) rfl (vK 6 [0,2] [1,4] rfl fun KS hKS=>yD (za rfl fld59_4) (yD (zi rfl) (yd hKS (vX (f:=5) (i:=1) (j:=3) rfl (by kernel_rfl) ?_ ?_)))))
   · refine yN (i:=1) rfl fun KN hKN hPN=>zB (zg 3 rfl rfl rfl flat55) (yP hKN [1,4] (yY 4 3 (yN (i:=3) rfl fun KN hKN hPN=>yJ (α:=Match × Pz.St) (PT:=111) [Rb 114 p s j3 m,.pub zd] [Row (.slice A1 ms.length cp1) 179 3 yg ms,.blk b5 [iV 2,iV 0,iV 0,.string word,.slice A1 ms.length cp1,Zs,Zs] 59,.blk b4 Zx 59] (fun z:Match × Pz.St=>.agg (yg z.1).toArray) (fun z9=>Pz.match_ s ⟨j3,m⟩=.ok z9∧Pz.Good s ⟨j3,m⟩ z9.2) (fun z9=>[Rb 114 p s z9.2.at_ z9.2.nd,.pub zd]) _ (fun f8=>Pz.match_ s ⟨j3,m⟩=.no f8) (fun _=>rfl) (S9 [0,1,2,3,4]) (fun _=>rfl) wn rfl rfl call213 rfl (fun w1 Pb hG=>jH p s j3 m  Pb w1 hG (by omega) (by omega) (by omega) ) ?_ fun z9 hz9=>?_)))
     · intro f8 hf8
       refine vo hPN (yv (vT (yv (zu (yE fun w1 hM=>?_)))))
       have hY:=Pz.win_next hx1 (Pz.win_sep h2) h4 hf8
       rw [Pz.then_no] at hY
       exact hM.yS f8 (by simp only [Pz.then_ok,Pz.then_no,Pz.St.go,lgc,Pz.window,zC.e,zC.es,he1,he2,he3,g1,hY])
     obtain ⟨mt3,j7,m6⟩:=z9
     have he7:Pz.match_ s ⟨j3,m⟩=.ok (mt3,⟨j7,m6⟩):=hz9.1
     have ga6:j7≤s.size:=hz9.2.at_
     have gm6:m≤m6:=hz9.2.mono
     have gn6:m6≤100:=hz9.2.most (show m≤100 by omega)
     refine vR 30 (.agg (List.toArray [iV mt3.kind,.string mt3.key,.string mt3.val])) [Rb 114 p s j7 m6,.pub zd,Row (.slice A1 ms.length cp1) 179 3 yg ms,.blk b5 [iV 2,iV 0,iV 0,.string word,.slice A1 ms.length cp1,Zs,Zs] 59,.blk b4 Zx 59] (yP hKN [1,4] (yY 3 4 (yN (i:=4) rfl fun KN hKN hPN=>yw yg ([mt3]:List Match) wn underlying55 inf179 rfl rfl rfl rfl (by decide) (by decide) rfl fun b31=>yP hKN [2,5] (yY 2 5 (yN (i:=5) rfl fun KN hKN hPN=>vG 3 ms ([mt3]:List Match) encMatch wn rfl rfl rfl (fun _ hM=>(RowSl encMatch hM 0 rfl)) underlying55 inf179 rfl rfl (by simp only [List.length_append,List.length_cons,List.length_nil]; omega) rfl fun A5 cp5 hc5 hm5 hA5=>yP hKN [2,5] (vK 1 [6] [2,5] rfl fun KS hKS=>yD (za rfl fld59_4) ?_))))))
     refine yd hKS (yY 0 7 (yN (i:=7) rfl fun KN hKN hPN=>yt 4 wn rfl rfl rfl rfl inf55 rfl rfl (yP hKN [2,5] (yu (by kernel_rfl) (zm (vd (ms++([mt3]:List Match)) j7 m6 (q - 1) (.slice A5 ((ms++([mt3]:List Match)).length) cp5) (sc rfl (sc rfl (sc rfl sn))) (S9 [3,4,1,2,5]) ?_ ?_))))))
     · have hY:=Pz.win_next hx1 (Pz.win_sep h2) h4 he7
       rw [Pz.then_ok] at hY
       exact ⟨hY.trans (by rw [show q - 1 + 1=q by omega]),by simp only [List.length_append,List.length_cons,List.length_nil]; omega,by omega,by omega,by omega⟩
     omega
   refine yN (i:=3) rfl fun KN hKN hPN=>yJ (α:=Match × Pz.St) (PT:=111) [Rb 114 p s j3 m,.pub zd] [Row (.slice A1 ms.length cp1) 179 3 yg ms,.blk b5 [iV 2,iV 0,iV 0,.string word,.slice A1 ms.length cp1,Zs,Zs] 59,.blk b4 Zx 59] (fun z:Match × Pz.St=>.agg (yg z.1).toArray) (fun z10=>Pz.match_ s ⟨j3,m⟩=.ok z10∧Pz.Good s ⟨j3,m⟩ z10.2) (fun z10=>[Rb 114 p s z10.2.at_ z10.2.nd,.pub zd]) _ (fun f9=>Pz.match_ s ⟨j3,m⟩=.no f9) (fun _=>rfl) (S9 [0,1,2,3,4]) (fun _=>rfl) wn rfl rfl call213 rfl (fun w1 Pb hG=>jH p s j3 m  Pb w1 hG (by omega) (by omega) (by omega) ) ?_ fun z10 hz10=>?_
   · intro f9 hf9
     refine vo hPN (yv (vT (yv (zu (yE fun w1 hM=>?_)))))
     have hY:=Pz.win_next hx1 (Pz.win_sep h2) h4 hf9
     rw [Pz.then_no] at hY
     exact hM.yS f9 (by simp only [Pz.then_ok,Pz.then_no,Pz.St.go,lgc,Pz.window,zC.e,zC.es,he1,he2,he3,g1,hY])
   obtain ⟨mt4,j8,m7⟩:=z10
   have he8:Pz.match_ s ⟨j3,m⟩=.ok (mt4,⟨j8,m7⟩):=hz10.1
   have ga7:j8≤s.size:=hz10.2.at_
   have gm7:m≤m7:=hz10.2.mono
   have gn7:m7≤100:=hz10.2.most (show m≤100 by omega)
   refine vR 30 (.agg (List.toArray [iV mt4.kind,.string mt4.key,.string mt4.val])) [Rb 114 p s j8 m7,.pub zd,Row (.slice A1 ms.length cp1) 179 3 yg ms,.blk b5 [iV 2,iV 0,iV 0,.string word,.slice A1 ms.length cp1,Zs,Zs] 59,.blk b4 Zx 59] (yP hKN [1,4] (vX (f:=4) (i:=1) (j:=4) rfl (by kernel_rfl) ?_ ?_))
   · refine yN (i:=1) rfl fun KN hKN hPN=>zB (zg 3 rfl rfl rfl flat55) (yP hKN [1,4] (yY 3 4 (yN (i:=4) rfl fun KN hKN hPN=>yw yg ([mt4]:List Match) wn underlying55 inf179 rfl rfl rfl rfl (by decide) (by decide) rfl fun b31=>yP hKN [2,5] (yY 2 5 (yN (i:=5) rfl fun KN hKN hPN=>vG 3 ms ([mt4]:List Match) encMatch wn rfl rfl rfl (fun _ hM=>(RowSl encMatch hM 0 rfl)) underlying55 inf179 rfl rfl (by simp only [List.length_append,List.length_cons,List.length_nil]; omega) rfl fun A6 cp6 hc6 hm6 hA6=>yP hKN [2,5] (vK 1 [6] [2,5] rfl fun KS hKS=>?_))))))
     refine yD (za rfl fld59_4) (yd hKS (yY 0 7 (yN (i:=7) rfl fun KN hKN hPN=>yt 4 wn rfl rfl rfl rfl inf55 rfl rfl (yP hKN [2,5] (yu (by kernel_rfl) (zm (vd (ms++([mt4]:List Match)) j8 m7 (q - 1) (.slice A6 ((ms++([mt4]:List Match)).length) cp6) (sc rfl (sc rfl (sc rfl sn))) (S9 [3,4,1,2,5]) ?_ ?_)))))))
     · have hY:=Pz.win_next hx1 (Pz.win_sep h2) h4 he8
       rw [Pz.then_ok] at hY
       exact ⟨hY.trans (by rw [show q - 1 + 1=q by omega]),by simp only [List.length_append,List.length_cons,List.length_nil]; omega,by omega,by omega,by omega⟩
     omega
   refine yN (i:=4) rfl fun KN hKN hPN=>yw yg ([mt4]:List Match) wn underlying55 inf179 rfl rfl rfl rfl (by decide) (by decide) rfl fun b31=>yP hKN [2,5] (yY 3 1 (yN (i:=1) rfl fun KN hKN hPN=>zB (zg 4 rfl rfl rfl flat55) (yP hKN [2,5] (yY 2 5 (yN (i:=5) rfl fun KN hKN hPN=>vG 3 ms ([mt4]:List Match) encMatch wn rfl rfl rfl (fun _ hM=>(RowSl encMatch hM 0 rfl)) underlying55 inf179 rfl rfl (by simp only [List.length_append,List.length_cons,List.length_nil]; omega) rfl fun A7 cp7 hc7 hm7 hA7=>yP hKN [2,5] (vK 1 [6] [2,5] rfl fun KS hKS=>?_))))))
   refine yD (za rfl fld59_4) (yd hKS (yY 0 7 (yN (i:=7) rfl fun KN hKN hPN=>yt 4 wn rfl rfl rfl rfl inf55 rfl rfl (yP hKN [2,5] (yu (by kernel_rfl) (zm (vd (ms++([mt4]:List Match)) j8 m7 (q - 1) (.slice A7 ((ms++([mt4]:List Match)).length) cp7) (sc rfl (sc rfl (sc rfl sn))) (S9 [3,4,1,2,5]) ?_ ?_)))))))
   · have hY:=Pz.win_next hx1 (Pz.win_sep h2) h4 he8
     rw [Pz.then_ok] at hY
     exact ⟨hY.trans (by rw [show q - 1 + 1=q by omega]),by simp only [List.length_append,List.length_cons,List.length_nil]; omega,by omega,by omega,by omega⟩
   omega
 have g2:bo1=true:=by simpa using h1
 have hx2:=Pz.win_done hI1.1 (by rw [he3,g2])
 refine yZ (yH (ut (yI (zy hK5 (zG fun _ hK14=>zE rfl (yJ (α:=Pz.St) (PT:=111) [Rb 114 p s j3 m,.pub zd] [Row (.slice A1 ms.length cp1) 179 3 yg ms,.blk b5 [iV 2,iV 0,iV 0,.string word,.slice A1 ms.length cp1,Zs,Zs] 59,.blk b4 Zx 59] (fun z:Pz.St=>.tuple #[]) (fun z11=>Pz.must s ⟨#[91]⟩ ⟨j3,m⟩=.ok z11∧Pz.Good s ⟨j3,m⟩ z11) (fun z11=>[Rb 114 p s z11.at_ z11.nd,.pub zd]) _ (fun f10=>Pz.must s ⟨#[91]⟩ ⟨j3,m⟩=.no f10) (fun _=>rfl) (S9 [0,1,2,3,4]) (fun _=>rfl) wn rfl rfl call179 rfl (fun w1 Pb hG=>uA p s j3 m ⟨#[91]⟩ Pb w1 hG (by omega) (by omega) (by omega) ) ?_ fun z11 hz11=>?_))))))
 · intro f10 hf10
   refine zu (yE fun w1 hM=>?_)
   exact hM.yS f10 (by first | (simp only [Pz.then_ok,Pz.then_no,Pz.St.go,lgc,Pz.window,zC.e,zC.es,he1,he2,he3,g2,hx2,h1,hf10]; done) | simp [Pz.then_ok,Pz.then_no,Pz.St.go,lgc,Pz.window,zC.e,zC.es,he1,he2,he3,g2,hx2,h1,hf10])
 obtain ⟨j9,m8⟩:=z11
 have he9:Pz.must s ⟨#[91]⟩ ⟨j3,m⟩=.ok ⟨j9,m8⟩:=hz11.1
 have ga8:j9≤s.size:=hz11.2.at_
 have gm8:m≤m8:=hz11.2.mono
 have gn8:m8≤100:=hz11.2.most (show m≤100 by omega)
 refine vR 35 (.tuple (List.toArray [])) [Rb 114 p s j9 m8,.pub zd,Row (.slice A1 ms.length cp1) 179 3 yg ms,.blk b5 [iV 2,iV 0,iV 0,.string word,.slice A1 ms.length cp1,Zs,Zs] 59,.blk b4 Zx 59] (zD hK14 (zG fun _ hK15=>zE rfl (yJ (α:=Int × Pz.St) (PT:=111) [Rb 114 p s j9 m8,.pub zd] [Row (.slice A1 ms.length cp1) 179 3 yg ms,.blk b5 [iV 2,iV 0,iV 0,.string word,.slice A1 ms.length cp1,Zs,Zs] 59,.blk b4 Zx 59] (fun z:Int × Pz.St=>iV z.1) (fun z12=>Pz.num s 1 100000 ⟨j9,m8⟩=.ok z12∧Pz.Good s ⟨j9,m8⟩ z12.2) (fun z12=>[Rb 114 p s z12.2.at_ z12.2.nd,.pub zd]) _ (fun f11=>Pz.num s 1 100000 ⟨j9,m8⟩=.no f11) (fun _=>rfl) (S9 [0,1,2,3,4]) (fun _=>rfl) wn rfl rfl call182 rfl (fun w1 Pb hG=>c_num p s j9 m8 1 100000 Pb w1 hG (by omega) (by omega) (by omega) (by omega)) ?_ fun z12 hz12=>?_)))
 · intro f11 hf11
   refine zu (yE fun w1 hM=>?_)
   exact hM.yS f11 (by first | (simp only [Pz.then_ok,Pz.then_no,Pz.St.go,lgc,Pz.window,zC.e,zC.es,he1,he2,he3,g2,hx2,he9,h1,hf11]; done) | simp [Pz.then_ok,Pz.then_no,Pz.St.go,lgc,Pz.window,zC.e,zC.es,he1,he2,he3,g2,hx2,he9,h1,hf11])
 obtain ⟨v1,j10,m9⟩:=z12
 have he10:Pz.num s 1 100000 ⟨j9,m8⟩=.ok (v1,⟨j10,m9⟩):=hz12.1
 have ga9:j10≤s.size:=hz12.2.at_
 have gm9:m8≤m9:=hz12.2.mono
 have gn9:m9≤100:=hz12.2.most (show m8≤100 by omega)
 refine vR 37 (iV v1) [Rb 114 p s j10 m9,.pub zd,Row (.slice A1 ms.length cp1) 179 3 yg ms,.blk b5 [iV 2,iV 0,iV 0,.string word,.slice A1 ms.length cp1,Zs,Zs] 59,.blk b4 Zx 59] (zB (za rfl fld59_2) (yt 3 wn rfl rfl rfl rfl inf3 rfl rfl (zD hK15 (zG fun _ hK16=>zE rfl (yJ (α:=Pz.St) (PT:=111) [Rb 114 p s j10 m9,.pub zd] [Row (.slice A1 ms.length cp1) 179 3 yg ms,.blk b5 [iV 2,iV 0,iV v1,.string word,.slice A1 ms.length cp1,Zs,Zs] 59,.blk b4 Zx 59] (fun z:Pz.St=>.tuple #[]) (fun z13=>Pz.must s ⟨#[93]⟩ ⟨j10,m9⟩=.ok z13∧Pz.Good s ⟨j10,m9⟩ z13) (fun z13=>[Rb 114 p s z13.at_ z13.nd,.pub zd]) _ (fun f12=>Pz.must s ⟨#[93]⟩ ⟨j10,m9⟩=.no f12) (fun _=>rfl) (S9 [0,1,2,3,4]) (fun _=>rfl) wn rfl rfl call179 rfl (fun w1 Pb hG=>uA p s j10 m9 ⟨#[93]⟩ Pb w1 hG (by omega) (by omega) (by omega) ) ?_ fun z13 hz13=>?_)))))
 · intro f12 hf12
   refine zu (yE fun w1 hM=>?_)
   exact hM.yS f12 (by first | (simp only [Pz.then_ok,Pz.then_no,Pz.St.go,lgc,Pz.window,zC.e,zC.es,he1,he2,he3,g2,hx2,he9,he10,h1,hf12]; done) | simp [Pz.then_ok,Pz.then_no,Pz.St.go,lgc,Pz.window,zC.e,zC.es,he1,he2,he3,g2,hx2,he9,he10,h1,hf12])
 obtain ⟨j11,m10⟩:=z13
 have he11:Pz.must s ⟨#[93]⟩ ⟨j10,m9⟩=.ok ⟨j11,m10⟩:=hz13.1
 have ga10:j11≤s.size:=hz13.2.at_
 have gm10:m9≤m10:=hz13.2.mono
 have gn10:m10≤100:=hz13.2.most (show m9≤100 by omega)
 refine vR 40 (.tuple (List.toArray [])) [Rb 114 p s j11 m10,.pub zd,Row (.slice A1 ms.length cp1) 179 3 yg ms,.blk b5 [iV 2,iV 0,iV v1,.string word,.slice A1 ms.length cp1,Zs,Zs] 59,.blk b4 Zx 59] (zD hK16 (zG fun _ hK17=>zE rfl (yJ (α:=Pz.St) (PT:=111) [Rb 114 p s j11 m10,.pub zd] [Row (.slice A1 ms.length cp1) 179 3 yg ms,.blk b5 [iV 2,iV 0,iV v1,.string word,.slice A1 ms.length cp1,Zs,Zs] 59,.blk b4 Zx 59] (fun z:Pz.St=>.tuple #[]) (fun z14=>Pz.must s ⟨#[41]⟩ ⟨j11,m10⟩=.ok z14∧Pz.Good s ⟨j11,m10⟩ z14) (fun z14=>[Rb 114 p s z14.at_ z14.nd,.pub zd]) _ (fun f13=>Pz.must s ⟨#[41]⟩ ⟨j11,m10⟩=.no f13) (fun _=>rfl) (S9 [0,1,2,3,4]) (fun _=>rfl) wn rfl rfl call179 rfl (fun w1 Pb hG=>uA p s j11 m10 ⟨#[41]⟩ Pb w1 hG (by omega) (by omega) (by omega) ) ?_ fun z14 hz14=>?_)))
 · intro f13 hf13
   refine zu (yE fun w1 hM=>?_)
   exact hM.yS f13 (by first | (simp only [Pz.then_ok,Pz.then_no,Pz.St.go,lgc,Pz.window,zC.e,zC.es,he1,he2,he3,g2,hx2,he9,he10,he11,h1,hf13]; done) | simp [Pz.then_ok,Pz.then_no,Pz.St.go,lgc,Pz.window,zC.e,zC.es,he1,he2,he3,g2,hx2,he9,he10,he11,h1,hf13])
 obtain ⟨j12,m11⟩:=z14
 have he12:Pz.must s ⟨#[41]⟩ ⟨j11,m10⟩=.ok ⟨j12,m11⟩:=hz14.1
 have ga11:j12≤s.size:=hz14.2.at_
 have gm11:m10≤m11:=hz14.2.mono
 have gn11:m11≤100:=hz14.2.most (show m10≤100 by omega)
 refine vR 42 (.tuple (List.toArray [])) [Rb 114 p s j12 m11,.pub zd,Row (.slice A1 ms.length cp1) 179 3 yg ms,.blk b5 [iV 2,iV 0,iV v1,.string word,.slice A1 ms.length cp1,Zs,Zs] 59,.blk b4 Zx 59] (zD hK17 (zG fun _ hK18=>zE rfl (zB (yM 3 [iV 2,iV 0,iV v1,.string word,.slice A1 ms.length cp1,Zs,Zs] rfl rfl rfl rfl agg59 inf59) (uD 2 0 encMatch rfl rfl (fp2) (ul (fun _ h=>h.exprG (k:=2) (n:=0) (r:=v1) (wd:=word) (ms:=⟨A1,cp1,ms⟩) (bs:=⟨none,0,[]⟩) (ks:=⟨none,0,[]⟩) (fun _ pp=>pp.sl 2 rfl) (fun _ _=>zJ.yq _ _ _ _) (fun _ _=>zJ.yq _ _ _ _) (fun _ _ x hx=>by cases hx) (by first | decide | omega) (fun x hx=>by have:=Pz.winL_size 6 (by show _≤s.size; omega) hx2 (fun _ h=>by cases h) x hx; omega) (fun x hx=>by cases hx)) (yJ (α:=Unit) (PT:=111) [Rb 114 p s j12 m11,.pub zd] [okP zC.Ok (zC.mk 2 0 v1 word ⟨A1,cp1,ms⟩ ⟨none,0,[]⟩ ⟨none,0,[]⟩),slP 3 yg (.slice A1 ms.length cp1) ms,.blk b5 [iV 2,iV 0,iV v1,.string word,.slice A1 ms.length cp1,Zs,Zs] 59,.blk b4 Zx 59] (fun _:Unit=>.agg (List.toArray [iV 2,iV 0,iV v1,.string word,.slice A1 ms.length cp1,Zs,Zs])) (fun z15=>m11 + 1≤100) (fun z15=>[Rb 114 p s j12 (m11 + 1),.pub zd]) _ (fun f14=>Pz.node ⟨j12,m11⟩=.no f14) (fun _=>rfl) (S9 [1,2,0,3,4,5]) (fun _=>rfl) wn rfl rfl call99 rfl (fun w1 Pb hG=>ug p s j12 m11 2 0 v1 word A1 ms.length cp1 none 0 0 none 0 0 Pb w1 hG (by omega) (by omega) (by omega)) ?_ fun z15 hz15=>?_))))))
 · intro f14 hf14
   refine zu (yE fun w1 hM=>?_)
   exact hM.yS f14 (by first | (simp only [Pz.then_ok,Pz.then_no,Pz.St.go,lgc,Pz.window,zC.e,zC.es,he1,he2,he3,g2,hx2,he9,he10,he11,he12,h1,hf14]; done) | simp [Pz.then_ok,Pz.then_no,Pz.St.go,lgc,Pz.window,zC.e,zC.es,he1,he2,he3,g2,hx2,he9,he10,he11,he12,h1,hf14])
 have he13:Pz.node ⟨j12,m11⟩=.ok ⟨j12,m11 + 1⟩:=Pz.node_yes hz15
 refine zr 5 wn rfl rfl rfl inf59 rfl rfl rfl (zD hK18 (zX (zY (.inl rfl) results183 (zt 5 rfl rfl agg59 inf59 rfl) fun w1 hM=>?_)))
 have h9:Pz.window s word ⟨i,n⟩=.ok ((zC.mk 2 0 v1 word ⟨A1,cp1,ms⟩ ⟨none,0,[]⟩ ⟨none,0,[]⟩).e,⟨j12,(m11 + 1)⟩):=by first | (simp only [Pz.then_ok,Pz.then_no,Pz.St.go,lgc,Pz.window,zC.e,zC.es,he1,he2,he3,g2,hx2,he9,he10,he11,he12,he13,h1]; done) | simp [Pz.then_ok,Pz.then_no,Pz.St.go,lgc,Pz.window,zC.e,zC.es,he1,he2,he3,g2,hx2,he9,he10,he11,he12,he13,h1]
 exact hM.uX (((zC.mk 2 0 v1 word ⟨A1,cp1,ms⟩ ⟨none,0,[]⟩ ⟨none,0,[]⟩),⟨j12,(m11 + 1)⟩):zC × Pz.St) rfl ⟨h9,(Pz.window_fine _ hi).ok_ h9⟩ (fun h=>h.sel [0,1,2] (by decide) rfl)
def FacC (N : Nat) : Prop := ∀ (p : Nat) (s : ByteArray) (i : Nat) (n d : Int) (Pb : Nat → Prop) (w : World) (hG : Mem w ⟨fpOf [Rb 114 p s i n, .pub zd], Pb⟩ [Rb 114 p s i n, .pub zd] w) (hi : i ≤ s.size) (hs : s.size ≤ 2000) (hn : 0 ≤ n ∧ n ≤ 100) (hd : d + (N : Int) = 21) (hd1 : 1 ≤ d),
    Calls prog 147 #[.pointer (some ⟨p,0,none⟩),iV d] w (RetX w [Rb 114 p s i n,.pub zd] Pb 111 (fun z:zC × Pz.St=>.agg (yl z.1).toArray) (fun z=>Pz.fac s N ⟨i,n⟩=.ok (z.1.e,z.2)∧Pz.Good s ⟨i,n⟩ z.2) (fun z=>[Rb 114 p s z.2.at_ z.2.nd,.pub zd,okP zC.Ok z.1]) (fun f=>Pz.fac s N ⟨i,n⟩=.no f))
def TrmC (N : Nat) : Prop := ∀ (p : Nat) (s : ByteArray) (i : Nat) (n d : Int) (Pb : Nat → Prop) (w : World) (hG : Mem w ⟨fpOf [Rb 114 p s i n, .pub zd], Pb⟩ [Rb 114 p s i n, .pub zd] w) (hi : i ≤ s.size) (hs : s.size ≤ 2000) (hn : 0 ≤ n ∧ n ≤ 100) (hd : d + (N : Int) = 21) (hd1 : 1 ≤ d),
    Calls prog 97 #[.pointer (some ⟨p,0,none⟩),iV d] w (RetX w [Rb 114 p s i n,.pub zd] Pb 111 (fun z:zC × Pz.St=>.agg (yl z.1).toArray) (fun z=>Pz.trm s N ⟨i,n⟩=.ok (z.1.e,z.2)∧Pz.Good s ⟨i,n⟩ z.2) (fun z=>[Rb 114 p s z.2.at_ z.2.nd,.pub zd,okP zC.Ok z.1]) (fun f=>Pz.trm s N ⟨i,n⟩=.no f))
def XprC (N : Nat) : Prop := ∀ (p : Nat) (s : ByteArray) (i : Nat) (n d : Int) (Pb : Nat → Prop) (w : World) (hG : Mem w ⟨fpOf [Rb 114 p s i n, .pub zd], Pb⟩ [Rb 114 p s i n, .pub zd] w) (hi : i ≤ s.size) (hs : s.size ≤ 2000) (hn : 0 ≤ n ∧ n ≤ 100) (hd : d + (N : Int) = 21) (hd1 : 1 ≤ d),
    Calls prog 52 #[.pointer (some ⟨p,0,none⟩),iV d] w (RetX w [Rb 114 p s i n,.pub zd] Pb 111 (fun z:zC × Pz.St=>.agg (yl z.1).toArray) (fun z=>Pz.xpr s N ⟨i,n⟩=.ok (z.1.e,z.2)∧Pz.Good s ⟨i,n⟩ z.2) (fun z=>[Rb 114 p s z.2.at_ z.2.nd,.pub zd,okP zC.Ok z.1]) (fun f=>Pz.xpr s N ⟨i,n⟩=.no f))
set_option maxHeartbeats 20000000 in
theorem c_all (p : Nat) (s : ByteArray) (i : Nat) (n : Int) (d : Int) (N : Nat) (Pb : Nat → Prop) (w : World) (hG : Mem w ⟨fpOf [Rb 114 p s i n, .pub zd], Pb⟩ [Rb 114 p s i n, .pub zd] w) (hi : i ≤ s.size) (hs : s.size ≤ 2000) (hn : 0 ≤ n ∧ n ≤ 100) (hd : d + 1 + (N : Int) = 21) (hd1 : 1 ≤ d) (ih : XprC N) :
    Calls prog 181 #[.pointer (some ⟨p,0,none⟩),iV d] w (RetX w [Rb 114 p s i n,.pub zd] Pb 111 (fun z:zC × Pz.St=>.agg (yl z.1).toArray) (fun z=>Pz.all s (Pz.xpr s N) ⟨i,n⟩=.ok (z.1.e,z.2)∧Pz.Good s ⟨i,n⟩ z.2) (fun z=>[Rb 114 p s z.2.at_ z.2.nd,.pub zd,okP zC.Ok z.1]) (fun f=>Pz.all s (Pz.xpr s N) ⟨i,n⟩=.no f)):=by
 refine fstart (N:=85) (vals:=[.pointer (some ⟨p,0,none⟩),iV d]) (S:=Mem w ⟨fpOf [Rb 114 p s i n,.pub zd],Pb⟩ [Rb 114 p s i n,.pub zd]) func181 rfl rfl rfl hG (zG fun _ hK1=>yC wn inf59 rfl fun b4=>zD hK1 (zG fun _ hK2=>zE rfl (vO (α:=Nat) [Rb 114 p s i n,.pub zd] [.blk b4 Zx 59] (fun _=>.tuple #[]) (fun j1=>(Pz.blank s i=j1∧i≤j1∧j1≤s.size)) (fun j1=>[Rb 114 p s j1 n,.pub zd]) _ (fun _=>rfl) (S9 [1,2,0]) (fun _=>rfl) wn rfl rfl call53 rfl (fun w1 Pb hG=>uf p s i n Pb w1 hG (by omega) (by omega)) fun j1 hz1=>?_)))
 obtain ⟨hz1e,hz1a,hz1b⟩:=hz1
 refine zD hK2 (zG fun _ hK3=>zE rfl (zB (zT rfl) (zB (za rfl fld114_1) (zB (zg 0 rfl rfl rfl flat3) (zP rfl (zD hK3 (zG fun _ hK4=>zE rfl (yJ (α:=ByteArray × Pz.St) (PT:=111) [Rb 114 p s j1 n,.pub zd] [.blk b4 Zx 59] (fun z:ByteArray × Pz.St=>.string z.1) (fun z1=>Pz.name s ⟨j1,n⟩=.ok z1∧Pz.Good s ⟨j1,n⟩ z1.2) (fun z1=>[Rb 114 p s z1.2.at_ z1.2.nd,.pub zd]) _ (fun f1=>Pz.name s ⟨j1,n⟩=.no f1) (fun _=>rfl) (S9 [0,1,2]) (fun _=>rfl) wn rfl rfl call211 rfl (fun w1 Pb hG=>uG p s j1 n  Pb w1 hG (by omega) (by omega) (by omega) ) ?_ fun z1 hz2=>?_))))))))
 · intro f1 hf1
   refine zu (yE fun w1 hM=>?_)
   exact hM.yS f1 (by first | (simp only [Pz.then_ok,Pz.then_no,Pz.St.go,lgc,Pz.all,Pz.bys,Pz.allTail,zC.e,zC.es,hz1e,hf1]; done) | simp [Pz.then_ok,Pz.then_no,Pz.St.go,lgc,Pz.all,Pz.bys,Pz.allTail,zC.e,zC.es,hz1e,hf1])
 obtain ⟨wd1,j2,m1⟩:=z1
 have he1:Pz.name s ⟨j1,n⟩=.ok (wd1,⟨j2,m1⟩):=hz2.1
 have ga1:j2≤s.size:=hz2.2.at_
 have gm1:n≤m1:=hz2.2.mono
 have gn1:m1≤100:=hz2.2.most (show n≤100 by omega)
 have wz1:wd1.size≤12:=Pz.name_size (t:=⟨j1,n⟩) (show j1≤_ by omega) he1
 refine vR 15 (.string wd1) [Rb 114 p s j2 m1,.pub zd,.blk b4 Zx 59] (zB (zz [iV 3,iV 0,iV 0,.string wd1,Zs,Zs,Zs] pl59 inf59 rfl rfl) (yC wn inf59 rfl fun b6=>zr 0 wn rfl rfl rfl inf59 rfl rfl rfl (zD hK4 (zS fun _ hK5=>zS fun _ hK6=>vL (Mem w ⟨fpOf [Rb 114 p s i n,.pub zd],Pb⟩ [.blk b6 [iV 3,iV 0,iV 0,.string wd1,Zs,Zs,Zs] 59,Rb 114 p s j2 m1,.pub zd,.blk b4 Zx 59]) mix (fun _ h=>h.drew) rfl (u6 (f:=3) [1,2] rfl rfl (by kernel_rfl) (by kernel_rfl) (fun _ h=>h) fun KS hKS=>yD (za rfl fld59_3) (yD (zg 0 rfl rfl rfl flat9) (yd hKS ?_)))))))
 refine yY 2 0 (yN (i:=0) rfl fun KN hKN hPN=>uU Lg.totals wn rfl call151 rfl (fun w1 hM=>c_Totals  w1) fun A1 cp1 hc1 hm1 hA1=>yP hKN [1,2,3,4] (yY 1 3 (yN (i:=3) rfl fun KN hKN hPN=>yF wn rfl call150 rfl (fun w1 hM=>uQ _ Lg.totals wd1 w1 (RowSl encString hM 0 rfl)) (yP hKN [1,2,3,4] (vK 0 [4] [1,2,3,4] rfl fun KS hKS=>yD (jB rfl) (yd hKS (yu (by kernel_rfl) (zy hK6 ?_))))))))
 refine zZ rfl (fun h1=>?_) (fun h1=>?_)
 · refine zG fun _ hK7=>zE rfl (zE rfl (zB (zT rfl) (zB (za rfl fld114_1) (yt 2 wn rfl rfl rfl rfl inf3 rfl rfl (zD hK7 (zL (zE rfl (yJ (α:=Unit) (PT:=111) [Rb 114 p s j1 m1,.pub zd] [Row (.slice A1 Lg.totals.length cp1) 9 1 strE Lg.totals,.blk b6 [iV 3,iV 0,iV 0,.string wd1,Zs,Zs,Zs] 59,.blk b4 Zx 59] (fun _:Unit=>.tuple #[]) (fun z2=>False) (fun z2=>[Rb 114 p s j1 m1,.pub zd]) _ (fun f2=>f2=(7,(j1:Int))) (fun _=>rfl) (S9 [2,3,0,1,4]) (fun _=>rfl) wn rfl rfl call54 rfl (fun w1 Pb hG=>vj p s j1 m1 7 Pb w1 hG) ?_ fun z2 hz3=>?_))))))))
   · intro f2 hf2
     refine zu (yE fun w1 hM=>?_)
     exact hM.yS f2 (by first | (simp only [Pz.then_ok,Pz.then_no,Pz.St.go,lgc,Pz.all,Pz.bys,Pz.allTail,zC.e,zC.es,hz1e,he1,h1,hf2]; done) | simp [Pz.then_ok,Pz.then_no,Pz.St.go,lgc,Pz.all,Pz.bys,Pz.allTail,zC.e,zC.es,hz1e,he1,h1,hf2])
   exact hz3.elim
 refine yK hK5 (zG fun _ hK8=>zE rfl (vO (α:=Nat) [Rb 114 p s j2 m1,.pub zd] [Row (.slice A1 Lg.totals.length cp1) 9 1 strE Lg.totals,.blk b6 [iV 3,iV 0,iV 0,.string wd1,Zs,Zs,Zs] 59,.blk b4 Zx 59] (fun _=>.tuple #[]) (fun j3=>(Pz.blank s j2=j3∧j2≤j3∧j3≤s.size)) (fun j3=>[Rb 114 p s j3 m1,.pub zd]) _ (fun _=>rfl) (S9 [2,3,0,1,4]) (fun _=>rfl) wn rfl rfl call53 rfl (fun w1 Pb hG=>uf p s j2 m1 Pb w1 hG (by omega) (by omega)) fun j3 hz4=>?_))
 obtain ⟨hz4e,hz4a,hz4b⟩:=hz4
 refine zD hK8 (zG fun _ hK9=>zE rfl (zB (zT rfl) (zB (za rfl fld114_1) (zB (zg 0 rfl rfl rfl flat3) (zP rfl (zD hK9 (zS fun _ hK10=>zG fun _ hK11=>zE rfl (yJ (α:=ByteArray × Pz.St) (PT:=111) [Rb 114 p s j3 m1,.pub zd] [Row (.slice A1 Lg.totals.length cp1) 9 1 strE Lg.totals,.blk b6 [iV 3,iV 0,iV 0,.string wd1,Zs,Zs,Zs] 59,.blk b4 Zx 59] (fun z:ByteArray × Pz.St=>.string z.1) (fun z3=>Pz.word s ⟨j3,m1⟩=.ok z3∧Pz.Good s ⟨j3,m1⟩ z3.2) (fun z3=>[Rb 114 p s z3.2.at_ z3.2.nd,.pub zd]) _ (fun f3=>Pz.word s ⟨j3,m1⟩=.no f3) (fun _=>rfl) (S9 [0,1,2,3,4]) (fun _=>rfl) wn rfl rfl call180 rfl (fun w1 Pb hG=>jz p s j3 m1  Pb w1 hG (by omega) (by omega) (by omega) ) ?_ fun z3 hz5=>?_))))))))
 · intro f3 hf3
   refine zu (zu (yE fun w1 hM=>?_))
   exact hM.yS f3 (by first | (simp only [Pz.then_ok,Pz.then_no,Pz.St.go,lgc,Pz.all,Pz.bys,Pz.allTail,zC.e,zC.es,hz1e,he1,hz4e,h1,hf3]; done) | simp [Pz.then_ok,Pz.then_no,Pz.St.go,lgc,Pz.all,Pz.bys,Pz.allTail,zC.e,zC.es,hz1e,he1,hz4e,h1,hf3])
 obtain ⟨wd2,j4,m2⟩:=z3
 have he2:Pz.word s ⟨j3,m1⟩=.ok (wd2,⟨j4,m2⟩):=hz5.1
 have ga2:j4≤s.size:=hz5.2.at_
 have gm2:m1≤m2:=hz5.2.mono
 have gn2:m2≤100:=hz5.2.most (show m1≤100 by omega)
 have wz2:wd2.size≤12:=Pz.word_size (t:=⟨j3,m1⟩) (show j3≤_ by omega) he2
 refine vR 35 (.string wd2) [Rb 114 p s j4 m2,.pub zd,Row (.slice A1 Lg.totals.length cp1) 9 1 strE Lg.totals,.blk b6 [iV 3,iV 0,iV 0,.string wd1,Zs,Zs,Zs] 59,.blk b4 Zx 59] (zP rfl (zD hK11 (zG fun _ hK12=>zE rfl (zB (u7 rfl rfl) (zE rfl (yQ (t:=38) rfl (fun h2=>?_) (fun h2=>?_)))))))
 · have g1:(wd2=⟨#[]⟩)=False:=eq_false h2
   refine zb (zi rfl) (zb (u7 rfl rfl) (zB (zM rfl rfl) (zD hK12 (zZ rfl (fun h3=>?_) (fun h3=>?_)))))
   · have g2:(wd2=⟨#[98,121]⟩)=False:=eq_false h3
     refine zG fun _ hK13=>zE rfl (zE rfl (zB (zT rfl) (zB (za rfl fld114_1) (yt 0 wn rfl rfl rfl rfl inf3 rfl rfl (zD hK13 (zL (zE rfl (yJ (α:=Unit) (PT:=111) [Rb 114 p s j3 m2,.pub zd] [Row (.slice A1 Lg.totals.length cp1) 9 1 strE Lg.totals,.blk b6 [iV 3,iV 0,iV 0,.string wd1,Zs,Zs,Zs] 59,.blk b4 Zx 59] (fun _:Unit=>.tuple #[]) (fun z4=>False) (fun z4=>[Rb 114 p s j3 m2,.pub zd]) _ (fun f4=>f4=(2,(j3:Int))) (fun _=>rfl) (S9 [0,1,2,3,4]) (fun _=>rfl) wn rfl rfl call54 rfl (fun w1 Pb hG=>vj p s j3 m2 2 Pb w1 hG) ?_ fun z4 hz6=>?_))))))))
     · intro f4 hf4
       refine zu (yE fun w1 hM=>?_)
       exact hM.yS f4 (by first | (simp only [Pz.then_ok,Pz.then_no,Pz.St.go,lgc,Pz.all,Pz.bys,Pz.allTail,zC.e,zC.es,hz1e,he1,hz4e,he2,g1,g2,h1,hf4]; done) | simp [Pz.then_ok,Pz.then_no,Pz.St.go,lgc,Pz.all,Pz.bys,Pz.allTail,zC.e,zC.es,hz1e,he1,hz4e,he2,g1,g2,h1,hf4])
     exact hz6.elim
   have g3:(wd2=⟨#[98,121]⟩)=True:=eq_true (Classical.not_not.1 h3)
   refine zG fun _ hK14=>zE rfl (zB (vf rfl rfl) (zD hK14 (vM rfl (decide_eq_true (Classical.not_not.1 h3)) (zS fun _ hK15=>vL (Mem w ⟨fpOf [Rb 114 p s i n,.pub zd],Pb⟩ [.pub zd,Row (.slice A1 Lg.totals.length cp1) 9 1 strE Lg.totals,.blk b4 Zx 59]) mix (fun _ h=>h.drew) rfl (vK 6 [0,2] [1,2,4] rfl fun KS hKS=>yD (za rfl fld59_5) (yD (zi rfl) (yd hKS (vX (f:=5) (i:=1) (j:=3) rfl (by kernel_rfl) ?_ ?_))))))))
   · refine yN (i:=1) rfl fun KN hKN hPN=>zB (zg 3 rfl rfl rfl flat56) (yP hKN [1,2,4] (yY 4 3 (yN (i:=3) rfl fun KN hKN hPN=>yJ (α:=ByteArray × Pz.St) (PT:=111) [Rb 114 p s j4 m2,.pub zd] [Row (.slice A1 Lg.totals.length cp1) 9 1 strE Lg.totals,.blk b6 [iV 3,iV 0,iV 0,.string wd1,Zs,Zs,Zs] 59,.blk b4 Zx 59] (fun z:ByteArray × Pz.St=>.string z.1) (fun z5=>Pz.name s ⟨j4,m2⟩=.ok z5∧Pz.Good s ⟨j4,m2⟩ z5.2) (fun z5=>[Rb 114 p s z5.2.at_ z5.2.nd,.pub zd]) _ (fun f5=>Pz.name s ⟨j4,m2⟩=.no f5) (fun _=>rfl) (S9 [0,1,2,3,4]) (fun _=>rfl) wn rfl rfl call211 rfl (fun w1 Pb hG=>uG p s j4 m2  Pb w1 hG (by omega) (by omega) (by omega) ) ?_ fun z5 hz7=>?_)))
     · intro f5 hf5
       refine vo hPN (zu (zu (yE fun w1 hM=>?_)))
       exact hM.yS f5 (by first | (simp only [Pz.then_ok,Pz.then_no,Pz.St.go,lgc,Pz.all,Pz.bys,Pz.allTail,zC.e,zC.es,hz1e,he1,hz4e,he2,g1,g3,h1,hf5]; done) | simp [Pz.then_ok,Pz.then_no,Pz.St.go,lgc,Pz.all,Pz.bys,Pz.allTail,zC.e,zC.es,hz1e,he1,hz4e,he2,g1,g3,h1,hf5])
     obtain ⟨wd3,j5,m3⟩:=z5
     have he3:Pz.name s ⟨j4,m2⟩=.ok (wd3,⟨j5,m3⟩):=hz7.1
     have ga3:j5≤s.size:=hz7.2.at_
     have gm3:m2≤m3:=hz7.2.mono
     have gn3:m3≤100:=hz7.2.most (show m2≤100 by omega)
     have wz3:wd3.size≤12:=Pz.name_size (t:=⟨j4,m2⟩) (show j4≤_ by omega) he3
     refine vR 53 (.string wd3) [Rb 114 p s j5 m3,.pub zd,Row (.slice A1 Lg.totals.length cp1) 9 1 strE Lg.totals,.blk b6 [iV 3,iV 0,iV 0,.string wd1,Zs,Zs,Zs] 59,.blk b4 Zx 59] (yP hKN [1,2,4] (yY 3 4 (yN (i:=4) rfl fun KN hKN hPN=>yw strE ([wd3]:List ByteArray) wn underlying56 inf9 rfl rfl rfl rfl (by decide) (by decide) rfl fun b54=>yP hKN [2,3,5] (yY 2 5 (yN (i:=5) rfl fun KN hKN hPN=>vE (strE:ByteArray→List Value) 9 1 (vG 0 ([]:List ByteArray) ([wd3]:List ByteArray) encString wn rfl rfl rfl (fun _ hM=>(RowSl encString hM 1 rfl)) underlying56 inf9 rfl rfl (by simp only [List.length_append,List.length_cons,List.length_nil]; omega) rfl fun A2 cp2 hc2 hm2 hA2=>yP hKN [3,4,6] (vK 1 [6] [3,4,6] rfl fun KS hKS=>?_)))))))
     refine yD (za rfl fld59_5) (yd hKS (yY 0 7 (yN (i:=7) rfl fun KN hKN hPN=>yt 5 wn rfl rfl rfl rfl inf56 rfl rfl (yP hKN [3,4,6] (yu (by kernel_rfl) (zy hK15 (zk (jR (fun (l:List ByteArray) (k:Nat) (m:Int) (q:Nat) (rv:Value)=>[(0,.pointer (some ⟨p,0,none⟩)),(1,iV d),(4,.pointer (some ⟨b4,0,none⟩)),(6,.pointer (some ⟨b6,0,none⟩))]) (fun (l:List ByteArray) (k:Nat) (m:Int) (q:Nat) (rv:Value)=>[Row rv 9 1 strE l,Row (.slice (some ⟨b54,0,none⟩) 1 1) 9 1 strE ([wd3]:List ByteArray),Rb 114 p s k m,.pub zd,Row (.slice A1 Lg.totals.length cp1) 9 1 strE Lg.totals,.blk b6 [iV 3,iV 0,iV 0,.string wd1,Zs,rv,Zs] 59,.blk b4 Zx 59]) (fun (l:List ByteArray) (k:Nat) (m:Int) (q:Nat) (rv:Value)=>Pz.byL s 5 [wd3] ⟨j5,m3⟩=Pz.byL s (q + 1) l ⟨k,m⟩∧l.length + q=5∧l.length≤4∧k≤s.size∧m3≤m∧m≤100) (fun (l:List ByteArray) (k:Nat) (m:Int) (q:Nat) (rv:Value)=>q) (([]:List ByteArray)++([wd3]:List ByteArray)) j5 m3 4 (.slice A2 ((([]:List ByteArray)++([wd3]:List ByteArray)).length) cp2) (sc rfl (sc rfl (sc rfl (sc rfl sn)))) (fun _ h=>h) ?_ (fun l k m q rv hI1=>?_)))))))))
     · exact ⟨rfl,rfl,by simp,by omega,by omega,by omega⟩
     refine vW 0 (l:=l) rfl fun A3 cp3 hv1 hc3 hm3 hA3=>?_
     subst hv1
     refine zS fun _ hK16=>zG fun _ hK17=>zE rfl (vO (α:=(Bool × Nat)) [Rb 114 p s k m,.pub zd] [Row (.slice A3 l.length cp3) 9 1 strE l,Row (.slice (some ⟨b54,0,none⟩) 1 1) 9 1 strE ([wd3]:List ByteArray),Row (.slice A1 Lg.totals.length cp1) 9 1 strE Lg.totals,.blk b6 [iV 3,iV 0,iV 0,.string wd1,Zs,.slice A3 l.length cp3,Zs] 59,.blk b4 Zx 59] (fun z:Bool × Nat=>.bool z.1) (fun z6=>(Pz.eat s ⟨#[44]⟩ k=z6∧k≤z6.2∧z6.2≤s.size)) (fun z6=>[Rb 114 p s z6.2 m,.pub zd]) _ (fun _=>rfl) (S9 [2,3,0,1,4,5,6]) (fun _=>rfl) wn rfl rfl call98 rfl (fun w1 Pb hG=>ui p s k m ⟨#[44]⟩ Pb w1 hG (by omega) (by omega)) fun z6 hz8=>?_)
     obtain ⟨bo1,j6⟩:=z6
     have he4:Pz.eat s ⟨#[44]⟩ k=(bo1,j6):=hz8.1
     have hz8a:k≤j6:=hz8.2.1
     have hz8b:j6≤s.size:=hz8.2.2
     refine vR 58 (.bool bo1) [Rb 114 p s j6 m,.pub zd,Row (.slice A3 l.length cp3) 9 1 strE l,Row (.slice (some ⟨b54,0,none⟩) 1 1) 9 1 strE ([wd3]:List ByteArray),Row (.slice A1 Lg.totals.length cp1) 9 1 strE Lg.totals,.blk b6 [iV 3,iV 0,iV 0,.string wd1,Zs,.slice A3 l.length cp3,Zs] 59,.blk b4 Zx 59] (zD hK17 (yp rfl (fun h4=>?_) (fun h4=>?_)))
     · have hx1:=hI1.1
       refine yK hK16 (zk (zS fun _ hK18=>zG fun _ hK19=>zB (za rfl fld59_5) (zB (zg 5 rfl rfl rfl flat56) (zB (yW rfl underlying56) (zB (yf rfl rfl) (zD hK19 (zZ rfl (fun h5=>?_) (fun h5=>?_))))))))
       · refine zL (zE rfl (yJ (α:=Unit) (PT:=111) [Rb 114 p s j6 m,.pub zd] [Row (.slice A3 l.length cp3) 9 1 strE l,Row (.slice (some ⟨b54,0,none⟩) 1 1) 9 1 strE ([wd3]:List ByteArray),Row (.slice A1 Lg.totals.length cp1) 9 1 strE Lg.totals,.blk b6 [iV 3,iV 0,iV 0,.string wd1,Zs,.slice A3 l.length cp3,Zs] 59,.blk b4 Zx 59] (fun _:Unit=>.tuple #[]) (fun z7=>False) (fun z7=>[Rb 114 p s j6 m,.pub zd]) _ (fun f6=>f6=(5,(j6:Int))) (fun _=>rfl) (S9 [0,1,2,3,4,5,6]) (fun _=>rfl) wn rfl rfl call54 rfl (fun w1 Pb hG=>vj p s j6 m 5 Pb w1 hG) ?_ fun z7 hz9=>?_))
         · intro f6 hf6
           refine zu (yv (vT (yv (zu (yE fun w1 hM=>?_)))))
           have hY:=Pz.by_many hx1 (by rw [he4,h4]) h5
           exact hM.yS f6 (by simp only [Pz.then_ok,Pz.then_no,Pz.St.go,lgc,Pz.all,Pz.bys,Pz.allTail,zC.e,zC.es,hz1e,he1,hz4e,he2,g1,g3,he3,he4,h1,hY,hf6])
         exact hz9.elim
       refine yK hK18 (vL (Mem w ⟨fpOf [Rb 114 p s i n,.pub zd],Pb⟩ [.pub zd,Row (.slice (some ⟨b54,0,none⟩) 1 1) 9 1 strE ([wd3]:List ByteArray),Row (.slice A1 Lg.totals.length cp1) 9 1 strE Lg.totals,.blk b4 Zx 59]) mix (fun _ h=>h.drew) rfl (vK 6 [0,2] [1,3,4,6] rfl fun KS hKS=>yD (za rfl fld59_5) (yD (zi rfl) (yd hKS (vX (f:=5) (i:=1) (j:=3) rfl (by kernel_rfl) ?_ ?_)))))
       · refine yN (i:=1) rfl fun KN hKN hPN=>zB (zg 5 rfl rfl rfl flat56) (yP hKN [1,3,4,6] (yY 4 3 (yN (i:=3) rfl fun KN hKN hPN=>yJ (α:=ByteArray × Pz.St) (PT:=111) [Rb 114 p s j6 m,.pub zd] [Row (.slice A3 l.length cp3) 9 1 strE l,Row (.slice (some ⟨b54,0,none⟩) 1 1) 9 1 strE ([wd3]:List ByteArray),Row (.slice A1 Lg.totals.length cp1) 9 1 strE Lg.totals,.blk b6 [iV 3,iV 0,iV 0,.string wd1,Zs,.slice A3 l.length cp3,Zs] 59,.blk b4 Zx 59] (fun z:ByteArray × Pz.St=>.string z.1) (fun z8=>Pz.name s ⟨j6,m⟩=.ok z8∧Pz.Good s ⟨j6,m⟩ z8.2) (fun z8=>[Rb 114 p s z8.2.at_ z8.2.nd,.pub zd]) _ (fun f7=>Pz.name s ⟨j6,m⟩=.no f7) (fun _=>rfl) (S9 [0,1,2,3,4,5,6]) (fun _=>rfl) wn rfl rfl call211 rfl (fun w1 Pb hG=>uG p s j6 m  Pb w1 hG (by omega) (by omega) (by omega) ) ?_ fun z8 hz10=>?_)))
         · intro f7 hf7
           refine vo hPN (yv (vT (yv (zu (yE fun w1 hM=>?_)))))
           have hY:=Pz.by_next hx1 (by rw [he4,h4]) h5 hf7
           rw [Pz.then_no] at hY
           exact hM.yS f7 (by simp only [Pz.then_ok,Pz.then_no,Pz.St.go,lgc,Pz.all,Pz.bys,Pz.allTail,zC.e,zC.es,hz1e,he1,hz4e,he2,g1,g3,he3,he4,h1,hY])
         obtain ⟨wd4,j7,m4⟩:=z8
         have he5:Pz.name s ⟨j6,m⟩=.ok (wd4,⟨j7,m4⟩):=hz10.1
         have ga4:j7≤s.size:=hz10.2.at_
         have gm4:m≤m4:=hz10.2.mono
         have gn4:m4≤100:=hz10.2.most (show m≤100 by omega)
         have wz4:wd4.size≤12:=Pz.name_size (t:=⟨j6,m⟩) (show j6≤_ by omega) he5
         refine vR 68 (.string wd4) [Rb 114 p s j7 m4,.pub zd,Row (.slice A3 l.length cp3) 9 1 strE l,Row (.slice (some ⟨b54,0,none⟩) 1 1) 9 1 strE ([wd3]:List ByteArray),Row (.slice A1 Lg.totals.length cp1) 9 1 strE Lg.totals,.blk b6 [iV 3,iV 0,iV 0,.string wd1,Zs,.slice A3 l.length cp3,Zs] 59,.blk b4 Zx 59] (yP hKN [1,3,4,6] (yY 3 4 (yN (i:=4) rfl fun KN hKN hPN=>yw strE ([wd4]:List ByteArray) wn underlying56 inf9 rfl rfl rfl rfl (by decide) (by decide) rfl fun b69=>yP hKN [2,4,5,7] (yY 2 5 (yN (i:=5) rfl fun KN hKN hPN=>vG 3 l ([wd4]:List ByteArray) encString wn rfl rfl rfl (fun _ hM=>(RowSl encString hM 0 rfl)) underlying56 inf9 rfl rfl (by simp only [List.length_append,List.length_cons,List.length_nil]; omega) rfl fun A4 cp4 hc4 hm4 hA4=>yP hKN [2,4,5,7] (vK 1 [6] [2,4,5,7] rfl fun KS hKS=>yD (za rfl fld59_5) ?_))))))
         refine yd hKS (yY 0 7 (yN (i:=7) rfl fun KN hKN hPN=>yt 6 wn rfl rfl rfl rfl inf56 rfl rfl (yP hKN [2,4,5,7] (yu (by kernel_rfl) (zm (vd (l++([wd4]:List ByteArray)) j7 m4 (q - 1) (.slice A4 ((l++([wd4]:List ByteArray)).length) cp4) (sc rfl (sc rfl (sc rfl (sc rfl sn)))) (S9 [3,4,1,2,5,6,7]) ?_ ?_))))))
         · have hY:=Pz.by_next hx1 (by rw [he4,h4]) h5 he5
           rw [Pz.then_ok] at hY
           exact ⟨hY.trans (by rw [show q - 1 + 1=q by omega]),by simp only [List.length_append,List.length_cons,List.length_nil]; omega,by simp only [List.length_append,List.length_cons,List.length_nil]; omega,by omega,by omega,by omega⟩
         omega
       refine yN (i:=3) rfl fun KN hKN hPN=>yJ (α:=ByteArray × Pz.St) (PT:=111) [Rb 114 p s j6 m,.pub zd] [Row (.slice A3 l.length cp3) 9 1 strE l,Row (.slice (some ⟨b54,0,none⟩) 1 1) 9 1 strE ([wd3]:List ByteArray),Row (.slice A1 Lg.totals.length cp1) 9 1 strE Lg.totals,.blk b6 [iV 3,iV 0,iV 0,.string wd1,Zs,.slice A3 l.length cp3,Zs] 59,.blk b4 Zx 59] (fun z:ByteArray × Pz.St=>.string z.1) (fun z9=>Pz.name s ⟨j6,m⟩=.ok z9∧Pz.Good s ⟨j6,m⟩ z9.2) (fun z9=>[Rb 114 p s z9.2.at_ z9.2.nd,.pub zd]) _ (fun f8=>Pz.name s ⟨j6,m⟩=.no f8) (fun _=>rfl) (S9 [0,1,2,3,4,5,6]) (fun _=>rfl) wn rfl rfl call211 rfl (fun w1 Pb hG=>uG p s j6 m  Pb w1 hG (by omega) (by omega) (by omega) ) ?_ fun z9 hz11=>?_
       · intro f8 hf8
         refine vo hPN (yv (vT (yv (zu (yE fun w1 hM=>?_)))))
         have hY:=Pz.by_next hx1 (by rw [he4,h4]) h5 hf8
         rw [Pz.then_no] at hY
         exact hM.yS f8 (by simp only [Pz.then_ok,Pz.then_no,Pz.St.go,lgc,Pz.all,Pz.bys,Pz.allTail,zC.e,zC.es,hz1e,he1,hz4e,he2,g1,g3,he3,he4,h1,hY])
       obtain ⟨wd5,j8,m5⟩:=z9
       have he6:Pz.name s ⟨j6,m⟩=.ok (wd5,⟨j8,m5⟩):=hz11.1
       have ga5:j8≤s.size:=hz11.2.at_
       have gm5:m≤m5:=hz11.2.mono
       have gn5:m5≤100:=hz11.2.most (show m≤100 by omega)
       have wz5:wd5.size≤12:=Pz.name_size (t:=⟨j6,m⟩) (show j6≤_ by omega) he6
       refine vR 68 (.string wd5) [Rb 114 p s j8 m5,.pub zd,Row (.slice A3 l.length cp3) 9 1 strE l,Row (.slice (some ⟨b54,0,none⟩) 1 1) 9 1 strE ([wd3]:List ByteArray),Row (.slice A1 Lg.totals.length cp1) 9 1 strE Lg.totals,.blk b6 [iV 3,iV 0,iV 0,.string wd1,Zs,.slice A3 l.length cp3,Zs] 59,.blk b4 Zx 59] (yP hKN [1,3,4,6] (vX (f:=4) (i:=1) (j:=4) rfl (by kernel_rfl) ?_ ?_))
       · refine yN (i:=1) rfl fun KN hKN hPN=>zB (zg 5 rfl rfl rfl flat56) (yP hKN [1,3,4,6] (yY 3 4 (yN (i:=4) rfl fun KN hKN hPN=>yw strE ([wd5]:List ByteArray) wn underlying56 inf9 rfl rfl rfl rfl (by decide) (by decide) rfl fun b69=>yP hKN [2,4,5,7] (yY 2 5 (yN (i:=5) rfl fun KN hKN hPN=>vG 3 l ([wd5]:List ByteArray) encString wn rfl rfl rfl (fun _ hM=>(RowSl encString hM 0 rfl)) underlying56 inf9 rfl rfl (by simp only [List.length_append,List.length_cons,List.length_nil]; omega) rfl fun A5 cp5 hc5 hm5 hA5=>yP hKN [2,4,5,7] (vK 1 [6] [2,4,5,7] rfl fun KS hKS=>?_))))))
         refine yD (za rfl fld59_5) (yd hKS (yY 0 7 (yN (i:=7) rfl fun KN hKN hPN=>yt 6 wn rfl rfl rfl rfl inf56 rfl rfl (yP hKN [2,4,5,7] (yu (by kernel_rfl) (zm (vd (l++([wd5]:List ByteArray)) j8 m5 (q - 1) (.slice A5 ((l++([wd5]:List ByteArray)).length) cp5) (sc rfl (sc rfl (sc rfl (sc rfl sn)))) (S9 [3,4,1,2,5,6,7]) ?_ ?_)))))))
         · have hY:=Pz.by_next hx1 (by rw [he4,h4]) h5 he6
           rw [Pz.then_ok] at hY
           exact ⟨hY.trans (by rw [show q - 1 + 1=q by omega]),by simp only [List.length_append,List.length_cons,List.length_nil]; omega,by simp only [List.length_append,List.length_cons,List.length_nil]; omega,by omega,by omega,by omega⟩
         omega
       refine yN (i:=4) rfl fun KN hKN hPN=>yw strE ([wd5]:List ByteArray) wn underlying56 inf9 rfl rfl rfl rfl (by decide) (by decide) rfl fun b69=>yP hKN [2,4,5,7] (yY 3 1 (yN (i:=1) rfl fun KN hKN hPN=>zB (zg 6 rfl rfl rfl flat56) (yP hKN [2,4,5,7] (yY 2 5 (yN (i:=5) rfl fun KN hKN hPN=>vG 3 l ([wd5]:List ByteArray) encString wn rfl rfl rfl (fun _ hM=>(RowSl encString hM 0 rfl)) underlying56 inf9 rfl rfl (by simp only [List.length_append,List.length_cons,List.length_nil]; omega) rfl fun A6 cp6 hc6 hm6 hA6=>yP hKN [2,4,5,7] (vK 1 [6] [2,4,5,7] rfl fun KS hKS=>?_))))))
       refine yD (za rfl fld59_5) (yd hKS (yY 0 7 (yN (i:=7) rfl fun KN hKN hPN=>yt 6 wn rfl rfl rfl rfl inf56 rfl rfl (yP hKN [2,4,5,7] (yu (by kernel_rfl) (zm (vd (l++([wd5]:List ByteArray)) j8 m5 (q - 1) (.slice A6 ((l++([wd5]:List ByteArray)).length) cp6) (sc rfl (sc rfl (sc rfl (sc rfl sn)))) (S9 [3,4,1,2,5,6,7]) ?_ ?_)))))))
       · have hY:=Pz.by_next hx1 (by rw [he4,h4]) h5 he6
         rw [Pz.then_ok] at hY
         exact ⟨hY.trans (by rw [show q - 1 + 1=q by omega]),by simp only [List.length_append,List.length_cons,List.length_nil]; omega,by simp only [List.length_append,List.length_cons,List.length_nil]; omega,by omega,by omega,by omega⟩
       omega
     have g4:bo1=false:=by simpa using h4
     have hx2:=Pz.by_done hI1.1 (by rw [he4,g4])
     refine yZ (yH (ut (yI (zy hK10 (zG fun _ hK20=>zE rfl (yJ (α:=Pz.St) (PT:=111) [Rb 114 p s j6 m,.pub zd] [Row (.slice A3 l.length cp3) 9 1 strE l,Row (.slice (some ⟨b54,0,none⟩) 1 1) 9 1 strE ([wd3]:List ByteArray),Row (.slice A1 Lg.totals.length cp1) 9 1 strE Lg.totals,.blk b6 [iV 3,iV 0,iV 0,.string wd1,Zs,.slice A3 l.length cp3,Zs] 59,.blk b4 Zx 59] (fun z:Pz.St=>.tuple #[]) (fun z10=>Pz.must s ⟨#[40]⟩ ⟨j6,m⟩=.ok z10∧Pz.Good s ⟨j6,m⟩ z10) (fun z10=>[Rb 114 p s z10.at_ z10.nd,.pub zd]) _ (fun f9=>Pz.must s ⟨#[40]⟩ ⟨j6,m⟩=.no f9) (fun _=>rfl) (S9 [0,1,2,3,4,5,6]) (fun _=>rfl) wn rfl rfl call179 rfl (fun w1 Pb hG=>uA p s j6 m ⟨#[40]⟩ Pb w1 hG (by omega) (by omega) (by omega) ) ?_ fun z10 hz12=>?_))))))
     · intro f9 hf9
       refine zu (yE fun w1 hM=>?_)
       exact hM.yS f9 (by first | (simp only [Pz.then_ok,Pz.then_no,Pz.St.go,lgc,Pz.all,Pz.bys,Pz.allTail,zC.e,zC.es,hz1e,he1,hz4e,he2,g1,g3,he3,he4,g4,hx2,h1,h4,hf9]; done) | simp [Pz.then_ok,Pz.then_no,Pz.St.go,lgc,Pz.all,Pz.bys,Pz.allTail,zC.e,zC.es,hz1e,he1,hz4e,he2,g1,g3,he3,he4,g4,hx2,h1,h4,hf9])
     obtain ⟨j9,m6⟩:=z10
     have he7:Pz.must s ⟨#[40]⟩ ⟨j6,m⟩=.ok ⟨j9,m6⟩:=hz12.1
     have ga6:j9≤s.size:=hz12.2.at_
     have gm6:m≤m6:=hz12.2.mono
     have gn6:m6≤100:=hz12.2.most (show m≤100 by omega)
     refine vR 73 (.tuple (List.toArray [])) [Rb 114 p s j9 m6,.pub zd,Row (.slice A3 l.length cp3) 9 1 strE l,Row (.slice (some ⟨b54,0,none⟩) 1 1) 9 1 strE ([wd3]:List ByteArray),Row (.slice A1 Lg.totals.length cp1) 9 1 strE Lg.totals,.blk b6 [iV 3,iV 0,iV 0,.string wd1,Zs,.slice A3 l.length cp3,Zs] 59,.blk b4 Zx 59] (zD hK20 (zG fun _ hK21=>zE rfl (zE rfl (zB (zw rfl rfl (by omega)) (yJ (α:=zC × Pz.St) (PT:=111) [Rb 114 p s j9 m6,.pub zd] [Row (.slice A3 l.length cp3) 9 1 strE l,Row (.slice (some ⟨b54,0,none⟩) 1 1) 9 1 strE ([wd3]:List ByteArray),Row (.slice A1 Lg.totals.length cp1) 9 1 strE Lg.totals,.blk b6 [iV 3,iV 0,iV 0,.string wd1,Zs,.slice A3 l.length cp3,Zs] 59,.blk b4 Zx 59] (fun z:zC × Pz.St=>.agg (yl z.1).toArray) (fun z11=>Pz.xpr s N ⟨j9,m6⟩=.ok (z11.1.e,z11.2)∧Pz.Good s ⟨j9,m6⟩ z11.2) (fun z11=>[Rb 114 p s z11.2.at_ z11.2.nd,.pub zd,okP zC.Ok z11.1]) _ (fun f10=>Pz.xpr s N ⟨j9,m6⟩=.no f10) (fun _=>rfl) (S9 [0,1,2,3,4,5,6]) (fun _=>rfl) wn rfl rfl call52 rfl (fun w1 Pb hG=>ih p s j9 m6 (d + 1) Pb w1 hG (by omega) (by omega) (by omega) (by omega) (by omega)) ?_ fun z11 hz13=>?_)))))
     · intro f10 hf10
       refine zu (yE fun w1 hM=>?_)
       exact hM.yS f10 (by first | (simp only [Pz.then_ok,Pz.then_no,Pz.St.go,lgc,Pz.all,Pz.bys,Pz.allTail,zC.e,zC.es,hz1e,he1,hz4e,he2,g1,g3,he3,he4,g4,hx2,he7,h1,h4,hf10]; done) | simp [Pz.then_ok,Pz.then_no,Pz.St.go,lgc,Pz.all,Pz.bys,Pz.allTail,zC.e,zC.es,hz1e,he1,hz4e,he2,g1,g3,he3,he4,g4,hx2,he7,h1,h4,hf10])
     obtain ⟨x1,j10,m7⟩:=z11
     have he8:Pz.xpr s N ⟨j9,m6⟩=.ok (x1.e,⟨j10,m7⟩):=hz13.1
     have ga7:j10≤s.size:=hz13.2.at_
     have gm7:m6≤m7:=hz13.2.mono
     have gn7:m7≤100:=hz13.2.most (show m6≤100 by omega)
     refine vR 77 (.agg (List.toArray [iV x1.kind,iV x1.n,iV x1.range,.string x1.word,.slice x1.ms.A x1.ms.l.length x1.ms.c,.slice x1.by_.A x1.by_.l.length x1.by_.c,.slice x1.kids.A x1.kids.l.length x1.kids.c])) [Rb 114 p s j10 m7,.pub zd,okP zC.Ok x1,Row (.slice A3 l.length cp3) 9 1 strE l,Row (.slice (some ⟨b54,0,none⟩) 1 1) 9 1 strE ([wd3]:List ByteArray),Row (.slice A1 Lg.totals.length cp1) 9 1 strE Lg.totals,.blk b6 [iV 3,iV 0,iV 0,.string wd1,Zs,.slice A3 l.length cp3,Zs] 59,.blk b4 Zx 59] (yw yl ([x1]:List zC) wn underlying57 inf59 rfl rfl rfl rfl (by decide) (by decide) rfl fun b78=>zB (za rfl fld59_6) (yt 7 wn rfl rfl rfl rfl inf57 rfl rfl (zD hK21 (zG fun _ hK22=>zE rfl (yJ (α:=Pz.St) (PT:=111) [Rb 114 p s j10 m7,.pub zd] [Row (.slice (some ⟨b78,0,none⟩) 1 1) 59 7 yl ([x1]:List zC),okP zC.Ok x1,Row (.slice A3 l.length cp3) 9 1 strE l,Row (.slice (some ⟨b54,0,none⟩) 1 1) 9 1 strE ([wd3]:List ByteArray),Row (.slice A1 Lg.totals.length cp1) 9 1 strE Lg.totals,.blk b6 [iV 3,iV 0,iV 0,.string wd1,Zs,.slice A3 l.length cp3,.slice (some ⟨b78,0,none⟩) 1 1] 59,.blk b4 Zx 59] (fun z:Pz.St=>.tuple #[]) (fun z12=>Pz.must s ⟨#[41]⟩ ⟨j10,m7⟩=.ok z12∧Pz.Good s ⟨j10,m7⟩ z12) (fun z12=>[Rb 114 p s z12.at_ z12.nd,.pub zd]) _ (fun f11=>Pz.must s ⟨#[41]⟩ ⟨j10,m7⟩=.no f11) (fun _=>rfl) (S9 [1,2,0,3,4,5,6,7,8]) (fun _=>rfl) wn rfl rfl call179 rfl (fun w1 Pb hG=>uA p s j10 m7 ⟨#[41]⟩ Pb w1 hG (by omega) (by omega) (by omega) ) ?_ fun z12 hz14=>?_)))))
     · intro f11 hf11
       refine zu (yE fun w1 hM=>?_)
       exact hM.yS f11 (by first | (simp only [Pz.then_ok,Pz.then_no,Pz.St.go,lgc,Pz.all,Pz.bys,Pz.allTail,zC.e,zC.es,hz1e,he1,hz4e,he2,g1,g3,he3,he4,g4,hx2,he7,he8,h1,h4,hf11]; done) | simp [Pz.then_ok,Pz.then_no,Pz.St.go,lgc,Pz.all,Pz.bys,Pz.allTail,zC.e,zC.es,hz1e,he1,hz4e,he2,g1,g3,he3,he4,g4,hx2,he7,he8,h1,h4,hf11])
     obtain ⟨j11,m8⟩:=z12
     have he9:Pz.must s ⟨#[41]⟩ ⟨j10,m7⟩=.ok ⟨j11,m8⟩:=hz14.1
     have ga8:j11≤s.size:=hz14.2.at_
     have gm8:m7≤m8:=hz14.2.mono
     have gn8:m8≤100:=hz14.2.most (show m7≤100 by omega)
     refine vR 81 (.tuple (List.toArray [])) [Rb 114 p s j11 m8,.pub zd,Row (.slice (some ⟨b78,0,none⟩) 1 1) 59 7 yl ([x1]:List zC),okP zC.Ok x1,Row (.slice A3 l.length cp3) 9 1 strE l,Row (.slice (some ⟨b54,0,none⟩) 1 1) 9 1 strE ([wd3]:List ByteArray),Row (.slice A1 Lg.totals.length cp1) 9 1 strE Lg.totals,.blk b6 [iV 3,iV 0,iV 0,.string wd1,Zs,.slice A3 l.length cp3,.slice (some ⟨b78,0,none⟩) 1 1] 59,.blk b4 Zx 59] (zD hK22 (zG fun _ hK23=>zE rfl (zB (yM 7 [iV 3,iV 0,iV 0,.string wd1,Zs,.slice A3 l.length cp3,.slice (some ⟨b78,0,none⟩) 1 1] rfl rfl rfl rfl agg59 inf59) (uD 4 0 encString rfl rfl (fp2) (uD 2 0 encExprX rfl rfl (fp2) (ul (fun _ h=>h.exprG (k:=3) (n:=0) (r:=0) (wd:=wd1) (ms:=⟨none,0,[]⟩) (bs:=⟨A3,cp3,l⟩) (ks:=⟨(some ⟨b78,0,none⟩),1,([x1]:List zC)⟩) (fun _ _=>zJ.yq _ _ _ _) (fun _ pp=>pp.sl 4 rfl) (fun _ pp=>pp.sl 2 rfl) (fun _ pp x hx=>by simp only [List.mem_cons,List.not_mem_nil,or_false] at hx; rcases hx with rfl <;> first | exact pp.at_ 3 _ rfl) (by first | decide | omega) (fun x hx=>by cases hx) (fun x hx=>by have:=Pz.byL_size 5 (by show _≤s.size; omega) hx2 (fun y hy=>by rw [List.mem_singleton.1 hy]; omega) x hx; omega)) (yJ (α:=Unit) (PT:=111) [Rb 114 p s j11 m8,.pub zd] [okP zC.Ok (zC.mk 3 0 0 wd1 ⟨none,0,[]⟩ ⟨A3,cp3,l⟩ ⟨(some ⟨b78,0,none⟩),1,([x1]:List zC)⟩),slP 7 yl (.slice (some ⟨b78,0,none⟩) 1 1) ([x1]:List zC),okP zC.Ok x1,slP 1 strE (.slice A3 l.length cp3) l,Row (.slice (some ⟨b54,0,none⟩) 1 1) 9 1 strE ([wd3]:List ByteArray),Row (.slice A1 Lg.totals.length cp1) 9 1 strE Lg.totals,.blk b6 [iV 3,iV 0,iV 0,.string wd1,Zs,.slice A3 l.length cp3,.slice (some ⟨b78,0,none⟩) 1 1] 59,.blk b4 Zx 59] (fun _:Unit=>.agg (List.toArray [iV 3,iV 0,iV 0,.string wd1,Zs,.slice A3 l.length cp3,.slice (some ⟨b78,0,none⟩) 1 1])) (fun z13=>m8 + 1≤100) (fun z13=>[Rb 114 p s j11 (m8 + 1),.pub zd]) _ (fun f12=>Pz.node ⟨j11,m8⟩=.no f12) (fun _=>rfl) (S9 [1,2,0,3,4,5,6,7,8,9]) (fun _=>rfl) wn rfl rfl call99 rfl (fun w1 Pb hG=>ug p s j11 m8 3 0 0 wd1 none 0 0 A3 l.length cp3 (some ⟨b78,0,none⟩) 1 1 Pb w1 hG (by omega) (by omega) (by omega)) ?_ fun z13 hz15=>?_)))))))
     · intro f12 hf12
       refine zu (yE fun w1 hM=>?_)
       exact hM.yS f12 (by first | (simp only [Pz.then_ok,Pz.then_no,Pz.St.go,lgc,Pz.all,Pz.bys,Pz.allTail,zC.e,zC.es,hz1e,he1,hz4e,he2,g1,g3,he3,he4,g4,hx2,he7,he8,he9,h1,h4,hf12]; done) | simp [Pz.then_ok,Pz.then_no,Pz.St.go,lgc,Pz.all,Pz.bys,Pz.allTail,zC.e,zC.es,hz1e,he1,hz4e,he2,g1,g3,he3,he4,g4,hx2,he7,he8,he9,h1,h4,hf12])
     have he10:Pz.node ⟨j11,m8⟩=.ok ⟨j11,m8 + 1⟩:=Pz.node_yes hz15
     refine zr 9 wn rfl rfl rfl inf59 rfl rfl rfl (zD hK23 (zX (zY (.inl rfl) results181 (zt 9 rfl rfl agg59 inf59 rfl) fun w1 hM=>?_)))
     have h9:Pz.all s (Pz.xpr s N) ⟨i,n⟩=.ok ((zC.mk 3 0 0 wd1 ⟨none,0,[]⟩ ⟨A3,cp3,l⟩ ⟨(some ⟨b78,0,none⟩),1,([x1]:List zC)⟩).e,⟨j11,(m8 + 1)⟩):=by first | (simp only [Pz.then_ok,Pz.then_no,Pz.St.go,lgc,Pz.all,Pz.bys,Pz.allTail,zC.e,zC.es,hz1e,he1,hz4e,he2,g1,g3,he3,he4,g4,hx2,he7,he8,he9,he10,h1,h4]; done) | simp [Pz.then_ok,Pz.then_no,Pz.St.go,lgc,Pz.all,Pz.bys,Pz.allTail,zC.e,zC.es,hz1e,he1,hz4e,he2,g1,g3,he3,he4,g4,hx2,he7,he8,he9,he10,h1,h4]
     exact hM.uX (((zC.mk 3 0 0 wd1 ⟨none,0,[]⟩ ⟨A3,cp3,l⟩ ⟨(some ⟨b78,0,none⟩),1,([x1]:List zC)⟩),⟨j11,(m8 + 1)⟩):zC × Pz.St) rfl ⟨h9,(Pz.all_fine (Pz.xpr_fine s N) hi).ok_ h9⟩ (fun h=>h.sel [0,1,2] (by decide) rfl)
   refine yN (i:=3) rfl fun KN hKN hPN=>yJ (α:=ByteArray × Pz.St) (PT:=111) [Rb 114 p s j4 m2,.pub zd] [Row (.slice A1 Lg.totals.length cp1) 9 1 strE Lg.totals,.blk b6 [iV 3,iV 0,iV 0,.string wd1,Zs,Zs,Zs] 59,.blk b4 Zx 59] (fun z:ByteArray × Pz.St=>.string z.1) (fun z14=>Pz.name s ⟨j4,m2⟩=.ok z14∧Pz.Good s ⟨j4,m2⟩ z14.2) (fun z14=>[Rb 114 p s z14.2.at_ z14.2.nd,.pub zd]) _ (fun f13=>Pz.name s ⟨j4,m2⟩=.no f13) (fun _=>rfl) (S9 [0,1,2,3,4]) (fun _=>rfl) wn rfl rfl call211 rfl (fun w1 Pb hG=>uG p s j4 m2  Pb w1 hG (by omega) (by omega) (by omega) ) ?_ fun z14 hz16=>?_
   · intro f13 hf13
     refine vo hPN (zu (zu (yE fun w1 hM=>?_)))
     exact hM.yS f13 (by first | (simp only [Pz.then_ok,Pz.then_no,Pz.St.go,lgc,Pz.all,Pz.bys,Pz.allTail,zC.e,zC.es,hz1e,he1,hz4e,he2,g1,g3,h1,hf13]; done) | simp [Pz.then_ok,Pz.then_no,Pz.St.go,lgc,Pz.all,Pz.bys,Pz.allTail,zC.e,zC.es,hz1e,he1,hz4e,he2,g1,g3,h1,hf13])
   obtain ⟨wd6,j12,m9⟩:=z14
   have he11:Pz.name s ⟨j4,m2⟩=.ok (wd6,⟨j12,m9⟩):=hz16.1
   have ga9:j12≤s.size:=hz16.2.at_
   have gm9:m2≤m9:=hz16.2.mono
   have gn9:m9≤100:=hz16.2.most (show m2≤100 by omega)
   have wz6:wd6.size≤12:=Pz.name_size (t:=⟨j4,m2⟩) (show j4≤_ by omega) he11
   refine vR 53 (.string wd6) [Rb 114 p s j12 m9,.pub zd,Row (.slice A1 Lg.totals.length cp1) 9 1 strE Lg.totals,.blk b6 [iV 3,iV 0,iV 0,.string wd1,Zs,Zs,Zs] 59,.blk b4 Zx 59] (yP hKN [1,2,4] (vX (f:=4) (i:=1) (j:=4) rfl (by kernel_rfl) ?_ ?_))
   · refine yN (i:=1) rfl fun KN hKN hPN=>zB (zg 3 rfl rfl rfl flat56) (yP hKN [1,2,4] (yY 3 4 (yN (i:=4) rfl fun KN hKN hPN=>yw strE ([wd6]:List ByteArray) wn underlying56 inf9 rfl rfl rfl rfl (by decide) (by decide) rfl fun b54=>yP hKN [2,3,5] (yY 2 5 (yN (i:=5) rfl fun KN hKN hPN=>vE (strE:ByteArray→List Value) 9 1 (vG 0 ([]:List ByteArray) ([wd6]:List ByteArray) encString wn rfl rfl rfl (fun _ hM=>(RowSl encString hM 1 rfl)) underlying56 inf9 rfl rfl (by simp only [List.length_append,List.length_cons,List.length_nil]; omega) rfl fun A7 cp7 hc7 hm7 hA7=>yP hKN [3,4,6] ?_))))))
     refine vK 1 [6] [3,4,6] rfl fun KS hKS=>yD (za rfl fld59_5) (yd hKS (yY 0 7 (yN (i:=7) rfl fun KN hKN hPN=>yt 5 wn rfl rfl rfl rfl inf56 rfl rfl (yP hKN [3,4,6] (yu (by kernel_rfl) (zy hK15 (zk (jR (fun (l:List ByteArray) (k:Nat) (m:Int) (q:Nat) (rv:Value)=>[(0,.pointer (some ⟨p,0,none⟩)),(1,iV d),(4,.pointer (some ⟨b4,0,none⟩)),(6,.pointer (some ⟨b6,0,none⟩))]) (fun (l:List ByteArray) (k:Nat) (m:Int) (q:Nat) (rv:Value)=>[Row rv 9 1 strE l,Row (.slice (some ⟨b54,0,none⟩) 1 1) 9 1 strE ([wd6]:List ByteArray),Rb 114 p s k m,.pub zd,Row (.slice A1 Lg.totals.length cp1) 9 1 strE Lg.totals,.blk b6 [iV 3,iV 0,iV 0,.string wd1,Zs,rv,Zs] 59,.blk b4 Zx 59]) (fun (l:List ByteArray) (k:Nat) (m:Int) (q:Nat) (rv:Value)=>Pz.byL s 5 [wd6] ⟨j12,m9⟩=Pz.byL s (q + 1) l ⟨k,m⟩∧l.length + q=5∧l.length≤4∧k≤s.size∧m9≤m∧m≤100) (fun (l:List ByteArray) (k:Nat) (m:Int) (q:Nat) (rv:Value)=>q) (([]:List ByteArray)++([wd6]:List ByteArray)) j12 m9 4 (.slice A7 ((([]:List ByteArray)++([wd6]:List ByteArray)).length) cp7) (sc rfl (sc rfl (sc rfl (sc rfl sn)))) (fun _ h=>h) ?_ (fun l k m q rv hI2=>?_)))))))))
     · exact ⟨rfl,rfl,by simp,by omega,by omega,by omega⟩
     refine vW 0 (l:=l) rfl fun A8 cp8 hv2 hc8 hm8 hA8=>?_
     subst hv2
     refine zS fun _ hK24=>zG fun _ hK25=>zE rfl (vO (α:=(Bool × Nat)) [Rb 114 p s k m,.pub zd] [Row (.slice A8 l.length cp8) 9 1 strE l,Row (.slice (some ⟨b54,0,none⟩) 1 1) 9 1 strE ([wd6]:List ByteArray),Row (.slice A1 Lg.totals.length cp1) 9 1 strE Lg.totals,.blk b6 [iV 3,iV 0,iV 0,.string wd1,Zs,.slice A8 l.length cp8,Zs] 59,.blk b4 Zx 59] (fun z:Bool × Nat=>.bool z.1) (fun z15=>(Pz.eat s ⟨#[44]⟩ k=z15∧k≤z15.2∧z15.2≤s.size)) (fun z15=>[Rb 114 p s z15.2 m,.pub zd]) _ (fun _=>rfl) (S9 [2,3,0,1,4,5,6]) (fun _=>rfl) wn rfl rfl call98 rfl (fun w1 Pb hG=>ui p s k m ⟨#[44]⟩ Pb w1 hG (by omega) (by omega)) fun z15 hz17=>?_)
     obtain ⟨bo2,j13⟩:=z15
     have he12:Pz.eat s ⟨#[44]⟩ k=(bo2,j13):=hz17.1
     have hz17a:k≤j13:=hz17.2.1
     have hz17b:j13≤s.size:=hz17.2.2
     refine vR 58 (.bool bo2) [Rb 114 p s j13 m,.pub zd,Row (.slice A8 l.length cp8) 9 1 strE l,Row (.slice (some ⟨b54,0,none⟩) 1 1) 9 1 strE ([wd6]:List ByteArray),Row (.slice A1 Lg.totals.length cp1) 9 1 strE Lg.totals,.blk b6 [iV 3,iV 0,iV 0,.string wd1,Zs,.slice A8 l.length cp8,Zs] 59,.blk b4 Zx 59] (zD hK25 (yp rfl (fun h6=>?_) (fun h6=>?_)))
     · have hx3:=hI2.1
       refine yK hK24 (zk (zS fun _ hK26=>zG fun _ hK27=>zB (za rfl fld59_5) (zB (zg 5 rfl rfl rfl flat56) (zB (yW rfl underlying56) (zB (yf rfl rfl) (zD hK27 (zZ rfl (fun h7=>?_) (fun h7=>?_))))))))
       · refine zL (zE rfl (yJ (α:=Unit) (PT:=111) [Rb 114 p s j13 m,.pub zd] [Row (.slice A8 l.length cp8) 9 1 strE l,Row (.slice (some ⟨b54,0,none⟩) 1 1) 9 1 strE ([wd6]:List ByteArray),Row (.slice A1 Lg.totals.length cp1) 9 1 strE Lg.totals,.blk b6 [iV 3,iV 0,iV 0,.string wd1,Zs,.slice A8 l.length cp8,Zs] 59,.blk b4 Zx 59] (fun _:Unit=>.tuple #[]) (fun z16=>False) (fun z16=>[Rb 114 p s j13 m,.pub zd]) _ (fun f14=>f14=(5,(j13:Int))) (fun _=>rfl) (S9 [0,1,2,3,4,5,6]) (fun _=>rfl) wn rfl rfl call54 rfl (fun w1 Pb hG=>vj p s j13 m 5 Pb w1 hG) ?_ fun z16 hz18=>?_))
         · intro f14 hf14
           refine zu (yv (vT (yv (zu (yE fun w1 hM=>?_)))))
           have hY:=Pz.by_many hx3 (by rw [he12,h6]) h7
           exact hM.yS f14 (by simp only [Pz.then_ok,Pz.then_no,Pz.St.go,lgc,Pz.all,Pz.bys,Pz.allTail,zC.e,zC.es,hz1e,he1,hz4e,he2,g1,g3,he11,he12,h1,hY,hf14])
         exact hz18.elim
       refine yK hK26 (vL (Mem w ⟨fpOf [Rb 114 p s i n,.pub zd],Pb⟩ [.pub zd,Row (.slice (some ⟨b54,0,none⟩) 1 1) 9 1 strE ([wd6]:List ByteArray),Row (.slice A1 Lg.totals.length cp1) 9 1 strE Lg.totals,.blk b4 Zx 59]) mix (fun _ h=>h.drew) rfl (vK 6 [0,2] [1,3,4,6] rfl fun KS hKS=>yD (za rfl fld59_5) (yD (zi rfl) (yd hKS (vX (f:=5) (i:=1) (j:=3) rfl (by kernel_rfl) ?_ ?_)))))
       · refine yN (i:=1) rfl fun KN hKN hPN=>zB (zg 5 rfl rfl rfl flat56) (yP hKN [1,3,4,6] (yY 4 3 (yN (i:=3) rfl fun KN hKN hPN=>yJ (α:=ByteArray × Pz.St) (PT:=111) [Rb 114 p s j13 m,.pub zd] [Row (.slice A8 l.length cp8) 9 1 strE l,Row (.slice (some ⟨b54,0,none⟩) 1 1) 9 1 strE ([wd6]:List ByteArray),Row (.slice A1 Lg.totals.length cp1) 9 1 strE Lg.totals,.blk b6 [iV 3,iV 0,iV 0,.string wd1,Zs,.slice A8 l.length cp8,Zs] 59,.blk b4 Zx 59] (fun z:ByteArray × Pz.St=>.string z.1) (fun z17=>Pz.name s ⟨j13,m⟩=.ok z17∧Pz.Good s ⟨j13,m⟩ z17.2) (fun z17=>[Rb 114 p s z17.2.at_ z17.2.nd,.pub zd]) _ (fun f15=>Pz.name s ⟨j13,m⟩=.no f15) (fun _=>rfl) (S9 [0,1,2,3,4,5,6]) (fun _=>rfl) wn rfl rfl call211 rfl (fun w1 Pb hG=>uG p s j13 m  Pb w1 hG (by omega) (by omega) (by omega) ) ?_ fun z17 hz19=>?_)))
         · intro f15 hf15
           refine vo hPN (yv (vT (yv (zu (yE fun w1 hM=>?_)))))
           have hY:=Pz.by_next hx3 (by rw [he12,h6]) h7 hf15
           rw [Pz.then_no] at hY
           exact hM.yS f15 (by simp only [Pz.then_ok,Pz.then_no,Pz.St.go,lgc,Pz.all,Pz.bys,Pz.allTail,zC.e,zC.es,hz1e,he1,hz4e,he2,g1,g3,he11,he12,h1,hY])
         obtain ⟨wd7,j14,m10⟩:=z17
         have he13:Pz.name s ⟨j13,m⟩=.ok (wd7,⟨j14,m10⟩):=hz19.1
         have ga10:j14≤s.size:=hz19.2.at_
         have gm10:m≤m10:=hz19.2.mono
         have gn10:m10≤100:=hz19.2.most (show m≤100 by omega)
         have wz7:wd7.size≤12:=Pz.name_size (t:=⟨j13,m⟩) (show j13≤_ by omega) he13
         refine vR 68 (.string wd7) [Rb 114 p s j14 m10,.pub zd,Row (.slice A8 l.length cp8) 9 1 strE l,Row (.slice (some ⟨b54,0,none⟩) 1 1) 9 1 strE ([wd6]:List ByteArray),Row (.slice A1 Lg.totals.length cp1) 9 1 strE Lg.totals,.blk b6 [iV 3,iV 0,iV 0,.string wd1,Zs,.slice A8 l.length cp8,Zs] 59,.blk b4 Zx 59] (yP hKN [1,3,4,6] (yY 3 4 (yN (i:=4) rfl fun KN hKN hPN=>yw strE ([wd7]:List ByteArray) wn underlying56 inf9 rfl rfl rfl rfl (by decide) (by decide) rfl fun b69=>yP hKN [2,4,5,7] (yY 2 5 (yN (i:=5) rfl fun KN hKN hPN=>vG 3 l ([wd7]:List ByteArray) encString wn rfl rfl rfl (fun _ hM=>(RowSl encString hM 0 rfl)) underlying56 inf9 rfl rfl (by simp only [List.length_append,List.length_cons,List.length_nil]; omega) rfl fun A9 cp9 hc9 hm9 hA9=>yP hKN [2,4,5,7] (vK 1 [6] [2,4,5,7] rfl fun KS hKS=>yD (za rfl fld59_5) ?_))))))
         refine yd hKS (yY 0 7 (yN (i:=7) rfl fun KN hKN hPN=>yt 6 wn rfl rfl rfl rfl inf56 rfl rfl (yP hKN [2,4,5,7] (yu (by kernel_rfl) (zm (vd (l++([wd7]:List ByteArray)) j14 m10 (q - 1) (.slice A9 ((l++([wd7]:List ByteArray)).length) cp9) (sc rfl (sc rfl (sc rfl (sc rfl sn)))) (S9 [3,4,1,2,5,6,7]) ?_ ?_))))))
         · have hY:=Pz.by_next hx3 (by rw [he12,h6]) h7 he13
           rw [Pz.then_ok] at hY
           exact ⟨hY.trans (by rw [show q - 1 + 1=q by omega]),by simp only [List.length_append,List.length_cons,List.length_nil]; omega,by simp only [List.length_append,List.length_cons,List.length_nil]; omega,by omega,by omega,by omega⟩
         omega
       refine yN (i:=3) rfl fun KN hKN hPN=>yJ (α:=ByteArray × Pz.St) (PT:=111) [Rb 114 p s j13 m,.pub zd] [Row (.slice A8 l.length cp8) 9 1 strE l,Row (.slice (some ⟨b54,0,none⟩) 1 1) 9 1 strE ([wd6]:List ByteArray),Row (.slice A1 Lg.totals.length cp1) 9 1 strE Lg.totals,.blk b6 [iV 3,iV 0,iV 0,.string wd1,Zs,.slice A8 l.length cp8,Zs] 59,.blk b4 Zx 59] (fun z:ByteArray × Pz.St=>.string z.1) (fun z18=>Pz.name s ⟨j13,m⟩=.ok z18∧Pz.Good s ⟨j13,m⟩ z18.2) (fun z18=>[Rb 114 p s z18.2.at_ z18.2.nd,.pub zd]) _ (fun f16=>Pz.name s ⟨j13,m⟩=.no f16) (fun _=>rfl) (S9 [0,1,2,3,4,5,6]) (fun _=>rfl) wn rfl rfl call211 rfl (fun w1 Pb hG=>uG p s j13 m  Pb w1 hG (by omega) (by omega) (by omega) ) ?_ fun z18 hz20=>?_
       · intro f16 hf16
         refine vo hPN (yv (vT (yv (zu (yE fun w1 hM=>?_)))))
         have hY:=Pz.by_next hx3 (by rw [he12,h6]) h7 hf16
         rw [Pz.then_no] at hY
         exact hM.yS f16 (by simp only [Pz.then_ok,Pz.then_no,Pz.St.go,lgc,Pz.all,Pz.bys,Pz.allTail,zC.e,zC.es,hz1e,he1,hz4e,he2,g1,g3,he11,he12,h1,hY])
       obtain ⟨wd8,j15,m11⟩:=z18
       have he14:Pz.name s ⟨j13,m⟩=.ok (wd8,⟨j15,m11⟩):=hz20.1
       have ga11:j15≤s.size:=hz20.2.at_
       have gm11:m≤m11:=hz20.2.mono
       have gn11:m11≤100:=hz20.2.most (show m≤100 by omega)
       have wz8:wd8.size≤12:=Pz.name_size (t:=⟨j13,m⟩) (show j13≤_ by omega) he14
       refine vR 68 (.string wd8) [Rb 114 p s j15 m11,.pub zd,Row (.slice A8 l.length cp8) 9 1 strE l,Row (.slice (some ⟨b54,0,none⟩) 1 1) 9 1 strE ([wd6]:List ByteArray),Row (.slice A1 Lg.totals.length cp1) 9 1 strE Lg.totals,.blk b6 [iV 3,iV 0,iV 0,.string wd1,Zs,.slice A8 l.length cp8,Zs] 59,.blk b4 Zx 59] (yP hKN [1,3,4,6] (vX (f:=4) (i:=1) (j:=4) rfl (by kernel_rfl) ?_ ?_))
       · refine yN (i:=1) rfl fun KN hKN hPN=>zB (zg 5 rfl rfl rfl flat56) (yP hKN [1,3,4,6] (yY 3 4 (yN (i:=4) rfl fun KN hKN hPN=>yw strE ([wd8]:List ByteArray) wn underlying56 inf9 rfl rfl rfl rfl (by decide) (by decide) rfl fun b69=>yP hKN [2,4,5,7] (yY 2 5 (yN (i:=5) rfl fun KN hKN hPN=>vG 3 l ([wd8]:List ByteArray) encString wn rfl rfl rfl (fun _ hM=>(RowSl encString hM 0 rfl)) underlying56 inf9 rfl rfl (by simp only [List.length_append,List.length_cons,List.length_nil]; omega) rfl fun A10 cp10 hc10 hm10 hA10=>yP hKN [2,4,5,7] (vK 1 [6] [2,4,5,7] rfl fun KS hKS=>?_))))))
         refine yD (za rfl fld59_5) (yd hKS (yY 0 7 (yN (i:=7) rfl fun KN hKN hPN=>yt 6 wn rfl rfl rfl rfl inf56 rfl rfl (yP hKN [2,4,5,7] (yu (by kernel_rfl) (zm (vd (l++([wd8]:List ByteArray)) j15 m11 (q - 1) (.slice A10 ((l++([wd8]:List ByteArray)).length) cp10) (sc rfl (sc rfl (sc rfl (sc rfl sn)))) (S9 [3,4,1,2,5,6,7]) ?_ ?_)))))))
         · have hY:=Pz.by_next hx3 (by rw [he12,h6]) h7 he14
           rw [Pz.then_ok] at hY
           exact ⟨hY.trans (by rw [show q - 1 + 1=q by omega]),by simp only [List.length_append,List.length_cons,List.length_nil]; omega,by simp only [List.length_append,List.length_cons,List.length_nil]; omega,by omega,by omega,by omega⟩
         omega
       refine yN (i:=4) rfl fun KN hKN hPN=>yw strE ([wd8]:List ByteArray) wn underlying56 inf9 rfl rfl rfl rfl (by decide) (by decide) rfl fun b69=>yP hKN [2,4,5,7] (yY 3 1 (yN (i:=1) rfl fun KN hKN hPN=>zB (zg 6 rfl rfl rfl flat56) (yP hKN [2,4,5,7] (yY 2 5 (yN (i:=5) rfl fun KN hKN hPN=>vG 3 l ([wd8]:List ByteArray) encString wn rfl rfl rfl (fun _ hM=>(RowSl encString hM 0 rfl)) underlying56 inf9 rfl rfl (by simp only [List.length_append,List.length_cons,List.length_nil]; omega) rfl fun A11 cp11 hc11 hm11 hA11=>yP hKN [2,4,5,7] (vK 1 [6] [2,4,5,7] rfl fun KS hKS=>?_))))))
       refine yD (za rfl fld59_5) (yd hKS (yY 0 7 (yN (i:=7) rfl fun KN hKN hPN=>yt 6 wn rfl rfl rfl rfl inf56 rfl rfl (yP hKN [2,4,5,7] (yu (by kernel_rfl) (zm (vd (l++([wd8]:List ByteArray)) j15 m11 (q - 1) (.slice A11 ((l++([wd8]:List ByteArray)).length) cp11) (sc rfl (sc rfl (sc rfl (sc rfl sn)))) (S9 [3,4,1,2,5,6,7]) ?_ ?_)))))))
       · have hY:=Pz.by_next hx3 (by rw [he12,h6]) h7 he14
         rw [Pz.then_ok] at hY
         exact ⟨hY.trans (by rw [show q - 1 + 1=q by omega]),by simp only [List.length_append,List.length_cons,List.length_nil]; omega,by simp only [List.length_append,List.length_cons,List.length_nil]; omega,by omega,by omega,by omega⟩
       omega
     have g5:bo2=false:=by simpa using h6
     have hx4:=Pz.by_done hI2.1 (by rw [he12,g5])
     refine yZ (yH (ut (yI (zy hK10 (zG fun _ hK28=>zE rfl (yJ (α:=Pz.St) (PT:=111) [Rb 114 p s j13 m,.pub zd] [Row (.slice A8 l.length cp8) 9 1 strE l,Row (.slice (some ⟨b54,0,none⟩) 1 1) 9 1 strE ([wd6]:List ByteArray),Row (.slice A1 Lg.totals.length cp1) 9 1 strE Lg.totals,.blk b6 [iV 3,iV 0,iV 0,.string wd1,Zs,.slice A8 l.length cp8,Zs] 59,.blk b4 Zx 59] (fun z:Pz.St=>.tuple #[]) (fun z19=>Pz.must s ⟨#[40]⟩ ⟨j13,m⟩=.ok z19∧Pz.Good s ⟨j13,m⟩ z19) (fun z19=>[Rb 114 p s z19.at_ z19.nd,.pub zd]) _ (fun f17=>Pz.must s ⟨#[40]⟩ ⟨j13,m⟩=.no f17) (fun _=>rfl) (S9 [0,1,2,3,4,5,6]) (fun _=>rfl) wn rfl rfl call179 rfl (fun w1 Pb hG=>uA p s j13 m ⟨#[40]⟩ Pb w1 hG (by omega) (by omega) (by omega) ) ?_ fun z19 hz21=>?_))))))
     · intro f17 hf17
       refine zu (yE fun w1 hM=>?_)
       exact hM.yS f17 (by first | (simp only [Pz.then_ok,Pz.then_no,Pz.St.go,lgc,Pz.all,Pz.bys,Pz.allTail,zC.e,zC.es,hz1e,he1,hz4e,he2,g1,g3,he11,he12,g5,hx4,h1,h6,hf17]; done) | simp [Pz.then_ok,Pz.then_no,Pz.St.go,lgc,Pz.all,Pz.bys,Pz.allTail,zC.e,zC.es,hz1e,he1,hz4e,he2,g1,g3,he11,he12,g5,hx4,h1,h6,hf17])
     obtain ⟨j16,m12⟩:=z19
     have he15:Pz.must s ⟨#[40]⟩ ⟨j13,m⟩=.ok ⟨j16,m12⟩:=hz21.1
     have ga12:j16≤s.size:=hz21.2.at_
     have gm12:m≤m12:=hz21.2.mono
     have gn12:m12≤100:=hz21.2.most (show m≤100 by omega)
     refine vR 73 (.tuple (List.toArray [])) [Rb 114 p s j16 m12,.pub zd,Row (.slice A8 l.length cp8) 9 1 strE l,Row (.slice (some ⟨b54,0,none⟩) 1 1) 9 1 strE ([wd6]:List ByteArray),Row (.slice A1 Lg.totals.length cp1) 9 1 strE Lg.totals,.blk b6 [iV 3,iV 0,iV 0,.string wd1,Zs,.slice A8 l.length cp8,Zs] 59,.blk b4 Zx 59] (zD hK28 (zG fun _ hK29=>zE rfl (zE rfl (zB (zw rfl rfl (by omega)) (yJ (α:=zC × Pz.St) (PT:=111) [Rb 114 p s j16 m12,.pub zd] [Row (.slice A8 l.length cp8) 9 1 strE l,Row (.slice (some ⟨b54,0,none⟩) 1 1) 9 1 strE ([wd6]:List ByteArray),Row (.slice A1 Lg.totals.length cp1) 9 1 strE Lg.totals,.blk b6 [iV 3,iV 0,iV 0,.string wd1,Zs,.slice A8 l.length cp8,Zs] 59,.blk b4 Zx 59] (fun z:zC × Pz.St=>.agg (yl z.1).toArray) (fun z20=>Pz.xpr s N ⟨j16,m12⟩=.ok (z20.1.e,z20.2)∧Pz.Good s ⟨j16,m12⟩ z20.2) (fun z20=>[Rb 114 p s z20.2.at_ z20.2.nd,.pub zd,okP zC.Ok z20.1]) _ (fun f18=>Pz.xpr s N ⟨j16,m12⟩=.no f18) (fun _=>rfl) (S9 [0,1,2,3,4,5,6]) (fun _=>rfl) wn rfl rfl call52 rfl (fun w1 Pb hG=>ih p s j16 m12 (d + 1) Pb w1 hG (by omega) (by omega) (by omega) (by omega) (by omega)) ?_ fun z20 hz22=>?_)))))
     · intro f18 hf18
       refine zu (yE fun w1 hM=>?_)
       exact hM.yS f18 (by first | (simp only [Pz.then_ok,Pz.then_no,Pz.St.go,lgc,Pz.all,Pz.bys,Pz.allTail,zC.e,zC.es,hz1e,he1,hz4e,he2,g1,g3,he11,he12,g5,hx4,he15,h1,h6,hf18]; done) | simp [Pz.then_ok,Pz.then_no,Pz.St.go,lgc,Pz.all,Pz.bys,Pz.allTail,zC.e,zC.es,hz1e,he1,hz4e,he2,g1,g3,he11,he12,g5,hx4,he15,h1,h6,hf18])
     obtain ⟨x2,j17,m13⟩:=z20
     have he16:Pz.xpr s N ⟨j16,m12⟩=.ok (x2.e,⟨j17,m13⟩):=hz22.1
     have ga13:j17≤s.size:=hz22.2.at_
     have gm13:m12≤m13:=hz22.2.mono
     have gn13:m13≤100:=hz22.2.most (show m12≤100 by omega)
     refine vR 77 (.agg (List.toArray [iV x2.kind,iV x2.n,iV x2.range,.string x2.word,.slice x2.ms.A x2.ms.l.length x2.ms.c,.slice x2.by_.A x2.by_.l.length x2.by_.c,.slice x2.kids.A x2.kids.l.length x2.kids.c])) [Rb 114 p s j17 m13,.pub zd,okP zC.Ok x2,Row (.slice A8 l.length cp8) 9 1 strE l,Row (.slice (some ⟨b54,0,none⟩) 1 1) 9 1 strE ([wd6]:List ByteArray),Row (.slice A1 Lg.totals.length cp1) 9 1 strE Lg.totals,.blk b6 [iV 3,iV 0,iV 0,.string wd1,Zs,.slice A8 l.length cp8,Zs] 59,.blk b4 Zx 59] (yw yl ([x2]:List zC) wn underlying57 inf59 rfl rfl rfl rfl (by decide) (by decide) rfl fun b78=>zB (za rfl fld59_6) (yt 7 wn rfl rfl rfl rfl inf57 rfl rfl (zD hK29 (zG fun _ hK30=>zE rfl (yJ (α:=Pz.St) (PT:=111) [Rb 114 p s j17 m13,.pub zd] [Row (.slice (some ⟨b78,0,none⟩) 1 1) 59 7 yl ([x2]:List zC),okP zC.Ok x2,Row (.slice A8 l.length cp8) 9 1 strE l,Row (.slice (some ⟨b54,0,none⟩) 1 1) 9 1 strE ([wd6]:List ByteArray),Row (.slice A1 Lg.totals.length cp1) 9 1 strE Lg.totals,.blk b6 [iV 3,iV 0,iV 0,.string wd1,Zs,.slice A8 l.length cp8,.slice (some ⟨b78,0,none⟩) 1 1] 59,.blk b4 Zx 59] (fun z:Pz.St=>.tuple #[]) (fun z21=>Pz.must s ⟨#[41]⟩ ⟨j17,m13⟩=.ok z21∧Pz.Good s ⟨j17,m13⟩ z21) (fun z21=>[Rb 114 p s z21.at_ z21.nd,.pub zd]) _ (fun f19=>Pz.must s ⟨#[41]⟩ ⟨j17,m13⟩=.no f19) (fun _=>rfl) (S9 [1,2,0,3,4,5,6,7,8]) (fun _=>rfl) wn rfl rfl call179 rfl (fun w1 Pb hG=>uA p s j17 m13 ⟨#[41]⟩ Pb w1 hG (by omega) (by omega) (by omega) ) ?_ fun z21 hz23=>?_)))))
     · intro f19 hf19
       refine zu (yE fun w1 hM=>?_)
       exact hM.yS f19 (by first | (simp only [Pz.then_ok,Pz.then_no,Pz.St.go,lgc,Pz.all,Pz.bys,Pz.allTail,zC.e,zC.es,hz1e,he1,hz4e,he2,g1,g3,he11,he12,g5,hx4,he15,he16,h1,h6,hf19]; done) | simp [Pz.then_ok,Pz.then_no,Pz.St.go,lgc,Pz.all,Pz.bys,Pz.allTail,zC.e,zC.es,hz1e,he1,hz4e,he2,g1,g3,he11,he12,g5,hx4,he15,he16,h1,h6,hf19])
     obtain ⟨j18,m14⟩:=z21
     have he17:Pz.must s ⟨#[41]⟩ ⟨j17,m13⟩=.ok ⟨j18,m14⟩:=hz23.1
     have ga14:j18≤s.size:=hz23.2.at_
     have gm14:m13≤m14:=hz23.2.mono
     have gn14:m14≤100:=hz23.2.most (show m13≤100 by omega)
     refine vR 81 (.tuple (List.toArray [])) [Rb 114 p s j18 m14,.pub zd,Row (.slice (some ⟨b78,0,none⟩) 1 1) 59 7 yl ([x2]:List zC),okP zC.Ok x2,Row (.slice A8 l.length cp8) 9 1 strE l,Row (.slice (some ⟨b54,0,none⟩) 1 1) 9 1 strE ([wd6]:List ByteArray),Row (.slice A1 Lg.totals.length cp1) 9 1 strE Lg.totals,.blk b6 [iV 3,iV 0,iV 0,.string wd1,Zs,.slice A8 l.length cp8,.slice (some ⟨b78,0,none⟩) 1 1] 59,.blk b4 Zx 59] (zD hK30 (zG fun _ hK31=>zE rfl (zB (yM 7 [iV 3,iV 0,iV 0,.string wd1,Zs,.slice A8 l.length cp8,.slice (some ⟨b78,0,none⟩) 1 1] rfl rfl rfl rfl agg59 inf59) (uD 4 0 encString rfl rfl (fp2) (uD 2 0 encExprX rfl rfl (fp2) (ul (fun _ h=>h.exprG (k:=3) (n:=0) (r:=0) (wd:=wd1) (ms:=⟨none,0,[]⟩) (bs:=⟨A8,cp8,l⟩) (ks:=⟨(some ⟨b78,0,none⟩),1,([x2]:List zC)⟩) (fun _ _=>zJ.yq _ _ _ _) (fun _ pp=>pp.sl 4 rfl) (fun _ pp=>pp.sl 2 rfl) (fun _ pp x hx=>by simp only [List.mem_cons,List.not_mem_nil,or_false] at hx; rcases hx with rfl <;> first | exact pp.at_ 3 _ rfl) (by first | decide | omega) (fun x hx=>by cases hx) (fun x hx=>by have:=Pz.byL_size 5 (by show _≤s.size; omega) hx4 (fun y hy=>by rw [List.mem_singleton.1 hy]; omega) x hx; omega)) (yJ (α:=Unit) (PT:=111) [Rb 114 p s j18 m14,.pub zd] [okP zC.Ok (zC.mk 3 0 0 wd1 ⟨none,0,[]⟩ ⟨A8,cp8,l⟩ ⟨(some ⟨b78,0,none⟩),1,([x2]:List zC)⟩),slP 7 yl (.slice (some ⟨b78,0,none⟩) 1 1) ([x2]:List zC),okP zC.Ok x2,slP 1 strE (.slice A8 l.length cp8) l,Row (.slice (some ⟨b54,0,none⟩) 1 1) 9 1 strE ([wd6]:List ByteArray),Row (.slice A1 Lg.totals.length cp1) 9 1 strE Lg.totals,.blk b6 [iV 3,iV 0,iV 0,.string wd1,Zs,.slice A8 l.length cp8,.slice (some ⟨b78,0,none⟩) 1 1] 59,.blk b4 Zx 59] (fun _:Unit=>.agg (List.toArray [iV 3,iV 0,iV 0,.string wd1,Zs,.slice A8 l.length cp8,.slice (some ⟨b78,0,none⟩) 1 1])) (fun z22=>m14 + 1≤100) (fun z22=>[Rb 114 p s j18 (m14 + 1),.pub zd]) _ (fun f20=>Pz.node ⟨j18,m14⟩=.no f20) (fun _=>rfl) (S9 [1,2,0,3,4,5,6,7,8,9]) (fun _=>rfl) wn rfl rfl call99 rfl (fun w1 Pb hG=>ug p s j18 m14 3 0 0 wd1 none 0 0 A8 l.length cp8 (some ⟨b78,0,none⟩) 1 1 Pb w1 hG (by omega) (by omega) (by omega)) ?_ fun z22 hz24=>?_)))))))
     · intro f20 hf20
       refine zu (yE fun w1 hM=>?_)
       exact hM.yS f20 (by first | (simp only [Pz.then_ok,Pz.then_no,Pz.St.go,lgc,Pz.all,Pz.bys,Pz.allTail,zC.e,zC.es,hz1e,he1,hz4e,he2,g1,g3,he11,he12,g5,hx4,he15,he16,he17,h1,h6,hf20]; done) | simp [Pz.then_ok,Pz.then_no,Pz.St.go,lgc,Pz.all,Pz.bys,Pz.allTail,zC.e,zC.es,hz1e,he1,hz4e,he2,g1,g3,he11,he12,g5,hx4,he15,he16,he17,h1,h6,hf20])
     have he18:Pz.node ⟨j18,m14⟩=.ok ⟨j18,m14 + 1⟩:=Pz.node_yes hz24
     refine zr 9 wn rfl rfl rfl inf59 rfl rfl rfl (zD hK31 (zX (zY (.inl rfl) results181 (zt 9 rfl rfl agg59 inf59 rfl) fun w1 hM=>?_)))
     have h9:Pz.all s (Pz.xpr s N) ⟨i,n⟩=.ok ((zC.mk 3 0 0 wd1 ⟨none,0,[]⟩ ⟨A8,cp8,l⟩ ⟨(some ⟨b78,0,none⟩),1,([x2]:List zC)⟩).e,⟨j18,(m14 + 1)⟩):=by first | (simp only [Pz.then_ok,Pz.then_no,Pz.St.go,lgc,Pz.all,Pz.bys,Pz.allTail,zC.e,zC.es,hz1e,he1,hz4e,he2,g1,g3,he11,he12,g5,hx4,he15,he16,he17,he18,h1,h6]; done) | simp [Pz.then_ok,Pz.then_no,Pz.St.go,lgc,Pz.all,Pz.bys,Pz.allTail,zC.e,zC.es,hz1e,he1,hz4e,he2,g1,g3,he11,he12,g5,hx4,he15,he16,he17,he18,h1,h6]
     exact hM.uX (((zC.mk 3 0 0 wd1 ⟨none,0,[]⟩ ⟨A8,cp8,l⟩ ⟨(some ⟨b78,0,none⟩),1,([x2]:List zC)⟩),⟨j18,(m14 + 1)⟩):zC × Pz.St) rfl ⟨h9,(Pz.all_fine (Pz.xpr_fine s N) hi).ok_ h9⟩ (fun h=>h.sel [0,1,2] (by decide) rfl)
   refine yN (i:=4) rfl fun KN hKN hPN=>yw strE ([wd6]:List ByteArray) wn underlying56 inf9 rfl rfl rfl rfl (by decide) (by decide) rfl fun b54=>yP hKN [2,3,5] (yY 3 1 (yN (i:=1) rfl fun KN hKN hPN=>zB (zg 4 rfl rfl rfl flat56) (yP hKN [2,3,5] (yY 2 5 (yN (i:=5) rfl fun KN hKN hPN=>vE (strE:ByteArray→List Value) 9 1 (vG 0 ([]:List ByteArray) ([wd6]:List ByteArray) encString wn rfl rfl rfl (fun _ hM=>(RowSl encString hM 1 rfl)) underlying56 inf9 rfl rfl (by simp only [List.length_append,List.length_cons,List.length_nil]; omega) rfl fun A12 cp12 hc12 hm12 hA12=>yP hKN [3,4,6] ?_))))))
   refine vK 1 [6] [3,4,6] rfl fun KS hKS=>yD (za rfl fld59_5) (yd hKS (yY 0 7 (yN (i:=7) rfl fun KN hKN hPN=>yt 5 wn rfl rfl rfl rfl inf56 rfl rfl (yP hKN [3,4,6] (yu (by kernel_rfl) (zy hK15 (zk (jR (fun (l:List ByteArray) (k:Nat) (m:Int) (q:Nat) (rv:Value)=>[(0,.pointer (some ⟨p,0,none⟩)),(1,iV d),(4,.pointer (some ⟨b4,0,none⟩)),(6,.pointer (some ⟨b6,0,none⟩))]) (fun (l:List ByteArray) (k:Nat) (m:Int) (q:Nat) (rv:Value)=>[Row rv 9 1 strE l,Row (.slice (some ⟨b54,0,none⟩) 1 1) 9 1 strE ([wd6]:List ByteArray),Rb 114 p s k m,.pub zd,Row (.slice A1 Lg.totals.length cp1) 9 1 strE Lg.totals,.blk b6 [iV 3,iV 0,iV 0,.string wd1,Zs,rv,Zs] 59,.blk b4 Zx 59]) (fun (l:List ByteArray) (k:Nat) (m:Int) (q:Nat) (rv:Value)=>Pz.byL s 5 [wd6] ⟨j12,m9⟩=Pz.byL s (q + 1) l ⟨k,m⟩∧l.length + q=5∧l.length≤4∧k≤s.size∧m9≤m∧m≤100) (fun (l:List ByteArray) (k:Nat) (m:Int) (q:Nat) (rv:Value)=>q) (([]:List ByteArray)++([wd6]:List ByteArray)) j12 m9 4 (.slice A12 ((([]:List ByteArray)++([wd6]:List ByteArray)).length) cp12) (sc rfl (sc rfl (sc rfl (sc rfl sn)))) (fun _ h=>h) ?_ (fun l k m q rv hI3=>?_)))))))))
   · exact ⟨rfl,rfl,by simp,by omega,by omega,by omega⟩
   refine vW 0 (l:=l) rfl fun A13 cp13 hv3 hc13 hm13 hA13=>?_
   subst hv3
   refine zS fun _ hK32=>zG fun _ hK33=>zE rfl (vO (α:=(Bool × Nat)) [Rb 114 p s k m,.pub zd] [Row (.slice A13 l.length cp13) 9 1 strE l,Row (.slice (some ⟨b54,0,none⟩) 1 1) 9 1 strE ([wd6]:List ByteArray),Row (.slice A1 Lg.totals.length cp1) 9 1 strE Lg.totals,.blk b6 [iV 3,iV 0,iV 0,.string wd1,Zs,.slice A13 l.length cp13,Zs] 59,.blk b4 Zx 59] (fun z:Bool × Nat=>.bool z.1) (fun z23=>(Pz.eat s ⟨#[44]⟩ k=z23∧k≤z23.2∧z23.2≤s.size)) (fun z23=>[Rb 114 p s z23.2 m,.pub zd]) _ (fun _=>rfl) (S9 [2,3,0,1,4,5,6]) (fun _=>rfl) wn rfl rfl call98 rfl (fun w1 Pb hG=>ui p s k m ⟨#[44]⟩ Pb w1 hG (by omega) (by omega)) fun z23 hz25=>?_)
   obtain ⟨bo3,j19⟩:=z23
   have he19:Pz.eat s ⟨#[44]⟩ k=(bo3,j19):=hz25.1
   have hz25a:k≤j19:=hz25.2.1
   have hz25b:j19≤s.size:=hz25.2.2
   refine vR 58 (.bool bo3) [Rb 114 p s j19 m,.pub zd,Row (.slice A13 l.length cp13) 9 1 strE l,Row (.slice (some ⟨b54,0,none⟩) 1 1) 9 1 strE ([wd6]:List ByteArray),Row (.slice A1 Lg.totals.length cp1) 9 1 strE Lg.totals,.blk b6 [iV 3,iV 0,iV 0,.string wd1,Zs,.slice A13 l.length cp13,Zs] 59,.blk b4 Zx 59] (zD hK33 (yp rfl (fun h8=>?_) (fun h8=>?_)))
   · have hx5:=hI3.1
     refine yK hK32 (zk (zS fun _ hK34=>zG fun _ hK35=>zB (za rfl fld59_5) (zB (zg 5 rfl rfl rfl flat56) (zB (yW rfl underlying56) (zB (yf rfl rfl) (zD hK35 (zZ rfl (fun h9=>?_) (fun h9=>?_))))))))
     · refine zL (zE rfl (yJ (α:=Unit) (PT:=111) [Rb 114 p s j19 m,.pub zd] [Row (.slice A13 l.length cp13) 9 1 strE l,Row (.slice (some ⟨b54,0,none⟩) 1 1) 9 1 strE ([wd6]:List ByteArray),Row (.slice A1 Lg.totals.length cp1) 9 1 strE Lg.totals,.blk b6 [iV 3,iV 0,iV 0,.string wd1,Zs,.slice A13 l.length cp13,Zs] 59,.blk b4 Zx 59] (fun _:Unit=>.tuple #[]) (fun z24=>False) (fun z24=>[Rb 114 p s j19 m,.pub zd]) _ (fun f21=>f21=(5,(j19:Int))) (fun _=>rfl) (S9 [0,1,2,3,4,5,6]) (fun _=>rfl) wn rfl rfl call54 rfl (fun w1 Pb hG=>vj p s j19 m 5 Pb w1 hG) ?_ fun z24 hz26=>?_))
       · intro f21 hf21
         refine zu (yv (vT (yv (zu (yE fun w1 hM=>?_)))))
         have hY:=Pz.by_many hx5 (by rw [he19,h8]) h9
         exact hM.yS f21 (by simp only [Pz.then_ok,Pz.then_no,Pz.St.go,lgc,Pz.all,Pz.bys,Pz.allTail,zC.e,zC.es,hz1e,he1,hz4e,he2,g1,g3,he11,he19,h1,hY,hf21])
       exact hz26.elim
     refine yK hK34 (vL (Mem w ⟨fpOf [Rb 114 p s i n,.pub zd],Pb⟩ [.pub zd,Row (.slice (some ⟨b54,0,none⟩) 1 1) 9 1 strE ([wd6]:List ByteArray),Row (.slice A1 Lg.totals.length cp1) 9 1 strE Lg.totals,.blk b4 Zx 59]) mix (fun _ h=>h.drew) rfl (vK 6 [0,2] [1,3,4,6] rfl fun KS hKS=>yD (za rfl fld59_5) (yD (zi rfl) (yd hKS (vX (f:=5) (i:=1) (j:=3) rfl (by kernel_rfl) ?_ ?_)))))
     · refine yN (i:=1) rfl fun KN hKN hPN=>zB (zg 5 rfl rfl rfl flat56) (yP hKN [1,3,4,6] (yY 4 3 (yN (i:=3) rfl fun KN hKN hPN=>yJ (α:=ByteArray × Pz.St) (PT:=111) [Rb 114 p s j19 m,.pub zd] [Row (.slice A13 l.length cp13) 9 1 strE l,Row (.slice (some ⟨b54,0,none⟩) 1 1) 9 1 strE ([wd6]:List ByteArray),Row (.slice A1 Lg.totals.length cp1) 9 1 strE Lg.totals,.blk b6 [iV 3,iV 0,iV 0,.string wd1,Zs,.slice A13 l.length cp13,Zs] 59,.blk b4 Zx 59] (fun z:ByteArray × Pz.St=>.string z.1) (fun z25=>Pz.name s ⟨j19,m⟩=.ok z25∧Pz.Good s ⟨j19,m⟩ z25.2) (fun z25=>[Rb 114 p s z25.2.at_ z25.2.nd,.pub zd]) _ (fun f22=>Pz.name s ⟨j19,m⟩=.no f22) (fun _=>rfl) (S9 [0,1,2,3,4,5,6]) (fun _=>rfl) wn rfl rfl call211 rfl (fun w1 Pb hG=>uG p s j19 m  Pb w1 hG (by omega) (by omega) (by omega) ) ?_ fun z25 hz27=>?_)))
       · intro f22 hf22
         refine vo hPN (yv (vT (yv (zu (yE fun w1 hM=>?_)))))
         have hY:=Pz.by_next hx5 (by rw [he19,h8]) h9 hf22
         rw [Pz.then_no] at hY
         exact hM.yS f22 (by simp only [Pz.then_ok,Pz.then_no,Pz.St.go,lgc,Pz.all,Pz.bys,Pz.allTail,zC.e,zC.es,hz1e,he1,hz4e,he2,g1,g3,he11,he19,h1,hY])
       obtain ⟨wd9,j20,m15⟩:=z25
       have he20:Pz.name s ⟨j19,m⟩=.ok (wd9,⟨j20,m15⟩):=hz27.1
       have ga15:j20≤s.size:=hz27.2.at_
       have gm15:m≤m15:=hz27.2.mono
       have gn15:m15≤100:=hz27.2.most (show m≤100 by omega)
       have wz9:wd9.size≤12:=Pz.name_size (t:=⟨j19,m⟩) (show j19≤_ by omega) he20
       refine vR 68 (.string wd9) [Rb 114 p s j20 m15,.pub zd,Row (.slice A13 l.length cp13) 9 1 strE l,Row (.slice (some ⟨b54,0,none⟩) 1 1) 9 1 strE ([wd6]:List ByteArray),Row (.slice A1 Lg.totals.length cp1) 9 1 strE Lg.totals,.blk b6 [iV 3,iV 0,iV 0,.string wd1,Zs,.slice A13 l.length cp13,Zs] 59,.blk b4 Zx 59] (yP hKN [1,3,4,6] (yY 3 4 (yN (i:=4) rfl fun KN hKN hPN=>yw strE ([wd9]:List ByteArray) wn underlying56 inf9 rfl rfl rfl rfl (by decide) (by decide) rfl fun b69=>yP hKN [2,4,5,7] (yY 2 5 (yN (i:=5) rfl fun KN hKN hPN=>vG 3 l ([wd9]:List ByteArray) encString wn rfl rfl rfl (fun _ hM=>(RowSl encString hM 0 rfl)) underlying56 inf9 rfl rfl (by simp only [List.length_append,List.length_cons,List.length_nil]; omega) rfl fun A14 cp14 hc14 hm14 hA14=>yP hKN [2,4,5,7] (vK 1 [6] [2,4,5,7] rfl fun KS hKS=>yD (za rfl fld59_5) ?_))))))
       refine yd hKS (yY 0 7 (yN (i:=7) rfl fun KN hKN hPN=>yt 6 wn rfl rfl rfl rfl inf56 rfl rfl (yP hKN [2,4,5,7] (yu (by kernel_rfl) (zm (vd (l++([wd9]:List ByteArray)) j20 m15 (q - 1) (.slice A14 ((l++([wd9]:List ByteArray)).length) cp14) (sc rfl (sc rfl (sc rfl (sc rfl sn)))) (S9 [3,4,1,2,5,6,7]) ?_ ?_))))))
       · have hY:=Pz.by_next hx5 (by rw [he19,h8]) h9 he20
         rw [Pz.then_ok] at hY
         exact ⟨hY.trans (by rw [show q - 1 + 1=q by omega]),by simp only [List.length_append,List.length_cons,List.length_nil]; omega,by simp only [List.length_append,List.length_cons,List.length_nil]; omega,by omega,by omega,by omega⟩
       omega
     refine yN (i:=3) rfl fun KN hKN hPN=>yJ (α:=ByteArray × Pz.St) (PT:=111) [Rb 114 p s j19 m,.pub zd] [Row (.slice A13 l.length cp13) 9 1 strE l,Row (.slice (some ⟨b54,0,none⟩) 1 1) 9 1 strE ([wd6]:List ByteArray),Row (.slice A1 Lg.totals.length cp1) 9 1 strE Lg.totals,.blk b6 [iV 3,iV 0,iV 0,.string wd1,Zs,.slice A13 l.length cp13,Zs] 59,.blk b4 Zx 59] (fun z:ByteArray × Pz.St=>.string z.1) (fun z26=>Pz.name s ⟨j19,m⟩=.ok z26∧Pz.Good s ⟨j19,m⟩ z26.2) (fun z26=>[Rb 114 p s z26.2.at_ z26.2.nd,.pub zd]) _ (fun f23=>Pz.name s ⟨j19,m⟩=.no f23) (fun _=>rfl) (S9 [0,1,2,3,4,5,6]) (fun _=>rfl) wn rfl rfl call211 rfl (fun w1 Pb hG=>uG p s j19 m  Pb w1 hG (by omega) (by omega) (by omega) ) ?_ fun z26 hz28=>?_
     · intro f23 hf23
       refine vo hPN (yv (vT (yv (zu (yE fun w1 hM=>?_)))))
       have hY:=Pz.by_next hx5 (by rw [he19,h8]) h9 hf23
       rw [Pz.then_no] at hY
       exact hM.yS f23 (by simp only [Pz.then_ok,Pz.then_no,Pz.St.go,lgc,Pz.all,Pz.bys,Pz.allTail,zC.e,zC.es,hz1e,he1,hz4e,he2,g1,g3,he11,he19,h1,hY])
     obtain ⟨wd10,j21,m16⟩:=z26
     have he21:Pz.name s ⟨j19,m⟩=.ok (wd10,⟨j21,m16⟩):=hz28.1
     have ga16:j21≤s.size:=hz28.2.at_
     have gm16:m≤m16:=hz28.2.mono
     have gn16:m16≤100:=hz28.2.most (show m≤100 by omega)
     have wz10:wd10.size≤12:=Pz.name_size (t:=⟨j19,m⟩) (show j19≤_ by omega) he21
     refine vR 68 (.string wd10) [Rb 114 p s j21 m16,.pub zd,Row (.slice A13 l.length cp13) 9 1 strE l,Row (.slice (some ⟨b54,0,none⟩) 1 1) 9 1 strE ([wd6]:List ByteArray),Row (.slice A1 Lg.totals.length cp1) 9 1 strE Lg.totals,.blk b6 [iV 3,iV 0,iV 0,.string wd1,Zs,.slice A13 l.length cp13,Zs] 59,.blk b4 Zx 59] (yP hKN [1,3,4,6] (vX (f:=4) (i:=1) (j:=4) rfl (by kernel_rfl) ?_ ?_))
     · refine yN (i:=1) rfl fun KN hKN hPN=>zB (zg 5 rfl rfl rfl flat56) (yP hKN [1,3,4,6] (yY 3 4 (yN (i:=4) rfl fun KN hKN hPN=>yw strE ([wd10]:List ByteArray) wn underlying56 inf9 rfl rfl rfl rfl (by decide) (by decide) rfl fun b69=>yP hKN [2,4,5,7] (yY 2 5 (yN (i:=5) rfl fun KN hKN hPN=>vG 3 l ([wd10]:List ByteArray) encString wn rfl rfl rfl (fun _ hM=>(RowSl encString hM 0 rfl)) underlying56 inf9 rfl rfl (by simp only [List.length_append,List.length_cons,List.length_nil]; omega) rfl fun A15 cp15 hc15 hm15 hA15=>yP hKN [2,4,5,7] (vK 1 [6] [2,4,5,7] rfl fun KS hKS=>?_))))))
       refine yD (za rfl fld59_5) (yd hKS (yY 0 7 (yN (i:=7) rfl fun KN hKN hPN=>yt 6 wn rfl rfl rfl rfl inf56 rfl rfl (yP hKN [2,4,5,7] (yu (by kernel_rfl) (zm (vd (l++([wd10]:List ByteArray)) j21 m16 (q - 1) (.slice A15 ((l++([wd10]:List ByteArray)).length) cp15) (sc rfl (sc rfl (sc rfl (sc rfl sn)))) (S9 [3,4,1,2,5,6,7]) ?_ ?_)))))))
       · have hY:=Pz.by_next hx5 (by rw [he19,h8]) h9 he21
         rw [Pz.then_ok] at hY
         exact ⟨hY.trans (by rw [show q - 1 + 1=q by omega]),by simp only [List.length_append,List.length_cons,List.length_nil]; omega,by simp only [List.length_append,List.length_cons,List.length_nil]; omega,by omega,by omega,by omega⟩
       omega
     refine yN (i:=4) rfl fun KN hKN hPN=>yw strE ([wd10]:List ByteArray) wn underlying56 inf9 rfl rfl rfl rfl (by decide) (by decide) rfl fun b69=>yP hKN [2,4,5,7] (yY 3 1 (yN (i:=1) rfl fun KN hKN hPN=>zB (zg 6 rfl rfl rfl flat56) (yP hKN [2,4,5,7] (yY 2 5 (yN (i:=5) rfl fun KN hKN hPN=>vG 3 l ([wd10]:List ByteArray) encString wn rfl rfl rfl (fun _ hM=>(RowSl encString hM 0 rfl)) underlying56 inf9 rfl rfl (by simp only [List.length_append,List.length_cons,List.length_nil]; omega) rfl fun A16 cp16 hc16 hm16 hA16=>yP hKN [2,4,5,7] (vK 1 [6] [2,4,5,7] rfl fun KS hKS=>?_))))))
     refine yD (za rfl fld59_5) (yd hKS (yY 0 7 (yN (i:=7) rfl fun KN hKN hPN=>yt 6 wn rfl rfl rfl rfl inf56 rfl rfl (yP hKN [2,4,5,7] (yu (by kernel_rfl) (zm (vd (l++([wd10]:List ByteArray)) j21 m16 (q - 1) (.slice A16 ((l++([wd10]:List ByteArray)).length) cp16) (sc rfl (sc rfl (sc rfl (sc rfl sn)))) (S9 [3,4,1,2,5,6,7]) ?_ ?_)))))))
     · have hY:=Pz.by_next hx5 (by rw [he19,h8]) h9 he21
       rw [Pz.then_ok] at hY
       exact ⟨hY.trans (by rw [show q - 1 + 1=q by omega]),by simp only [List.length_append,List.length_cons,List.length_nil]; omega,by simp only [List.length_append,List.length_cons,List.length_nil]; omega,by omega,by omega,by omega⟩
     omega
   have g6:bo3=false:=by simpa using h8
   have hx6:=Pz.by_done hI3.1 (by rw [he19,g6])
   refine yZ (yH (ut (yI (zy hK10 (zG fun _ hK36=>zE rfl (yJ (α:=Pz.St) (PT:=111) [Rb 114 p s j19 m,.pub zd] [Row (.slice A13 l.length cp13) 9 1 strE l,Row (.slice (some ⟨b54,0,none⟩) 1 1) 9 1 strE ([wd6]:List ByteArray),Row (.slice A1 Lg.totals.length cp1) 9 1 strE Lg.totals,.blk b6 [iV 3,iV 0,iV 0,.string wd1,Zs,.slice A13 l.length cp13,Zs] 59,.blk b4 Zx 59] (fun z:Pz.St=>.tuple #[]) (fun z27=>Pz.must s ⟨#[40]⟩ ⟨j19,m⟩=.ok z27∧Pz.Good s ⟨j19,m⟩ z27) (fun z27=>[Rb 114 p s z27.at_ z27.nd,.pub zd]) _ (fun f24=>Pz.must s ⟨#[40]⟩ ⟨j19,m⟩=.no f24) (fun _=>rfl) (S9 [0,1,2,3,4,5,6]) (fun _=>rfl) wn rfl rfl call179 rfl (fun w1 Pb hG=>uA p s j19 m ⟨#[40]⟩ Pb w1 hG (by omega) (by omega) (by omega) ) ?_ fun z27 hz29=>?_))))))
   · intro f24 hf24
     refine zu (yE fun w1 hM=>?_)
     exact hM.yS f24 (by first | (simp only [Pz.then_ok,Pz.then_no,Pz.St.go,lgc,Pz.all,Pz.bys,Pz.allTail,zC.e,zC.es,hz1e,he1,hz4e,he2,g1,g3,he11,he19,g6,hx6,h1,h8,hf24]; done) | simp [Pz.then_ok,Pz.then_no,Pz.St.go,lgc,Pz.all,Pz.bys,Pz.allTail,zC.e,zC.es,hz1e,he1,hz4e,he2,g1,g3,he11,he19,g6,hx6,h1,h8,hf24])
   obtain ⟨j22,m17⟩:=z27
   have he22:Pz.must s ⟨#[40]⟩ ⟨j19,m⟩=.ok ⟨j22,m17⟩:=hz29.1
   have ga17:j22≤s.size:=hz29.2.at_
   have gm17:m≤m17:=hz29.2.mono
   have gn17:m17≤100:=hz29.2.most (show m≤100 by omega)
   refine vR 73 (.tuple (List.toArray [])) [Rb 114 p s j22 m17,.pub zd,Row (.slice A13 l.length cp13) 9 1 strE l,Row (.slice (some ⟨b54,0,none⟩) 1 1) 9 1 strE ([wd6]:List ByteArray),Row (.slice A1 Lg.totals.length cp1) 9 1 strE Lg.totals,.blk b6 [iV 3,iV 0,iV 0,.string wd1,Zs,.slice A13 l.length cp13,Zs] 59,.blk b4 Zx 59] (zD hK36 (zG fun _ hK37=>zE rfl (zE rfl (zB (zw rfl rfl (by omega)) (yJ (α:=zC × Pz.St) (PT:=111) [Rb 114 p s j22 m17,.pub zd] [Row (.slice A13 l.length cp13) 9 1 strE l,Row (.slice (some ⟨b54,0,none⟩) 1 1) 9 1 strE ([wd6]:List ByteArray),Row (.slice A1 Lg.totals.length cp1) 9 1 strE Lg.totals,.blk b6 [iV 3,iV 0,iV 0,.string wd1,Zs,.slice A13 l.length cp13,Zs] 59,.blk b4 Zx 59] (fun z:zC × Pz.St=>.agg (yl z.1).toArray) (fun z28=>Pz.xpr s N ⟨j22,m17⟩=.ok (z28.1.e,z28.2)∧Pz.Good s ⟨j22,m17⟩ z28.2) (fun z28=>[Rb 114 p s z28.2.at_ z28.2.nd,.pub zd,okP zC.Ok z28.1]) _ (fun f25=>Pz.xpr s N ⟨j22,m17⟩=.no f25) (fun _=>rfl) (S9 [0,1,2,3,4,5,6]) (fun _=>rfl) wn rfl rfl call52 rfl (fun w1 Pb hG=>ih p s j22 m17 (d + 1) Pb w1 hG (by omega) (by omega) (by omega) (by omega) (by omega)) ?_ fun z28 hz30=>?_)))))
   · intro f25 hf25
     refine zu (yE fun w1 hM=>?_)
     exact hM.yS f25 (by first | (simp only [Pz.then_ok,Pz.then_no,Pz.St.go,lgc,Pz.all,Pz.bys,Pz.allTail,zC.e,zC.es,hz1e,he1,hz4e,he2,g1,g3,he11,he19,g6,hx6,he22,h1,h8,hf25]; done) | simp [Pz.then_ok,Pz.then_no,Pz.St.go,lgc,Pz.all,Pz.bys,Pz.allTail,zC.e,zC.es,hz1e,he1,hz4e,he2,g1,g3,he11,he19,g6,hx6,he22,h1,h8,hf25])
   obtain ⟨x3,j23,m18⟩:=z28
   have he23:Pz.xpr s N ⟨j22,m17⟩=.ok (x3.e,⟨j23,m18⟩):=hz30.1
   have ga18:j23≤s.size:=hz30.2.at_
   have gm18:m17≤m18:=hz30.2.mono
   have gn18:m18≤100:=hz30.2.most (show m17≤100 by omega)
   refine vR 77 (.agg (List.toArray [iV x3.kind,iV x3.n,iV x3.range,.string x3.word,.slice x3.ms.A x3.ms.l.length x3.ms.c,.slice x3.by_.A x3.by_.l.length x3.by_.c,.slice x3.kids.A x3.kids.l.length x3.kids.c])) [Rb 114 p s j23 m18,.pub zd,okP zC.Ok x3,Row (.slice A13 l.length cp13) 9 1 strE l,Row (.slice (some ⟨b54,0,none⟩) 1 1) 9 1 strE ([wd6]:List ByteArray),Row (.slice A1 Lg.totals.length cp1) 9 1 strE Lg.totals,.blk b6 [iV 3,iV 0,iV 0,.string wd1,Zs,.slice A13 l.length cp13,Zs] 59,.blk b4 Zx 59] (yw yl ([x3]:List zC) wn underlying57 inf59 rfl rfl rfl rfl (by decide) (by decide) rfl fun b78=>zB (za rfl fld59_6) (yt 7 wn rfl rfl rfl rfl inf57 rfl rfl (zD hK37 (zG fun _ hK38=>zE rfl (yJ (α:=Pz.St) (PT:=111) [Rb 114 p s j23 m18,.pub zd] [Row (.slice (some ⟨b78,0,none⟩) 1 1) 59 7 yl ([x3]:List zC),okP zC.Ok x3,Row (.slice A13 l.length cp13) 9 1 strE l,Row (.slice (some ⟨b54,0,none⟩) 1 1) 9 1 strE ([wd6]:List ByteArray),Row (.slice A1 Lg.totals.length cp1) 9 1 strE Lg.totals,.blk b6 [iV 3,iV 0,iV 0,.string wd1,Zs,.slice A13 l.length cp13,.slice (some ⟨b78,0,none⟩) 1 1] 59,.blk b4 Zx 59] (fun z:Pz.St=>.tuple #[]) (fun z29=>Pz.must s ⟨#[41]⟩ ⟨j23,m18⟩=.ok z29∧Pz.Good s ⟨j23,m18⟩ z29) (fun z29=>[Rb 114 p s z29.at_ z29.nd,.pub zd]) _ (fun f26=>Pz.must s ⟨#[41]⟩ ⟨j23,m18⟩=.no f26) (fun _=>rfl) (S9 [1,2,0,3,4,5,6,7,8]) (fun _=>rfl) wn rfl rfl call179 rfl (fun w1 Pb hG=>uA p s j23 m18 ⟨#[41]⟩ Pb w1 hG (by omega) (by omega) (by omega) ) ?_ fun z29 hz31=>?_)))))
   · intro f26 hf26
     refine zu (yE fun w1 hM=>?_)
     exact hM.yS f26 (by first | (simp only [Pz.then_ok,Pz.then_no,Pz.St.go,lgc,Pz.all,Pz.bys,Pz.allTail,zC.e,zC.es,hz1e,he1,hz4e,he2,g1,g3,he11,he19,g6,hx6,he22,he23,h1,h8,hf26]; done) | simp [Pz.then_ok,Pz.then_no,Pz.St.go,lgc,Pz.all,Pz.bys,Pz.allTail,zC.e,zC.es,hz1e,he1,hz4e,he2,g1,g3,he11,he19,g6,hx6,he22,he23,h1,h8,hf26])
   obtain ⟨j24,m19⟩:=z29
   have he24:Pz.must s ⟨#[41]⟩ ⟨j23,m18⟩=.ok ⟨j24,m19⟩:=hz31.1
   have ga19:j24≤s.size:=hz31.2.at_
   have gm19:m18≤m19:=hz31.2.mono
   have gn19:m19≤100:=hz31.2.most (show m18≤100 by omega)
   refine vR 81 (.tuple (List.toArray [])) [Rb 114 p s j24 m19,.pub zd,Row (.slice (some ⟨b78,0,none⟩) 1 1) 59 7 yl ([x3]:List zC),okP zC.Ok x3,Row (.slice A13 l.length cp13) 9 1 strE l,Row (.slice (some ⟨b54,0,none⟩) 1 1) 9 1 strE ([wd6]:List ByteArray),Row (.slice A1 Lg.totals.length cp1) 9 1 strE Lg.totals,.blk b6 [iV 3,iV 0,iV 0,.string wd1,Zs,.slice A13 l.length cp13,.slice (some ⟨b78,0,none⟩) 1 1] 59,.blk b4 Zx 59] (zD hK38 (zG fun _ hK39=>zE rfl (zB (yM 7 [iV 3,iV 0,iV 0,.string wd1,Zs,.slice A13 l.length cp13,.slice (some ⟨b78,0,none⟩) 1 1] rfl rfl rfl rfl agg59 inf59) (uD 4 0 encString rfl rfl (fp2) (uD 2 0 encExprX rfl rfl (fp2) (ul (fun _ h=>h.exprG (k:=3) (n:=0) (r:=0) (wd:=wd1) (ms:=⟨none,0,[]⟩) (bs:=⟨A13,cp13,l⟩) (ks:=⟨(some ⟨b78,0,none⟩),1,([x3]:List zC)⟩) (fun _ _=>zJ.yq _ _ _ _) (fun _ pp=>pp.sl 4 rfl) (fun _ pp=>pp.sl 2 rfl) (fun _ pp x hx=>by simp only [List.mem_cons,List.not_mem_nil,or_false] at hx; rcases hx with rfl <;> first | exact pp.at_ 3 _ rfl) (by first | decide | omega) (fun x hx=>by cases hx) (fun x hx=>by have:=Pz.byL_size 5 (by show _≤s.size; omega) hx6 (fun y hy=>by rw [List.mem_singleton.1 hy]; omega) x hx; omega)) (yJ (α:=Unit) (PT:=111) [Rb 114 p s j24 m19,.pub zd] [okP zC.Ok (zC.mk 3 0 0 wd1 ⟨none,0,[]⟩ ⟨A13,cp13,l⟩ ⟨(some ⟨b78,0,none⟩),1,([x3]:List zC)⟩),slP 7 yl (.slice (some ⟨b78,0,none⟩) 1 1) ([x3]:List zC),okP zC.Ok x3,slP 1 strE (.slice A13 l.length cp13) l,Row (.slice (some ⟨b54,0,none⟩) 1 1) 9 1 strE ([wd6]:List ByteArray),Row (.slice A1 Lg.totals.length cp1) 9 1 strE Lg.totals,.blk b6 [iV 3,iV 0,iV 0,.string wd1,Zs,.slice A13 l.length cp13,.slice (some ⟨b78,0,none⟩) 1 1] 59,.blk b4 Zx 59] (fun _:Unit=>.agg (List.toArray [iV 3,iV 0,iV 0,.string wd1,Zs,.slice A13 l.length cp13,.slice (some ⟨b78,0,none⟩) 1 1])) (fun z30=>m19 + 1≤100) (fun z30=>[Rb 114 p s j24 (m19 + 1),.pub zd]) _ (fun f27=>Pz.node ⟨j24,m19⟩=.no f27) (fun _=>rfl) (S9 [1,2,0,3,4,5,6,7,8,9]) (fun _=>rfl) wn rfl rfl call99 rfl (fun w1 Pb hG=>ug p s j24 m19 3 0 0 wd1 none 0 0 A13 l.length cp13 (some ⟨b78,0,none⟩) 1 1 Pb w1 hG (by omega) (by omega) (by omega)) ?_ fun z30 hz32=>?_)))))))
   · intro f27 hf27
     refine zu (yE fun w1 hM=>?_)
     exact hM.yS f27 (by first | (simp only [Pz.then_ok,Pz.then_no,Pz.St.go,lgc,Pz.all,Pz.bys,Pz.allTail,zC.e,zC.es,hz1e,he1,hz4e,he2,g1,g3,he11,he19,g6,hx6,he22,he23,he24,h1,h8,hf27]; done) | simp [Pz.then_ok,Pz.then_no,Pz.St.go,lgc,Pz.all,Pz.bys,Pz.allTail,zC.e,zC.es,hz1e,he1,hz4e,he2,g1,g3,he11,he19,g6,hx6,he22,he23,he24,h1,h8,hf27])
   have he25:Pz.node ⟨j24,m19⟩=.ok ⟨j24,m19 + 1⟩:=Pz.node_yes hz32
   refine zr 9 wn rfl rfl rfl inf59 rfl rfl rfl (zD hK39 (zX (zY (.inl rfl) results181 (zt 9 rfl rfl agg59 inf59 rfl) fun w1 hM=>?_)))
   have h9:Pz.all s (Pz.xpr s N) ⟨i,n⟩=.ok ((zC.mk 3 0 0 wd1 ⟨none,0,[]⟩ ⟨A13,cp13,l⟩ ⟨(some ⟨b78,0,none⟩),1,([x3]:List zC)⟩).e,⟨j24,(m19 + 1)⟩):=by first | (simp only [Pz.then_ok,Pz.then_no,Pz.St.go,lgc,Pz.all,Pz.bys,Pz.allTail,zC.e,zC.es,hz1e,he1,hz4e,he2,g1,g3,he11,he19,g6,hx6,he22,he23,he24,he25,h1,h8]; done) | simp [Pz.then_ok,Pz.then_no,Pz.St.go,lgc,Pz.all,Pz.bys,Pz.allTail,zC.e,zC.es,hz1e,he1,hz4e,he2,g1,g3,he11,he19,g6,hx6,he22,he23,he24,he25,h1,h8]
   exact hM.uX (((zC.mk 3 0 0 wd1 ⟨none,0,[]⟩ ⟨A13,cp13,l⟩ ⟨(some ⟨b78,0,none⟩),1,([x3]:List zC)⟩),⟨j24,(m19 + 1)⟩):zC × Pz.St) rfl ⟨h9,(Pz.all_fine (Pz.xpr_fine s N) hi).ok_ h9⟩ (fun h=>h.sel [0,1,2] (by decide) rfl)
 have g7:(wd2=⟨#[]⟩)=True:=eq_true (Classical.not_not.1 h2)
 refine zQ (zQ (zB (zM rfl rfl) (zD hK12 (yr rfl rfl (zG fun _ hK40=>zE rfl (zB (vf rfl rfl) (zD hK40 (yr rfl (decide_eq_false (by rw [Classical.not_not.1 h2]; decide)) (yK hK10 (zG fun _ hK41=>?_))))))))))
 have g8:(wd2=⟨#[98,121]⟩)=False:=eq_false (by rw [Classical.not_not.1 h2]; decide)
 refine zE rfl (yJ (α:=Pz.St) (PT:=111) [Rb 114 p s j4 m2,.pub zd] [Row (.slice A1 Lg.totals.length cp1) 9 1 strE Lg.totals,.blk b6 [iV 3,iV 0,iV 0,.string wd1,Zs,Zs,Zs] 59,.blk b4 Zx 59] (fun z:Pz.St=>.tuple #[]) (fun z31=>Pz.must s ⟨#[40]⟩ ⟨j4,m2⟩=.ok z31∧Pz.Good s ⟨j4,m2⟩ z31) (fun z31=>[Rb 114 p s z31.at_ z31.nd,.pub zd]) _ (fun f28=>Pz.must s ⟨#[40]⟩ ⟨j4,m2⟩=.no f28) (fun _=>rfl) (S9 [0,1,2,3,4]) (fun _=>rfl) wn rfl rfl call179 rfl (fun w1 Pb hG=>uA p s j4 m2 ⟨#[40]⟩ Pb w1 hG (by omega) (by omega) (by omega) ) ?_ fun z31 hz33=>?_)
 · intro f28 hf28
   refine zu (yE fun w1 hM=>?_)
   exact hM.yS f28 (by first | (simp only [Pz.then_ok,Pz.then_no,Pz.St.go,lgc,Pz.all,Pz.bys,Pz.allTail,zC.e,zC.es,hz1e,he1,hz4e,he2,g7,g8,h1,hf28]; done) | simp [Pz.then_ok,Pz.then_no,Pz.St.go,lgc,Pz.all,Pz.bys,Pz.allTail,zC.e,zC.es,hz1e,he1,hz4e,he2,g7,g8,h1,hf28])
 obtain ⟨j25,m20⟩:=z31
 have he26:Pz.must s ⟨#[40]⟩ ⟨j4,m2⟩=.ok ⟨j25,m20⟩:=hz33.1
 have ga20:j25≤s.size:=hz33.2.at_
 have gm20:m2≤m20:=hz33.2.mono
 have gn20:m20≤100:=hz33.2.most (show m2≤100 by omega)
 refine vR 73 (.tuple (List.toArray [])) [Rb 114 p s j25 m20,.pub zd,Row (.slice A1 Lg.totals.length cp1) 9 1 strE Lg.totals,.blk b6 [iV 3,iV 0,iV 0,.string wd1,Zs,Zs,Zs] 59,.blk b4 Zx 59] (zD hK41 (zG fun _ hK42=>zE rfl (zE rfl (zB (zw rfl rfl (by omega)) (yJ (α:=zC × Pz.St) (PT:=111) [Rb 114 p s j25 m20,.pub zd] [Row (.slice A1 Lg.totals.length cp1) 9 1 strE Lg.totals,.blk b6 [iV 3,iV 0,iV 0,.string wd1,Zs,Zs,Zs] 59,.blk b4 Zx 59] (fun z:zC × Pz.St=>.agg (yl z.1).toArray) (fun z32=>Pz.xpr s N ⟨j25,m20⟩=.ok (z32.1.e,z32.2)∧Pz.Good s ⟨j25,m20⟩ z32.2) (fun z32=>[Rb 114 p s z32.2.at_ z32.2.nd,.pub zd,okP zC.Ok z32.1]) _ (fun f29=>Pz.xpr s N ⟨j25,m20⟩=.no f29) (fun _=>rfl) (S9 [0,1,2,3,4]) (fun _=>rfl) wn rfl rfl call52 rfl (fun w1 Pb hG=>ih p s j25 m20 (d + 1) Pb w1 hG (by omega) (by omega) (by omega) (by omega) (by omega)) ?_ fun z32 hz34=>?_)))))
 · intro f29 hf29
   refine zu (yE fun w1 hM=>?_)
   exact hM.yS f29 (by first | (simp only [Pz.then_ok,Pz.then_no,Pz.St.go,lgc,Pz.all,Pz.bys,Pz.allTail,zC.e,zC.es,hz1e,he1,hz4e,he2,g7,g8,he26,h1,hf29]; done) | simp [Pz.then_ok,Pz.then_no,Pz.St.go,lgc,Pz.all,Pz.bys,Pz.allTail,zC.e,zC.es,hz1e,he1,hz4e,he2,g7,g8,he26,h1,hf29])
 obtain ⟨x4,j26,m21⟩:=z32
 have he27:Pz.xpr s N ⟨j25,m20⟩=.ok (x4.e,⟨j26,m21⟩):=hz34.1
 have ga21:j26≤s.size:=hz34.2.at_
 have gm21:m20≤m21:=hz34.2.mono
 have gn21:m21≤100:=hz34.2.most (show m20≤100 by omega)
 refine vR 77 (.agg (List.toArray [iV x4.kind,iV x4.n,iV x4.range,.string x4.word,.slice x4.ms.A x4.ms.l.length x4.ms.c,.slice x4.by_.A x4.by_.l.length x4.by_.c,.slice x4.kids.A x4.kids.l.length x4.kids.c])) [Rb 114 p s j26 m21,.pub zd,okP zC.Ok x4,Row (.slice A1 Lg.totals.length cp1) 9 1 strE Lg.totals,.blk b6 [iV 3,iV 0,iV 0,.string wd1,Zs,Zs,Zs] 59,.blk b4 Zx 59] (yw yl ([x4]:List zC) wn underlying57 inf59 rfl rfl rfl rfl (by decide) (by decide) rfl fun b78=>zB (za rfl fld59_6) (yt 5 wn rfl rfl rfl rfl inf57 rfl rfl (zD hK42 (zG fun _ hK43=>zE rfl (yJ (α:=Pz.St) (PT:=111) [Rb 114 p s j26 m21,.pub zd] [Row (.slice (some ⟨b78,0,none⟩) 1 1) 59 7 yl ([x4]:List zC),okP zC.Ok x4,Row (.slice A1 Lg.totals.length cp1) 9 1 strE Lg.totals,.blk b6 [iV 3,iV 0,iV 0,.string wd1,Zs,Zs,.slice (some ⟨b78,0,none⟩) 1 1] 59,.blk b4 Zx 59] (fun z:Pz.St=>.tuple #[]) (fun z33=>Pz.must s ⟨#[41]⟩ ⟨j26,m21⟩=.ok z33∧Pz.Good s ⟨j26,m21⟩ z33) (fun z33=>[Rb 114 p s z33.at_ z33.nd,.pub zd]) _ (fun f30=>Pz.must s ⟨#[41]⟩ ⟨j26,m21⟩=.no f30) (fun _=>rfl) (S9 [1,2,0,3,4,5,6]) (fun _=>rfl) wn rfl rfl call179 rfl (fun w1 Pb hG=>uA p s j26 m21 ⟨#[41]⟩ Pb w1 hG (by omega) (by omega) (by omega) ) ?_ fun z33 hz35=>?_)))))
 · intro f30 hf30
   refine zu (yE fun w1 hM=>?_)
   exact hM.yS f30 (by first | (simp only [Pz.then_ok,Pz.then_no,Pz.St.go,lgc,Pz.all,Pz.bys,Pz.allTail,zC.e,zC.es,hz1e,he1,hz4e,he2,g7,g8,he26,he27,h1,hf30]; done) | simp [Pz.then_ok,Pz.then_no,Pz.St.go,lgc,Pz.all,Pz.bys,Pz.allTail,zC.e,zC.es,hz1e,he1,hz4e,he2,g7,g8,he26,he27,h1,hf30])
 obtain ⟨j27,m22⟩:=z33
 have he28:Pz.must s ⟨#[41]⟩ ⟨j26,m21⟩=.ok ⟨j27,m22⟩:=hz35.1
 have ga22:j27≤s.size:=hz35.2.at_
 have gm22:m21≤m22:=hz35.2.mono
 have gn22:m22≤100:=hz35.2.most (show m21≤100 by omega)
 refine vR 81 (.tuple (List.toArray [])) [Rb 114 p s j27 m22,.pub zd,Row (.slice (some ⟨b78,0,none⟩) 1 1) 59 7 yl ([x4]:List zC),okP zC.Ok x4,Row (.slice A1 Lg.totals.length cp1) 9 1 strE Lg.totals,.blk b6 [iV 3,iV 0,iV 0,.string wd1,Zs,Zs,.slice (some ⟨b78,0,none⟩) 1 1] 59,.blk b4 Zx 59] (zD hK43 (zG fun _ hK44=>zE rfl (zB (yM 5 [iV 3,iV 0,iV 0,.string wd1,Zs,Zs,.slice (some ⟨b78,0,none⟩) 1 1] rfl rfl rfl rfl agg59 inf59) (uD 2 0 encExprX rfl rfl (fp2) (ul (fun _ h=>h.exprG (k:=3) (n:=0) (r:=0) (wd:=wd1) (ms:=⟨none,0,[]⟩) (bs:=⟨none,0,[]⟩) (ks:=⟨(some ⟨b78,0,none⟩),1,([x4]:List zC)⟩) (fun _ _=>zJ.yq _ _ _ _) (fun _ _=>zJ.yq _ _ _ _) (fun _ pp=>pp.sl 2 rfl) (fun _ pp x hx=>by simp only [List.mem_cons,List.not_mem_nil,or_false] at hx; rcases hx with rfl <;> first | exact pp.at_ 3 _ rfl) (by first | decide | omega) (fun x hx=>by cases hx) (fun x hx=>by cases hx)) (yJ (α:=Unit) (PT:=111) [Rb 114 p s j27 m22,.pub zd] [okP zC.Ok (zC.mk 3 0 0 wd1 ⟨none,0,[]⟩ ⟨none,0,[]⟩ ⟨(some ⟨b78,0,none⟩),1,([x4]:List zC)⟩),slP 7 yl (.slice (some ⟨b78,0,none⟩) 1 1) ([x4]:List zC),okP zC.Ok x4,Row (.slice A1 Lg.totals.length cp1) 9 1 strE Lg.totals,.blk b6 [iV 3,iV 0,iV 0,.string wd1,Zs,Zs,.slice (some ⟨b78,0,none⟩) 1 1] 59,.blk b4 Zx 59] (fun _:Unit=>.agg (List.toArray [iV 3,iV 0,iV 0,.string wd1,Zs,Zs,.slice (some ⟨b78,0,none⟩) 1 1])) (fun z34=>m22 + 1≤100) (fun z34=>[Rb 114 p s j27 (m22 + 1),.pub zd]) _ (fun f31=>Pz.node ⟨j27,m22⟩=.no f31) (fun _=>rfl) (S9 [1,2,0,3,4,5,6,7]) (fun _=>rfl) wn rfl rfl call99 rfl (fun w1 Pb hG=>ug p s j27 m22 3 0 0 wd1 none 0 0 none 0 0 (some ⟨b78,0,none⟩) 1 1 Pb w1 hG (by omega) (by omega) (by omega)) ?_ fun z34 hz36=>?_))))))
 · intro f31 hf31
   refine zu (yE fun w1 hM=>?_)
   exact hM.yS f31 (by first | (simp only [Pz.then_ok,Pz.then_no,Pz.St.go,lgc,Pz.all,Pz.bys,Pz.allTail,zC.e,zC.es,hz1e,he1,hz4e,he2,g7,g8,he26,he27,he28,h1,hf31]; done) | simp [Pz.then_ok,Pz.then_no,Pz.St.go,lgc,Pz.all,Pz.bys,Pz.allTail,zC.e,zC.es,hz1e,he1,hz4e,he2,g7,g8,he26,he27,he28,h1,hf31])
 have he29:Pz.node ⟨j27,m22⟩=.ok ⟨j27,m22 + 1⟩:=Pz.node_yes hz36
 refine zr 7 wn rfl rfl rfl inf59 rfl rfl rfl (zD hK44 (zX (zY (.inl rfl) results181 (zt 7 rfl rfl agg59 inf59 rfl) fun w1 hM=>?_)))
 have h9:Pz.all s (Pz.xpr s N) ⟨i,n⟩=.ok ((zC.mk 3 0 0 wd1 ⟨none,0,[]⟩ ⟨none,0,[]⟩ ⟨(some ⟨b78,0,none⟩),1,([x4]:List zC)⟩).e,⟨j27,(m22 + 1)⟩):=by first | (simp only [Pz.then_ok,Pz.then_no,Pz.St.go,lgc,Pz.all,Pz.bys,Pz.allTail,zC.e,zC.es,hz1e,he1,hz4e,he2,g7,g8,he26,he27,he28,he29,h1]; done) | simp [Pz.then_ok,Pz.then_no,Pz.St.go,lgc,Pz.all,Pz.bys,Pz.allTail,zC.e,zC.es,hz1e,he1,hz4e,he2,g7,g8,he26,he27,he28,he29,h1]
 exact hM.uX (((zC.mk 3 0 0 wd1 ⟨none,0,[]⟩ ⟨none,0,[]⟩ ⟨(some ⟨b78,0,none⟩),1,([x4]:List zC)⟩),⟨j27,(m22 + 1)⟩):zC × Pz.St) rfl ⟨h9,(Pz.all_fine (Pz.xpr_fine s N) hi).ok_ h9⟩ (fun h=>h.sel [0,1,2] (by decide) rfl)
set_option maxHeartbeats 2000000 in
theorem c_factor (p : Nat) (s : ByteArray) (i : Nat) (n : Int) (d : Int) (N : Nat) (Pb : Nat → Prop) (w : World) (hG : Mem w ⟨fpOf [Rb 114 p s i n, .pub zd], Pb⟩ [Rb 114 p s i n, .pub zd] w) (hi : i ≤ s.size) (hs : s.size ≤ 2000) (hn : 0 ≤ n ∧ n ≤ 100) (hd : d + (N : Int) = 21) (hd1 : 1 ≤ d) (ih : ∀ M, N = M + 1 → XprC M) :
    Calls prog 147 #[.pointer (some ⟨p,0,none⟩),iV d] w (RetX w [Rb 114 p s i n,.pub zd] Pb 111 (fun z:zC × Pz.St=>.agg (yl z.1).toArray) (fun z=>Pz.fac s N ⟨i,n⟩=.ok (z.1.e,z.2)∧Pz.Good s ⟨i,n⟩ z.2) (fun z=>[Rb 114 p s z.2.at_ z.2.nd,.pub zd,okP zC.Ok z.1]) (fun f=>Pz.fac s N ⟨i,n⟩=.no f)):=by
 refine fstart (N:=57) (vals:=[.pointer (some ⟨p,0,none⟩),iV d]) (S:=Mem w ⟨fpOf [Rb 114 p s i n,.pub zd],Pb⟩ [Rb 114 p s i n,.pub zd]) func147 rfl rfl rfl hG (zG fun _ hK1=>yC wn inf59 rfl fun b4=>zD hK1 (zS fun _ hK2=>zG fun _ hK3=>zE rfl (zB (vH rfl rfl) (zD hK3 (zZ rfl (fun h1=>?_) (fun h1=>?_))))))
 · refine zL (zE rfl (yJ (α:=Unit) (PT:=111) [Rb 114 p s i n,.pub zd] [.blk b4 Zx 59] (fun _:Unit=>.tuple #[]) (fun z1=>False) (fun z1=>[Rb 114 p s i n,.pub zd]) _ (fun f1=>f1=(4,(i:Int))) (fun _=>rfl) (S9 [1,2,0]) (fun _=>rfl) wn rfl rfl call54 rfl (fun w1 Pb hG=>vj p s i n 4 Pb w1 hG) ?_ fun z1 hz1=>?_))
   · intro f1 hf1
     refine zu (yE fun w1 hM=>?_)
     exact hM.yS f1 (by rw [show N=0 by omega,hf1]; rfl)
   exact hz1.elim
 obtain ⟨M,rfl⟩:∃ M,N=M + 1:=⟨N - 1,by omega⟩
 refine yK hK2 (zS fun _ hK4=>zG fun _ hK5=>zE rfl (vO (α:=(Bool × Nat)) [Rb 114 p s i n,.pub zd] [.blk b4 Zx 59] (fun z:Bool × Nat=>.bool z.1) (fun z2=>(Pz.eat s ⟨#[40]⟩ i=z2∧i≤z2.2∧z2.2≤s.size)) (fun z2=>[Rb 114 p s z2.2 n,.pub zd]) _ (fun _=>rfl) (S9 [1,2,0]) (fun _=>rfl) wn rfl rfl call98 rfl (fun w1 Pb hG=>ui p s i n ⟨#[40]⟩ Pb w1 hG (by omega) (by omega)) fun z2 hz2=>?_))
 obtain ⟨bo1,j1⟩:=z2
 have he1:Pz.eat s ⟨#[40]⟩ i=(bo1,j1):=hz2.1
 have hz2a:i≤j1:=hz2.2.1
 have hz2b:j1≤s.size:=hz2.2.2
 refine vR 13 (.bool bo1) [Rb 114 p s j1 n,.pub zd,.blk b4 Zx 59] (zD hK5 (yp rfl (fun h2=>?_) (fun h2=>?_)))
 · refine zG fun _ hK6=>zE rfl (zE rfl (zB (zw rfl rfl (by omega)) (yJ (α:=zC × Pz.St) (PT:=111) [Rb 114 p s j1 n,.pub zd] [.blk b4 Zx 59] (fun z:zC × Pz.St=>.agg (yl z.1).toArray) (fun z3=>Pz.xpr s M ⟨j1,n⟩=.ok (z3.1.e,z3.2)∧Pz.Good s ⟨j1,n⟩ z3.2) (fun z3=>[Rb 114 p s z3.2.at_ z3.2.nd,.pub zd,okP zC.Ok z3.1]) _ (fun f2=>Pz.xpr s M ⟨j1,n⟩=.no f2) (fun _=>rfl) (S9 [0,1,2]) (fun _=>rfl) wn rfl rfl call52 rfl (fun w1 Pb hG=>(ih M rfl) p s j1 n (d + 1) Pb w1 hG (by omega) (by omega) (by omega) (by omega) (by omega)) ?_ fun z3 hz3=>?_)))
   · intro f2 hf2
     refine zu (zu (yE fun w1 hM=>?_))
     exact hM.yS f2 (by first | (simp only [Pz.then_ok,Pz.then_no,Pz.St.go,lgc,Pz.fac_succ,Pz.factor,zC.e,zC.es,he1,h1,h2,hf2]; done) | simp [Pz.then_ok,Pz.then_no,Pz.St.go,lgc,Pz.fac_succ,Pz.factor,zC.e,zC.es,he1,h1,h2,hf2])
   obtain ⟨x1,j2,m1⟩:=z3
   have he2:Pz.xpr s M ⟨j1,n⟩=.ok (x1.e,⟨j2,m1⟩):=hz3.1
   have ga1:j2≤s.size:=hz3.2.at_
   have gm1:n≤m1:=hz3.2.mono
   have gn1:m1≤100:=hz3.2.most (show n≤100 by omega)
   refine vR 17 (.agg (List.toArray [iV x1.kind,iV x1.n,iV x1.range,.string x1.word,.slice x1.ms.A x1.ms.l.length x1.ms.c,.slice x1.by_.A x1.by_.l.length x1.by_.c,.slice x1.kids.A x1.kids.l.length x1.kids.c])) [Rb 114 p s j2 m1,.pub zd,okP zC.Ok x1,.blk b4 Zx 59] (yC wn inf59 rfl fun b5=>zr 0 wn rfl rfl rfl inf59 rfl rfl rfl (zD hK6 (zG fun _ hK7=>zE rfl (yJ (α:=Pz.St) (PT:=111) [Rb 114 p s j2 m1,.pub zd] [.blk b5 [iV x1.kind,iV x1.n,iV x1.range,.string x1.word,.slice x1.ms.A x1.ms.l.length x1.ms.c,.slice x1.by_.A x1.by_.l.length x1.by_.c,.slice x1.kids.A x1.kids.l.length x1.kids.c] 59,okP zC.Ok x1,.blk b4 Zx 59] (fun z:Pz.St=>.tuple #[]) (fun z4=>Pz.must s ⟨#[41]⟩ ⟨j2,m1⟩=.ok z4∧Pz.Good s ⟨j2,m1⟩ z4) (fun z4=>[Rb 114 p s z4.at_ z4.nd,.pub zd]) _ (fun f3=>Pz.must s ⟨#[41]⟩ ⟨j2,m1⟩=.no f3) (fun _=>rfl) (S9 [1,2,0,3,4]) (fun _=>rfl) wn rfl rfl call179 rfl (fun w1 Pb hG=>uA p s j2 m1 ⟨#[41]⟩ Pb w1 hG (by omega) (by omega) (by omega) ) ?_ fun z4 hz4=>?_))))
   · intro f3 hf3
     refine zu (zu (yE fun w1 hM=>?_))
     exact hM.yS f3 (by first | (simp only [Pz.then_ok,Pz.then_no,Pz.St.go,lgc,Pz.fac_succ,Pz.factor,zC.e,zC.es,he1,he2,h1,h2,hf3]; done) | simp [Pz.then_ok,Pz.then_no,Pz.St.go,lgc,Pz.fac_succ,Pz.factor,zC.e,zC.es,he1,he2,h1,h2,hf3])
   obtain ⟨j3,m2⟩:=z4
   have he3:Pz.must s ⟨#[41]⟩ ⟨j2,m1⟩=.ok ⟨j3,m2⟩:=hz4.1
   have ga2:j3≤s.size:=hz4.2.at_
   have gm2:m1≤m2:=hz4.2.mono
   have gn2:m2≤100:=hz4.2.most (show m1≤100 by omega)
   refine vR 19 (.tuple (List.toArray [])) [Rb 114 p s j3 m2,.pub zd,.blk b5 [iV x1.kind,iV x1.n,iV x1.range,.string x1.word,.slice x1.ms.A x1.ms.l.length x1.ms.c,.slice x1.by_.A x1.by_.l.length x1.by_.c,.slice x1.kids.A x1.kids.l.length x1.kids.c] 59,okP zC.Ok x1,.blk b4 Zx 59] (zD hK7 (zG fun _ hK8=>zB (yM 2 [iV x1.kind,iV x1.n,iV x1.range,.string x1.word,.slice x1.ms.A x1.ms.l.length x1.ms.c,.slice x1.by_.A x1.by_.l.length x1.by_.c,.slice x1.kids.A x1.kids.l.length x1.kids.c] rfl rfl rfl rfl agg59 inf59) (zr 4 wn rfl rfl rfl inf59 rfl rfl rfl (zD hK8 (zX (zK (zY (.inl rfl) results147 (zt 4 rfl rfl agg59 inf59 rfl) fun w1 hM=>?_)))))))
   have h9:Pz.fac s (M + 1) ⟨i,n⟩=.ok (x1.e,⟨j3,m2⟩):=by first | (simp only [Pz.then_ok,Pz.then_no,Pz.St.go,lgc,Pz.fac_succ,Pz.factor,zC.e,zC.es,he1,he2,he3,h1,h2]; done) | simp [Pz.then_ok,Pz.then_no,Pz.St.go,lgc,Pz.fac_succ,Pz.factor,zC.e,zC.es,he1,he2,he3,h1,h2]
   exact hM.uX ((x1,⟨j3,m2⟩):zC × Pz.St) rfl ⟨h9,(Pz.fac_fine s (M + 1) _ hi).ok_ h9⟩ (fun h=>h.sel [0,1,3] (by decide) rfl)
 have g1:bo1=false:=by simpa using h2
 refine yK hK4 (zG fun _ hK9=>zE rfl (vO (α:=Nat) [Rb 114 p s j1 n,.pub zd] [.blk b4 Zx 59] (fun _=>.tuple #[]) (fun j4=>(Pz.blank s j1=j4∧j1≤j4∧j4≤s.size)) (fun j4=>[Rb 114 p s j4 n,.pub zd]) _ (fun _=>rfl) (S9 [0,1,2]) (fun _=>rfl) wn rfl rfl call53 rfl (fun w1 Pb hG=>uf p s j1 n Pb w1 hG (by omega) (by omega)) fun j4 hz5=>?_))
 obtain ⟨hz5e,hz5a,hz5b⟩:=hz5
 refine zD hK9 (zG fun _ hK10=>zE rfl (zB (zT rfl) (zB (za rfl fld114_1) (zB (zg 0 rfl rfl rfl flat3) (zP rfl (zD hK10 (zG fun _ hK11=>zE rfl (yJ (α:=ByteArray × Pz.St) (PT:=111) [Rb 114 p s j4 n,.pub zd] [.blk b4 Zx 59] (fun z:ByteArray × Pz.St=>.string z.1) (fun z5=>Pz.word s ⟨j4,n⟩=.ok z5∧Pz.Good s ⟨j4,n⟩ z5.2) (fun z5=>[Rb 114 p s z5.2.at_ z5.2.nd,.pub zd]) _ (fun f4=>Pz.word s ⟨j4,n⟩=.no f4) (fun _=>rfl) (S9 [0,1,2]) (fun _=>rfl) wn rfl rfl call180 rfl (fun w1 Pb hG=>jz p s j4 n  Pb w1 hG (by omega) (by omega) (by omega) ) ?_ fun z5 hz6=>?_))))))))
 · intro f4 hf4
   refine zu (yE fun w1 hM=>?_)
   exact hM.yS f4 (by first | (simp only [Pz.then_ok,Pz.then_no,Pz.St.go,lgc,Pz.fac_succ,Pz.factor,zC.e,zC.es,he1,g1,hz5e,h1,h2,hf4]; done) | simp [Pz.then_ok,Pz.then_no,Pz.St.go,lgc,Pz.fac_succ,Pz.factor,zC.e,zC.es,he1,g1,hz5e,h1,h2,hf4])
 obtain ⟨wd1,j5,m3⟩:=z5
 have he4:Pz.word s ⟨j4,n⟩=.ok (wd1,⟨j5,m3⟩):=hz6.1
 have ga3:j5≤s.size:=hz6.2.at_
 have gm3:n≤m3:=hz6.2.mono
 have gn3:m3≤100:=hz6.2.most (show n≤100 by omega)
 have wz1:wd1.size≤12:=Pz.word_size (t:=⟨j4,n⟩) (show j4≤_ by omega) he4
 refine vR 28 (.string wd1) [Rb 114 p s j5 m3,.pub zd,.blk b4 Zx 59] (zP rfl (zD hK11 (zS fun _ hK12=>zk (zG fun _ hK13=>zE rfl (zB (vf rfl rfl) (zP rfl (zD hK13 (zZ rfl (fun h3=>?_) (fun h3=>?_)))))))))
 · have g2:(wd1=⟨#[97,108,108]⟩)=True:=eq_true h3
   refine zG fun _ hK14=>zE rfl (zE rfl (yJ (α:=zC × Pz.St) (PT:=111) [Rb 114 p s j5 m3,.pub zd] [.blk b4 Zx 59] (fun z:zC × Pz.St=>.agg (yl z.1).toArray) (fun z6=>Pz.all s (Pz.xpr s M) ⟨j5,m3⟩=.ok (z6.1.e,z6.2)∧Pz.Good s ⟨j5,m3⟩ z6.2) (fun z6=>[Rb 114 p s z6.2.at_ z6.2.nd,.pub zd,okP zC.Ok z6.1]) _ (fun f5=>Pz.all s (Pz.xpr s M) ⟨j5,m3⟩=.no f5) (fun _=>rfl) (S9 [0,1,2]) (fun _=>rfl) wn rfl rfl call181 rfl (fun w1 Pb hG=>c_all p s j5 m3 d M Pb w1 hG (by omega) (by omega) (by omega) (by omega) (by omega) (ih M rfl)) ?_ fun z6 hz7=>?_))
   · intro f5 hf5
     refine zu (yv (zu (yE fun w1 hM=>?_)))
     exact hM.yS f5 (by first | (simp only [Pz.then_ok,Pz.then_no,Pz.St.go,lgc,Pz.fac_succ,Pz.factor,zC.e,zC.es,he1,g1,hz5e,he4,g2,h1,h2,hf5]; done) | simp [Pz.then_ok,Pz.then_no,Pz.St.go,lgc,Pz.fac_succ,Pz.factor,zC.e,zC.es,he1,g1,hz5e,he4,g2,h1,h2,hf5])
   obtain ⟨x2,j6,m4⟩:=z6
   have he5:Pz.all s (Pz.xpr s M) ⟨j5,m3⟩=.ok (x2.e,⟨j6,m4⟩):=hz7.1
   have ga4:j6≤s.size:=hz7.2.at_
   have gm4:m3≤m4:=hz7.2.mono
   have gn4:m4≤100:=hz7.2.most (show m3≤100 by omega)
   refine vR 34 (.agg (List.toArray [iV x2.kind,iV x2.n,iV x2.range,.string x2.word,.slice x2.ms.A x2.ms.l.length x2.ms.c,.slice x2.by_.A x2.by_.l.length x2.by_.c,.slice x2.kids.A x2.kids.l.length x2.kids.c])) [Rb 114 p s j6 m4,.pub zd,okP zC.Ok x2,.blk b4 Zx 59] (zr 3 wn rfl rfl rfl inf59 rfl rfl rfl (zD hK14 (zX (yA (zK (zY (.inl rfl) results147 (zt 3 rfl rfl agg59 inf59 rfl) fun w1 hM=>?_))))))
   have h9:Pz.fac s (M + 1) ⟨i,n⟩=.ok (x2.e,⟨j6,m4⟩):=by first | (simp only [Pz.then_ok,Pz.then_no,Pz.St.go,lgc,Pz.fac_succ,Pz.factor,zC.e,zC.es,he1,g1,hz5e,he4,g2,he5,h1,h2]; done) | simp [Pz.then_ok,Pz.then_no,Pz.St.go,lgc,Pz.fac_succ,Pz.factor,zC.e,zC.es,he1,g1,hz5e,he4,g2,he5,h1,h2]
   exact hM.uX ((x2,⟨j6,m4⟩):zC × Pz.St) rfl ⟨h9,(Pz.fac_fine s (M + 1) _ hi).ok_ h9⟩ (fun h=>h.sel [0,1,2] (by decide) rfl)
 have g3:(wd1=⟨#[97,108,108]⟩)=False:=eq_false h3
 refine zG fun _ hK15=>zE rfl (zB (vf rfl rfl) (zP rfl (zD hK15 (zZ rfl (fun h4=>?_) (fun h4=>?_)))))
 · have g4:(wd1=⟨#[]⟩)=True:=eq_true h4
   refine zG fun _ hK16=>zE rfl (zE rfl (yJ (α:=Int × Pz.St) (PT:=111) [Rb 114 p s j5 m3,.pub zd] [.blk b4 Zx 59] (fun z:Int × Pz.St=>iV z.1) (fun z7=>Pz.num s 0 1000000 ⟨j5,m3⟩=.ok z7∧Pz.Good s ⟨j5,m3⟩ z7.2) (fun z7=>[Rb 114 p s z7.2.at_ z7.2.nd,.pub zd]) _ (fun f6=>Pz.num s 0 1000000 ⟨j5,m3⟩=.no f6) (fun _=>rfl) (S9 [0,1,2]) (fun _=>rfl) wn rfl rfl call182 rfl (fun w1 Pb hG=>c_num p s j5 m3 0 1000000 Pb w1 hG (by omega) (by omega) (by omega) (by omega)) ?_ fun z7 hz8=>?_))
   · intro f6 hf6
     refine zu (yv (zu (yE fun w1 hM=>?_)))
     exact hM.yS f6 (by first | (simp only [Pz.then_ok,Pz.then_no,Pz.St.go,lgc,Pz.fac_succ,Pz.factor,zC.e,zC.es,he1,g1,hz5e,he4,g3,g4,h1,h2,hf6]; done) | simp [Pz.then_ok,Pz.then_no,Pz.St.go,lgc,Pz.fac_succ,Pz.factor,zC.e,zC.es,he1,g1,hz5e,he4,g3,g4,h1,h2,hf6])
   obtain ⟨v1,j7,m5⟩:=z7
   have he6:Pz.num s 0 1000000 ⟨j5,m3⟩=.ok (v1,⟨j7,m5⟩):=hz8.1
   have ga5:j7≤s.size:=hz8.2.at_
   have gm5:m3≤m5:=hz8.2.mono
   have gn5:m5≤100:=hz8.2.most (show m3≤100 by omega)
   refine vR 40 (iV v1) [Rb 114 p s j7 m5,.pub zd,.blk b4 Zx 59] (zB (zz [iV 1,iV v1,iV 0,.string ⟨#[]⟩,Zs,Zs,Zs] pl59 inf59 rfl rfl) (ul (fun _ h=>h.exprG (k:=1) (n:=v1) (r:=0) (wd:=⟨#[]⟩) (ms:=⟨none,0,[]⟩) (bs:=⟨none,0,[]⟩) (ks:=⟨none,0,[]⟩) (fun _ _=>zJ.yq _ _ _ _) (fun _ _=>zJ.yq _ _ _ _) (fun _ _=>zJ.yq _ _ _ _) (fun _ _ x hx=>by cases hx) (by first | decide | omega) (fun x hx=>by cases hx) (fun x hx=>by cases hx)) (yJ (α:=Unit) (PT:=111) [Rb 114 p s j7 m5,.pub zd] [okP zC.Ok (zC.mk 1 v1 0 ⟨#[]⟩ ⟨none,0,[]⟩ ⟨none,0,[]⟩ ⟨none,0,[]⟩),.blk b4 Zx 59] (fun _:Unit=>.agg (List.toArray [iV 1,iV v1,iV 0,.string ⟨#[]⟩,Zs,Zs,Zs])) (fun z8=>m5 + 1≤100) (fun z8=>[Rb 114 p s j7 (m5 + 1),.pub zd]) _ (fun f7=>Pz.node ⟨j7,m5⟩=.no f7) (fun _=>rfl) (S9 [1,2,0,3]) (fun _=>rfl) wn rfl rfl call99 rfl (fun w1 Pb hG=>ug p s j7 m5 1 v1 0 ⟨#[]⟩ none 0 0 none 0 0 none 0 0 Pb w1 hG (by omega) (by omega) (by omega)) ?_ fun z8 hz9=>?_)))
   · intro f7 hf7
     refine zu (yv (zu (yE fun w1 hM=>?_)))
     exact hM.yS f7 (by first | (simp only [Pz.then_ok,Pz.then_no,Pz.St.go,lgc,Pz.fac_succ,Pz.factor,zC.e,zC.es,he1,g1,hz5e,he4,g3,g4,he6,h1,h2,hf7]; done) | simp [Pz.then_ok,Pz.then_no,Pz.St.go,lgc,Pz.fac_succ,Pz.factor,zC.e,zC.es,he1,g1,hz5e,he4,g3,g4,he6,h1,h2,hf7])
   have he7:Pz.node ⟨j7,m5⟩=.ok ⟨j7,m5 + 1⟩:=Pz.node_yes hz9
   refine zr 3 wn rfl rfl rfl inf59 rfl rfl rfl (zD hK16 (zX (yA (zK (zY (.inl rfl) results147 (zt 3 rfl rfl agg59 inf59 rfl) fun w1 hM=>?_)))))
   have h9:Pz.fac s (M + 1) ⟨i,n⟩=.ok ((zC.mk 1 v1 0 ⟨#[]⟩ ⟨none,0,[]⟩ ⟨none,0,[]⟩ ⟨none,0,[]⟩).e,⟨j7,(m5 + 1)⟩):=by first | (simp only [Pz.then_ok,Pz.then_no,Pz.St.go,lgc,Pz.fac_succ,Pz.factor,zC.e,zC.es,he1,g1,hz5e,he4,g3,g4,he6,he7,h1,h2]; done) | simp [Pz.then_ok,Pz.then_no,Pz.St.go,lgc,Pz.fac_succ,Pz.factor,zC.e,zC.es,he1,g1,hz5e,he4,g3,g4,he6,he7,h1,h2]
   exact hM.uX (((zC.mk 1 v1 0 ⟨#[]⟩ ⟨none,0,[]⟩ ⟨none,0,[]⟩ ⟨none,0,[]⟩),⟨j7,(m5 + 1)⟩):zC × Pz.St) rfl ⟨h9,(Pz.fac_fine s (M + 1) _ hi).ok_ h9⟩ (fun h=>h.sel [0,1,2] (by decide) rfl)
 have g5:(wd1=⟨#[]⟩)=False:=eq_false h4
 refine zG fun _ hK17=>uU Agg.words wn rfl call33 rfl (fun w1 hM=>c_Words  w1) fun A1 cp1 hc1 hm1 hA1=>zE rfl (yF wn rfl call150 rfl (fun w1 hM=>uQ _ Agg.words wd1 w1 (RowSl encString hM 0 rfl)) (zB (jB rfl) (zP rfl (zD hK17 (zZ rfl (fun h5=>?_) (fun h5=>?_))))))
 · refine zG fun _ hK18=>zE rfl (zE rfl (zB (zT rfl) (zB (za rfl fld114_1) (yt 1 wn rfl rfl rfl rfl inf3 rfl rfl (zD hK18 (zL (zE rfl (yJ (α:=Unit) (PT:=111) [Rb 114 p s j4 m3,.pub zd] [Row (.slice A1 Agg.words.length cp1) 9 1 strE Agg.words,.blk b4 Zx 59] (fun _:Unit=>.tuple #[]) (fun z9=>False) (fun z9=>[Rb 114 p s j4 m3,.pub zd]) _ (fun f8=>f8=(7,(j4:Int))) (fun _=>rfl) (S9 [1,2,0,3]) (fun _=>rfl) wn rfl rfl call54 rfl (fun w1 Pb hG=>vj p s j4 m3 7 Pb w1 hG) ?_ fun z9 hz10=>?_))))))))
   · intro f8 hf8
     refine yv (zu (yE fun w1 hM=>?_))
     exact hM.yS f8 (by first | (simp only [Pz.then_ok,Pz.then_no,Pz.St.go,lgc,Pz.fac_succ,Pz.factor,zC.e,zC.es,he1,g1,hz5e,he4,g3,g5,h1,h2,h5,hf8]; done) | simp [Pz.then_ok,Pz.then_no,Pz.St.go,lgc,Pz.fac_succ,Pz.factor,zC.e,zC.es,he1,g1,hz5e,he4,g3,g5,h1,h2,h5,hf8])
   exact hz10.elim
 refine yU (zm (zy hK12 (zG fun _ hK19=>zE rfl (zE rfl (yJ (α:=zC × Pz.St) (PT:=111) [Rb 114 p s j5 m3,.pub zd] [Row (.slice A1 Agg.words.length cp1) 9 1 strE Agg.words,.blk b4 Zx 59] (fun z:zC × Pz.St=>.agg (yl z.1).toArray) (fun z10=>Pz.window s wd1 ⟨j5,m3⟩=.ok (z10.1.e,z10.2)∧Pz.Good s ⟨j5,m3⟩ z10.2) (fun z10=>[Rb 114 p s z10.2.at_ z10.2.nd,.pub zd,okP zC.Ok z10.1]) _ (fun f9=>Pz.window s wd1 ⟨j5,m3⟩=.no f9) (fun _=>rfl) (S9 [1,2,0,3]) (fun _=>rfl) wn rfl rfl call183 rfl (fun w1 Pb hG=>c_window p s j5 m3 wd1 Pb w1 hG (by omega) (by omega) (by omega) (by omega)) ?_ fun z10 hz11=>?_)))))
 · intro f9 hf9
   refine zu (yE fun w1 hM=>?_)
   exact hM.yS f9 (by first | (simp only [Pz.then_ok,Pz.then_no,Pz.St.go,lgc,Pz.fac_succ,Pz.factor,zC.e,zC.es,he1,g1,hz5e,he4,g3,g5,h1,h2,h5,hf9]; done) | simp [Pz.then_ok,Pz.then_no,Pz.St.go,lgc,Pz.fac_succ,Pz.factor,zC.e,zC.es,he1,g1,hz5e,he4,g3,g5,h1,h2,h5,hf9])
 obtain ⟨x3,j8,m6⟩:=z10
 have he8:Pz.window s wd1 ⟨j5,m3⟩=.ok (x3.e,⟨j8,m6⟩):=hz11.1
 have ga6:j8≤s.size:=hz11.2.at_
 have gm6:m3≤m6:=hz11.2.mono
 have gn6:m6≤100:=hz11.2.most (show m3≤100 by omega)
 refine vR 56 (.agg (List.toArray [iV x3.kind,iV x3.n,iV x3.range,.string x3.word,.slice x3.ms.A x3.ms.l.length x3.ms.c,.slice x3.by_.A x3.by_.l.length x3.by_.c,.slice x3.kids.A x3.kids.l.length x3.kids.c])) [Rb 114 p s j8 m6,.pub zd,okP zC.Ok x3,Row (.slice A1 Agg.words.length cp1) 9 1 strE Agg.words,.blk b4 Zx 59] (zr 4 wn rfl rfl rfl inf59 rfl rfl rfl (zD hK19 (zX (zY (.inl rfl) results147 (zt 4 rfl rfl agg59 inf59 rfl) fun w1 hM=>?_))))
 have h9:Pz.fac s (M + 1) ⟨i,n⟩=.ok (x3.e,⟨j8,m6⟩):=by first | (simp only [Pz.then_ok,Pz.then_no,Pz.St.go,lgc,Pz.fac_succ,Pz.factor,zC.e,zC.es,he1,g1,hz5e,he4,g3,g5,he8,h1,h2,h5]; done) | simp [Pz.then_ok,Pz.then_no,Pz.St.go,lgc,Pz.fac_succ,Pz.factor,zC.e,zC.es,he1,g1,hz5e,he4,g3,g5,he8,h1,h2,h5]
 exact hM.uX ((x3,⟨j8,m6⟩):zC × Pz.St) rfl ⟨h9,(Pz.fac_fine s (M + 1) _ hi).ok_ h9⟩ (fun h=>h.sel [0,1,2] (by decide) rfl)
set_option maxHeartbeats 2000000 in
theorem c_term (p : Nat) (s : ByteArray) (i : Nat) (n : Int) (d : Int) (N : Nat) (Pb : Nat → Prop) (w : World) (hG : Mem w ⟨fpOf [Rb 114 p s i n, .pub zd], Pb⟩ [Rb 114 p s i n, .pub zd] w) (hi : i ≤ s.size) (hs : s.size ≤ 2000) (hn : 0 ≤ n ∧ n ≤ 100) (hd : d + (N : Int) = 21) (hd1 : 1 ≤ d) (ih : FacC N) :
    Calls prog 97 #[.pointer (some ⟨p,0,none⟩),iV d] w (RetX w [Rb 114 p s i n,.pub zd] Pb 111 (fun z:zC × Pz.St=>.agg (yl z.1).toArray) (fun z=>Pz.trm s N ⟨i,n⟩=.ok (z.1.e,z.2)∧Pz.Good s ⟨i,n⟩ z.2) (fun z=>[Rb 114 p s z.2.at_ z.2.nd,.pub zd,okP zC.Ok z.1]) (fun f=>Pz.trm s N ⟨i,n⟩=.no f)):=by
 refine fstart (N:=22) (vals:=[.pointer (some ⟨p,0,none⟩),iV d]) (S:=Mem w ⟨fpOf [Rb 114 p s i n,.pub zd],Pb⟩ [Rb 114 p s i n,.pub zd]) func97 rfl rfl rfl hG (zG fun _ hK1=>yC wn inf59 rfl fun b4=>zD hK1 (zG fun _ hK2=>zE rfl (zE rfl (yJ (α:=zC × Pz.St) (PT:=111) [Rb 114 p s i n,.pub zd] [.blk b4 Zx 59] (fun z:zC × Pz.St=>.agg (yl z.1).toArray) (fun z1=>Pz.fac s N ⟨i,n⟩=.ok (z1.1.e,z1.2)∧Pz.Good s ⟨i,n⟩ z1.2) (fun z1=>[Rb 114 p s z1.2.at_ z1.2.nd,.pub zd,okP zC.Ok z1.1]) _ (fun f1=>Pz.fac s N ⟨i,n⟩=.no f1) (fun _=>rfl) (S9 [1,2,0]) (fun _=>rfl) wn rfl rfl call147 rfl (fun w1 Pb hG=>ih p s i n d Pb w1 hG (by omega) (by omega) (by omega) (by omega) (by omega)) ?_ fun z1 hz1=>?_))))
 · intro f1 hf1
   refine zu (yE fun w1 hM=>?_)
   exact hM.yS f1 (by first | (simp only [Pz.then_ok,Pz.then_no,Pz.St.go,lgc,Pz.trm,Pz.sumOf,hf1]; done) | simp [Pz.then_ok,Pz.then_no,Pz.St.go,lgc,Pz.trm,Pz.sumOf,hf1])
 obtain ⟨x1,j1,m1⟩:=z1
 have he1:Pz.fac s N ⟨i,n⟩=.ok (x1.e,⟨j1,m1⟩):=hz1.1
 have ga1:j1≤s.size:=hz1.2.at_
 have gm1:n≤m1:=hz1.2.mono
 have gn1:m1≤100:=hz1.2.most (show n≤100 by omega)
 refine vR 9 (.agg (List.toArray [iV x1.kind,iV x1.n,iV x1.range,.string x1.word,.slice x1.ms.A x1.ms.l.length x1.ms.c,.slice x1.by_.A x1.by_.l.length x1.by_.c,.slice x1.kids.A x1.kids.l.length x1.kids.c])) [Rb 114 p s j1 m1,.pub zd,okP zC.Ok x1,.blk b4 Zx 59] (yC wn inf59 rfl fun b5=>zr 0 wn rfl rfl rfl inf59 rfl rfl rfl (zD hK2 (zS fun _ hK3=>zk (uK (fun (x:zC) (k:Nat) (m:Int) (q:Nat)=>[(0,.pointer (some ⟨p,0,none⟩)),(1,iV d),(4,.pointer (some ⟨b4,0,none⟩)),(5,.pointer (some ⟨b5,0,none⟩))]) (fun (x:zC) (k:Nat) (m:Int) (q:Nat)=>[.blk b5 [iV x.kind,iV x.n,iV x.range,.string x.word,.slice x.ms.A x.ms.l.length x.ms.c,.slice x.by_.A x.by_.l.length x.by_.c,.slice x.kids.A x.kids.l.length x.kids.c] 59,Rb 114 p s k m,.pub zd,okP zC.Ok x,.blk b4 Zx 59]) (fun (x:zC) (k:Nat) (m:Int) (q:Nat)=>Pz.binL s (Pz.fac s N) Pz.star 101 x1.e ⟨j1,m1⟩=Pz.binL s (Pz.fac s N) Pz.star (q + 1) x.e ⟨k,m⟩∧k≤s.size∧0≤m∧m≤100∧(100:Int)≤(q:Int) + m) (fun (x:zC) (k:Nat) (m:Int) (q:Nat)=>q) x1 j1 m1 100 (sc rfl (sc rfl (sc rfl (sc rfl sn)))) (fun _ h=>h) ?_ (fun x k m q hI1=>?_)))))
 · exact ⟨rfl,by omega,by omega,by omega,by omega⟩
 refine zS fun _ hK4=>zG fun _ hK5=>zE rfl (vO (α:=(Bool × Nat)) [Rb 114 p s k m,.pub zd] [.blk b5 [iV x.kind,iV x.n,iV x.range,.string x.word,.slice x.ms.A x.ms.l.length x.ms.c,.slice x.by_.A x.by_.l.length x.by_.c,.slice x.kids.A x.kids.l.length x.kids.c] 59,okP zC.Ok x,.blk b4 Zx 59] (fun z:Bool × Nat=>.bool z.1) (fun z2=>(Pz.eat s ⟨#[42]⟩ k=z2∧k≤z2.2∧z2.2≤s.size)) (fun z2=>[Rb 114 p s z2.2 m,.pub zd]) _ (fun _=>rfl) (S9 [1,2,0,3,4]) (fun _=>rfl) wn rfl rfl call98 rfl (fun w1 Pb hG=>ui p s k m ⟨#[42]⟩ Pb w1 hG (by omega) (by omega)) fun z2 hz2=>?_)
 obtain ⟨bo1,j2⟩:=z2
 have he2:Pz.eat s ⟨#[42]⟩ k=(bo1,j2):=hz2.1
 have hz2a:k≤j2:=hz2.2.1
 have hz2b:j2≤s.size:=hz2.2.2
 refine vR 11 (.bool bo1) [Rb 114 p s j2 m,.pub zd,.blk b5 [iV x.kind,iV x.n,iV x.range,.string x.word,.slice x.ms.A x.ms.l.length x.ms.c,.slice x.by_.A x.by_.l.length x.by_.c,.slice x.kids.A x.kids.l.length x.kids.c] 59,okP zC.Ok x,.blk b4 Zx 59] (zD hK5 (yp rfl (fun h1=>?_) (fun h1=>?_)))
 · refine yK hK4 (zk (zG fun _ hK6=>zE rfl (zE rfl (yJ (α:=zC × Pz.St) (PT:=111) [Rb 114 p s j2 m,.pub zd] [.blk b5 [iV x.kind,iV x.n,iV x.range,.string x.word,.slice x.ms.A x.ms.l.length x.ms.c,.slice x.by_.A x.by_.l.length x.by_.c,.slice x.kids.A x.kids.l.length x.kids.c] 59,okP zC.Ok x,.blk b4 Zx 59] (fun z:zC × Pz.St=>.agg (yl z.1).toArray) (fun z3=>Pz.fac s N ⟨j2,m⟩=.ok (z3.1.e,z3.2)∧Pz.Good s ⟨j2,m⟩ z3.2) (fun z3=>[Rb 114 p s z3.2.at_ z3.2.nd,.pub zd,okP zC.Ok z3.1]) _ (fun f2=>Pz.fac s N ⟨j2,m⟩=.no f2) (fun _=>rfl) (S9 [0,1,2,3,4]) (fun _=>rfl) wn rfl rfl call147 rfl (fun w1 Pb hG=>ih p s j2 m d Pb w1 hG (by omega) (by omega) (by omega) (by omega) (by omega)) ?_ fun z3 hz3=>?_))))
   · intro f2 hf2
     refine zu (yv (uO (yv (zu (yE fun w1 hM=>?_)))))
     have hY:=Pz.bin_next hI1.1 (Pz.star1 (by rw [he2,h1])) (by decide) hf2
     rw [Pz.then_no] at hY
     exact hM.yS f2 (by simp only [Pz.then_ok,Pz.then_no,Pz.St.go,lgc,Pz.trm,Pz.sumOf,he1,hY])
   obtain ⟨x2,j3,m2⟩:=z3
   have he3:Pz.fac s N ⟨j2,m⟩=.ok (x2.e,⟨j3,m2⟩):=hz3.1
   have ga2:j3≤s.size:=hz3.2.at_
   have gm2:m≤m2:=hz3.2.mono
   have gn2:m2≤100:=hz3.2.most (show m≤100 by omega)
   refine vR 14 (.agg (List.toArray [iV x2.kind,iV x2.n,iV x2.range,.string x2.word,.slice x2.ms.A x2.ms.l.length x2.ms.c,.slice x2.by_.A x2.by_.l.length x2.by_.c,.slice x2.kids.A x2.kids.l.length x2.kids.c])) [Rb 114 p s j3 m2,.pub zd,okP zC.Ok x2,.blk b5 [iV x.kind,iV x.n,iV x.range,.string x.word,.slice x.ms.A x.ms.l.length x.ms.c,.slice x.by_.A x.by_.l.length x.by_.c,.slice x.kids.A x.kids.l.length x.kids.c] 59,okP zC.Ok x,.blk b4 Zx 59] (yC wn inf59 rfl fun b6=>zr 0 wn rfl rfl rfl inf59 rfl rfl rfl (zD hK6 (zL (zE rfl (zB (yM 4 [iV x.kind,iV x.n,iV x.range,.string x.word,.slice x.ms.A x.ms.l.length x.ms.c,.slice x.by_.A x.by_.l.length x.by_.c,.slice x.kids.A x.kids.l.length x.kids.c] rfl rfl rfl rfl agg59 inf59) (zB (yM 0 [iV x2.kind,iV x2.n,iV x2.range,.string x2.word,.slice x2.ms.A x2.ms.l.length x2.ms.c,.slice x2.by_.A x2.by_.l.length x2.by_.c,.slice x2.kids.A x2.kids.l.length x2.kids.c] rfl rfl rfl rfl agg59 inf59) (yw yl ([x,x2]:List zC) wn underlying57 inf59 rfl rfl rfl rfl (by decide) (by decide) rfl fun b18=>zB (zz [iV 4,iV 0,iV 0,.string ⟨#[42]⟩,Zs,Zs,.slice (some ⟨b18,0,none⟩) 2 2] pl59 inf59 rfl rfl) (uD 0 2 encExprX rfl rfl (fp2) (ul (fun _ h=>h.exprG (k:=4) (n:=0) (r:=0) (wd:=⟨#[42]⟩) (ms:=⟨none,0,[]⟩) (bs:=⟨none,0,[]⟩) (ks:=⟨(some ⟨b18,0,none⟩),2,([x,x2]:List zC)⟩) (fun _ _=>zJ.yq _ _ _ _) (fun _ _=>zJ.yq _ _ _ _) (fun _ pp=>pp.sl 0 rfl) (fun _ pp x hx=>by simp only [List.mem_cons,List.not_mem_nil,or_false] at hx; rcases hx with rfl | rfl <;> first | exact pp.at_ 6 _ rfl | exact pp.at_ 4 _ rfl) (by first | decide | omega) (fun x hx=>by cases hx) (fun x hx=>by cases hx)) ?_)))))))))
   refine yJ (α:=Unit) (PT:=111) [Rb 114 p s j3 m2,.pub zd] [okP zC.Ok (zC.mk 4 0 0 ⟨#[42]⟩ ⟨none,0,[]⟩ ⟨none,0,[]⟩ ⟨(some ⟨b18,0,none⟩),2,([x,x2]:List zC)⟩),slP 7 yl (.slice (some ⟨b18,0,none⟩) 2 2) ([x,x2]:List zC),.blk b6 [iV x2.kind,iV x2.n,iV x2.range,.string x2.word,.slice x2.ms.A x2.ms.l.length x2.ms.c,.slice x2.by_.A x2.by_.l.length x2.by_.c,.slice x2.kids.A x2.kids.l.length x2.kids.c] 59,okP zC.Ok x2,.blk b5 [iV x.kind,iV x.n,iV x.range,.string x.word,.slice x.ms.A x.ms.l.length x.ms.c,.slice x.by_.A x.by_.l.length x.by_.c,.slice x.kids.A x.kids.l.length x.kids.c] 59,okP zC.Ok x,.blk b4 Zx 59] (fun _:Unit=>.agg (List.toArray [iV 4,iV 0,iV 0,.string ⟨#[42]⟩,Zs,Zs,.slice (some ⟨b18,0,none⟩) 2 2])) (fun z4=>m2 + 1≤100) (fun z4=>[Rb 114 p s j3 (m2 + 1),.pub zd]) _ (fun f3=>Pz.node ⟨j3,m2⟩=.no f3) (fun _=>rfl) (S9 [3,4,0,1,2,5,6,7,8]) (fun _=>rfl) wn rfl rfl call99 rfl (fun w1 Pb hG=>ug p s j3 m2 4 0 0 ⟨#[42]⟩ none 0 0 none 0 0 (some ⟨b18,0,none⟩) 2 2 Pb w1 hG (by omega) (by omega) (by omega)) ?_ fun z4 hz4=>?_
   · intro f3 hf3
     refine yv (uO (yv (zu (yE fun w1 hM=>?_))))
     have hY:=Pz.bin_next hI1.1 (Pz.star1 (by rw [he2,h1])) (by decide) he3
     simp only [Pz.then_ok,hf3,Pz.then_no] at hY
     exact hM.yS f3 (by simp only [Pz.then_ok,Pz.then_no,Pz.St.go,lgc,Pz.trm,Pz.sumOf,he1,hY])
   have he4:Pz.node ⟨j3,m2⟩=.ok ⟨j3,m2 + 1⟩:=Pz.node_yes hz4
   refine zr 6 wn rfl rfl rfl inf59 rfl rfl rfl (zl (zm (vY (zC.mk 4 0 0 ⟨#[42]⟩ ⟨none,0,[]⟩ ⟨none,0,[]⟩ ⟨(some ⟨b18,0,none⟩),2,([x,x2]:List zC)⟩) j3 (m2 + 1) (q - 1) (sc rfl (sc rfl (sc rfl (sc rfl sn)))) (S9 [6,0,1,2,8]) ?_ ?_)))
   · have hY:=Pz.bin_next hI1.1 (Pz.star1 (by rw [he2,h1])) (by decide) he3
     simp only [Pz.then_ok,he4] at hY
     exact ⟨hY.trans (by rw [show q - 1 + 1=q by omega]; rfl),by omega,by omega,by omega,by omega⟩
   omega
 have g1:bo1=false:=by simpa using h1
 refine yZ (yH (uC (yI (zy hK3 (zG fun _ hK7=>zB (yM 2 [iV x.kind,iV x.n,iV x.range,.string x.word,.slice x.ms.A x.ms.l.length x.ms.c,.slice x.by_.A x.by_.l.length x.by_.c,.slice x.kids.A x.kids.l.length x.kids.c] rfl rfl rfl rfl agg59 inf59) (zr 4 wn rfl rfl rfl inf59 rfl rfl rfl (zD hK7 (zX (zY (.inl rfl) results97 (zt 4 rfl rfl agg59 inf59 rfl) fun w1 hM=>?_)))))))))
 have h9:Pz.trm s N ⟨i,n⟩=.ok (x.e,⟨j2,m⟩):=by simp only [Pz.then_ok,Pz.then_no,Pz.St.go,lgc,Pz.trm,Pz.sumOf,he1,Pz.bin_done hI1.1 (Pz.star0 (by rw [he2,g1]))]
 exact hM.uX ((x,⟨j2,m⟩):zC × Pz.St) rfl ⟨h9,(Pz.trm_fine s N _ hi).ok_ h9⟩ (fun h=>h.sel [0,1,3] (by decide) rfl)
set_option maxHeartbeats 2000000 in
theorem c_expr (p : Nat) (s : ByteArray) (i : Nat) (n : Int) (d : Int) (N : Nat) (Pb : Nat → Prop) (w : World) (hG : Mem w ⟨fpOf [Rb 114 p s i n, .pub zd], Pb⟩ [Rb 114 p s i n, .pub zd] w) (hi : i ≤ s.size) (hs : s.size ≤ 2000) (hn : 0 ≤ n ∧ n ≤ 100) (hd : d + (N : Int) = 21) (hd1 : 1 ≤ d) (ih : TrmC N) :
    Calls prog 52 #[.pointer (some ⟨p,0,none⟩),iV d] w (RetX w [Rb 114 p s i n,.pub zd] Pb 111 (fun z:zC × Pz.St=>.agg (yl z.1).toArray) (fun z=>Pz.xpr s N ⟨i,n⟩=.ok (z.1.e,z.2)∧Pz.Good s ⟨i,n⟩ z.2) (fun z=>[Rb 114 p s z.2.at_ z.2.nd,.pub zd,okP zC.Ok z.1]) (fun f=>Pz.xpr s N ⟨i,n⟩=.no f)):=by
 refine fstart (N:=28) (vals:=[.pointer (some ⟨p,0,none⟩),iV d]) (S:=Mem w ⟨fpOf [Rb 114 p s i n,.pub zd],Pb⟩ [Rb 114 p s i n,.pub zd]) func52 rfl rfl rfl hG (zG fun _ hK1=>yC wn inf59 rfl fun b4=>zD hK1 (zG fun _ hK2=>zE rfl (zE rfl (yJ (α:=zC × Pz.St) (PT:=111) [Rb 114 p s i n,.pub zd] [.blk b4 Zx 59] (fun z:zC × Pz.St=>.agg (yl z.1).toArray) (fun z1=>Pz.trm s N ⟨i,n⟩=.ok (z1.1.e,z1.2)∧Pz.Good s ⟨i,n⟩ z1.2) (fun z1=>[Rb 114 p s z1.2.at_ z1.2.nd,.pub zd,okP zC.Ok z1.1]) _ (fun f1=>Pz.trm s N ⟨i,n⟩=.no f1) (fun _=>rfl) (S9 [1,2,0]) (fun _=>rfl) wn rfl rfl call97 rfl (fun w1 Pb hG=>ih p s i n d Pb w1 hG (by omega) (by omega) (by omega) (by omega) (by omega)) ?_ fun z1 hz1=>?_))))
 · intro f1 hf1
   refine zu (yE fun w1 hM=>?_)
   exact hM.yS f1 (by first | (simp only [Pz.then_ok,Pz.then_no,Pz.St.go,lgc,Pz.xpr,Pz.sumOf,hf1]; done) | simp [Pz.then_ok,Pz.then_no,Pz.St.go,lgc,Pz.xpr,Pz.sumOf,hf1])
 obtain ⟨x1,j1,m1⟩:=z1
 have he1:Pz.trm s N ⟨i,n⟩=.ok (x1.e,⟨j1,m1⟩):=hz1.1
 have ga1:j1≤s.size:=hz1.2.at_
 have gm1:n≤m1:=hz1.2.mono
 have gn1:m1≤100:=hz1.2.most (show n≤100 by omega)
 refine vR 10 (.agg (List.toArray [iV x1.kind,iV x1.n,iV x1.range,.string x1.word,.slice x1.ms.A x1.ms.l.length x1.ms.c,.slice x1.by_.A x1.by_.l.length x1.by_.c,.slice x1.kids.A x1.kids.l.length x1.kids.c])) [Rb 114 p s j1 m1,.pub zd,okP zC.Ok x1,.blk b4 Zx 59] (yC wn inf59 rfl fun b5=>zr 0 wn rfl rfl rfl inf59 rfl rfl rfl (zD hK2 (zk (uK (fun (x:zC) (k:Nat) (m:Int) (q:Nat)=>[(0,.pointer (some ⟨p,0,none⟩)),(1,iV d),(4,.pointer (some ⟨b4,0,none⟩)),(5,.pointer (some ⟨b5,0,none⟩))]) (fun (x:zC) (k:Nat) (m:Int) (q:Nat)=>[.blk b5 [iV x.kind,iV x.n,iV x.range,.string x.word,.slice x.ms.A x.ms.l.length x.ms.c,.slice x.by_.A x.by_.l.length x.by_.c,.slice x.kids.A x.kids.l.length x.kids.c] 59,Rb 114 p s k m,.pub zd,okP zC.Ok x,.blk b4 Zx 59]) (fun (x:zC) (k:Nat) (m:Int) (q:Nat)=>Pz.binL s (Pz.trm s N) Pz.plus 101 x1.e ⟨j1,m1⟩=Pz.binL s (Pz.trm s N) Pz.plus (q + 1) x.e ⟨k,m⟩∧k≤s.size∧0≤m∧m≤100∧(100:Int)≤(q:Int) + m) (fun (x:zC) (k:Nat) (m:Int) (q:Nat)=>q) x1 j1 m1 100 (sc rfl (sc rfl (sc rfl (sc rfl sn)))) (fun _ h=>h) ?_ (fun x k m q hI1=>?_)))))
 · exact ⟨rfl,by omega,by omega,by omega,by omega⟩
 refine zk (zG fun _ hK3=>zP rfl (zD hK3 (zS fun _ hK4=>zk (zG fun _ hK5=>zE rfl (vO (α:=(Bool × Nat)) [Rb 114 p s k m,.pub zd] [.blk b5 [iV x.kind,iV x.n,iV x.range,.string x.word,.slice x.ms.A x.ms.l.length x.ms.c,.slice x.by_.A x.by_.l.length x.by_.c,.slice x.kids.A x.kids.l.length x.kids.c] 59,okP zC.Ok x,.blk b4 Zx 59] (fun z:Bool × Nat=>.bool z.1) (fun z2=>(Pz.eat s ⟨#[43]⟩ k=z2∧k≤z2.2∧z2.2≤s.size)) (fun z2=>[Rb 114 p s z2.2 m,.pub zd]) _ (fun _=>rfl) (S9 [1,2,0,3,4]) (fun _=>rfl) wn rfl rfl call98 rfl (fun w1 Pb hG=>ui p s k m ⟨#[43]⟩ Pb w1 hG (by omega) (by omega)) fun z2 hz2=>?_)))))
 obtain ⟨bo1,j2⟩:=z2
 have he2:Pz.eat s ⟨#[43]⟩ k=(bo1,j2):=hz2.1
 have hz2a:k≤j2:=hz2.2.1
 have hz2b:j2≤s.size:=hz2.2.2
 refine vR 14 (.bool bo1) [Rb 114 p s j2 m,.pub zd,.blk b5 [iV x.kind,iV x.n,iV x.range,.string x.word,.slice x.ms.A x.ms.l.length x.ms.c,.slice x.by_.A x.by_.l.length x.by_.c,.slice x.kids.A x.kids.l.length x.kids.c] 59,okP zC.Ok x,.blk b4 Zx 59] (zP rfl (zD hK5 (yp rfl (fun h1=>?_) (fun h1=>?_))))
 · refine zL (zP rfl (zl (zm (zy hK4 (zG fun _ hK6=>zE rfl (zE rfl (yJ (α:=zC × Pz.St) (PT:=111) [Rb 114 p s j2 m,.pub zd] [.blk b5 [iV x.kind,iV x.n,iV x.range,.string x.word,.slice x.ms.A x.ms.l.length x.ms.c,.slice x.by_.A x.by_.l.length x.by_.c,.slice x.kids.A x.kids.l.length x.kids.c] 59,okP zC.Ok x,.blk b4 Zx 59] (fun z:zC × Pz.St=>.agg (yl z.1).toArray) (fun z3=>Pz.trm s N ⟨j2,m⟩=.ok (z3.1.e,z3.2)∧Pz.Good s ⟨j2,m⟩ z3.2) (fun z3=>[Rb 114 p s z3.2.at_ z3.2.nd,.pub zd,okP zC.Ok z3.1]) _ (fun f2=>Pz.trm s N ⟨j2,m⟩=.no f2) (fun _=>rfl) (S9 [0,1,2,3,4]) (fun _=>rfl) wn rfl rfl call97 rfl (fun w1 Pb hG=>ih p s j2 m d Pb w1 hG (by omega) (by omega) (by omega) (by omega) (by omega)) ?_ fun z3 hz3=>?_)))))))
   · intro f2 hf2
     refine zu (yv (uO (yv (yE fun w1 hM=>?_))))
     have hY:=Pz.bin_next hI1.1 (Pz.plus1 (by rw [he2,h1])) (by decide) hf2
     rw [Pz.then_no] at hY
     exact hM.yS f2 (by simp only [Pz.then_ok,Pz.then_no,Pz.St.go,lgc,Pz.xpr,Pz.sumOf,he1,hY])
   obtain ⟨x2,j3,m2⟩:=z3
   have he3:Pz.trm s N ⟨j2,m⟩=.ok (x2.e,⟨j3,m2⟩):=hz3.1
   have ga2:j3≤s.size:=hz3.2.at_
   have gm2:m≤m2:=hz3.2.mono
   have gn2:m2≤100:=hz3.2.most (show m≤100 by omega)
   refine vR 20 (.agg (List.toArray [iV x2.kind,iV x2.n,iV x2.range,.string x2.word,.slice x2.ms.A x2.ms.l.length x2.ms.c,.slice x2.by_.A x2.by_.l.length x2.by_.c,.slice x2.kids.A x2.kids.l.length x2.kids.c])) [Rb 114 p s j3 m2,.pub zd,okP zC.Ok x2,.blk b5 [iV x.kind,iV x.n,iV x.range,.string x.word,.slice x.ms.A x.ms.l.length x.ms.c,.slice x.by_.A x.by_.l.length x.by_.c,.slice x.kids.A x.kids.l.length x.kids.c] 59,okP zC.Ok x,.blk b4 Zx 59] (yC wn inf59 rfl fun b7=>zr 0 wn rfl rfl rfl inf59 rfl rfl rfl (zD hK6 (zL (zE rfl (zE rfl (zB (yM 4 [iV x.kind,iV x.n,iV x.range,.string x.word,.slice x.ms.A x.ms.l.length x.ms.c,.slice x.by_.A x.by_.l.length x.by_.c,.slice x.kids.A x.kids.l.length x.kids.c] rfl rfl rfl rfl agg59 inf59) (zB (yM 0 [iV x2.kind,iV x2.n,iV x2.range,.string x2.word,.slice x2.ms.A x2.ms.l.length x2.ms.c,.slice x2.by_.A x2.by_.l.length x2.by_.c,.slice x2.kids.A x2.kids.l.length x2.kids.c] rfl rfl rfl rfl agg59 inf59) (yw yl ([x,x2]:List zC) wn underlying57 inf59 rfl rfl rfl rfl (by decide) (by decide) rfl fun b25=>zB (zz [iV 4,iV 0,iV 0,.string ⟨#[43]⟩,Zs,Zs,.slice (some ⟨b25,0,none⟩) 2 2] pl59 inf59 rfl rfl) (uD 0 2 encExprX rfl rfl (fp2) ?_)))))))))
   refine ul (fun _ h=>h.exprG (k:=4) (n:=0) (r:=0) (wd:=⟨#[43]⟩) (ms:=⟨none,0,[]⟩) (bs:=⟨none,0,[]⟩) (ks:=⟨(some ⟨b25,0,none⟩),2,([x,x2]:List zC)⟩) (fun _ _=>zJ.yq _ _ _ _) (fun _ _=>zJ.yq _ _ _ _) (fun _ pp=>pp.sl 0 rfl) (fun _ pp x hx=>by simp only [List.mem_cons,List.not_mem_nil,or_false] at hx; rcases hx with rfl | rfl <;> first | exact pp.at_ 6 _ rfl | exact pp.at_ 4 _ rfl) (by first | decide | omega) (fun x hx=>by cases hx) (fun x hx=>by cases hx)) (yJ (α:=Unit) (PT:=111) [Rb 114 p s j3 m2,.pub zd] [okP zC.Ok (zC.mk 4 0 0 ⟨#[43]⟩ ⟨none,0,[]⟩ ⟨none,0,[]⟩ ⟨(some ⟨b25,0,none⟩),2,([x,x2]:List zC)⟩),slP 7 yl (.slice (some ⟨b25,0,none⟩) 2 2) ([x,x2]:List zC),.blk b7 [iV x2.kind,iV x2.n,iV x2.range,.string x2.word,.slice x2.ms.A x2.ms.l.length x2.ms.c,.slice x2.by_.A x2.by_.l.length x2.by_.c,.slice x2.kids.A x2.kids.l.length x2.kids.c] 59,okP zC.Ok x2,.blk b5 [iV x.kind,iV x.n,iV x.range,.string x.word,.slice x.ms.A x.ms.l.length x.ms.c,.slice x.by_.A x.by_.l.length x.by_.c,.slice x.kids.A x.kids.l.length x.kids.c] 59,okP zC.Ok x,.blk b4 Zx 59] (fun _:Unit=>.agg (List.toArray [iV 4,iV 0,iV 0,.string ⟨#[43]⟩,Zs,Zs,.slice (some ⟨b25,0,none⟩) 2 2])) (fun z4=>m2 + 1≤100) (fun z4=>[Rb 114 p s j3 (m2 + 1),.pub zd]) _ (fun f3=>Pz.node ⟨j3,m2⟩=.no f3) (fun _=>rfl) (S9 [3,4,0,1,2,5,6,7,8]) (fun _=>rfl) wn rfl rfl call99 rfl (fun w1 Pb hG=>ug p s j3 m2 4 0 0 ⟨#[43]⟩ none 0 0 none 0 0 (some ⟨b25,0,none⟩) 2 2 Pb w1 hG (by omega) (by omega) (by omega)) ?_ fun z4 hz4=>?_)
   · intro f3 hf3
     refine yv (uO (yv (yE fun w1 hM=>?_)))
     have hY:=Pz.bin_next hI1.1 (Pz.plus1 (by rw [he2,h1])) (by decide) he3
     simp only [Pz.then_ok,hf3,Pz.then_no] at hY
     exact hM.yS f3 (by simp only [Pz.then_ok,Pz.then_no,Pz.St.go,lgc,Pz.xpr,Pz.sumOf,he1,hY])
   have he4:Pz.node ⟨j3,m2⟩=.ok ⟨j3,m2 + 1⟩:=Pz.node_yes hz4
   refine zr 6 wn rfl rfl rfl inf59 rfl rfl rfl (zl (zm (vY (zC.mk 4 0 0 ⟨#[43]⟩ ⟨none,0,[]⟩ ⟨none,0,[]⟩ ⟨(some ⟨b25,0,none⟩),2,([x,x2]:List zC)⟩) j3 (m2 + 1) (q - 1) (sc rfl (sc rfl (sc rfl (sc rfl sn)))) (S9 [6,0,1,2,8]) ?_ ?_)))
   · have hY:=Pz.bin_next hI1.1 (Pz.plus1 (by rw [he2,h1])) (by decide) he3
     simp only [Pz.then_ok,he4] at hY
     exact ⟨hY.trans (by rw [show q - 1 + 1=q by omega]; rfl),by omega,by omega,by omega,by omega⟩
   omega
 have g1:bo1=false:=by simpa using h1
 refine zG fun _ hK7=>zE rfl (vO (α:=(Bool × Nat)) [Rb 114 p s j2 m,.pub zd] [.blk b5 [iV x.kind,iV x.n,iV x.range,.string x.word,.slice x.ms.A x.ms.l.length x.ms.c,.slice x.by_.A x.by_.l.length x.by_.c,.slice x.kids.A x.kids.l.length x.kids.c] 59,okP zC.Ok x,.blk b4 Zx 59] (fun z:Bool × Nat=>.bool z.1) (fun z5=>(Pz.eat s ⟨#[45]⟩ j2=z5∧j2≤z5.2∧z5.2≤s.size)) (fun z5=>[Rb 114 p s z5.2 m,.pub zd]) _ (fun _=>rfl) (S9 [0,1,2,3,4]) (fun _=>rfl) wn rfl rfl call98 rfl (fun w1 Pb hG=>ui p s j2 m ⟨#[45]⟩ Pb w1 hG (by omega) (by omega)) fun z5 hz5=>?_)
 obtain ⟨bo2,j4⟩:=z5
 have he5:Pz.eat s ⟨#[45]⟩ j2=(bo2,j4):=hz5.1
 have hz5a:j2≤j4:=hz5.2.1
 have hz5b:j4≤s.size:=hz5.2.2
 refine vR 17 (.bool bo2) [Rb 114 p s j4 m,.pub zd,.blk b5 [iV x.kind,iV x.n,iV x.range,.string x.word,.slice x.ms.A x.ms.l.length x.ms.c,.slice x.by_.A x.by_.l.length x.by_.c,.slice x.kids.A x.kids.l.length x.kids.c] 59,okP zC.Ok x,.blk b4 Zx 59] (zP rfl (zD hK7 (yp rfl (fun h2=>?_) (fun h2=>?_))))
 · refine zL (zP rfl (zl (zm (zy hK4 (zG fun _ hK8=>zE rfl (zE rfl (yJ (α:=zC × Pz.St) (PT:=111) [Rb 114 p s j4 m,.pub zd] [.blk b5 [iV x.kind,iV x.n,iV x.range,.string x.word,.slice x.ms.A x.ms.l.length x.ms.c,.slice x.by_.A x.by_.l.length x.by_.c,.slice x.kids.A x.kids.l.length x.kids.c] 59,okP zC.Ok x,.blk b4 Zx 59] (fun z:zC × Pz.St=>.agg (yl z.1).toArray) (fun z6=>Pz.trm s N ⟨j4,m⟩=.ok (z6.1.e,z6.2)∧Pz.Good s ⟨j4,m⟩ z6.2) (fun z6=>[Rb 114 p s z6.2.at_ z6.2.nd,.pub zd,okP zC.Ok z6.1]) _ (fun f4=>Pz.trm s N ⟨j4,m⟩=.no f4) (fun _=>rfl) (S9 [0,1,2,3,4]) (fun _=>rfl) wn rfl rfl call97 rfl (fun w1 Pb hG=>ih p s j4 m d Pb w1 hG (by omega) (by omega) (by omega) (by omega) (by omega)) ?_ fun z6 hz6=>?_)))))))
   · intro f4 hf4
     refine zu (yv (uO (yv (yE fun w1 hM=>?_))))
     have hY:=Pz.bin_next hI1.1 (Pz.minus1 (by rw [he2,g1]) (by rw [he5,h2])) (by decide) hf4
     rw [Pz.then_no] at hY
     exact hM.yS f4 (by simp only [Pz.then_ok,Pz.then_no,Pz.St.go,lgc,Pz.xpr,Pz.sumOf,he1,hY])
   obtain ⟨x3,j5,m3⟩:=z6
   have he6:Pz.trm s N ⟨j4,m⟩=.ok (x3.e,⟨j5,m3⟩):=hz6.1
   have ga3:j5≤s.size:=hz6.2.at_
   have gm3:m≤m3:=hz6.2.mono
   have gn3:m3≤100:=hz6.2.most (show m≤100 by omega)
   refine vR 20 (.agg (List.toArray [iV x3.kind,iV x3.n,iV x3.range,.string x3.word,.slice x3.ms.A x3.ms.l.length x3.ms.c,.slice x3.by_.A x3.by_.l.length x3.by_.c,.slice x3.kids.A x3.kids.l.length x3.kids.c])) [Rb 114 p s j5 m3,.pub zd,okP zC.Ok x3,.blk b5 [iV x.kind,iV x.n,iV x.range,.string x.word,.slice x.ms.A x.ms.l.length x.ms.c,.slice x.by_.A x.by_.l.length x.by_.c,.slice x.kids.A x.kids.l.length x.kids.c] 59,okP zC.Ok x,.blk b4 Zx 59] (yC wn inf59 rfl fun b7=>zr 0 wn rfl rfl rfl inf59 rfl rfl rfl (zD hK8 (zL (zE rfl (zE rfl (zB (yM 4 [iV x.kind,iV x.n,iV x.range,.string x.word,.slice x.ms.A x.ms.l.length x.ms.c,.slice x.by_.A x.by_.l.length x.by_.c,.slice x.kids.A x.kids.l.length x.kids.c] rfl rfl rfl rfl agg59 inf59) (zB (yM 0 [iV x3.kind,iV x3.n,iV x3.range,.string x3.word,.slice x3.ms.A x3.ms.l.length x3.ms.c,.slice x3.by_.A x3.by_.l.length x3.by_.c,.slice x3.kids.A x3.kids.l.length x3.kids.c] rfl rfl rfl rfl agg59 inf59) (yw yl ([x,x3]:List zC) wn underlying57 inf59 rfl rfl rfl rfl (by decide) (by decide) rfl fun b25=>zB (zz [iV 4,iV 0,iV 0,.string ⟨#[45]⟩,Zs,Zs,.slice (some ⟨b25,0,none⟩) 2 2] pl59 inf59 rfl rfl) (uD 0 2 encExprX rfl rfl (fp2) ?_)))))))))
   refine ul (fun _ h=>h.exprG (k:=4) (n:=0) (r:=0) (wd:=⟨#[45]⟩) (ms:=⟨none,0,[]⟩) (bs:=⟨none,0,[]⟩) (ks:=⟨(some ⟨b25,0,none⟩),2,([x,x3]:List zC)⟩) (fun _ _=>zJ.yq _ _ _ _) (fun _ _=>zJ.yq _ _ _ _) (fun _ pp=>pp.sl 0 rfl) (fun _ pp x hx=>by simp only [List.mem_cons,List.not_mem_nil,or_false] at hx; rcases hx with rfl | rfl <;> first | exact pp.at_ 6 _ rfl | exact pp.at_ 4 _ rfl) (by first | decide | omega) (fun x hx=>by cases hx) (fun x hx=>by cases hx)) (yJ (α:=Unit) (PT:=111) [Rb 114 p s j5 m3,.pub zd] [okP zC.Ok (zC.mk 4 0 0 ⟨#[45]⟩ ⟨none,0,[]⟩ ⟨none,0,[]⟩ ⟨(some ⟨b25,0,none⟩),2,([x,x3]:List zC)⟩),slP 7 yl (.slice (some ⟨b25,0,none⟩) 2 2) ([x,x3]:List zC),.blk b7 [iV x3.kind,iV x3.n,iV x3.range,.string x3.word,.slice x3.ms.A x3.ms.l.length x3.ms.c,.slice x3.by_.A x3.by_.l.length x3.by_.c,.slice x3.kids.A x3.kids.l.length x3.kids.c] 59,okP zC.Ok x3,.blk b5 [iV x.kind,iV x.n,iV x.range,.string x.word,.slice x.ms.A x.ms.l.length x.ms.c,.slice x.by_.A x.by_.l.length x.by_.c,.slice x.kids.A x.kids.l.length x.kids.c] 59,okP zC.Ok x,.blk b4 Zx 59] (fun _:Unit=>.agg (List.toArray [iV 4,iV 0,iV 0,.string ⟨#[45]⟩,Zs,Zs,.slice (some ⟨b25,0,none⟩) 2 2])) (fun z7=>m3 + 1≤100) (fun z7=>[Rb 114 p s j5 (m3 + 1),.pub zd]) _ (fun f5=>Pz.node ⟨j5,m3⟩=.no f5) (fun _=>rfl) (S9 [3,4,0,1,2,5,6,7,8]) (fun _=>rfl) wn rfl rfl call99 rfl (fun w1 Pb hG=>ug p s j5 m3 4 0 0 ⟨#[45]⟩ none 0 0 none 0 0 (some ⟨b25,0,none⟩) 2 2 Pb w1 hG (by omega) (by omega) (by omega)) ?_ fun z7 hz7=>?_)
   · intro f5 hf5
     refine yv (uO (yv (yE fun w1 hM=>?_)))
     have hY:=Pz.bin_next hI1.1 (Pz.minus1 (by rw [he2,g1]) (by rw [he5,h2])) (by decide) he6
     simp only [Pz.then_ok,hf5,Pz.then_no] at hY
     exact hM.yS f5 (by simp only [Pz.then_ok,Pz.then_no,Pz.St.go,lgc,Pz.xpr,Pz.sumOf,he1,hY])
   have he7:Pz.node ⟨j5,m3⟩=.ok ⟨j5,m3 + 1⟩:=Pz.node_yes hz7
   refine zr 6 wn rfl rfl rfl inf59 rfl rfl rfl (zl (zm (vY (zC.mk 4 0 0 ⟨#[45]⟩ ⟨none,0,[]⟩ ⟨none,0,[]⟩ ⟨(some ⟨b25,0,none⟩),2,([x,x3]:List zC)⟩) j5 (m3 + 1) (q - 1) (sc rfl (sc rfl (sc rfl (sc rfl sn)))) (S9 [6,0,1,2,8]) ?_ ?_)))
   · have hY:=Pz.bin_next hI1.1 (Pz.minus1 (by rw [he2,g1]) (by rw [he5,h2])) (by decide) he6
     simp only [Pz.then_ok,he7] at hY
     exact ⟨hY.trans (by rw [show q - 1 + 1=q by omega]; rfl),by omega,by omega,by omega,by omega⟩
   omega
 have g2:bo2=false:=by simpa using h2
 refine zG fun _ hK9=>zB (yM 2 [iV x.kind,iV x.n,iV x.range,.string x.word,.slice x.ms.A x.ms.l.length x.ms.c,.slice x.by_.A x.by_.l.length x.by_.c,.slice x.kids.A x.kids.l.length x.kids.c] rfl rfl rfl rfl agg59 inf59) (zr 4 wn rfl rfl rfl inf59 rfl rfl rfl (zD hK9 (zX (yA (zK (yA (e_loop4_r (yA (zY (.inl rfl) results52 (zt 4 rfl rfl agg59 inf59 rfl) fun w1 hM=>?_)))))))))
 have h9:Pz.xpr s N ⟨i,n⟩=.ok (x.e,⟨j4,m⟩):=by simp only [Pz.then_ok,Pz.then_no,Pz.St.go,lgc,Pz.xpr,Pz.sumOf,he1,Pz.bin_done hI1.1 (Pz.plus0 (by rw [he2,g1]) (by rw [he5,g2]))]
 exact hM.uX ((x,⟨j4,m⟩):zC × Pz.St) rfl ⟨h9,(Pz.xpr_fine s N _ hi).ok_ h9⟩ (fun h=>h.sel [0,1,3] (by decide) rfl)
theorem trm_of {N:Nat} (ih:FacC N):TrmC N:=fun p s i n d Pb w hG hi hs hn hd hd1=>c_term p s i n d N Pb w hG hi hs hn hd hd1 ih
theorem xpr_of {N:Nat} (ih:TrmC N):XprC N:=fun p s i n d Pb w hG hi hs hn hd hd1=>c_expr p s i n d N Pb w hG hi hs hn hd hd1 ih
theorem fac_all : ∀ N, FacC N
  | 0=>fun p s i n d Pb w hG hi hs hn hd hd1=>c_factor p s i n d 0 Pb w hG hi hs hn hd hd1 (fun M h=>by omega)
  | N + 1=>fun p s i n d Pb w hG hi hs hn hd hd1=>c_factor p s i n d (N + 1) Pb w hG hi hs hn hd hd1 (fun M h=>by obtain rfl:N=M:=(by omega); exact xpr_of (trm_of (fac_all N)))
theorem xpr_all (N:Nat):XprC N:=xpr_of (trm_of (fac_all N))
end
end Go.Proofs.YtgojhpocpajmlaaGreatDoor
