/- Laws and walks for the proof of BaseRefused, packed by program; each theorem bears its own conditions. -/
import Derived.Test.YtgojhpocpajmlaaGreatDoorKRef3
namespace Go.Proofs.YtgojhpocpajmlaaGreatDoor
section
open Tryz
open Ex
set_option linter.unusedVariables false
set_option linter.unusedSimpArgs false
theorem c_newE (lv:Value) (l:List Label) (P0:Nat→Prop) (w:World) (hP0:∀ b,P0 b→b < w.heap.size) (hl:zJ P0 2 zj lv l w) (hl1:l.length≤1048576):Calls prog 113 #[lv] w (RetE w P0 (fun z:zF=>.agg (zx z).toArray) (fun z=>z.e=⟨l,[],[],[],0,0,0,0,0⟩) (fun z S=>zF.Ok S z)):=(c_new lv l P0 w hP0 hl hl1).mono fun _ _ h=>h.toE
theorem c_rollE (z0 z1 z2 z3:Value) (z:Shelf) (to:Int) (P0:Nat→Prop) (w:World) (hP0:∀ b,P0 b→b < w.heap.size) (hz0:zJ P0 2 zj z0 z.zV w) (hz1:zJ P0 2 zo z1 z.raw w) (hz2:zJ P0 8 zU z2 z.fine w) (hz3:zJ P0 8 zU z3 z.coarse w):Calls prog 74 #[.agg (List.toArray [z0,z1,z2,z3,iV z.ze,iV z.zW,iV z.zI,iV z.zN,iV z.zH]),iV to] w (RetE w P0 (fun y:zF=>.tuple #[.agg (zx y).toArray,iV (Sh.roll z to).2]) (fun y=>y.e=(Sh.roll z to).1) (fun y S=>zF.Ok S y)):=(c_roll z0 z1 z2 z3 z to P0 w hP0 hz0 hz1 hz2 hz3).mono fun _ _ h=>h.toE
theorem c_appendE (z0 z1 z2 z3:Value) (z:Shelf) (x:Sample) (P0:Nat→Prop) (w:World) (hP0:∀ b,P0 b→b < w.heap.size) (hz0:zJ P0 2 zj z0 z.zV w) (hz1:zJ P0 2 zo z1 z.raw w) (hz2:zJ P0 8 zU z2 z.fine w) (hz3:zJ P0 8 zU z3 z.coarse w):Calls prog 114 #[.agg (List.toArray [z0,z1,z2,z3,iV z.ze,iV z.zW,iV z.zI,iV z.zN,iV z.zH]),.agg (zo x).toArray] w (RetE w P0 (fun y:zF=>.tuple #[.agg (zx y).toArray,iV (Sh.append z x).2]) (fun y=>y.e=(Sh.append z x).1) (fun y S=>zF.Ok S y)):=(c_append z0 z1 z2 z3 z x P0 w hP0 hz0 hz1 hz2 hz3).mono fun _ _ h=>h.toE
set_option maxHeartbeats 2000000 in
theorem c_badd (bp : Nat) (x : ya) (dad : Addr) (d : yo) (Pb : Nat → Prop) (w : World) (hG : Mem w ⟨fpOf [.blk bp [.slice x.zA.A x.zA.l.length x.zA.c, iV x.zh] 93, Row (.slice x.zA.A x.zA.l.length x.zA.c) 50 9 zx x.zA.l, allP zF.Ok x.zA.l, celP dad [iV d.kind, iV d.tier, iV d.to, .slice d.sr.A d.sr.l.length d.sr.c, iV d.zf.time, iV d.zf.value, .string d.text], okP yo.Ok d], Pb⟩ [.blk bp [.slice x.zA.A x.zA.l.length x.zA.c, iV x.zh] 93, Row (.slice x.zA.A x.zA.l.length x.zA.c) 50 9 zx x.zA.l, allP zF.Ok x.zA.l, celP dad [iV d.kind, iV d.tier, iV d.to, .slice d.sr.A d.sr.l.length d.sr.c, iV d.zf.time, iV d.zf.value, .string d.text], okP yo.Ok d] w) (hi : Bs.Inv x.e 120) :
    Calls prog 68 #[.pointer (some ⟨bp,0,none⟩),.pointer (some ((Addr.add dad 0).add 0))] w (RetA w [.blk bp [.slice x.zA.A x.zA.l.length x.zA.c,iV x.zh] 93,Row (.slice x.zA.A x.zA.l.length x.zA.c) 50 9 zx x.zA.l,allP zF.Ok x.zA.l,celP dad [iV d.kind,iV d.tier,iV d.to,.slice d.sr.A d.sr.l.length d.sr.c,iV d.zf.time,iV d.zf.value,.string d.text],okP yo.Ok d] Pb (fun z:ya × yc=>.agg (uH z.2).toArray) (fun z=>(z.1.e,z.2.e)=Bs.add x.e d.e) (fun z=>[okP yc.Ok z.2,.blk bp [.slice z.1.zA.A z.1.zA.l.length z.1.zA.c,iV z.1.zh] 93,Row (.slice z.1.zA.A z.1.zA.l.length z.1.zA.c) 50 9 zx z.1.zA.l,allP zF.Ok z.1.zA.l,celP dad (uI d),okP yo.Ok d])):=by
 have hwf:∀ y ∈ x.zA.l,zF.Wf y:=fun y hy=>((hG.vQ (i:=2) rfl) y hy).wf
 have hwd:=(hG.vQ (i:=4) rfl).wf
 obtain ⟨hsc,hsm,hsA⟩:=row_wf (hG.row (i:=1) rfl)
 have hasc:=asc_k hi
 have hlen:=len_k hi
 refine fstart (N:=125) (vals:=[.pointer (some ⟨bp,0,none⟩),.pointer (some ((Addr.add dad 0).add 0))]) (S:=Mem w ⟨fpOf [.blk bp [.slice x.zA.A x.zA.l.length x.zA.c,iV x.zh] 93,Row (.slice x.zA.A x.zA.l.length x.zA.c) 50 9 zx x.zA.l,allP zF.Ok x.zA.l,celP dad [iV d.kind,iV d.tier,iV d.to,.slice d.sr.A d.sr.l.length d.sr.c,iV d.zf.time,iV d.zf.value,.string d.text],okP yo.Ok d],Pb⟩ [.blk bp [.slice x.zA.A x.zA.l.length x.zA.c,iV x.zh] 93,Row (.slice x.zA.A x.zA.l.length x.zA.c) 50 9 zx x.zA.l,allP zF.Ok x.zA.l,celP dad [iV d.kind,iV d.tier,iV d.to,.slice d.sr.A d.sr.l.length d.sr.c,iV d.zf.time,iV d.zf.value,.string d.text],okP yo.Ok d]) func68 rfl rfl rfl hG (zG fun _ hK1=>yC wn inf34 rfl fun b4=>zD hK1 (zS fun _ hK2=>zG fun _ hK3=>zE rfl (zB (zT rfl) (zB (yy rfl fld43_3) (zB (yz 4 rfl rfl rfl flat39) (yV (fun _ h=>h.doX 5 rfl) ?_))))))
 obtain ⟨hc1,hm1,hA1⟩:=hwd.sr
 refine yF wn rfl call42 rfl (fun w1 hM=>c_namesWrong _ d.sr.l w1 (hM.slp 0 rfl)) (zP rfl (zD hK3 (zG fun _ hK4=>zE rfl (zB (vD rfl rfl) (zD hK4 (zZ rfl (fun h1=>?_) (fun h1=>?_)))))))
 · refine zG fun _ hK5=>zE rfl (zB (zz [iV (zc.wrong d.sr.l),iV 0,Zs,iV 0] pl34 inf34 rfl rfl) (zr 1 wn rfl rfl rfl inf34 rfl rfl rfl (zD hK5 (zX (zK (zY (.inl rfl) results68 (zt 1 rfl rfl agg34 inf34 rfl) fun w1 hM=>?_))))))
   have hM:=hM.vU (yc.Ok.loc (noX (zc.wrong d.sr.l))) fun Pb pp=>noX_ok _ _ _
   exact hM.vV (x,noX (zc.wrong d.sr.l)) rfl (add_1 h1) (fun h=>h.sel [0,3,4,5,6,7] (by decide) rfl)
 have hsl:=Sh.names_len (Classical.not_not.1 (show ¬ zc.wrong d.sr.l≠0 from h1))
 refine yK hK2 (zS fun _ hK6=>zG fun _ hK7=>zE rfl (zB (zT rfl) (zB (yy rfl fld43_4) (zB (jy 5 [iV d.zf.time,iV d.zf.value] rfl rfl rfl rfl agg41 inf41) (yw zo ([d.zf]:List Sample) wn underlying47 inf41 rfl rfl rfl rfl (by decide) (by decide) rfl fun b24=>yF wn rfl call43 rfl (fun w1 hM=>ue _ ([d.zf]:List Sample) w1 (RowSl encSample hM 0 rfl)) (yC wn inf61 rfl fun b6=>zr 0 wn rfl rfl rfl inf61 rfl rfl rfl (zD hK7 ?_)))))))
 refine zG fun _ hK8=>zB (za rfl fld61_0) (zB (zg 0 rfl rfl rfl flat27) (zB (vD rfl rfl) (zD hK8 (zZ rfl (fun h2=>?_) (fun h2=>?_)))))
 · refine zG fun _ hK9=>zB (za rfl fld61_0) (zB (zg 0 rfl rfl rfl flat27) (zB (zz [iV ((Codec.wrong ([d.zf]:List Sample)).err),iV 0,Zs,iV 0] pl34 inf34 rfl rfl) (zr 3 wn rfl rfl rfl inf34 rfl rfl rfl (zD hK9 (zX (zK (zY (.inl rfl) results68 (zt 3 rfl rfl agg34 inf34 rfl) fun w1 hM=>?_)))))))
   have hM:=hM.vU (yc.Ok.loc (noX ((Codec.wrong ([d.zf]:List Sample)).err))) fun Pb pp=>noX_ok _ _ _
   exact hM.vV (x,noX ((Codec.wrong ([d.zf]:List Sample)).err)) rfl (add_2 h1 h2) (fun h=>h.sel [0,5,6,7,8,9] (by decide) rfl)
 refine yK hK6 (zS fun _ hK10=>zS fun _ hK11=>vN mix (by kernel_rfl) (fun _ h=>h.drew) (yn rfl (zq (zT rfl) (zq (yy rfl fld43_4) (zq (yy rfl fld41_0) (zq (yz 7 rfl rfl rfl flat3) (yn rfl (zq (zT rfl) (zq (za rfl fld93_0) ?_)))))))))
 refine zq (za rfl fld25_1) (zq (zg 4 rfl rfl rfl flat3) (zq (yR rfl rfl) (vJ (zy hK11 (zZ rfl (fun h3=>?_) (fun h3=>?_))))))
 · refine zG fun _ hK12=>zB (zz [iV 9,iV 0,Zs,iV 0] pl34 inf34 rfl rfl) (zr 3 wn rfl rfl rfl inf34 rfl rfl rfl (zD hK12 (zX (zK (zY (.inl rfl) results68 (zt 3 rfl rfl agg34 inf34 rfl) fun w1 hM=>?_)))))
   have hM:=hM.vU (yc.Ok.loc (noX 9)) fun Pb pp=>noX_ok _ _ _
   exact hM.vV (x,noX 9) rfl (add_3 h1 h2 h3) (fun h=>h.sel [0,5,6,7,8,9] (by decide) rfl)
 refine yK hK10 (zS fun _ hK13=>vN mix (by kernel_rfl) (fun _ h=>h.drew) (yn rfl (zq (zT rfl) (zq (za rfl fld93_0) (zq (za rfl fld25_0) (zq (zg 4 rfl rfl rfl flat23) (yn rfl (zq (zT rfl) (zq (yy rfl fld43_3) (zq (yz 7 rfl rfl rfl flat39) ?_))))))))))
 refine vP wn rfl call111 rfl (fun w1 hM=>c_bsS _ x.zA.l _ d.sr.l (In w1) w1 (fun _ h=>h) (RowSl encShelfX hM 5 rfl) (hM.vQ (i:=6) rfl) (hM.slp 2 rfl) hasc (by omega)) (yn rfl (zq (yG rfl rfl) (zq (yG rfl rfl) (zq (yk rfl) (zq (yk rfl) (vJ (zy hK13 (zG fun _ hK14=>zE rfl (zB (zT rfl) (zB (yy rfl fld43_3) (zB (yz 7 rfl rfl rfl flat39) ?_)))))))))))
 refine vi (β:=zF) (fun z=>.agg (zx z).toArray) (fun z=>z.e=(⟨d.sr.l,[],[],[],0,0,0,0,0⟩:Shelf)) (fun z S=>zF.Ok S z) (fun z=>zF.Ok.loc z) wn rfl call113 rfl (fun w1 Pb hM pp=>c_newE _ d.sr.l Pb w1 pp.lt (pp.sl 2 rfl) (by omega)) fun z1 hz1=>v7 0 rfl (fun S w h=>zF.Ok.wf h) fun hw1=>yC wn inf50 rfl fun b9=>zr 0 wn rfl rfl rfl inf50 rfl rfl rfl (zD hK14 (zS fun _ hK15=>zG fun _ hK16=>zE rfl (zD hK16 (yp rfl (fun h4=>?_) (fun h4=>?_)))))
 · have hpl:=pos_ltS hasc h4
   refine zL (zE rfl (zB (zT rfl) (zB (za rfl fld93_0) (zB (za rfl fld25_0) (zB (zg 6 rfl rfl rfl flat23) (zE rfl ?_))))))
   obtain ⟨ad1,hd1⟩:=hsA (ne_nil (i:=(Mn.pos (x.zA.l.map zF.k) d.sr.l)) (by first | omega | (simp <;> omega)))
   refine zB (y6 (i:=(Mn.pos (x.zA.l.map zF.k) d.sr.l)) rfl hd1 rfl (by omega) (by first | omega | (simp <;> omega)) underlying23 inf50) ?_
   obtain ⟨s1,hs1⟩:∃ y9,x.zA.l[(Mn.pos (x.zA.l.map zF.k) d.sr.l)]?=some y9:=⟨_,List.getElem?_eq_getElem (by first | omega | (simp <;> omega))⟩
   refine zB (jE 7 [.slice s1.sr.A s1.sr.l.length s1.sr.c,.slice s1.raw.A s1.raw.l.length s1.raw.c,.slice s1.fine.A s1.fine.l.length s1.fine.c,.slice s1.coarse.A s1.coarse.l.length s1.coarse.c,iV s1.ze,iV s1.zW,iV s1.zI,iV s1.zN,iV s1.zH] encShelfX rfl rfl hd1 hs1 rfl rfl agg50 inf50) (zr 0 wn rfl rfl rfl inf50 rfl rfl rfl (zD hK15 (zS fun _ hK17=>vL (Mem w ⟨fpOf [.blk bp [.slice x.zA.A x.zA.l.length x.zA.c,iV x.zh] 93,Row (.slice x.zA.A x.zA.l.length x.zA.c) 50 9 zx x.zA.l,allP zF.Ok x.zA.l,celP dad [iV d.kind,iV d.tier,iV d.to,.slice d.sr.A d.sr.l.length d.sr.c,iV d.zf.time,iV d.zf.value,.string d.text],okP yo.Ok d],Pb⟩ [okP zF.Ok z1,.blk b6 [iV ((Codec.wrong ([d.zf]:List Sample)).err),iV ((Codec.wrong ([d.zf]:List Sample)).at_)] 61,Row (.slice (some ⟨b24,0,none⟩) 1 1) 41 2 zo ([d.zf]:List Sample),slP 2 zj (.slice d.sr.A d.sr.l.length d.sr.c) d.sr.l,.blk b4 [iV 0,iV 0,Zs,iV 0] 34,.blk bp [.slice x.zA.A x.zA.l.length x.zA.c,iV x.zh] 93,Row (.slice x.zA.A x.zA.l.length x.zA.c) 50 9 zx x.zA.l,allP zF.Ok x.zA.l,celP dad [iV d.kind,iV d.tier,iV d.to,.slice d.sr.A d.sr.l.length d.sr.c,iV d.zf.time,iV d.zf.value,.string d.text],okP yo.Ok d]) mix (fun _ h=>h.drew) rfl (vK 7 [1,2,3,4] [1,2,3,4,5,6,7,8,9,10] rfl fun KS hKS=>yD (zi rfl) (yD (zT rfl) (yD (yy rfl fld43_4) (yD (jy 8 [iV d.zf.time,iV d.zf.value] rfl rfl rfl rfl agg41 inf41) (yd hKS (yY 6 0 ?_)))))))))
   refine yb (i:=0) rfl fun KN hKN=>zB (yM 0 [.slice s1.sr.A s1.sr.l.length s1.sr.c,.slice s1.raw.A s1.raw.l.length s1.raw.c,.slice s1.fine.A s1.fine.l.length s1.fine.c,.slice s1.coarse.A s1.coarse.l.length s1.coarse.c,iV s1.ze,iV s1.zW,iV s1.zI,iV s1.zN,iV s1.zH] rfl rfl rfl rfl agg50 inf50) (yP hKN [1,2,3,4,5,6,7,8,9,10] (yY 5 5 (yb (i:=5) rfl fun KN hKN=>?_)))
   have hw2:=hwf _ (List.mem_of_getElem? hs1)
   refine yV (fun _ h=>h.one 8 zF.Ok.loc rfl hs1) (yV (fun _ h=>h.shelfX 0 rfl) ?_)
   obtain ⟨hc2,hm2,hA2⟩:=hw2.sr
   obtain ⟨hc3,hm3,hA3⟩:=hw2.raw
   obtain ⟨hc4,hm4,hA4⟩:=hw2.fine
   obtain ⟨hc5,hm5,hA5⟩:=hw2.coarse
   refine vi (β:=zF) (fun z=>.tuple #[.agg (zx z).toArray,iV (Sh.append (zF.e s1) d.zf).2]) (fun z=>z.e=(Sh.append (zF.e s1) d.zf).1) (fun z S=>zF.Ok S z) (fun z=>zF.Ok.loc z) wn rfl call114 rfl (fun w1 Pb hM pp=>c_appendE _ _ _ _ (zF.e s1) d.zf Pb w1 pp.lt (pp.sl 0 rfl) (pp.sl 1 rfl) (pp.sl 2 rfl) (pp.sl 3 rfl)) fun z2 hz2=>v7 0 rfl (fun S w h=>zF.Ok.wf h) fun hw3=>yP hKN [7,8,9,10,11,12,13,14,15,16] (vK 2 [6,7,8] [7,8,9,10,11,12,13,14,15,16] rfl fun KS hKS=>yD (zi rfl) (yD (yG rfl rfl) (yD (yG rfl rfl) (yd hKS (yY 1 9 (yb (i:=9) rfl fun KN hKN=>zr 6 wn rfl rfl rfl inf50 rfl rfl rfl (yP hKN [7,8,9,10,11,12,13,14,15,16] ?_)))))))
   refine vK 0 [10] [7,8,9,10,11,12,13,14,15,16] rfl fun KS hKS=>yD (yk rfl) (yd hKS (yu (by kernel_rfl) (zy hK17 (zS fun _ hK18=>zG fun _ hK19=>zE rfl (zB (vD rfl rfl) (zD hK19 (zZ rfl (fun h5=>?_) (fun h5=>?_))))))))
   · refine zG fun _ hK20=>zE rfl (zB (zz [iV ((Sh.append (zF.e s1) d.zf).2),iV 0,Zs,iV 0] pl34 inf34 rfl rfl) (zr 11 wn rfl rfl rfl inf34 rfl rfl rfl (zD hK20 (zX (zK (zY (.inl rfl) results68 (zt 11 rfl rfl agg34 inf34 rfl) fun w1 hM=>?_))))))
     have hM:=hM.vU (yc.Ok.loc (noX ((Sh.append (zF.e s1) d.zf).2))) fun Pb pp=>noX_ok _ _ _
     exact hM.vV (x,noX ((Sh.append (zF.e s1) d.zf).2)) rfl (add_4 h1 h2 h3 h4 hs1 h5) (fun h=>h.sel [0,13,14,15,16,17] (by decide) rfl)
   refine yK hK18 (zS fun _ hK21=>zG fun _ hK22=>zE rfl (zD hK22 (vM rfl (by simpa using h4) (va 8 mix (by kernel_rfl) (fun _ h=>h.drew) fun _ hT1=>yn rfl (zq (zT rfl) (zq (za rfl fld93_0) (zq (za rfl fld25_0) (zq (zg 12 rfl rfl rfl flat23) ?_))))))))
   refine yn rfl (zq (yM 6 [.slice z2.sr.A z2.sr.l.length z2.sr.c,.slice z2.raw.A z2.raw.l.length z2.raw.c,.slice z2.fine.A z2.fine.l.length z2.fine.c,.slice z2.coarse.A z2.coarse.l.length z2.coarse.c,iV z2.ze,iV z2.zW,iV z2.zI,iV z2.zN,iV z2.zH] rfl rfl rfl rfl agg50 inf50) (zq (y6 (i:=(Mn.pos (x.zA.l.map zF.k) d.sr.l)) rfl hd1 rfl (by omega) (by first | omega | (simp <;> omega)) underlying23 inf50) (v8 hT1 (u5 13 (vs:=[.slice z2.sr.A z2.sr.l.length z2.sr.c,.slice z2.raw.A z2.raw.l.length z2.raw.c,.slice z2.fine.A z2.fine.l.length z2.fine.c,.slice z2.coarse.A z2.coarse.l.length z2.coarse.c,iV z2.ze,iV z2.zW,iV z2.zI,iV z2.zN,iV z2.zH]) z2 encShelfX wn rfl rfl rfl rfl hd1 hs1 inf50 rfl rfl rfl rfl (yV (fun _ h=>h.allNew (l':=(x.zA.l.set (Mn.pos (x.zA.l.map zF.k) d.sr.l) z2)) 14 0 zF.Ok.loc rfl rfl mem_set_of) ?_)))))
   have hw4:∀ y ∈ (x.zA.l.set (Mn.pos (x.zA.l.map zF.k) d.sr.l) z2),zF.Wf y:=wf_new mem_set_of hwf hw3
   refine zD hK21 (zG fun _ hK23=>zB (zz [iV 0,iV 0,Zs,iV 0] pl34 inf34 rfl rfl) (zr 12 wn rfl rfl rfl inf34 rfl rfl rfl (zD hK23 (zX (zY (.inl rfl) results68 (zt 12 rfl rfl agg34 inf34 rfl) fun w1 hM=>?_)))))
   have hM:=hM.vU (yc.Ok.loc (noX 0)) fun Pb pp=>noX_ok _ _ _
   exact hM.vV (⟨⟨x.zA.A,x.zA.c,(x.zA.l.set (Mn.pos (x.zA.l.map zF.k) d.sr.l) z2)⟩,x.zh⟩,noX 0) rfl (add_5 h1 h2 h3 h4 hs1 h5 hz2) (fun h=>as_set1 (n:=x.zA.l.length) (List.length_set).symm (h.sel [0,14,15,1,17,18] (by decide) rfl))
 refine zS fun _ hK24=>zG fun _ hK25=>zE rfl (zB (zT rfl) (zB (za rfl fld93_0) (zB (za rfl fld25_0) (zB (zg 6 rfl rfl rfl flat23) (zB (yW rfl underlying23) (zB (yf rfl rfl) (zD hK25 (zZ rfl (fun h6=>?_) (fun h6=>?_)))))))))
 · refine zG fun _ hK26=>zB (zz [iV 5,iV 0,Zs,iV 0] pl34 inf34 rfl rfl) (zr 5 wn rfl rfl rfl inf34 rfl rfl rfl (zD hK26 (zX (zK (zK (zY (.inl rfl) results68 (zt 5 rfl rfl agg34 inf34 rfl) fun w1 hM=>?_))))))
   have hM:=hM.vU (yc.Ok.loc (noX 5)) fun Pb pp=>noX_ok _ _ _
   exact hM.vV (x,noX 5) rfl (add_6 h1 h2 h3 h4 h6) (fun h=>h.sel [0,7,8,9,10,11] (by decide) rfl)
 refine yK hK24 (vL (Mem w ⟨fpOf [.blk bp [.slice x.zA.A x.zA.l.length x.zA.c,iV x.zh] 93,Row (.slice x.zA.A x.zA.l.length x.zA.c) 50 9 zx x.zA.l,allP zF.Ok x.zA.l,celP dad [iV d.kind,iV d.tier,iV d.to,.slice d.sr.A d.sr.l.length d.sr.c,iV d.zf.time,iV d.zf.value,.string d.text],okP yo.Ok d],Pb⟩ [okP zF.Ok z1,.blk b6 [iV ((Codec.wrong ([d.zf]:List Sample)).err),iV ((Codec.wrong ([d.zf]:List Sample)).at_)] 61,Row (.slice (some ⟨b24,0,none⟩) 1 1) 41 2 zo ([d.zf]:List Sample),slP 2 zj (.slice d.sr.A d.sr.l.length d.sr.c) d.sr.l,.blk b4 [iV 0,iV 0,Zs,iV 0] 34,.blk bp [.slice x.zA.A x.zA.l.length x.zA.c,iV x.zh] 93,Row (.slice x.zA.A x.zA.l.length x.zA.c) 50 9 zx x.zA.l,allP zF.Ok x.zA.l,celP dad [iV d.kind,iV d.tier,iV d.to,.slice d.sr.A d.sr.l.length d.sr.c,iV d.zf.time,iV d.zf.value,.string d.text],okP yo.Ok d]) mix (fun _ h=>h.drew) rfl (vK 6 [1,2,3,4,5] [1,2,3,4,5,6,7,8,9,10] rfl fun KS hKS=>yD (zi rfl) (yD (zT rfl) (yD (za rfl fld93_0) (yD (za rfl fld25_1) (yD (zg 5 rfl rfl rfl flat3) (yd hKS (yY 5 0 (yb (i:=0) rfl fun KN hKN=>zB (yM 0 [.slice z1.sr.A z1.sr.l.length z1.sr.c,.slice z1.raw.A z1.raw.l.length z1.raw.c,.slice z1.fine.A z1.fine.l.length z1.fine.c,.slice z1.coarse.A z1.coarse.l.length z1.coarse.c,iV z1.ze,iV z1.zW,iV z1.zI,iV z1.zN,iV z1.zH] rfl rfl rfl rfl agg50 inf50) ?_)))))))))
 refine yP hKN [1,2,3,4,5,6,7,8,9,10] (yY 4 6 (yb (i:=6) rfl fun KN hKN=>yV (fun _ h=>h.shelfX 1 rfl) ?_))
 obtain ⟨hc6,hm6,hA6⟩:=hw1.sr
 obtain ⟨hc7,hm7,hA7⟩:=hw1.raw
 obtain ⟨hc8,hm8,hA8⟩:=hw1.fine
 obtain ⟨hc9,hm9,hA9⟩:=hw1.coarse
 refine vi (β:=zF) (fun z=>.tuple #[.agg (zx z).toArray,iV (Sh.roll (zF.e z1) x.zh).2]) (fun z=>z.e=(Sh.roll (zF.e z1) x.zh).1) (fun z S=>zF.Ok S z) (fun z=>zF.Ok.loc z) wn rfl call74 rfl (fun w1 Pb hM pp=>c_rollE _ _ _ _ (zF.e z1) x.zh Pb w1 pp.lt (pp.sl 0 rfl) (pp.sl 1 rfl) (pp.sl 2 rfl) (pp.sl 3 rfl)) fun z3 hz3=>v7 0 rfl (fun S w h=>zF.Ok.wf h) fun hw5=>yP hKN [6,7,8,9,10,11,12,13,14,15] (vK 1 [7,8,9] [6,7,8,9,10,11,12,13,14,15] rfl fun KS hKS=>yD (zi rfl) (yD (yG rfl rfl) (yD (yG rfl rfl) (yd hKS (yY 0 10 (yb (i:=10) rfl fun KN hKN=>zr 5 wn rfl rfl rfl inf50 rfl rfl rfl (yP hKN [6,7,8,9,10,11,12,13,14,15] ?_)))))))
 refine yu (by kernel_rfl) (zy hK15 (zS fun _ hK27=>vL (Mem w ⟨fpOf [.blk bp [.slice x.zA.A x.zA.l.length x.zA.c,iV x.zh] 93,Row (.slice x.zA.A x.zA.l.length x.zA.c) 50 9 zx x.zA.l,allP zF.Ok x.zA.l,celP dad [iV d.kind,iV d.tier,iV d.to,.slice d.sr.A d.sr.l.length d.sr.c,iV d.zf.time,iV d.zf.value,.string d.text],okP yo.Ok d],Pb⟩ [okP zF.Ok z3,slP 2 zj (.slice z1.sr.A z1.sr.l.length z1.sr.c) z1.sr.l,slP 2 zo (.slice z1.raw.A z1.raw.l.length z1.raw.c) z1.raw.l,slP 8 zU (.slice z1.fine.A z1.fine.l.length z1.fine.c) z1.fine.l,slP 8 zU (.slice z1.coarse.A z1.coarse.l.length z1.coarse.c) z1.coarse.l,okP zF.Ok z1,.blk b6 [iV ((Codec.wrong ([d.zf]:List Sample)).err),iV ((Codec.wrong ([d.zf]:List Sample)).at_)] 61,Row (.slice (some ⟨b24,0,none⟩) 1 1) 41 2 zo ([d.zf]:List Sample),slP 2 zj (.slice d.sr.A d.sr.l.length d.sr.c) d.sr.l,.blk b4 [iV 0,iV 0,Zs,iV 0] 34,.blk bp [.slice x.zA.A x.zA.l.length x.zA.c,iV x.zh] 93,Row (.slice x.zA.A x.zA.l.length x.zA.c) 50 9 zx x.zA.l,allP zF.Ok x.zA.l,celP dad [iV d.kind,iV d.tier,iV d.to,.slice d.sr.A d.sr.l.length d.sr.c,iV d.zf.time,iV d.zf.value,.string d.text],okP yo.Ok d]) mix (fun _ h=>h.drew) rfl (vK 7 [1,2,3,4] [0,1,2,3,4,6,7,8,9,10,11,12,13,14,15] rfl fun KS hKS=>yD (zi rfl) (yD (zT rfl) (yD (yy rfl fld43_4) (yD (jy 13 [iV d.zf.time,iV d.zf.value] rfl rfl rfl rfl agg41 inf41) (yd hKS (yY 6 0 (yb (i:=0) rfl fun KN hKN=>zB (yM 5 [.slice z3.sr.A z3.sr.l.length z3.sr.c,.slice z3.raw.A z3.raw.l.length z3.raw.c,.slice z3.fine.A z3.fine.l.length z3.fine.c,.slice z3.coarse.A z3.coarse.l.length z3.coarse.c,iV z3.ze,iV z3.zW,iV z3.zI,iV z3.zN,iV z3.zH] rfl rfl rfl rfl agg50 inf50) ?_)))))))))
 refine yP hKN [0,1,2,3,4,6,7,8,9,10,11,12,13,14,15] (yY 5 5 (yb (i:=5) rfl fun KN hKN=>yV (fun _ h=>h.shelfX 0 rfl) ?_))
 obtain ⟨hc10,hm10,hA10⟩:=hw5.sr
 obtain ⟨hc11,hm11,hA11⟩:=hw5.raw
 obtain ⟨hc12,hm12,hA12⟩:=hw5.fine
 obtain ⟨hc13,hm13,hA13⟩:=hw5.coarse
 refine vi (β:=zF) (fun z=>.tuple #[.agg (zx z).toArray,iV (Sh.append (zF.e z3) d.zf).2]) (fun z=>z.e=(Sh.append (zF.e z3) d.zf).1) (fun z S=>zF.Ok S z) (fun z=>zF.Ok.loc z) wn rfl call114 rfl (fun w1 Pb hM pp=>c_appendE _ _ _ _ (zF.e z3) d.zf Pb w1 pp.lt (pp.sl 0 rfl) (pp.sl 1 rfl) (pp.sl 2 rfl) (pp.sl 3 rfl)) fun z4 hz4=>v7 0 rfl (fun S w h=>zF.Ok.wf h) fun hw6=>yP hKN [5,6,7,8,9,11,12,13,14,15,16,17,18,19,20] (vK 2 [6,7,8] [5,6,7,8,9,11,12,13,14,15,16,17,18,19,20] rfl fun KS hKS=>yD (zi rfl) (yD (yG rfl rfl) (yD (yG rfl rfl) (yd hKS (yY 1 9 (yb (i:=9) rfl fun KN hKN=>zr 10 wn rfl rfl rfl inf50 rfl rfl rfl (yP hKN [5,6,7,8,9,11,12,13,14,15,16,17,18,19,20] ?_)))))))
 refine vK 0 [10] [5,6,7,8,9,11,12,13,14,15,16,17,18,19,20] rfl fun KS hKS=>yD (yk rfl) (yd hKS (yu (by kernel_rfl) (zy hK27 (zS fun _ hK28=>zG fun _ hK29=>zE rfl (zB (vD rfl rfl) (zD hK29 (zZ rfl (fun h7=>?_) (fun h7=>?_))))))))
 · refine zG fun _ hK30=>zE rfl (zB (zz [iV ((Sh.append (zF.e z3) d.zf).2),iV 0,Zs,iV 0] pl34 inf34 rfl rfl) (zr 15 wn rfl rfl rfl inf34 rfl rfl rfl (zD hK30 (zX (zK (zY (.inl rfl) results68 (zt 15 rfl rfl agg34 inf34 rfl) fun w1 hM=>?_))))))
   have hf9:Bs.fresh d.sr.l x.zh=zF.e z3:=by rw [hz3,hz1]; rfl
   have hM:=hM.vU (yc.Ok.loc (noX ((Sh.append (zF.e z3) d.zf).2))) fun Pb pp=>noX_ok _ _ _
   exact hM.vV (x,noX ((Sh.append (zF.e z3) d.zf).2)) rfl (by have e9:=add_7 (x:=x) (d:=d) h1 h2 h3 h4 h6; rw [hf9] at e9; exact e9 h7) (fun h=>h.sel [0,17,18,19,20,21] (by decide) rfl)
 refine yK hK28 (zS fun _ hK31=>zG fun _ hK32=>zE rfl (zD hK32 (yr rfl (by simpa using h4) (vL (Mem w ⟨fpOf [.blk bp [.slice x.zA.A x.zA.l.length x.zA.c,iV x.zh] 93,Row (.slice x.zA.A x.zA.l.length x.zA.c) 50 9 zx x.zA.l,allP zF.Ok x.zA.l,celP dad [iV d.kind,iV d.tier,iV d.to,.slice d.sr.A d.sr.l.length d.sr.c,iV d.zf.time,iV d.zf.value,.string d.text],okP yo.Ok d],Pb⟩ [okP zF.Ok z4,slP 2 zj (.slice z3.sr.A z3.sr.l.length z3.sr.c) z3.sr.l,slP 2 zo (.slice z3.raw.A z3.raw.l.length z3.raw.c) z3.raw.l,slP 8 zU (.slice z3.fine.A z3.fine.l.length z3.fine.c) z3.fine.l,slP 8 zU (.slice z3.coarse.A z3.coarse.l.length z3.coarse.c) z3.coarse.l,okP zF.Ok z3,slP 2 zj (.slice z1.sr.A z1.sr.l.length z1.sr.c) z1.sr.l,slP 2 zo (.slice z1.raw.A z1.raw.l.length z1.raw.c) z1.raw.l,slP 8 zU (.slice z1.fine.A z1.fine.l.length z1.fine.c) z1.fine.l,slP 8 zU (.slice z1.coarse.A z1.coarse.l.length z1.coarse.c) z1.coarse.l,.blk b9 [.slice z4.sr.A z4.sr.l.length z4.sr.c,.slice z4.raw.A z4.raw.l.length z4.raw.c,.slice z4.fine.A z4.fine.l.length z4.fine.c,.slice z4.coarse.A z4.coarse.l.length z4.coarse.c,iV z4.ze,iV z4.zW,iV z4.zI,iV z4.zN,iV z4.zH] 50,okP zF.Ok z1,.blk b6 [iV ((Codec.wrong ([d.zf]:List Sample)).err),iV ((Codec.wrong ([d.zf]:List Sample)).at_)] 61,Row (.slice (some ⟨b24,0,none⟩) 1 1) 41 2 zo ([d.zf]:List Sample),slP 2 zj (.slice d.sr.A d.sr.l.length d.sr.c) d.sr.l,.blk b4 [iV 0,iV 0,Zs,iV 0] 34,celP dad [iV d.kind,iV d.tier,iV d.to,.slice d.sr.A d.sr.l.length d.sr.c,iV d.zf.time,iV d.zf.value,.string d.text],okP yo.Ok d]) mix (fun _ h=>h.drew) rfl (vK 7 [0,1,2,3,4,6,7] [0,1,2,3,4,5,6,7,8,9,10,11,12,13,14,15,19,20] rfl fun KS hKS=>yD (zi rfl) (yD (zi rfl) (yD (zT rfl) (yD (za rfl fld93_0) ?_))))))))
 refine yD (za rfl fld25_0) (yD (zi rfl) (yD (yM 10 [.slice z4.sr.A z4.sr.l.length z4.sr.c,.slice z4.raw.A z4.raw.l.length z4.raw.c,.slice z4.fine.A z4.fine.l.length z4.fine.c,.slice z4.coarse.A z4.coarse.l.length z4.coarse.c,iV z4.ze,iV z4.zW,iV z4.zI,iV z4.zN,iV z4.zH] rfl rfl rfl rfl agg50 inf50) (yd hKS (vX (f:=6) (i:=5) (j:=8) rfl (by kernel_rfl) ?_ ?_))))
 · refine yb (i:=5) rfl fun KN hKN=>zB (zg 16 rfl rfl rfl flat23) (yP hKN [0,1,2,3,4,5,6,7,8,9,10,11,12,13,14,15,19,20] (yY 5 8 (yb (i:=8) rfl fun KN hKN=>yw zx ([z4]:List zF) wn underlying23 inf50 rfl rfl rfl rfl (by decide) (by decide) rfl fun b119=>yP hKN [1,2,3,4,5,6,7,8,9,10,11,12,13,14,15,16,20,21] (yY 4 9 (yb (i:=9) rfl fun KN hKN=>vO (α:=Value) [Row (.slice x.zA.A x.zA.l.length x.zA.c) 50 9 zx x.zA.l,Row (.slice (some ⟨b119,0,none⟩) 1 1) 50 9 zx ([z4]:List zF)] [okP zF.Ok z4,slP 2 zj (.slice z3.sr.A z3.sr.l.length z3.sr.c) z3.sr.l,slP 2 zo (.slice z3.raw.A z3.raw.l.length z3.raw.c) z3.raw.l,slP 8 zU (.slice z3.fine.A z3.fine.l.length z3.fine.c) z3.fine.l,slP 8 zU (.slice z3.coarse.A z3.coarse.l.length z3.coarse.c) z3.coarse.l,okP zF.Ok z3,slP 2 zj (.slice z1.sr.A z1.sr.l.length z1.sr.c) z1.sr.l,slP 2 zo (.slice z1.raw.A z1.raw.l.length z1.raw.c) z1.raw.l,slP 8 zU (.slice z1.fine.A z1.fine.l.length z1.fine.c) z1.fine.l,slP 8 zU (.slice z1.coarse.A z1.coarse.l.length z1.coarse.c) z1.coarse.l,.blk b9 [.slice z4.sr.A z4.sr.l.length z4.sr.c,.slice z4.raw.A z4.raw.l.length z4.raw.c,.slice z4.fine.A z4.fine.l.length z4.fine.c,.slice z4.coarse.A z4.coarse.l.length z4.coarse.c,iV z4.ze,iV z4.zW,iV z4.zI,iV z4.zN,iV z4.zH] 50,okP zF.Ok z1,.blk b6 [iV ((Codec.wrong ([d.zf]:List Sample)).err),iV ((Codec.wrong ([d.zf]:List Sample)).at_)] 61,Row (.slice (some ⟨b24,0,none⟩) 1 1) 41 2 zo ([d.zf]:List Sample),slP 2 zj (.slice d.sr.A d.sr.l.length d.sr.c) d.sr.l,.blk b4 [iV 0,iV 0,Zs,iV 0] 34,.blk bp [.slice x.zA.A x.zA.l.length x.zA.c,iV x.zh] 93,allP zF.Ok x.zA.l,celP dad [iV d.kind,iV d.tier,iV d.to,.slice d.sr.A d.sr.l.length d.sr.c,iV d.zf.time,iV d.zf.value,.string d.text],okP yo.Ok d] (fun z=>z) (fun z5=>True) (fun z5=>[Row z5 50 9 zx (x.zA.l.take (Mn.pos (x.zA.l.map zF.k) d.sr.l)++z4::x.zA.l.drop (Mn.pos (x.zA.l.map zF.k) d.sr.l))]) _ (fun _=>rfl) (S9 [18,0,1,2,3,4,5,6,7,8,9,10,11,12,13,14,15,16,17,19,20,21]) (fun _=>rfl) wn rfl rfl call115 rfl (fun w1 Pb hG=>c_insertS _ _ x.zA.l z4 (Mn.pos (x.zA.l.map zF.k) d.sr.l) Pb w1 hG pos_leS (by omega)) fun z5 hz5=>jL 0 (l:=(x.zA.l.take (Mn.pos (x.zA.l.map zF.k) d.sr.l)++z4::x.zA.l.drop (Mn.pos (x.zA.l.map zF.k) d.sr.l))) rfl fun A1 cp1 hv1 hc14 hm14 hA14=>?_)))))
   subst hv1
   refine yV (fun _ h=>h.allNew (l':=(x.zA.l.take (Mn.pos (x.zA.l.map zF.k) d.sr.l)++z4::x.zA.l.drop (Mn.pos (x.zA.l.map zF.k) d.sr.l))) 18 1 zF.Ok.loc rfl rfl mem_ins_of) ?_
   have hw7:∀ y ∈ (x.zA.l.take (Mn.pos (x.zA.l.map zF.k) d.sr.l)++z4::x.zA.l.drop (Mn.pos (x.zA.l.map zF.k) d.sr.l)),zF.Wf y:=wf_new mem_ins_of hwf hw6
   refine yP hKN [2,3,4,5,6,7,8,9,10,11,12,13,14,15,16,17,20,21] (vK 1 [10,11,12] [2,3,4,5,6,7,8,9,10,11,12,13,14,15,16,17,20,21] rfl fun KS hKS=>yD (zT rfl) (yD (za rfl fld93_0) (yD (za rfl fld25_0) (yd hKS (yY 0 13 (yb (i:=13) rfl fun KN hKN=>yt 18 wn rfl rfl rfl rfl inf23 rfl rfl (yP hKN [2,3,4,5,6,7,8,9,10,11,12,13,14,15,16,17,20,21] (yu (by kernel_rfl) (zy hK31 (zG fun _ hK33=>?_))))))))))
   refine zB (zz [iV 0,iV 0,Zs,iV 0] pl34 inf34 rfl rfl) (zr 17 wn rfl rfl rfl inf34 rfl rfl rfl (zD hK33 (zX (zY (.inl rfl) results68 (zt 17 rfl rfl agg34 inf34 rfl) fun w1 hM=>?_))))
   have hf9:Bs.fresh d.sr.l x.zh=zF.e z3:=by rw [hz3,hz1]; rfl
   have hM:=hM.vU (yc.Ok.loc (noX 0)) fun Pb pp=>noX_ok _ _ _
   exact hM.vV (⟨⟨A1,cp1,(x.zA.l.take (Mn.pos (x.zA.l.map zF.k) d.sr.l)++z4::x.zA.l.drop (Mn.pos (x.zA.l.map zF.k) d.sr.l))⟩,x.zh⟩,noX 0) rfl (by have e9:=add_8 (x:=x) (d:=d) (z:=z4) (A:=A1) (c:=cp1) h1 h2 h3 h4 h6; rw [hf9] at e9; exact e9 h7 hz4) (fun h=>h.sel [0,19,2,1,21,22] (by decide) rfl)
 refine yb (i:=8) rfl fun KN hKN=>yw zx ([z4]:List zF) wn underlying23 inf50 rfl rfl rfl rfl (by decide) (by decide) rfl fun b119=>yP hKN [1,2,3,4,5,6,7,8,9,10,11,12,13,14,15,16,20,21] (yY 5 5 (yb (i:=5) rfl fun KN hKN=>zB (zg 17 rfl rfl rfl flat23) (yP hKN [1,2,3,4,5,6,7,8,9,10,11,12,13,14,15,16,20,21] (yY 4 9 (yb (i:=9) rfl fun KN hKN=>vO (α:=Value) [Row (.slice x.zA.A x.zA.l.length x.zA.c) 50 9 zx x.zA.l,Row (.slice (some ⟨b119,0,none⟩) 1 1) 50 9 zx ([z4]:List zF)] [okP zF.Ok z4,slP 2 zj (.slice z3.sr.A z3.sr.l.length z3.sr.c) z3.sr.l,slP 2 zo (.slice z3.raw.A z3.raw.l.length z3.raw.c) z3.raw.l,slP 8 zU (.slice z3.fine.A z3.fine.l.length z3.fine.c) z3.fine.l,slP 8 zU (.slice z3.coarse.A z3.coarse.l.length z3.coarse.c) z3.coarse.l,okP zF.Ok z3,slP 2 zj (.slice z1.sr.A z1.sr.l.length z1.sr.c) z1.sr.l,slP 2 zo (.slice z1.raw.A z1.raw.l.length z1.raw.c) z1.raw.l,slP 8 zU (.slice z1.fine.A z1.fine.l.length z1.fine.c) z1.fine.l,slP 8 zU (.slice z1.coarse.A z1.coarse.l.length z1.coarse.c) z1.coarse.l,.blk b9 [.slice z4.sr.A z4.sr.l.length z4.sr.c,.slice z4.raw.A z4.raw.l.length z4.raw.c,.slice z4.fine.A z4.fine.l.length z4.fine.c,.slice z4.coarse.A z4.coarse.l.length z4.coarse.c,iV z4.ze,iV z4.zW,iV z4.zI,iV z4.zN,iV z4.zH] 50,okP zF.Ok z1,.blk b6 [iV ((Codec.wrong ([d.zf]:List Sample)).err),iV ((Codec.wrong ([d.zf]:List Sample)).at_)] 61,Row (.slice (some ⟨b24,0,none⟩) 1 1) 41 2 zo ([d.zf]:List Sample),slP 2 zj (.slice d.sr.A d.sr.l.length d.sr.c) d.sr.l,.blk b4 [iV 0,iV 0,Zs,iV 0] 34,.blk bp [.slice x.zA.A x.zA.l.length x.zA.c,iV x.zh] 93,allP zF.Ok x.zA.l,celP dad [iV d.kind,iV d.tier,iV d.to,.slice d.sr.A d.sr.l.length d.sr.c,iV d.zf.time,iV d.zf.value,.string d.text],okP yo.Ok d] (fun z=>z) (fun z6=>True) (fun z6=>[Row z6 50 9 zx (x.zA.l.take (Mn.pos (x.zA.l.map zF.k) d.sr.l)++z4::x.zA.l.drop (Mn.pos (x.zA.l.map zF.k) d.sr.l))]) _ (fun _=>rfl) (S9 [18,0,1,2,3,4,5,6,7,8,9,10,11,12,13,14,15,16,17,19,20,21]) (fun _=>rfl) wn rfl rfl call115 rfl (fun w1 Pb hG=>c_insertS _ _ x.zA.l z4 (Mn.pos (x.zA.l.map zF.k) d.sr.l) Pb w1 hG pos_leS (by omega)) fun z6 hz6=>jL 0 (l:=(x.zA.l.take (Mn.pos (x.zA.l.map zF.k) d.sr.l)++z4::x.zA.l.drop (Mn.pos (x.zA.l.map zF.k) d.sr.l))) rfl fun A2 cp2 hv2 hc15 hm15 hA15=>?_)))))
 subst hv2
 refine yV (fun _ h=>h.allNew (l':=(x.zA.l.take (Mn.pos (x.zA.l.map zF.k) d.sr.l)++z4::x.zA.l.drop (Mn.pos (x.zA.l.map zF.k) d.sr.l))) 18 1 zF.Ok.loc rfl rfl mem_ins_of) ?_
 have hw8:∀ y ∈ (x.zA.l.take (Mn.pos (x.zA.l.map zF.k) d.sr.l)++z4::x.zA.l.drop (Mn.pos (x.zA.l.map zF.k) d.sr.l)),zF.Wf y:=wf_new mem_ins_of hwf hw6
 refine yP hKN [2,3,4,5,6,7,8,9,10,11,12,13,14,15,16,17,20,21] (vK 1 [10,11,12] [2,3,4,5,6,7,8,9,10,11,12,13,14,15,16,17,20,21] rfl fun KS hKS=>yD (zT rfl) (yD (za rfl fld93_0) (yD (za rfl fld25_0) (yd hKS (yY 0 13 (yb (i:=13) rfl fun KN hKN=>yt 18 wn rfl rfl rfl rfl inf23 rfl rfl (yP hKN [2,3,4,5,6,7,8,9,10,11,12,13,14,15,16,17,20,21] (yu (by kernel_rfl) (zy hK31 (zG fun _ hK34=>?_))))))))))
 refine zB (zz [iV 0,iV 0,Zs,iV 0] pl34 inf34 rfl rfl) (zr 17 wn rfl rfl rfl inf34 rfl rfl rfl (zD hK34 (zX (zY (.inl rfl) results68 (zt 17 rfl rfl agg34 inf34 rfl) fun w1 hM=>?_))))
 have hf9:Bs.fresh d.sr.l x.zh=zF.e z3:=by rw [hz3,hz1]; rfl
 have hM:=hM.vU (yc.Ok.loc (noX 0)) fun Pb pp=>noX_ok _ _ _
 exact hM.vV (⟨⟨A2,cp2,(x.zA.l.take (Mn.pos (x.zA.l.map zF.k) d.sr.l)++z4::x.zA.l.drop (Mn.pos (x.zA.l.map zF.k) d.sr.l))⟩,x.zh⟩,noX 0) rfl (by have e9:=add_8 (x:=x) (d:=d) (z:=z4) (A:=A2) (c:=cp2) h1 h2 h3 h4 h6; rw [hf9] at e9; exact e9 h7 hz4) (fun h=>h.sel [0,19,2,1,21,22] (by decide) rfl)
end
section
open Tryz
open Ex
set_option linter.unusedVariables false
set_option linter.unusedSimpArgs false
theorem c_do1 (s : zF) (db dad : Addr) (d : yo) (P0 : Nat → Prop) (w : World) (hP0 : ∀ b, P0 b → b < w.heap.size) (hs : zF.Ok P0 s w) (hdb : ve P0 db [.pointer (some ((Addr.add dad 0).add 0))] w) (hdc : ve P0 dad (uI d) w) (hd : yo.Ok P0 d w)  :
    Calls prog 71 #[.agg (zx s).toArray,.pointer (some db)] w (RetE w P0 (fun z:zF=>.tuple #[.agg (zx z).toArray,iV (Sh.forget s.e d.tier d.to).2]) (fun z=>z.e=(Sh.forget s.e d.tier d.to).1) (fun z S=>zF.Ok S z)):=by
 have hws:=hs.wf
 have hwd:=hd.wf
 refine fstart (N:=17) (vals:=[.agg (zx s).toArray,.pointer (some ((Addr.add db 0).add 0))]) (S:=Mem w ⟨no,P0⟩ [okP zF.Ok s,celP db [.pointer (some ((Addr.add dad 0).add 0))],celP dad [iV d.kind,iV d.tier,iV d.to,.slice d.sr.A d.sr.l.length d.sr.c,iV d.zf.time,iV d.zf.value,.string d.text],okP yo.Ok d]) func71 rfl rfl rfl (Mem.ofDatsP hP0 (dc (dp (zF.Ok.loc _) hs) (dc (dp (ve.loc _ _) hdb) (dc (dp (ve.loc _ _) hdc) (dc (dp (yo.Ok.loc _) hd) dn))))) (zG fun _ hK1=>vS wn rfl rfl fun b2=>yC wn inf50 rfl fun b3=>zP rfl (zD hK1 (zS fun _ hK2=>vL (Mem w ⟨no,P0⟩ [.blk b2 [.slice s.sr.A s.sr.l.length s.sr.c,.slice s.raw.A s.raw.l.length s.raw.c,.slice s.fine.A s.fine.l.length s.fine.c,.slice s.coarse.A s.coarse.l.length s.coarse.c,iV s.ze,iV s.zW,iV s.zI,iV s.zN,iV s.zH] 50,okP zF.Ok s,celP db [.pointer (some ((Addr.add dad 0).add 0))],celP dad [iV d.kind,iV d.tier,iV d.to,.slice d.sr.A d.sr.l.length d.sr.c,iV d.zf.time,iV d.zf.value,.string d.text],okP yo.Ok d]) mix (fun _ h=>h.drew) rfl (vK 5 [0,1,2,3,4,5,6,7,8] [1,2,3,4,5] rfl fun KS hKS=>yD (yM 0 [.slice s.sr.A s.sr.l.length s.sr.c,.slice s.raw.A s.raw.l.length s.raw.c,.slice s.fine.A s.fine.l.length s.fine.c,.slice s.coarse.A s.coarse.l.length s.coarse.c,iV s.ze,iV s.zW,iV s.zI,iV s.zN,iV s.zH] rfl rfl rfl rfl agg50 inf50) (yD (yz 2 rfl rfl rfl flat95) (yD (zT rfl) ?_))))))
 refine yD (yy rfl fld43_1) (yD (yz 3 rfl rfl rfl flat3) (yD (yz 2 rfl rfl rfl flat95) (yD (zT rfl) (yD (yy rfl fld43_2) (yD (yz 3 rfl rfl rfl flat3) (yd hKS (yY 4 9 (yb (i:=9) rfl fun KN hKN=>yV (fun _ h=>h.shelfX 2 rfl) ?_))))))))
 obtain ⟨hc1,hm1,hA1⟩:=hws.sr
 obtain ⟨hc2,hm2,hA2⟩:=hws.raw
 obtain ⟨hc3,hm3,hA3⟩:=hws.fine
 obtain ⟨hc4,hm4,hA4⟩:=hws.coarse
 refine l_callSh (fun u=>.tuple (List.toArray [u,iV ((Sh.forget (zF.e s) d.tier d.to).2)])) ((Sh.forget (zF.e s) d.tier d.to).1) wn rfl call72 rfl (fun w1 Pb hM pp=>c_forget _ _ _ _ (zF.e s) d.tier d.to Pb w1 pp.lt (pp.sl 0 rfl) (pp.sl 1 rfl) (pp.sl 2 rfl) (pp.sl 3 rfl)) fun A1 cp1 A2 cp2 A3 cp3 A4 cp4 hb1 hA5 hA6 hA7 hA8=>yP hKN [9,10,11,12,13] (vK 2 [10,11] [9,10,11,12,13] rfl fun KS hKS=>yD (yG rfl rfl) (yD (yG rfl rfl) (yd hKS (yY 1 12 (yb (i:=12) rfl fun KN hKN=>zr 8 wn rfl rfl rfl inf50 rfl rfl rfl (yP hKN [9,10,11,12,13] (vK 0 [13] [9,10,11,12,13] rfl fun KS hKS=>yD (yk rfl) ?_)))))))
 refine yd hKS (yu (by kernel_rfl) (zy hK2 (zX (yT (.inl rfl) results71 (zt 8 rfl rfl agg50 inf50 rfl) (zR rfl) fun w1 hM=>?_))))
 exact hM.uR (zF.mk ⟨A1,cp1,((Sh.forget (zF.e s) d.tier d.to).1).zV⟩ ⟨A2,cp2,((Sh.forget (zF.e s) d.tier d.to).1).raw⟩ ⟨A3,cp3,((Sh.forget (zF.e s) d.tier d.to).1).fine⟩ ⟨A4,cp4,((Sh.forget (zF.e s) d.tier d.to).1).coarse⟩ (((Sh.forget (zF.e s) d.tier d.to).1).ze) (((Sh.forget (zF.e s) d.tier d.to).1).zW) (((Sh.forget (zF.e s) d.tier d.to).1).zI) (((Sh.forget (zF.e s) d.tier d.to).1).zN) (((Sh.forget (zF.e s) d.tier d.to).1).zH)) rfl rfl fun Pb pp=>⟨pp.sl 0 rfl,pp.sl 1 rfl,pp.sl 2 rfl,pp.sl 3 rfl⟩
theorem c_do2 (s : zF) (db dad : Addr) (d : yo) (P0 : Nat → Prop) (w : World) (hP0 : ∀ b, P0 b → b < w.heap.size) (hs : zF.Ok P0 s w) (hdb : ve P0 db [.pointer (some ((Addr.add dad 0).add 0))] w) (hdc : ve P0 dad (uI d) w) (hd : yo.Ok P0 d w)  :
    Calls prog 73 #[.agg (zx s).toArray,.pointer (some db)] w (RetE w P0 (fun z:zF=>.tuple #[.agg (zx z).toArray,iV (Sh.roll s.e d.to).2]) (fun z=>z.e=(Sh.roll s.e d.to).1) (fun z S=>zF.Ok S z)):=by
 have hws:=hs.wf
 have hwd:=hd.wf
 refine fstart (N:=13) (vals:=[.agg (zx s).toArray,.pointer (some ((Addr.add db 0).add 0))]) (S:=Mem w ⟨no,P0⟩ [okP zF.Ok s,celP db [.pointer (some ((Addr.add dad 0).add 0))],celP dad [iV d.kind,iV d.tier,iV d.to,.slice d.sr.A d.sr.l.length d.sr.c,iV d.zf.time,iV d.zf.value,.string d.text],okP yo.Ok d]) func73 rfl rfl rfl (Mem.ofDatsP hP0 (dc (dp (zF.Ok.loc _) hs) (dc (dp (ve.loc _ _) hdb) (dc (dp (ve.loc _ _) hdc) (dc (dp (yo.Ok.loc _) hd) dn))))) (zG fun _ hK1=>vS wn rfl rfl fun b2=>yC wn inf50 rfl fun b3=>zP rfl (zD hK1 (zS fun _ hK2=>vL (Mem w ⟨no,P0⟩ [.blk b2 [.slice s.sr.A s.sr.l.length s.sr.c,.slice s.raw.A s.raw.l.length s.raw.c,.slice s.fine.A s.fine.l.length s.fine.c,.slice s.coarse.A s.coarse.l.length s.coarse.c,iV s.ze,iV s.zW,iV s.zI,iV s.zN,iV s.zH] 50,okP zF.Ok s,celP db [.pointer (some ((Addr.add dad 0).add 0))],celP dad [iV d.kind,iV d.tier,iV d.to,.slice d.sr.A d.sr.l.length d.sr.c,iV d.zf.time,iV d.zf.value,.string d.text],okP yo.Ok d]) mix (fun _ h=>h.drew) rfl (vK 5 [0,1,2,3,4] [1,2,3,4,5] rfl fun KS hKS=>yD (yM 0 [.slice s.sr.A s.sr.l.length s.sr.c,.slice s.raw.A s.raw.l.length s.raw.c,.slice s.fine.A s.fine.l.length s.fine.c,.slice s.coarse.A s.coarse.l.length s.coarse.c,iV s.ze,iV s.zW,iV s.zI,iV s.zN,iV s.zH] rfl rfl rfl rfl agg50 inf50) (yD (yz 2 rfl rfl rfl flat95) (yD (zT rfl) ?_))))))
 refine yD (yy rfl fld43_2) (yD (yz 3 rfl rfl rfl flat3) (yd hKS (yY 4 5 (yb (i:=5) rfl fun KN hKN=>yV (fun _ h=>h.shelfX 2 rfl) ?_))))
 obtain ⟨hc1,hm1,hA1⟩:=hws.sr
 obtain ⟨hc2,hm2,hA2⟩:=hws.raw
 obtain ⟨hc3,hm3,hA3⟩:=hws.fine
 obtain ⟨hc4,hm4,hA4⟩:=hws.coarse
 refine l_callSh (fun u=>.tuple (List.toArray [u,iV ((Sh.roll (zF.e s) d.to).2)])) ((Sh.roll (zF.e s) d.to).1) wn rfl call74 rfl (fun w1 Pb hM pp=>c_roll _ _ _ _ (zF.e s) d.to Pb w1 pp.lt (pp.sl 0 rfl) (pp.sl 1 rfl) (pp.sl 2 rfl) (pp.sl 3 rfl)) fun A1 cp1 A2 cp2 A3 cp3 A4 cp4 hb1 hA5 hA6 hA7 hA8=>yP hKN [9,10,11,12,13] (vK 2 [6,7] [9,10,11,12,13] rfl fun KS hKS=>yD (yG rfl rfl) (yD (yG rfl rfl) (yd hKS (yY 1 8 (yb (i:=8) rfl fun KN hKN=>zr 8 wn rfl rfl rfl inf50 rfl rfl rfl (yP hKN [9,10,11,12,13] (vK 0 [9] [9,10,11,12,13] rfl fun KS hKS=>yD (yk rfl) ?_)))))))
 refine yd hKS (yu (by kernel_rfl) (zy hK2 (zX (yT (.inl rfl) results73 (zt 8 rfl rfl agg50 inf50 rfl) (zR rfl) fun w1 hM=>?_))))
 exact hM.uR (zF.mk ⟨A1,cp1,((Sh.roll (zF.e s) d.to).1).zV⟩ ⟨A2,cp2,((Sh.roll (zF.e s) d.to).1).raw⟩ ⟨A3,cp3,((Sh.roll (zF.e s) d.to).1).fine⟩ ⟨A4,cp4,((Sh.roll (zF.e s) d.to).1).coarse⟩ (((Sh.roll (zF.e s) d.to).1).ze) (((Sh.roll (zF.e s) d.to).1).zW) (((Sh.roll (zF.e s) d.to).1).zI) (((Sh.roll (zF.e s) d.to).1).zN) (((Sh.roll (zF.e s) d.to).1).zH)) rfl rfl fun Pb pp=>⟨pp.sl 0 rfl,pp.sl 1 rfl,pp.sl 2 rfl,pp.sl 3 rfl⟩
set_option maxHeartbeats 1000000 in
theorem c_each (bp : Nat) (x : ya) (f : Nat) (fcap : Array Value) (C : (Nat → Prop) → World → Prop) (g : Shelf → Shelf × Int) (Pb : Nat → Prop) (w : World) (hG : Mem w ⟨fpOf [.blk bp [.slice x.zA.A x.zA.l.length x.zA.c, iV x.zh] 93, Row (.slice x.zA.A x.zA.l.length x.zA.c) 50 9 zx x.zA.l, allP zF.Ok x.zA.l, .pub C], Pb⟩ [.blk bp [.slice x.zA.A x.zA.l.length x.zA.c, iV x.zh] 93, Row (.slice x.zA.A x.zA.l.length x.zA.c) 50 9 zx x.zA.l, allP zF.Ok x.zA.l, .pub C] w) (hf : ShFn prog f fcap C g) (hlen : x.zA.l.length ≤ 8) :
    Calls prog 70 #[.pointer (some ⟨bp,0,none⟩),.func (.func f) #[] fcap] w (RetA w [.blk bp [.slice x.zA.A x.zA.l.length x.zA.c,iV x.zh] 93,Row (.slice x.zA.A x.zA.l.length x.zA.c) 50 9 zx x.zA.l,allP zF.Ok x.zA.l,.pub C] Pb (fun _:ya=>iV (Bs.each g x.e.zA).2) (fun z=>z.e=if (Bs.each g x.e.zA).2≠0 then x.e else ⟨(Bs.each g x.e.zA).1,x.zh⟩) (fun z=>[.blk bp [.slice z.zA.A z.zA.l.length z.zA.c,iV z.zh] 93,Row (.slice z.zA.A z.zA.l.length z.zA.c) 50 9 zx z.zA.l,allP zF.Ok z.zA.l,.pub C])):=by
 have hwf:∀ y ∈ x.zA.l,zF.Wf y:=fun y hy=>((hG.vQ (i:=2) rfl) y hy).wf
 obtain ⟨hsc,hsm,hsA⟩:=row_wf (hG.row (i:=1) rfl)
 refine fstart (N:=39) (vals:=[.pointer (some ⟨bp,0,none⟩),.func (.func f) #[] fcap]) (S:=Mem w ⟨fpOf [.blk bp [.slice x.zA.A x.zA.l.length x.zA.c,iV x.zh] 93,Row (.slice x.zA.A x.zA.l.length x.zA.c) 50 9 zx x.zA.l,allP zF.Ok x.zA.l,.pub C],Pb⟩ [.blk bp [.slice x.zA.A x.zA.l.length x.zA.c,iV x.zh] 93,Row (.slice x.zA.A x.zA.l.length x.zA.c) 50 9 zx x.zA.l,allP zF.Ok x.zA.l,.pub C]) func70 rfl rfl rfl hG (zG fun _ hK1=>zP rfl (zD hK1 (zG fun _ hK2=>vE (zx:zF→List Value) 50 9 (yV (fun _ h=>h.all0 zF.Ok.loc) (zP rfl (zD hK2 (zS fun _ hK3=>zG fun _ hK4=>zE rfl ?_)))))))
 refine zB (zT rfl) (zB (za rfl fld93_0) (zB (za rfl fld25_0) (zB (zg 2 rfl rfl rfl flat23) (zB (yW rfl underlying23) (zE rfl (zD hK4 (zk (ur (fun (k:Nat) (zs:List zF) (ov:Value)=>[(0,.pointer (some ⟨bp,0,none⟩)),(1,.func (.func f) #[] fcap),(5,ov),(14,.slice x.zA.A x.zA.l.length x.zA.c),(15,iV x.zA.l.length),(16,iV k)]) (fun (k:Nat) (zs:List zF) (ov:Value)=>[allP zF.Ok zs,Row ov 50 9 zx zs,.blk bp [.slice x.zA.A x.zA.l.length x.zA.c,iV x.zh] 93,Row (.slice x.zA.A x.zA.l.length x.zA.c) 50 9 zx x.zA.l,allP zF.Ok x.zA.l,.pub C]) (fun (k:Nat) (zs:List zF) (ov:Value)=>k≤x.zA.l.length∧(∀ y ∈ zs,zF.Wf y)∧Bs.each g ((x.zA.l.take k).map zF.e)=(zs.map zF.e,0)∧zs.length=k) (fun (k:Nat) (zs:List zF) (ov:Value)=>x.zA.l.length - k) 0 [] (Zs) (sc rfl (sc rfl (sc rfl (sc rfl (sc rfl (sc (ji (by omega)) sn)))))) (fun _ h=>h) ?_ (fun k zs ov hI1=>?_)))))))))
 · exact ⟨Nat.zero_le _,fun x hx=>(by cases hx),rfl,rfl⟩
 have hwz:=hI1.2.1
 have hzl:=hI1.2.2.2
 refine vW 1 (l:=zs) rfl fun A1 cp1 hv1 hc1 hm1 hA1=>?_
 subst hv1
 refine zG fun _ hK5=>zB (yR rfl rfl) (zD hK5 (zS fun _ hK6=>zZ rfl (fun h1=>?_) (fun h1=>?_)))
 · refine yK hK6 (zS fun _ hK7=>zk (zG fun _ hK8=>?_))
   obtain ⟨ad1,hd1⟩:=hsA (ne_nil (i:=k) (by first | omega | (simp <;> omega)))
   refine zB (y6 (i:=k) rfl hd1 rfl (by omega) (by first | omega | (simp <;> omega)) underlying23 inf50) ?_
   obtain ⟨s1,hs1⟩:∃ y9,x.zA.l[k]?=some y9:=⟨_,List.getElem?_eq_getElem (by first | omega | (simp <;> omega))⟩
   refine zB (jE 3 [.slice s1.sr.A s1.sr.l.length s1.sr.c,.slice s1.raw.A s1.raw.l.length s1.raw.c,.slice s1.fine.A s1.fine.l.length s1.fine.c,.slice s1.coarse.A s1.coarse.l.length s1.coarse.c,iV s1.ze,iV s1.zW,iV s1.zI,iV s1.zN,iV s1.zH] encShelfX rfl rfl hd1 hs1 rfl rfl agg50 inf50) (yC wn inf50 rfl fun b7=>zr 0 wn rfl rfl rfl inf50 rfl rfl rfl (zD hK8 (zG fun _ hK9=>zE rfl (zB (yM 0 [.slice s1.sr.A s1.sr.l.length s1.sr.c,.slice s1.raw.A s1.raw.l.length s1.raw.c,.slice s1.fine.A s1.fine.l.length s1.fine.c,.slice s1.coarse.A s1.coarse.l.length s1.coarse.c,iV s1.ze,iV s1.zW,iV s1.zI,iV s1.zN,iV s1.zH] rfl rfl rfl rfl agg50 inf50) ?_))))
   have hw1:=hwf _ (List.mem_of_getElem? hs1)
   refine yV (fun _ h=>h.one 5 zF.Ok.loc rfl hs1) (l_callE (β:=zF) (fun z=>.tuple #[.agg (zx z).toArray,iV (g (zF.e s1)).2]) (fun z=>z.e=(g (zF.e s1)).1) (fun z S=>zF.Ok S z) (fun z=>zF.Ok.loc z) wn rfl rfl hf.call rfl (fun w1 Pb hM pp=>hf.run s1 w1 Pb pp.lt (pp.at_ 0 _ rfl) (pp.at_ 7 _ rfl)) fun z1 hz1=>v7 0 rfl (fun S w h=>zF.Ok.wf h) fun hw2=>zE rfl (zB (yG rfl rfl) (zB (yG rfl rfl) (yC wn inf50 rfl fun b8=>zr 0 wn rfl rfl rfl inf50 rfl rfl rfl (zP rfl (zD hK9 (zS fun _ hK10=>zG fun _ hK11=>?_)))))))
   refine zE rfl (zB (vD rfl rfl) (zD hK11 (zZ rfl (fun h2=>?_) (fun h2=>?_))))
   · refine zG fun _ hK12=>zE rfl (zP rfl (zD hK12 (zX (zK (yA (zK (uF (yA (zK (zY (.inl rfl) results70 (zR rfl) fun w1 hM=>?_))))))))))
     have hb9:(Bs.each g x.e.zA).2=(g s1.e).2:=eachX_bad hs1 hI1.2.2.1 h2
     exact hM.vV x (by rw [hb9]) (by rw [hb9,if_pos h2]) (fun h=>h.sel [6,7,8,9] (by decide) rfl)
   refine yK hK10 (zL (zE rfl (zB (yM 0 [.slice z1.sr.A z1.sr.l.length z1.sr.c,.slice z1.raw.A z1.raw.l.length z1.raw.c,.slice z1.fine.A z1.fine.l.length z1.fine.c,.slice z1.coarse.A z1.coarse.l.length z1.coarse.c,iV z1.ze,iV z1.zW,iV z1.zI,iV z1.zN,iV z1.zH] rfl rfl rfl rfl agg50 inf50) (yw zx ([z1]:List zF) wn underlying23 inf50 rfl rfl rfl rfl (by decide) (by decide) rfl fun b31=>vG 6 zs ([z1]:List zF) encShelfX wn rfl rfl rfl (fun _ hM=>(RowSl encShelfX hM 0 rfl)) underlying23 inf50 rfl rfl (by simp only [List.length_append,List.length_cons,List.length_nil]; omega) rfl fun A2 cp2 hc2 hm2 hA2=>yV (fun _ h=>h.allSnoc 5 2 zF.Ok.loc rfl rfl) ?_))))
   have hw3:∀ x ∈ (zs++([z1]:List zF)),zF.Wf x:=fun x hx=>(List.mem_append.1 hx).elim (hwz x) fun h=>by rw [List.mem_singleton.1 h]; exact hw2
   refine zP rfl (zl (zm (zy hK7 (zL (zB (zw rfl rfl (by omega)) (zE rfl (zl (vI (k + 1) (zs++([z1]:List zF)) (.slice A2 ((zs++([z1]:List zF)).length) cp2) (sc rfl (sc rfl (sc rfl (sc rfl (sc rfl (sc (ji (by omega)) sn)))))) (S9 [0,7,8,9,10,11]) ?_ ?_))))))))
   · exact ⟨by omega,hw3,eachX_next hs1 hI1.2.2.1 h2 hz1,by rw [List.length_append,List.length_singleton]; omega⟩
   omega
 refine yZ (yH (uN (yI (zy hK3 (zG fun _ hK13=>zE rfl (zE rfl (zB (zT rfl) (zB (za rfl fld93_0) (zB (za rfl fld25_0) (yt 2 wn rfl rfl rfl rfl inf23 rfl rfl (zD hK13 (zG fun _ hK14=>zP rfl (zD hK14 ?_)))))))))))))
 refine zX (zY (.inl rfl) results70 (zR rfl) fun w1 hM=>?_)
 have hb9:Bs.each g x.e.zA=(zs.map zF.e,0):=eachX_end hI1.2.2.1 (by omega)
 exact hM.vV (⟨⟨A1,cp1,zs⟩,x.zh⟩:ya) (by rw [hb9]) (by rw [hb9]; rfl) (fun h=>h.sel [2,1,0,5] (by decide) rfl)
end
section
open Tryz
open Ex
set_option linter.unusedVariables false
set_option linter.unusedSimpArgs false
theorem c_span (zp : Nat) (z0 : Value) (z1 : Value) (z2 : Value) (z3 : Value) (z : Shelf) (tier : Int) (w : World) (hzp : w.heap[zp]? = some (.cells [z0, z1, z2, z3, iV z.ze, iV z.zW, iV z.zI, iV z.zN, iV z.zH].toArray 50 (0, 0)))  :
    Calls prog 202 #[.pointer (some ⟨zp,0,none⟩),iV tier] w (Ret w (.tuple #[iV (Sh.spanFrom z tier),iV (Sh.spanTo z tier)])):=by
 refine fstart (N:=31) (vals:=[.pointer (some ⟨zp,0,none⟩),iV tier]) (S:=Mem w no [datB zp [z0,z1,z2,z3,iV z.ze,iV z.zW,iV z.zI,iV z.zN,iV z.zH] 50]) func202 rfl rfl rfl (Mem.ofDats (dc (ddb hzp) dn)) (zG fun _ hK1=>zP rfl (zP rfl (zD hK1 (zS fun _ hK2=>zG fun _ hK3=>zE rfl (zD hK3 (zk (zG fun _ hK4=>zB (yf rfl rfl) ?_)))))))
 refine zP rfl (zD hK4 (zZ rfl (fun h1=>?_) (fun h1=>?_)))
 · refine zS fun _ hK5=>vN mix (by kernel_rfl) (fun _ h=>h.drew) (yn rfl (zq (zT rfl) (zq (za rfl fld50_5) (zq (vz 0 rfl rfl rfl flat3) (yn rfl (zq (zT rfl) (zq (za rfl fld50_6) (zq (vz 0 rfl rfl rfl flat3) (zq (yk rfl) (zq (yk rfl) ?_))))))))))
   refine vJ (zy hK5 (zX (yA (zK (yT (.inl rfl) results202 (zR rfl) (zR rfl) fun w1 hM=>?_)))))
   exact zn (by simp [Sh.spanFrom,Sh.spanTo,h1]) hM
 refine zG fun _ hK6=>zB (yf rfl rfl) (zP rfl (zD hK6 (zZ rfl (fun h2=>?_) (fun h2=>?_))))
 · refine zS fun _ hK7=>vN mix (by kernel_rfl) (fun _ h=>h.drew) (yn rfl (zq (zT rfl) (zq (za rfl fld50_7) (zq (vz 0 rfl rfl rfl flat3) (yn rfl (zq (zT rfl) (zq (za rfl fld50_8) (zq (vz 0 rfl rfl rfl flat3) (zq (yk rfl) (zq (yk rfl) ?_))))))))))
   refine vJ (zy hK7 (zX (yA (zK (yT (.inl rfl) results202 (zR rfl) (zR rfl) fun w1 hM=>?_)))))
   exact zn (by simp [Sh.spanFrom,Sh.spanTo,h1,h2]) hM
 refine yU (zm (zy hK2 (zG fun _ hK8=>zE rfl (zB (zT rfl) (zB (za rfl fld50_4) (zB (vz 0 rfl rfl rfl flat3) (zP rfl (zP rfl (zD hK8 (zX (yT (.inl rfl) results202 (zR rfl) (zR rfl) fun w1 hM=>?_)))))))))))
 exact zn (by simp [Sh.spanFrom,Sh.spanTo,h1,h2]) hM
theorem gF (zp : Nat) (z0 : Value) (z1 : Value) (z2 : Value) (z3 : Value) (z : Shelf) (p : Part) (w : World) (hzp : w.heap[zp]? = some (.cells [z0, z1, z2, z3, iV z.ze, iV z.zW, iV z.zI, iV z.zN, iV z.zH].toArray 50 (0, 0)))  :
    Calls prog 163 #[.pointer (some ⟨zp,0,none⟩),.agg (vZ p).toArray] w (Ret w (.bool (decide (Sh.may z p)))):=by
 refine fstart (N:=58) (vals:=[.pointer (some ⟨zp,0,none⟩),.agg (vZ p).toArray]) (S:=Mem w no [datB zp [z0,z1,z2,z3,iV z.ze,iV z.zW,iV z.zI,iV z.zN,iV z.zH] 50]) func163 rfl rfl rfl (Mem.ofDats (dc (ddb hzp) dn)) (zG fun _ hK1=>vS wn rfl rfl fun b3=>zP rfl (zD hK1 (zS fun _ hK2=>vm [(0,.pointer (some ⟨zp,0,none⟩)),(3,.pointer (some ⟨b3,0,none⟩)),(22,.bool (decide ((p.tier < 0)∨((2 < p.tier)∨(p.to≤p.frm)))))] (Mem w no [.blk b3 [iV p.tier,iV p.frm,iV p.to] 217,datB zp [z0,z1,z2,z3,iV z.ze,iV z.zW,iV z.zI,iV z.zN,iV z.zH] 50]) (fun _ hK3=>?_) ?_)))
 · refine zL (zB (za rfl fld217_0) (zB (zg 0 rfl rfl rfl flat3) (zB (yR rfl rfl) (zE rfl (yQ (t:=11) rfl (fun h1=>?_) (fun h1=>?_))))))
   · refine zQ (zQ (zQ (zB (zM rfl rfl) (zE rfl (zQ (zQ (zQ (zQ (zQ (zB (zM rfl rfl) ?_))))))))))
     refine zl (ym hK3 (sc rfl (sc rfl (sc (jt (Or.inl h1)) sn))) (fun _ h=>h))
   have hst:=Sh.stepOf_pos p.tier
   refine zb (za rfl fld217_0) (zb (zg 0 rfl rfl rfl flat3) (zb (vH rfl rfl) (zB (zM rfl rfl) (zE rfl (yQ (t:=16) rfl (fun h2=>?_) (fun h2=>?_))))))
   · refine zQ (zQ (zQ (zQ (zQ (zB (zM rfl rfl) ?_)))))
     refine zl (ym hK3 (sc rfl (sc rfl (sc (jt (Or.inr (Or.inl h2))) sn))) (fun _ h=>h))
   refine zb (za rfl fld217_1) (zb (zg 0 rfl rfl rfl flat3) (zb (za rfl fld217_2) (zb (zg 0 rfl rfl rfl flat3) (zb (vn rfl rfl) (zB (zM rfl rfl) ?_)))))
   refine zl (ym hK3 (sc rfl (sc rfl (sc (jp (iff_or_right h1 (iff_or_right h2 Iff.rfl))) sn))) (fun _ h=>h))
 refine zZ rfl (fun h3=>?_) (fun h3=>?_)
 · refine zG fun _ hK4=>zP rfl (zD hK4 (zX (zK (zY (.inl rfl) results163 (zR rfl) fun w1 hM=>?_))))
   exact zn (congrArg Value.bool (decide_eq_false (fun g=>g.1 h3)).symm) hM
 have hst:=Sh.stepOf_pos p.tier
 refine yK hK2 (zG fun _ hK5=>zE rfl (zB (za rfl fld217_0) (zB (zg 0 rfl rfl rfl flat3) (yF wn rfl call202 rfl (fun w1 hM=>c_span zp _ _ _ _ z p.tier w1 (hM.datb (i:=1) rfl)) (zE rfl (zB (yG rfl rfl) (zB (yG rfl rfl) (zP rfl (zP rfl (zD hK5 ?_))))))))))
 refine zG fun _ hK6=>zB (za rfl fld217_0) (zB (zg 0 rfl rfl rfl flat3) (yF wn rfl call93 rfl (fun w1 hM=>jM p.tier w1) (zB (js (show _=Sh.stepOf p.tier from rfl) (uj rfl rfl)) (zP rfl (zD hK6 (zG fun _ hK7=>zB (za rfl fld217_1) (zB (zg 0 rfl rfl rfl flat3) (zE rfl (zB (vn rfl rfl) ?_)))))))))
 refine zE rfl (yQ (t:=38) rfl (fun h4=>?_) (fun h4=>?_))
 · refine zb (za rfl fld217_2) (zb (zg 0 rfl rfl rfl flat3) (zb (zi rfl) (zb (u4 rfl rfl) (zB (zM rfl rfl) (zE rfl (yQ (t:=44) rfl (fun h5=>?_) (fun h5=>?_)))))))
   · refine zb (za rfl fld217_1) (zb (zg 0 rfl rfl rfl flat3) (zb (zi rfl) (zb (jq rfl rfl (by omega)) (zb (yf rfl rfl) (zB (zM rfl rfl) (zE rfl (yQ (t:=51) rfl (fun h6=>?_) (fun h6=>?_))))))))
     · refine zb (za rfl fld217_2) (zb (zg 0 rfl rfl rfl flat3) (zb (zi rfl) (zb (jq rfl rfl (by omega)) (zb (yf rfl rfl) (zB (zM rfl rfl) (zP rfl (zD hK7 (zX (zY (.inl rfl) results163 (zR rfl) fun w1 hM=>?_)))))))))
       exact zn (congrArg Value.bool (decide_eq_decide.2 ⟨fun g=>⟨h3,h4,h5,h6,g⟩,fun g=>g.2.2.2.2⟩)) hM
     refine zQ (zQ (zQ (zQ (zQ (zB (zM rfl rfl) (zP rfl (zD hK7 (zX (zY (.inl rfl) results163 (zR rfl) fun w1 hM=>?_)))))))))
     exact zn (congrArg Value.bool (decide_eq_false (fun g=>h6 g.2.2.2.1)).symm) hM
   refine zQ (zQ (zQ (zQ (zQ (zB (zM rfl rfl) (zE rfl (zQ (zQ (zQ (zQ (zQ ?_)))))))))))
   refine zB (zM rfl rfl) (zP rfl (zD hK7 (zX (zY (.inl rfl) results163 (zR rfl) fun w1 hM=>?_))))
   exact zn (congrArg Value.bool (decide_eq_false (fun g=>h5 g.2.2.1)).symm) hM
 refine zQ (zQ (zQ (zQ (zB (zM rfl rfl) (zE rfl (zQ (zQ (zQ (zQ (zQ (zB (zM rfl rfl) ?_)))))))))))
 refine zE rfl (zQ (zQ (zQ (zQ (zQ (zB (zM rfl rfl) (zP rfl (zD hK7 (zX (zY (.inl rfl) results163 (zR rfl) fun w1 hM=>?_))))))))))
 exact zn (congrArg Value.bool (decide_eq_false (fun g=>h4 g.2.1)).symm) hM
theorem jU (lv : Value) (l : List Bucket) (p : Part) (w : World) (hl : zJ (In w) 8 zU lv l w) (hl1 : l.length ≤ 1048576) :
    Calls prog 165 #[lv,.agg (vZ p).toArray] w (Ret w (iV ((Sh.bIn l p.frm p.to).length:Int))):=by
 obtain ⟨lA,lc,rfl,hlc,hlm,hlA⟩:=hl.form
 refine fstart (N:=30) (vals:=[.slice lA l.length lc,.agg (vZ p).toArray]) (S:=Mem w no [slO (In w) 8 zU (.slice lA l.length lc) l]) func165 rfl rfl rfl (Mem.ofDats (dc (dl hl) dn)) (zG fun _ hK1=>vS wn rfl rfl fun b3=>zP rfl (zD hK1 (zG fun _ hK2=>zP rfl (zD hK2 (zS fun _ hK3=>zG fun _ hK4=>zE rfl (zB (yW rfl underlying48) ?_))))))
 refine zE rfl (zD hK4 (zk (y8 (fun (k:Nat)=>[(3,.pointer (some ⟨b3,0,none⟩)),(5,iV ((Sh.bIn (l.take k) p.frm p.to).length:Int)),(8,.slice lA l.length lc),(9,iV l.length),(10,iV k)]) (fun (k:Nat)=>[.blk b3 [iV p.tier,iV p.frm,iV p.to] 217,slO (In w) 8 zU (.slice lA l.length lc) l]) (fun (k:Nat)=>k≤l.length) (fun (k:Nat)=>l.length - k) 0 (sc rfl (sc (ji (by first | omega | rfl | (rw [hst]; simp) | (rw [hst]))) (sc rfl (sc rfl (sc (ji (by first | omega | rfl | (rw [hst]; simp) | (rw [hst]))) sn))))) (fun _ h=>h) ?_ (fun k hI1=>?_))))
 · omega
 have hlen:=Nat.le_trans (Sh.bIn_len (l.take k) p.frm p.to) (List.length_take_le k l)
 refine zG fun _ hK5=>zB (yR rfl rfl) (zD hK5 (zS fun _ hK6=>zZ rfl (fun h1=>?_) (fun h1=>?_)))
 · refine yK hK6 (zS fun _ hK7=>zk (zG fun _ hK8=>?_))
   obtain ⟨ad1,hd1⟩:=hlA (ne_nil (i:=k) (by first | omega | (simp <;> omega)))
   refine zB (y6 (i:=k) rfl hd1 rfl (by omega) (by first | omega | (simp <;> omega)) underlying48 inf163) ?_
   obtain ⟨s1,hs1⟩:∃ x,l[k]?=some x:=⟨_,List.getElem?_eq_getElem (by first | omega | (simp <;> omega))⟩
   refine zB (vx 1 [iV s1.at_,iV s1.sum.count,iV s1.sum.total,iV s1.sum.min,iV s1.sum.max,iV s1.sum.first,iV s1.sum.last,iV s1.sum.rise] rfl rfl hd1 hs1 rfl rfl agg163 inf163) (yC wn inf163 rfl fun b7=>zr 0 wn rfl rfl rfl inf163 rfl rfl rfl (zD hK8 (zG fun _ hK9=>zB (za rfl fld163_0) (zB (zg 0 rfl rfl rfl flat3) (zB (za rfl fld217_1) (zB (zg 1 rfl rfl rfl flat3) (zB (vn rfl rfl) (zE rfl (yQ (t:=19) rfl (fun h2=>?_) (fun h2=>?_))))))))))
   · refine zb (za rfl fld163_0) (zb (zg 0 rfl rfl rfl flat3) (zb (za rfl fld217_2) (zb (zg 1 rfl rfl rfl flat3) (zb (yR rfl rfl) (zB (zM rfl rfl) (zD hK9 (zZ rfl (fun h3=>?_) (fun h3=>?_))))))))
     · refine zL (zE rfl (zB (zw rfl rfl (by omega)) (zP rfl (zl (zm (zy hK7 (zL (zB (zw rfl rfl (by omega)) (zE rfl ?_)))))))))
       have hst:=(Sh.bIn_succ (a:=p.frm) (b:=p.to) hs1).trans (if_pos (by omega))
       refine zl (yX (k + 1) (sc rfl (sc (ji (by first | omega | rfl | (rw [hst]; simp) | (rw [hst]))) (sc rfl (sc rfl (sc (ji (by first | omega | rfl | (rw [hst]; simp) | (rw [hst]))) sn))))) (S9 [1,2]) ?_ ?_)
       · omega
       omega
     refine yU (zm (zy hK7 (zL (zB (zw rfl rfl (by omega)) (zE rfl ?_)))))
     have hst:=(Sh.bIn_succ (a:=p.frm) (b:=p.to) hs1).trans (if_neg (by omega))
     refine zl (yX (k + 1) (sc rfl (sc (ji (by first | omega | rfl | (rw [hst]; simp) | (rw [hst]))) (sc rfl (sc rfl (sc (ji (by first | omega | rfl | (rw [hst]; simp) | (rw [hst]))) sn))))) (S9 [1,2]) ?_ ?_)
     · omega
     omega
   refine zQ (zQ (zQ (zQ (zQ (zB (zM rfl rfl) (zD hK9 (yr rfl rfl (yU (zm (zy hK7 (zL (zB (zw rfl rfl (by omega)) (zE rfl ?_)))))))))))))
   have hst:=(Sh.bIn_succ (a:=p.frm) (b:=p.to) hs1).trans (if_neg (by omega))
   refine zl (yX (k + 1) (sc rfl (sc (ji (by first | omega | rfl | (rw [hst]; simp) | (rw [hst]))) (sc rfl (sc rfl (sc (ji (by first | omega | rfl | (rw [hst]; simp) | (rw [hst]))) sn))))) (S9 [1,2]) ?_ ?_)
   · omega
   omega
 refine yZ (yH (yj (yI (zy hK3 (zG fun _ hK10=>zE rfl (zP rfl (zD hK10 (zX (zY (.inl rfl) results165 (zR rfl) fun w1 hM=>?_)))))))))
 exact zn (congrArg (Value.int .i64) (by rw [List.take_of_length_le (by omega)])) hM
set_option maxHeartbeats 4000000 in
theorem c_choose (z0 : Value) (z1 : Value) (z2 : Value) (z3 : Value) (z : Shelf) (f : Int) (t : Int) (P0 : Nat → Prop) (w : World) (hP0 : ∀ b, P0 b → b < w.heap.size) (hz0 : zJ P0 2 zj z0 z.zV w) (hz1 : zJ P0 2 zo z1 z.raw w) (hz2 : zJ P0 8 zU z2 z.fine w) (hz3 : zJ P0 8 zU z3 z.coarse w)  :
    Calls prog 117 #[.agg (List.toArray [z0,z1,z2,z3,iV z.ze,iV z.zW,iV z.zI,iV z.zN,iV z.zH]),iV f,iV t] w (RetLT w 217 3 vZ (Sh.choose z f t).1 (fun r=>.tuple [r,iV (Sh.choose z f t).2].toArray)):=by
 obtain ⟨z0A,z0c,rfl,hz0c,hz0m,hz0A⟩:=hz0.form
 obtain ⟨z1A,z1c,rfl,hz1c,hz1m,hz1A⟩:=hz1.form
 obtain ⟨z2A,z2c,rfl,hz2c,hz2m,hz2A⟩:=hz2.form
 obtain ⟨z3A,z3c,rfl,hz3c,hz3m,hz3A⟩:=hz3.form
 refine fstart (N:=99) (vals:=[.agg (List.toArray [.slice z0A z.zV.length z0c,.slice z1A z.raw.length z1c,.slice z2A z.fine.length z2c,.slice z3A z.coarse.length z3c,iV z.ze,iV z.zW,iV z.zI,iV z.zN,iV z.zH]),iV f,iV t]) (S:=Mem w ⟨no,P0⟩ [slP 2 zj (.slice z0A z.zV.length z0c) z.zV,slP 2 zo (.slice z1A z.raw.length z1c) z.raw,slP 8 zU (.slice z2A z.fine.length z2c) z.fine,slP 8 zU (.slice z3A z.coarse.length z3c) z.coarse]) func117 rfl rfl rfl (Mem.ofDatsP hP0 (dc (dlp hz0) (dc (dlp hz1) (dc (dlp hz2) (dc (dlp hz3) dn))))) (zG fun _ hK1=>vS wn rfl rfl fun b3=>vE (vZ:Part→List Value) 217 3 (zP rfl (zP rfl (zD hK1 (zS fun _ hK2=>zG fun _ hK3=>zB (yM 1 [.slice z0A z.zV.length z0c,.slice z1A z.raw.length z1c,.slice z2A z.fine.length z2c,.slice z3A z.coarse.length z3c,iV z.ze,iV z.zW,iV z.zI,iV z.zN,iV z.zH] rfl rfl rfl rfl agg50 inf50) (yF wn rfl call21 rfl (fun w1 hM=>ua _ _ _ _ z (In w1) w1 (fun _ h=>h) (hM.slp 2 rfl) (hM.slp 3 rfl) (hM.slp 4 rfl) (hM.slp 5 rfl)) (zP rfl ?_)))))))
 refine zD hK3 (zG fun _ hK4=>zE rfl (zB (vD rfl rfl) (zD hK4 (zZ rfl (fun h1=>?_) (fun h1=>?_)))))
 · refine zG fun _ hK5=>zE rfl (vE (vZ:Part→List Value) 217 3 (zP rfl (zP rfl (zD hK5 (zX (zK (yT (.inl rfl) results117 (zR rfl) (zR rfl) fun w1 hM=>?_)))))))
   have he:Sh.choose z f t=(([]:List Part),(Sh.wrong z)):=Sh.choose_wrong h1
   exact hM.gD 0 rfl (by rw [he]) (by rw [he])
 have hs2:Roll.step 2=60:=rfl
 have hs1_:Roll.step 1=10:=rfl
 have hs0:Roll.step 0=0:=rfl
 refine yK hK2 (zS fun _ hK6=>vm [(1,iV f),(2,iV t),(3,.pointer (some ⟨b3,0,none⟩)),(31,.bool (decide ((f < 0)∨((t < f)∨(1000000 < t)))))] (Mem w ⟨no,P0⟩ [Row (Zs) 217 3 vZ ([]:List Part),.blk b3 [.slice z0A z.zV.length z0c,.slice z1A z.raw.length z1c,.slice z2A z.fine.length z2c,.slice z3A z.coarse.length z3c,iV z.ze,iV z.zW,iV z.zI,iV z.zN,iV z.zH] 50,slP 2 zj (.slice z0A z.zV.length z0c) z.zV,slP 2 zo (.slice z1A z.raw.length z1c) z.raw,slP 8 zU (.slice z2A z.fine.length z2c) z.fine,slP 8 zU (.slice z3A z.coarse.length z3c) z.coarse]) (fun _ hK7=>?_) ?_)
 · refine zL (zE rfl (zB (yR rfl rfl) (zE rfl (yQ (t:=23) rfl (fun h2=>?_) (fun h2=>?_)))))
   · refine zQ (zQ (zQ (zB (zM rfl rfl) (zE rfl (zQ (zQ (zB (zM rfl rfl) ?_)))))))
     refine zl (ym hK7 (sc rfl (sc rfl (sc rfl (sc (jt (Or.inl h2)) sn)))) (fun _ h=>h))
   refine zb (zi rfl) (zb (zi rfl) (zb (vH rfl rfl) (zB (zM rfl rfl) (zE rfl (yQ (t:=28) rfl (fun h3=>?_) (fun h3=>?_))))))
   · refine zQ (zQ (zB (zM rfl rfl) ?_))
     refine zl (ym hK7 (sc rfl (sc rfl (sc rfl (sc (jt (Or.inr (Or.inl h3))) sn)))) (fun _ h=>h))
   refine zb (zi rfl) (zb (vH rfl rfl) (zB (zM rfl rfl) ?_))
   refine zl (ym hK7 (sc rfl (sc rfl (sc rfl (sc (jp (iff_or_right h2 (iff_or_right h3 Iff.rfl))) sn)))) (fun _ h=>h))
 refine zZ rfl (fun h4=>?_) (fun h4=>?_)
 · refine zG fun _ hK8=>vE (vZ:Part→List Value) 217 3 (zP rfl (zP rfl (zD hK8 (zX (zK (yT (.inl rfl) results117 (zR rfl) (zR rfl) fun w1 hM=>?_))))))
   have he:Sh.choose z f t=(([]:List Part),3):=Sh.choose_range h1 (by omega)
   exact hM.gD 0 rfl (by rw [he]) (by rw [he])
 refine yK hK6 (zG fun _ hK9=>vE (vZ:Part→List Value) 217 3 (zP rfl (zD hK9 (zS fun _ hK10=>zk (ur (fun (g:Int) (out:List Part) (vr:Value)=>[(1,iV g),(2,iV t),(3,.pointer (some ⟨b3,0,none⟩)),(9,vr)]) (fun (g:Int) (out:List Part) (vr:Value)=>[Row vr 217 3 vZ out,Row (Zs) 217 3 vZ ([]:List Part),.blk b3 [.slice z0A z.zV.length z0c,.slice z1A z.raw.length z1c,.slice z2A z.fine.length z2c,.slice z3A z.coarse.length z3c,iV z.ze,iV z.zW,iV z.zI,iV z.zN,iV z.zH] 50,slP 2 zj (.slice z0A z.zV.length z0c) z.zV,slP 2 zo (.slice z1A z.raw.length z1c) z.raw,slP 8 zU (.slice z2A z.fine.length z2c) z.fine,slP 8 zU (.slice z3A z.coarse.length z3c) z.coarse]) (fun (g:Int) (out:List Part) (vr:Value)=>(Sh.chooseL z f t []=Sh.chooseL z g t out)∧0≤g∧g≤t∧(out.length:Int)≤g) (fun (g:Int) (out:List Part) (vr:Value)=>(t - g).toNat) f [] (Zs) (sc rfl (sc rfl (sc rfl (sc rfl sn)))) (fun _ h=>h) ?_ (fun g out vr hI1=>?_))))))
 · exact ⟨rfl,by omega,by omega,by simp; omega⟩
 refine vW 0 (l:=out) rfl fun A1 cp1 hv1 hc1 hm1 hA1=>?_
 subst hv1
 refine zS fun _ hK11=>zG fun _ hK12=>zE rfl (zE rfl (zB (yR rfl rfl) (zD hK12 (zZ rfl (fun h5=>?_) (fun h5=>?_)))))
 · refine yK hK11 (zk (zG fun _ hK13=>zB (zz [iV (-1),iV 0,iV 0] pl217 inf217 rfl rfl) (yC wn inf217 rfl fun b10=>zr 0 wn rfl rfl rfl inf217 rfl rfl rfl (zD hK13 (zS fun _ hK14=>zG fun _ hK15=>yw intE ([2,1,0]:List Int) wn underlying37 inf3 rfl rfl rfl rfl (by decide) (by decide) rfl fun b36=>zB (yW rfl underlying37) (zE rfl ?_))))))
   refine zD hK15 (zk (c_enter (jS fun _ hK16=>zG fun _ hK17=>zB (yR rfl rfl) (zD hK17 (zS fun _ hK18=>vM rfl (decide_eq_true (by decide)) (yK hK18 (zS fun _ hK19=>zk ?_)))))))
   refine zG fun _ hK20=>zB (y6 (i:=0) rfl rfl rfl (by omega) (by first | omega | decide) underlying37 inf3) (zB (u9 0 encInt rfl rfl rfl (show ([2,1,0]:List Int)[0]?=some 2 from rfl) rfl flat3) (zP rfl (zD hK20 (zG fun _ hK21=>zE rfl (zE rfl (yF wn rfl call93 rfl (fun w1 hM=>jM 2 w1) (zB (zw rfl rfl (by omega)) (zP rfl (zD hK21 ?_)))))))))
   refine zS fun _ hK22=>zG fun _ hK23=>zE rfl (zB (yf rfl rfl) (zD hK23 (yr rfl (decide_eq_false (by decide)) (yK hK22 (zG fun _ hK24=>zE rfl (zE rfl (zE rfl (zB (zz [iV 2,iV g,iV (g + (Roll.step 2))] pl217 inf217 rfl rfl) ?_))))))))
   refine yC wn inf217 rfl fun b14=>zr 0 wn rfl rfl rfl inf217 rfl rfl rfl (zD hK24 (vm [(1,iV g),(2,iV t),(3,.pointer (some ⟨b3,0,none⟩)),(9,.slice A1 out.length cp1),(10,.pointer (some ⟨b10,0,none⟩)),(14,.pointer (some ⟨b14,0,none⟩)),(36,.slice (some ⟨b36,0,none⟩) 3 3),(37,iV 3),(38,iV 0),(65,.bool (decide (((g + (Roll.step 2))≤t)∧(Sh.may z (⟨2,g,(g + (Roll.step 2))⟩:Part)))))] (Mem w ⟨no,P0⟩ [.blk b14 [iV 2,iV g,iV (g + (Roll.step 2))] 217,Row (.slice (some ⟨b36,0,none⟩) 3 3) 3 1 intE ([2,1,0]:List Int),.blk b10 [iV (-1),iV 0,iV 0] 217,Row (.slice A1 out.length cp1) 217 3 vZ out,Row (Zs) 217 3 vZ ([]:List Part),.blk b3 [.slice z0A z.zV.length z0c,.slice z1A z.raw.length z1c,.slice z2A z.fine.length z2c,.slice z3A z.coarse.length z3c,iV z.ze,iV z.zW,iV z.zI,iV z.zN,iV z.zH] 50,slP 2 zj (.slice z0A z.zV.length z0c) z.zV,slP 2 zo (.slice z1A z.raw.length z1c) z.raw,slP 8 zU (.slice z2A z.fine.length z2c) z.fine,slP 8 zU (.slice z3A z.coarse.length z3c) z.coarse]) (fun _ hK25=>?_) ?_))
   · refine zL (zE rfl (zE rfl (zB (u4 rfl rfl) (zE rfl (yQ (t:=62) rfl (fun h6=>?_) (fun h6=>?_))))))
     · refine zb (yM 0 [iV 2,iV g,iV (g + (Roll.step 2))] rfl rfl rfl rfl agg217 inf217) (yF (wg rfl rfl rfl) rfl call163 rfl (fun w1 hM=>gF b3 _ _ _ _ z (⟨2,g,(g + (Roll.step 2))⟩:Part) w1 (hM.blk (i:=5) rfl)) (zB (zM rfl rfl) ?_))
       refine zl (ym hK25 (sc rfl (sc rfl (sc rfl (sc rfl (sc rfl (sc rfl (sc rfl (sc rfl (sc rfl (sc (jp (iff_and_right h6 Iff.rfl)) sn)))))))))) (fun _ h=>h))
     refine zQ (zQ (zB (zM rfl rfl) ?_))
     refine zl (ym hK25 (sc rfl (sc rfl (sc rfl (sc rfl (sc rfl (sc rfl (sc rfl (sc rfl (sc rfl (sc (jf (fun g=>h6 g.1)) sn)))))))))) (fun _ h=>h))
   refine zZ rfl (fun h7=>?_) (fun h7=>?_)
   · refine zG fun _ hK26=>zB (yM 0 [iV 2,iV g,iV (g + (Roll.step 2))] rfl rfl rfl rfl agg217 inf217) (zr 2 wn rfl rfl rfl inf217 rfl rfl rfl (zD hK26 (yZ (uo rfl (yH (yH (yI (zy hK14 (zS fun _ hK27=>zG fun _ hK28=>zB (za rfl fld217_0) (zB (zg 2 rfl rfl rfl flat3) (zB (yR rfl rfl) (zD hK28 (yr rfl (decide_eq_false (by decide)) ?_)))))))))))))
     refine yK hK27 (zS fun _ hK29=>zG fun _ hK30=>zE rfl (zB (yW rfl underlying152) (zB (vw rfl rfl (by omega)) (zP rfl (zD hK30 (zS fun _ hK31=>vN mix (by kernel_rfl) (fun _ h=>h.drew) (yn rfl (zq (vn rfl rfl) ?_))))))))
     refine yn rfl (vh (t:=76) rfl (fun h8=>?_) (fun h8=>?_))
     · refine yL (zi rfl) (yL (zi rfl) ?_)
       obtain ⟨ad1,hd1⟩:=hA1 (ne_nil (i:=(out.length - 1)) (by first | omega | decide))
       refine yL (y6 (i:=(out.length - 1)) rfl hd1 rfl (by omega) (by first | omega | decide) underlying152 inf217) (yL (yy rfl fld217_0) ?_)
       obtain ⟨s1,hs1⟩:∃ x,out[(out.length - 1)]?=some x:=⟨_,List.getElem?_eq_getElem (by first | omega | decide)⟩
       refine yL (u9 3 encPart rfl rfl hd1 hs1 rfl flat3) (yL (za rfl fld217_0) (yL (zg 2 rfl rfl rfl flat3) (yL (yf rfl rfl) (zq (zM rfl rfl) (vJ (zy hK31 (zZ rfl (fun h9=>?_) (fun h9=>?_))))))))
       · refine zL (zE rfl (zE rfl (zB (za rfl fld217_2) (zB (zg 2 rfl rfl rfl flat3) (zB (y6 (i:=(out.length - 1)) rfl hd1 rfl (by omega) (by first | omega | decide) underlying152 inf217) (zB (yy rfl fld217_2) (u5 3 (vs:=[iV (g + (Roll.step 2))]) (⟨s1.tier,s1.frm,(g + (Roll.step 2))⟩:Part) encPart wn rfl rfl rfl rfl hd1 hs1 inf3 rfl rfl rfl rfl (zD hK29 (zL (zB (za rfl fld217_2) (zB (zg 2 rfl rfl rfl flat3) ?_)))))))))))
         refine zP rfl (zl (zm (vI (g + (Roll.step 2)) (out.set (out.length - 1) (⟨s1.tier,s1.frm,(g + (Roll.step 2))⟩:Part)) (.slice A1 out.length cp1) (sc rfl (sc rfl (sc rfl (sc rfl sn)))) (S9 [3,4,5,6,7,8,9]) ?_ ?_)))
         · have hp:Sh.pick z g t=(⟨2,g,(g + (Roll.step 2))⟩:Part):=Sh.pick_2 (z:=z) (f:=g) (t:=t) h7.1 h7.2
           have hpt:¬ (Sh.pick z g t).tier < 0:=by rw [hp]; dsimp only; omega
           have hto:=Sh.pick_to hpt
           have hnx:=hI1.1.trans (Sh.chooseL_next (out:=out) (by omega) hpt)
           have hpl:=Sh.push_len out (Sh.pick z g t)
           rw [hp] at hto hnx hpl
           have hpu:Sh.push out _=_:=Sh.push_last (p:=(⟨2,g,(g + (Roll.step 2))⟩:Part)) hs1 h9
           rw [hpu] at hnx hpl
           try dsimp only at hto
           try dsimp only at hnx
           try dsimp only at hpl
           exact ⟨hnx,by omega,by omega,by omega⟩
         have hp:Sh.pick z g t=(⟨2,g,(g + (Roll.step 2))⟩:Part):=Sh.pick_2 (z:=z) (f:=g) (t:=t) h7.1 h7.2
         have hpt:¬ (Sh.pick z g t).tier < 0:=by rw [hp]; dsimp only; omega
         have hto:=Sh.pick_to hpt
         rw [hp] at hto
         try dsimp only at hto
         omega
       refine zL (zE rfl (zB (yM 2 [iV 2,iV g,iV (g + (Roll.step 2))] rfl rfl rfl rfl agg217 inf217) (yw vZ ([(⟨2,g,(g + (Roll.step 2))⟩:Part)]:List Part) wn underlying152 inf217 rfl rfl rfl rfl (by decide) (by decide) rfl fun b94=>vG 4 out ([(⟨2,g,(g + (Roll.step 2))⟩:Part)]:List Part) encPart wn rfl rfl rfl (fun _ hM=>(RowSl encPart hM 0 rfl)) underlying152 inf217 rfl rfl (by first | omega | (simp only [List.length_append,List.length_cons,List.length_nil]; omega)) rfl fun A2 cp2 hc2 hm2 hA2=>zP rfl (zD hK29 (zL (zB (za rfl fld217_2) (zB (zg 3 rfl rfl rfl flat3) (zP rfl (zl (zm (vI (g + (Roll.step 2)) (out++([(⟨2,g,(g + (Roll.step 2))⟩:Part)]:List Part)) (.slice A2 ((out++([(⟨2,g,(g + (Roll.step 2))⟩:Part)]:List Part)).length) cp2) (sc rfl (sc rfl (sc rfl (sc rfl sn)))) (S9 [4,5,6,7,8,9,10]) ?_ ?_)))))))))))
       · have hp:Sh.pick z g t=(⟨2,g,(g + (Roll.step 2))⟩:Part):=Sh.pick_2 (z:=z) (f:=g) (t:=t) h7.1 h7.2
         have hpt:¬ (Sh.pick z g t).tier < 0:=by rw [hp]; dsimp only; omega
         have hto:=Sh.pick_to hpt
         have hnx:=hI1.1.trans (Sh.chooseL_next (out:=out) (by omega) hpt)
         have hpl:=Sh.push_len out (Sh.pick z g t)
         rw [hp] at hto hnx hpl
         have hpu:Sh.push out _=_:=Sh.push_new (p:=(⟨2,g,(g + (Roll.step 2))⟩:Part)) hs1 h9
         rw [hpu] at hnx hpl
         try dsimp only at hto
         try dsimp only at hnx
         try dsimp only at hpl
         exact ⟨hnx,by omega,by omega,by omega⟩
       have hp:Sh.pick z g t=(⟨2,g,(g + (Roll.step 2))⟩:Part):=Sh.pick_2 (z:=z) (f:=g) (t:=t) h7.1 h7.2
       have hpt:¬ (Sh.pick z g t).tier < 0:=by rw [hp]; dsimp only; omega
       have hto:=Sh.pick_to hpt
       rw [hp] at hto
       try dsimp only at hto
       omega
     refine yB (yB (yB (yB (yB (yB (yB (yB (zq (zM rfl rfl) (vJ (zy hK31 (yr rfl rfl (zL ?_))))))))))))
     refine zE rfl (zB (yM 2 [iV 2,iV g,iV (g + (Roll.step 2))] rfl rfl rfl rfl agg217 inf217) (yw vZ ([(⟨2,g,(g + (Roll.step 2))⟩:Part)]:List Part) wn underlying152 inf217 rfl rfl rfl rfl (by decide) (by decide) rfl fun b94=>vG 4 out ([(⟨2,g,(g + (Roll.step 2))⟩:Part)]:List Part) encPart wn rfl rfl rfl (fun _ hM=>(RowSl encPart hM 0 rfl)) underlying152 inf217 rfl rfl (by first | omega | (simp only [List.length_append,List.length_cons,List.length_nil]; omega)) rfl fun A3 cp3 hc3 hm3 hA3=>zP rfl (zD hK29 (zL (zB (za rfl fld217_2) (zB (zg 3 rfl rfl rfl flat3) (zP rfl (zl (zm (vI (g + (Roll.step 2)) (out++([(⟨2,g,(g + (Roll.step 2))⟩:Part)]:List Part)) (.slice A3 ((out++([(⟨2,g,(g + (Roll.step 2))⟩:Part)]:List Part)).length) cp3) (sc rfl (sc rfl (sc rfl (sc rfl sn)))) (S9 [4,5,6,7,8,9,10]) ?_ ?_))))))))))
     · have hp:Sh.pick z g t=(⟨2,g,(g + (Roll.step 2))⟩:Part):=Sh.pick_2 (z:=z) (f:=g) (t:=t) h7.1 h7.2
       have hpt:¬ (Sh.pick z g t).tier < 0:=by rw [hp]; dsimp only; omega
       have hto:=Sh.pick_to hpt
       have hnx:=hI1.1.trans (Sh.chooseL_next (out:=out) (by omega) hpt)
       have hpl:=Sh.push_len out (Sh.pick z g t)
       rw [hp] at hto hnx hpl
       have hpu:Sh.push out _=_:=Sh.push_nil (p:=(⟨2,g,(g + (Roll.step 2))⟩:Part)) (by omega)
       rw [hpu] at hnx hpl
       try dsimp only at hto
       try dsimp only at hnx
       try dsimp only at hpl
       exact ⟨hnx,by omega,by omega,by omega⟩
     have hp:Sh.pick z g t=(⟨2,g,(g + (Roll.step 2))⟩:Part):=Sh.pick_2 (z:=z) (f:=g) (t:=t) h7.1 h7.2
     have hpt:¬ (Sh.pick z g t).tier < 0:=by rw [hp]; dsimp only; omega
     have hto:=Sh.pick_to hpt
     rw [hp] at hto
     try dsimp only at hto
     omega
   refine yU (zm (zy hK19 (zL (zB (zw rfl rfl (by omega)) (zE rfl (zl (gP hK16 (jS fun _ hK32=>zG fun _ hK33=>zB (yR rfl rfl) (zD hK33 (zS fun _ hK34=>vM rfl (decide_eq_true (by decide)) (yK hK34 ?_)))))))))))
   refine zS fun _ hK35=>zk (zG fun _ hK36=>zB (y6 (i:=1) rfl rfl rfl (by omega) (by first | omega | decide) underlying37 inf3) (zB (u9 1 encInt rfl rfl rfl (show ([2,1,0]:List Int)[1]?=some 1 from rfl) rfl flat3) (zP rfl (zD hK36 (zG fun _ hK37=>zE rfl (zE rfl (yF wn rfl call93 rfl (fun w1 hM=>jM 1 w1) (zB (zw rfl rfl (by omega)) ?_))))))))
   refine zP rfl (zD hK37 (zS fun _ hK38=>zG fun _ hK39=>zE rfl (zB (yf rfl rfl) (zD hK39 (yr rfl (decide_eq_false (by decide)) (yK hK38 (zG fun _ hK40=>zE rfl (zE rfl ?_))))))))
   refine zE rfl (zB (zz [iV 1,iV g,iV (g + (Roll.step 1))] pl217 inf217 rfl rfl) (yC wn inf217 rfl fun b14_1=>zr 0 wn rfl rfl rfl inf217 rfl rfl rfl (zD hK40 (vm [(1,iV g),(2,iV t),(3,.pointer (some ⟨b3,0,none⟩)),(9,.slice A1 out.length cp1),(10,.pointer (some ⟨b10,0,none⟩)),(14,.pointer (some ⟨b14_1,0,none⟩)),(36,.slice (some ⟨b36,0,none⟩) 3 3),(37,iV 3),(38,iV 1),(65,.bool (decide (((g + (Roll.step 1))≤t)∧(Sh.may z (⟨1,g,(g + (Roll.step 1))⟩:Part)))))] (Mem w ⟨no,P0⟩ [.blk b14_1 [iV 1,iV g,iV (g + (Roll.step 1))] 217,.blk b14 [iV 2,iV g,iV (g + (Roll.step 2))] 217,Row (.slice (some ⟨b36,0,none⟩) 3 3) 3 1 intE ([2,1,0]:List Int),.blk b10 [iV (-1),iV 0,iV 0] 217,Row (.slice A1 out.length cp1) 217 3 vZ out,Row (Zs) 217 3 vZ ([]:List Part),.blk b3 [.slice z0A z.zV.length z0c,.slice z1A z.raw.length z1c,.slice z2A z.fine.length z2c,.slice z3A z.coarse.length z3c,iV z.ze,iV z.zW,iV z.zI,iV z.zN,iV z.zH] 50,slP 2 zj (.slice z0A z.zV.length z0c) z.zV,slP 2 zo (.slice z1A z.raw.length z1c) z.raw,slP 8 zU (.slice z2A z.fine.length z2c) z.fine,slP 8 zU (.slice z3A z.coarse.length z3c) z.coarse]) (fun _ hK41=>?_) ?_))))
   · refine zL (zE rfl (zE rfl (zB (u4 rfl rfl) (zE rfl (yQ (t:=62) rfl (fun h10=>?_) (fun h10=>?_))))))
     · refine zb (yM 0 [iV 1,iV g,iV (g + (Roll.step 1))] rfl rfl rfl rfl agg217 inf217) (yF (wg rfl rfl rfl) rfl call163 rfl (fun w1 hM=>gF b3 _ _ _ _ z (⟨1,g,(g + (Roll.step 1))⟩:Part) w1 (hM.blk (i:=6) rfl)) (zB (zM rfl rfl) ?_))
       refine zl (ym hK41 (sc rfl (sc rfl (sc rfl (sc rfl (sc rfl (sc rfl (sc rfl (sc rfl (sc rfl (sc (jp (iff_and_right h10 Iff.rfl)) sn)))))))))) (fun _ h=>h))
     refine zQ (zQ (zB (zM rfl rfl) ?_))
     refine zl (ym hK41 (sc rfl (sc rfl (sc rfl (sc rfl (sc rfl (sc rfl (sc rfl (sc rfl (sc rfl (sc (jf (fun g=>h10 g.1)) sn)))))))))) (fun _ h=>h))
   refine zZ rfl (fun h11=>?_) (fun h11=>?_)
   · refine zG fun _ hK42=>zB (yM 0 [iV 1,iV g,iV (g + (Roll.step 1))] rfl rfl rfl rfl agg217 inf217) (zr 3 wn rfl rfl rfl inf217 rfl rfl rfl (zD hK42 (yZ (uo rfl (yH (yH (yI (zy hK14 (zS fun _ hK43=>zG fun _ hK44=>zB (za rfl fld217_0) (zB (zg 3 rfl rfl rfl flat3) (zB (yR rfl rfl) (zD hK44 (yr rfl (decide_eq_false (by decide)) ?_)))))))))))))
     refine yK hK43 (zS fun _ hK45=>zG fun _ hK46=>zE rfl (zB (yW rfl underlying152) (zB (vw rfl rfl (by omega)) (zP rfl (zD hK46 (zS fun _ hK47=>vN mix (by kernel_rfl) (fun _ h=>h.drew) (yn rfl (zq (vn rfl rfl) ?_))))))))
     refine yn rfl (vh (t:=76) rfl (fun h12=>?_) (fun h12=>?_))
     · refine yL (zi rfl) (yL (zi rfl) ?_)
       obtain ⟨ad2,hd2⟩:=hA1 (ne_nil (i:=(out.length - 1)) (by first | omega | decide))
       refine yL (y6 (i:=(out.length - 1)) rfl hd2 rfl (by omega) (by first | omega | decide) underlying152 inf217) (yL (yy rfl fld217_0) ?_)
       obtain ⟨s2,hs2⟩:∃ x,out[(out.length - 1)]?=some x:=⟨_,List.getElem?_eq_getElem (by first | omega | decide)⟩
       refine yL (u9 4 encPart rfl rfl hd2 hs2 rfl flat3) (yL (za rfl fld217_0) (yL (zg 3 rfl rfl rfl flat3) (yL (yf rfl rfl) (zq (zM rfl rfl) (vJ (zy hK47 (zZ rfl (fun h13=>?_) (fun h13=>?_))))))))
       · refine zL (zE rfl (zE rfl (zB (za rfl fld217_2) (zB (zg 3 rfl rfl rfl flat3) (zB (y6 (i:=(out.length - 1)) rfl hd2 rfl (by omega) (by first | omega | decide) underlying152 inf217) (zB (yy rfl fld217_2) (u5 4 (vs:=[iV (g + (Roll.step 1))]) (⟨s2.tier,s2.frm,(g + (Roll.step 1))⟩:Part) encPart wn rfl rfl rfl rfl hd2 hs2 inf3 rfl rfl rfl rfl (zD hK45 (zL (zB (za rfl fld217_2) (zB (zg 3 rfl rfl rfl flat3) ?_)))))))))))
         refine zP rfl (zl (zm (vI (g + (Roll.step 1)) (out.set (out.length - 1) (⟨s2.tier,s2.frm,(g + (Roll.step 1))⟩:Part)) (.slice A1 out.length cp1) (sc rfl (sc rfl (sc rfl (sc rfl sn)))) (S9 [4,5,6,7,8,9,10]) ?_ ?_)))
         · have hp:Sh.pick z g t=(⟨1,g,(g + (Roll.step 1))⟩:Part):=Sh.pick_1 (z:=z) (f:=g) (t:=t) h7 h11.1 h11.2
           have hpt:¬ (Sh.pick z g t).tier < 0:=by rw [hp]; dsimp only; omega
           have hto:=Sh.pick_to hpt
           have hnx:=hI1.1.trans (Sh.chooseL_next (out:=out) (by omega) hpt)
           have hpl:=Sh.push_len out (Sh.pick z g t)
           rw [hp] at hto hnx hpl
           have hpu:Sh.push out _=_:=Sh.push_last (p:=(⟨1,g,(g + (Roll.step 1))⟩:Part)) hs2 h13
           rw [hpu] at hnx hpl
           try dsimp only at hto
           try dsimp only at hnx
           try dsimp only at hpl
           exact ⟨hnx,by omega,by omega,by omega⟩
         have hp:Sh.pick z g t=(⟨1,g,(g + (Roll.step 1))⟩:Part):=Sh.pick_1 (z:=z) (f:=g) (t:=t) h7 h11.1 h11.2
         have hpt:¬ (Sh.pick z g t).tier < 0:=by rw [hp]; dsimp only; omega
         have hto:=Sh.pick_to hpt
         rw [hp] at hto
         try dsimp only at hto
         omega
       refine zL (zE rfl (zB (yM 3 [iV 1,iV g,iV (g + (Roll.step 1))] rfl rfl rfl rfl agg217 inf217) (yw vZ ([(⟨1,g,(g + (Roll.step 1))⟩:Part)]:List Part) wn underlying152 inf217 rfl rfl rfl rfl (by decide) (by decide) rfl fun b94=>vG 5 out ([(⟨1,g,(g + (Roll.step 1))⟩:Part)]:List Part) encPart wn rfl rfl rfl (fun _ hM=>(RowSl encPart hM 0 rfl)) underlying152 inf217 rfl rfl (by first | omega | (simp only [List.length_append,List.length_cons,List.length_nil]; omega)) rfl fun A4 cp4 hc4 hm4 hA4=>zP rfl (zD hK45 (zL (zB (za rfl fld217_2) (zB (zg 4 rfl rfl rfl flat3) (zP rfl (zl (zm (vI (g + (Roll.step 1)) (out++([(⟨1,g,(g + (Roll.step 1))⟩:Part)]:List Part)) (.slice A4 ((out++([(⟨1,g,(g + (Roll.step 1))⟩:Part)]:List Part)).length) cp4) (sc rfl (sc rfl (sc rfl (sc rfl sn)))) (S9 [5,6,7,8,9,10,11]) ?_ ?_)))))))))))
       · have hp:Sh.pick z g t=(⟨1,g,(g + (Roll.step 1))⟩:Part):=Sh.pick_1 (z:=z) (f:=g) (t:=t) h7 h11.1 h11.2
         have hpt:¬ (Sh.pick z g t).tier < 0:=by rw [hp]; dsimp only; omega
         have hto:=Sh.pick_to hpt
         have hnx:=hI1.1.trans (Sh.chooseL_next (out:=out) (by omega) hpt)
         have hpl:=Sh.push_len out (Sh.pick z g t)
         rw [hp] at hto hnx hpl
         have hpu:Sh.push out _=_:=Sh.push_new (p:=(⟨1,g,(g + (Roll.step 1))⟩:Part)) hs2 h13
         rw [hpu] at hnx hpl
         try dsimp only at hto
         try dsimp only at hnx
         try dsimp only at hpl
         exact ⟨hnx,by omega,by omega,by omega⟩
       have hp:Sh.pick z g t=(⟨1,g,(g + (Roll.step 1))⟩:Part):=Sh.pick_1 (z:=z) (f:=g) (t:=t) h7 h11.1 h11.2
       have hpt:¬ (Sh.pick z g t).tier < 0:=by rw [hp]; dsimp only; omega
       have hto:=Sh.pick_to hpt
       rw [hp] at hto
       try dsimp only at hto
       omega
     refine yB (yB (yB (yB (yB (yB (yB (yB (zq (zM rfl rfl) (vJ (zy hK47 (yr rfl rfl (zL ?_))))))))))))
     refine zE rfl (zB (yM 3 [iV 1,iV g,iV (g + (Roll.step 1))] rfl rfl rfl rfl agg217 inf217) (yw vZ ([(⟨1,g,(g + (Roll.step 1))⟩:Part)]:List Part) wn underlying152 inf217 rfl rfl rfl rfl (by decide) (by decide) rfl fun b94=>vG 5 out ([(⟨1,g,(g + (Roll.step 1))⟩:Part)]:List Part) encPart wn rfl rfl rfl (fun _ hM=>(RowSl encPart hM 0 rfl)) underlying152 inf217 rfl rfl (by first | omega | (simp only [List.length_append,List.length_cons,List.length_nil]; omega)) rfl fun A5 cp5 hc5 hm5 hA5=>zP rfl (zD hK45 (zL (zB (za rfl fld217_2) (zB (zg 4 rfl rfl rfl flat3) (zP rfl (zl (zm (vI (g + (Roll.step 1)) (out++([(⟨1,g,(g + (Roll.step 1))⟩:Part)]:List Part)) (.slice A5 ((out++([(⟨1,g,(g + (Roll.step 1))⟩:Part)]:List Part)).length) cp5) (sc rfl (sc rfl (sc rfl (sc rfl sn)))) (S9 [5,6,7,8,9,10,11]) ?_ ?_))))))))))
     · have hp:Sh.pick z g t=(⟨1,g,(g + (Roll.step 1))⟩:Part):=Sh.pick_1 (z:=z) (f:=g) (t:=t) h7 h11.1 h11.2
       have hpt:¬ (Sh.pick z g t).tier < 0:=by rw [hp]; dsimp only; omega
       have hto:=Sh.pick_to hpt
       have hnx:=hI1.1.trans (Sh.chooseL_next (out:=out) (by omega) hpt)
       have hpl:=Sh.push_len out (Sh.pick z g t)
       rw [hp] at hto hnx hpl
       have hpu:Sh.push out _=_:=Sh.push_nil (p:=(⟨1,g,(g + (Roll.step 1))⟩:Part)) (by omega)
       rw [hpu] at hnx hpl
       try dsimp only at hto
       try dsimp only at hnx
       try dsimp only at hpl
       exact ⟨hnx,by omega,by omega,by omega⟩
     have hp:Sh.pick z g t=(⟨1,g,(g + (Roll.step 1))⟩:Part):=Sh.pick_1 (z:=z) (f:=g) (t:=t) h7 h11.1 h11.2
     have hpt:¬ (Sh.pick z g t).tier < 0:=by rw [hp]; dsimp only; omega
     have hto:=Sh.pick_to hpt
     rw [hp] at hto
     try dsimp only at hto
     omega
   refine yU (zm (zy hK35 (zL (zB (zw rfl rfl (by omega)) (zE rfl (zl (gP hK32 (jS fun _ hK48=>zG fun _ hK49=>zB (yR rfl rfl) (zD hK49 (zS fun _ hK50=>vM rfl (decide_eq_true (by decide)) (yK hK50 ?_)))))))))))
   refine zS fun _ hK51=>zk (zG fun _ hK52=>zB (y6 (i:=2) rfl rfl rfl (by omega) (by first | omega | decide) underlying37 inf3) (zB (u9 2 encInt rfl rfl rfl (show ([2,1,0]:List Int)[2]?=some 0 from rfl) rfl flat3) (zP rfl (zD hK52 (zG fun _ hK53=>zE rfl (zE rfl (yF wn rfl call93 rfl (fun w1 hM=>jM 0 w1) (zB (zw rfl rfl (by omega)) ?_))))))))
   refine zP rfl (zD hK53 (zS fun _ hK54=>zG fun _ hK55=>zE rfl (zB (yf rfl rfl) (zD hK55 (vM rfl (decide_eq_true (by decide)) (zL (zE rfl (zE rfl (zB (jV rfl rfl (by omega) (by omega)) ?_)))))))))
   refine zB (vw rfl rfl (by omega)) (zB (zw rfl rfl (by omega)) (zE rfl (zB (js (show _=(Sh.mn (g - g % 10 + 10) t) from rfl) (jd rfl rfl)) (zP rfl (zD hK54 (zG fun _ hK56=>zE rfl (zE rfl (zE rfl (zB (zz [iV 0,iV g,iV (Sh.mn (g - g % 10 + 10) t)] pl217 inf217 rfl rfl) (yC wn inf217 rfl fun b14_2=>?_))))))))))
   refine zr 0 wn rfl rfl rfl inf217 rfl rfl rfl (zD hK56 (vm [(1,iV g),(2,iV t),(3,.pointer (some ⟨b3,0,none⟩)),(9,.slice A1 out.length cp1),(10,.pointer (some ⟨b10,0,none⟩)),(14,.pointer (some ⟨b14_2,0,none⟩)),(36,.slice (some ⟨b36,0,none⟩) 3 3),(37,iV 3),(38,iV 2),(65,.bool (decide (((Sh.mn (g - g % 10 + 10) t)≤t)∧(Sh.may z (⟨0,g,(Sh.mn (g - g % 10 + 10) t)⟩:Part)))))] (Mem w ⟨no,P0⟩ [.blk b14_2 [iV 0,iV g,iV (Sh.mn (g - g % 10 + 10) t)] 217,.blk b14_1 [iV 1,iV g,iV (g + (Roll.step 1))] 217,.blk b14 [iV 2,iV g,iV (g + (Roll.step 2))] 217,Row (.slice (some ⟨b36,0,none⟩) 3 3) 3 1 intE ([2,1,0]:List Int),.blk b10 [iV (-1),iV 0,iV 0] 217,Row (.slice A1 out.length cp1) 217 3 vZ out,Row (Zs) 217 3 vZ ([]:List Part),.blk b3 [.slice z0A z.zV.length z0c,.slice z1A z.raw.length z1c,.slice z2A z.fine.length z2c,.slice z3A z.coarse.length z3c,iV z.ze,iV z.zW,iV z.zI,iV z.zN,iV z.zH] 50,slP 2 zj (.slice z0A z.zV.length z0c) z.zV,slP 2 zo (.slice z1A z.raw.length z1c) z.raw,slP 8 zU (.slice z2A z.fine.length z2c) z.fine,slP 8 zU (.slice z3A z.coarse.length z3c) z.coarse]) (fun _ hK57=>?_) ?_))
   · refine zL (zE rfl (zE rfl (zB (u4 rfl rfl) (zE rfl (yQ (t:=62) rfl (fun h14=>?_) (fun h14=>?_))))))
     · refine zb (yM 0 [iV 0,iV g,iV (Sh.mn (g - g % 10 + 10) t)] rfl rfl rfl rfl agg217 inf217) (yF (wg rfl rfl rfl) rfl call163 rfl (fun w1 hM=>gF b3 _ _ _ _ z (⟨0,g,(Sh.mn (g - g % 10 + 10) t)⟩:Part) w1 (hM.blk (i:=7) rfl)) (zB (zM rfl rfl) ?_))
       refine zl (ym hK57 (sc rfl (sc rfl (sc rfl (sc rfl (sc rfl (sc rfl (sc rfl (sc rfl (sc rfl (sc (jp (iff_and_right h14 Iff.rfl)) sn)))))))))) (fun _ h=>h))
     refine zQ (zQ (zB (zM rfl rfl) ?_))
     refine zl (ym hK57 (sc rfl (sc rfl (sc rfl (sc rfl (sc rfl (sc rfl (sc rfl (sc rfl (sc rfl (sc (jf (fun g=>h14 g.1)) sn)))))))))) (fun _ h=>h))
   refine zZ rfl (fun h15=>?_) (fun h15=>?_)
   · refine zG fun _ hK58=>zB (yM 0 [iV 0,iV g,iV (Sh.mn (g - g % 10 + 10) t)] rfl rfl rfl rfl agg217 inf217) (zr 4 wn rfl rfl rfl inf217 rfl rfl rfl (zD hK58 (yZ (uo rfl (yH (yH (yI (zy hK14 (zS fun _ hK59=>zG fun _ hK60=>zB (za rfl fld217_0) (zB (zg 4 rfl rfl rfl flat3) (zB (yR rfl rfl) (zD hK60 (yr rfl (decide_eq_false (by decide)) ?_)))))))))))))
     refine yK hK59 (zS fun _ hK61=>zG fun _ hK62=>zE rfl (zB (yW rfl underlying152) (zB (vw rfl rfl (by omega)) (zP rfl (zD hK62 (zS fun _ hK63=>vN mix (by kernel_rfl) (fun _ h=>h.drew) (yn rfl (zq (vn rfl rfl) ?_))))))))
     refine yn rfl (vh (t:=76) rfl (fun h16=>?_) (fun h16=>?_))
     · refine yL (zi rfl) (yL (zi rfl) ?_)
       obtain ⟨ad3,hd3⟩:=hA1 (ne_nil (i:=(out.length - 1)) (by first | omega | decide))
       refine yL (y6 (i:=(out.length - 1)) rfl hd3 rfl (by omega) (by first | omega | decide) underlying152 inf217) (yL (yy rfl fld217_0) ?_)
       obtain ⟨s3,hs3⟩:∃ x,out[(out.length - 1)]?=some x:=⟨_,List.getElem?_eq_getElem (by first | omega | decide)⟩
       refine yL (u9 5 encPart rfl rfl hd3 hs3 rfl flat3) (yL (za rfl fld217_0) (yL (zg 4 rfl rfl rfl flat3) (yL (yf rfl rfl) (zq (zM rfl rfl) (vJ (zy hK63 (zZ rfl (fun h17=>?_) (fun h17=>?_))))))))
       · refine zL (zE rfl (zE rfl (zB (za rfl fld217_2) (zB (zg 4 rfl rfl rfl flat3) (zB (y6 (i:=(out.length - 1)) rfl hd3 rfl (by omega) (by first | omega | decide) underlying152 inf217) (zB (yy rfl fld217_2) (u5 5 (vs:=[iV (Sh.mn (g - g % 10 + 10) t)]) (⟨s3.tier,s3.frm,(Sh.mn (g - g % 10 + 10) t)⟩:Part) encPart wn rfl rfl rfl rfl hd3 hs3 inf3 rfl rfl rfl rfl (zD hK61 (zL (zB (za rfl fld217_2) (zB (zg 4 rfl rfl rfl flat3) ?_)))))))))))
         refine zP rfl (zl (zm (vI (Sh.mn (g - g % 10 + 10) t) (out.set (out.length - 1) (⟨s3.tier,s3.frm,(Sh.mn (g - g % 10 + 10) t)⟩:Part)) (.slice A1 out.length cp1) (sc rfl (sc rfl (sc rfl (sc rfl sn)))) (S9 [5,6,7,8,9,10,11]) ?_ ?_)))
         · have hp:=Sh.pick_0 (z:=z) (f:=g) (t:=t) h7 h11 h15.1 h15.2
           have hpt:¬ (Sh.pick z g t).tier < 0:=by rw [hp]; dsimp only; omega
           have hto:=Sh.pick_to hpt
           have hnx:=hI1.1.trans (Sh.chooseL_next (out:=out) (by omega) hpt)
           have hpl:=Sh.push_len out (Sh.pick z g t)
           rw [hp] at hto hnx hpl
           have hpu:Sh.push out _=_:=Sh.push_last (p:=(⟨0,g,(Sh.mn (g - g % 10 + 10) t)⟩:Part)) hs3 h17
           rw [hpu] at hnx hpl
           try dsimp only at hto
           try dsimp only at hnx
           try dsimp only at hpl
           exact ⟨hnx,by omega,by omega,by omega⟩
         have hp:=Sh.pick_0 (z:=z) (f:=g) (t:=t) h7 h11 h15.1 h15.2
         have hpt:¬ (Sh.pick z g t).tier < 0:=by rw [hp]; dsimp only; omega
         have hto:=Sh.pick_to hpt
         rw [hp] at hto
         try dsimp only at hto
         omega
       refine zL (zE rfl (zB (yM 4 [iV 0,iV g,iV (Sh.mn (g - g % 10 + 10) t)] rfl rfl rfl rfl agg217 inf217) (yw vZ ([(⟨0,g,(Sh.mn (g - g % 10 + 10) t)⟩:Part)]:List Part) wn underlying152 inf217 rfl rfl rfl rfl (by decide) (by decide) rfl fun b94=>vG 6 out ([(⟨0,g,(Sh.mn (g - g % 10 + 10) t)⟩:Part)]:List Part) encPart wn rfl rfl rfl (fun _ hM=>(RowSl encPart hM 0 rfl)) underlying152 inf217 rfl rfl (by first | omega | (simp only [List.length_append,List.length_cons,List.length_nil]; omega)) rfl fun A6 cp6 hc6 hm6 hA6=>zP rfl (zD hK61 (zL (zB (za rfl fld217_2) (zB (zg 5 rfl rfl rfl flat3) (zP rfl (zl (zm (vI (Sh.mn (g - g % 10 + 10) t) (out++([(⟨0,g,(Sh.mn (g - g % 10 + 10) t)⟩:Part)]:List Part)) (.slice A6 ((out++([(⟨0,g,(Sh.mn (g - g % 10 + 10) t)⟩:Part)]:List Part)).length) cp6) (sc rfl (sc rfl (sc rfl (sc rfl sn)))) (S9 [6,7,8,9,10,11,12]) ?_ ?_)))))))))))
       · have hp:=Sh.pick_0 (z:=z) (f:=g) (t:=t) h7 h11 h15.1 h15.2
         have hpt:¬ (Sh.pick z g t).tier < 0:=by rw [hp]; dsimp only; omega
         have hto:=Sh.pick_to hpt
         have hnx:=hI1.1.trans (Sh.chooseL_next (out:=out) (by omega) hpt)
         have hpl:=Sh.push_len out (Sh.pick z g t)
         rw [hp] at hto hnx hpl
         have hpu:Sh.push out _=_:=Sh.push_new (p:=(⟨0,g,(Sh.mn (g - g % 10 + 10) t)⟩:Part)) hs3 h17
         rw [hpu] at hnx hpl
         try dsimp only at hto
         try dsimp only at hnx
         try dsimp only at hpl
         exact ⟨hnx,by omega,by omega,by omega⟩
       have hp:=Sh.pick_0 (z:=z) (f:=g) (t:=t) h7 h11 h15.1 h15.2
       have hpt:¬ (Sh.pick z g t).tier < 0:=by rw [hp]; dsimp only; omega
       have hto:=Sh.pick_to hpt
       rw [hp] at hto
       try dsimp only at hto
       omega
     refine yB (yB (yB (yB (yB (yB (yB (yB (zq (zM rfl rfl) (vJ (zy hK63 (yr rfl rfl (zL ?_))))))))))))
     refine zE rfl (zB (yM 4 [iV 0,iV g,iV (Sh.mn (g - g % 10 + 10) t)] rfl rfl rfl rfl agg217 inf217) (yw vZ ([(⟨0,g,(Sh.mn (g - g % 10 + 10) t)⟩:Part)]:List Part) wn underlying152 inf217 rfl rfl rfl rfl (by decide) (by decide) rfl fun b94=>vG 6 out ([(⟨0,g,(Sh.mn (g - g % 10 + 10) t)⟩:Part)]:List Part) encPart wn rfl rfl rfl (fun _ hM=>(RowSl encPart hM 0 rfl)) underlying152 inf217 rfl rfl (by first | omega | (simp only [List.length_append,List.length_cons,List.length_nil]; omega)) rfl fun A7 cp7 hc7 hm7 hA7=>zP rfl (zD hK61 (zL (zB (za rfl fld217_2) (zB (zg 5 rfl rfl rfl flat3) (zP rfl (zl (zm (vI (Sh.mn (g - g % 10 + 10) t) (out++([(⟨0,g,(Sh.mn (g - g % 10 + 10) t)⟩:Part)]:List Part)) (.slice A7 ((out++([(⟨0,g,(Sh.mn (g - g % 10 + 10) t)⟩:Part)]:List Part)).length) cp7) (sc rfl (sc rfl (sc rfl (sc rfl sn)))) (S9 [6,7,8,9,10,11,12]) ?_ ?_))))))))))
     · have hp:=Sh.pick_0 (z:=z) (f:=g) (t:=t) h7 h11 h15.1 h15.2
       have hpt:¬ (Sh.pick z g t).tier < 0:=by rw [hp]; dsimp only; omega
       have hto:=Sh.pick_to hpt
       have hnx:=hI1.1.trans (Sh.chooseL_next (out:=out) (by omega) hpt)
       have hpl:=Sh.push_len out (Sh.pick z g t)
       rw [hp] at hto hnx hpl
       have hpu:Sh.push out _=_:=Sh.push_nil (p:=(⟨0,g,(Sh.mn (g - g % 10 + 10) t)⟩:Part)) (by omega)
       rw [hpu] at hnx hpl
       try dsimp only at hto
       try dsimp only at hnx
       try dsimp only at hpl
       exact ⟨hnx,by omega,by omega,by omega⟩
     have hp:=Sh.pick_0 (z:=z) (f:=g) (t:=t) h7 h11 h15.1 h15.2
     have hpt:¬ (Sh.pick z g t).tier < 0:=by rw [hp]; dsimp only; omega
     have hto:=Sh.pick_to hpt
     rw [hp] at hto
     try dsimp only at hto
     omega
   refine yU (zm (zy hK51 (zL (zB (zw rfl rfl (by omega)) (zE rfl (zl (gP hK48 (jS fun _ hK64=>zG fun _ hK65=>zB (yR rfl rfl) (zD hK65 (zS fun _ hK66=>yr rfl (decide_eq_false (by decide)) (yZ (yH (yH (yI (zy hK14 ?_)))))))))))))))
   refine zS fun _ hK67=>zG fun _ hK68=>zB (za rfl fld217_0) (zB (zg 4 rfl rfl rfl flat3) (zB (yR rfl rfl) (zD hK68 (vM rfl (decide_eq_true (by decide)) (zG fun _ hK69=>vE (vZ:Part→List Value) 217 3 (zP rfl (zP rfl (zD hK69 ?_))))))))
   refine zX (zK (yA (uF (yA (zK (yT (.inl rfl) results117 (zR rfl) (zR rfl) fun w1 hM=>?_))))))
   have hp:=Sh.pick_no (z:=z) (f:=g) (t:=t) h7 h11 h15
   have he:Sh.choose z f t=(([]:List Part),10):=Sh.choose_gone h1 (by omega) hI1.1 (by omega) (by rw [hp]; decide)
   exact hM.gD 0 rfl (by rw [he]) (by rw [he])
 refine yZ (yH (uN (yI (zy hK10 (zG fun _ hK70=>zE rfl (zP rfl (zP rfl (zD hK70 (zX (yT (.inl rfl) results117 (zR rfl) (zR rfl) fun w1 hM=>?_))))))))))
 have he:Sh.choose z f t=(out,0):=Sh.choose_end h1 (by omega) hI1.1 (by omega)
 exact hM.gD 0 rfl (by rw [he]) (by rw [he])
set_option maxHeartbeats 4000000 in
theorem c_read (z0 : Value) (z1 : Value) (z2 : Value) (z3 : Value) (z : Shelf) (lv : Value) (l : List Part) (P0 : Nat → Prop) (w : World) (hP0 : ∀ b, P0 b → b < w.heap.size) (hz0 : zJ P0 2 zj z0 z.zV w) (hz1 : zJ P0 2 zo z1 z.raw w) (hz2 : zJ P0 8 zU z2 z.fine w) (hz3 : zJ P0 8 zU z3 z.coarse w) (hl : zJ P0 3 vZ lv l w) (hl1 : l.length ≤ 1048576) :
    Calls prog 118 #[.agg (List.toArray [z0,z1,z2,z3,iV z.ze,iV z.zW,iV z.zI,iV z.zN,iV z.zH]),lv] w (Ret w (.tuple #[.agg (sumE (Sh.read z l).1).toArray,iV (Sh.read z l).2.1,iV (Sh.read z l).2.2])):=by
 obtain ⟨z0A,z0c,rfl,hz0c,hz0m,hz0A⟩:=hz0.form
 obtain ⟨z1A,z1c,rfl,hz1c,hz1m,hz1A⟩:=hz1.form
 obtain ⟨z2A,z2c,rfl,hz2c,hz2m,hz2A⟩:=hz2.form
 obtain ⟨z3A,z3c,rfl,hz3c,hz3m,hz3A⟩:=hz3.form
 obtain ⟨lA,lc,rfl,hlc,hlm,hlA⟩:=hl.form
 refine fstart (N:=112) (vals:=[.agg (List.toArray [.slice z0A z.zV.length z0c,.slice z1A z.raw.length z1c,.slice z2A z.fine.length z2c,.slice z3A z.coarse.length z3c,iV z.ze,iV z.zW,iV z.zI,iV z.zN,iV z.zH]),.slice lA l.length lc]) (S:=Mem w ⟨no,P0⟩ [slP 2 zj (.slice z0A z.zV.length z0c) z.zV,slP 2 zo (.slice z1A z.raw.length z1c) z.raw,slP 8 zU (.slice z2A z.fine.length z2c) z.fine,slP 8 zU (.slice z3A z.coarse.length z3c) z.coarse,slP 3 vZ (.slice lA l.length lc) l]) func118 rfl rfl rfl (Mem.ofDatsP hP0 (dc (dlp hz0) (dc (dlp hz1) (dc (dlp hz2) (dc (dlp hz3) (dc (dlp hl) dn)))))) (zG fun _ hK1=>vS wn rfl rfl fun b2=>yC wn inf89 rfl fun b4=>zP rfl (zP rfl (zD hK1 (zS fun _ hK2=>zG fun _ hK3=>zB (yM 1 [.slice z0A z.zV.length z0c,.slice z1A z.raw.length z1c,.slice z2A z.fine.length z2c,.slice z3A z.coarse.length z3c,iV z.ze,iV z.zW,iV z.zI,iV z.zN,iV z.zH] rfl rfl rfl rfl agg50 inf50) (yF wn rfl call21 rfl (fun w1 hM=>ua _ _ _ _ z (In w1) w1 (fun _ h=>h) (hM.slp 2 rfl) (hM.slp 3 rfl) (hM.slp 4 rfl) (hM.slp 5 rfl)) (zP rfl ?_))))))
 refine zD hK3 (zG fun _ hK4=>zE rfl (zB (vD rfl rfl) (zD hK4 (zZ rfl (fun h1=>?_) (fun h1=>?_)))))
 · refine zG fun _ hK5=>zB (zz [iV 0,iV 0,iV 0,iV 0,iV 0,iV 0,iV 0] pl89 inf89 rfl rfl) (zE rfl (zr 0 wn rfl rfl rfl inf89 rfl rfl rfl (zP rfl (zP rfl (zD hK5 (zX (zK (ud (.inl rfl) results118 (zt 0 rfl rfl agg89 inf89 rfl) (zR rfl) (zR rfl) fun w1 hM=>?_))))))))
   have he:Sh.read z l=(Sum.zero,0,(Sh.wrong z)):=Sh.read_wrong h1
   rw [he]
   exact zn rfl hM
 obtain ⟨l1,l2,l3,l4⟩:=(Sh.ok_of h1).lens
 refine yK hK2 (zG fun _ hK6=>yC wn inf89 rfl fun b8=>zD hK6 (zG fun _ hK7=>zP rfl (zD hK7 (zS fun _ hK8=>zG fun _ hK9=>zE rfl (zB (yW rfl underlying152) (zE rfl ?_))))))
 refine zD hK9 (zk (ur (fun (k:Nat) (u:Sum) (c:Int)=>[(1,.slice lA l.length lc),(2,.pointer (some ⟨b2,0,none⟩)),(4,.pointer (some ⟨b4,0,none⟩)),(8,.pointer (some ⟨b8,0,none⟩)),(9,iV c),(21,.slice lA l.length lc),(22,iV l.length),(23,iV k)]) (fun (k:Nat) (u:Sum) (c:Int)=>[.blk b8 [iV u.count,iV u.total,iV u.min,iV u.max,iV u.first,iV u.last,iV u.rise] 89,.blk b4 [iV 0,iV 0,iV 0,iV 0,iV 0,iV 0,iV 0] 89,.blk b2 [.slice z0A z.zV.length z0c,.slice z1A z.raw.length z1c,.slice z2A z.fine.length z2c,.slice z3A z.coarse.length z3c,iV z.ze,iV z.zW,iV z.zI,iV z.zN,iV z.zH] 50,slP 2 zj (.slice z0A z.zV.length z0c) z.zV,slP 2 zo (.slice z1A z.raw.length z1c) z.raw,slP 8 zU (.slice z2A z.fine.length z2c) z.fine,slP 8 zU (.slice z3A z.coarse.length z3c) z.coarse,slP 3 vZ (.slice lA l.length lc) l]) (fun (k:Nat) (u:Sum) (c:Int)=>k≤l.length∧Sh.readN z none l Sum.zero 0=Sh.readN z (Sh.prevP l k) (l.drop k) u c∧(0≤c∧c≤500 * (k:Int))∧Sh.good u (30000 * (k:Int))) (fun (k:Nat) (u:Sum) (c:Int)=>l.length - k) 0 Sum.zero 0 (sc rfl (sc rfl (sc rfl (sc rfl (sc rfl (sc rfl (sc rfl (sc (ji (by first | omega | (simp [Roll.inT,Sh.bIn]; done) | (rw [hst2,List.length_append]; simp only [List.length_cons,List.length_nil]; omega) | (rw [hst2]; done) | (rw [hst2]; omega))) sn)))))))) (fun _ h=>h) ?_ (fun k u c hI1=>?_)))
 · exact ⟨by omega,rfl,by omega,by simpa using Sh.good_zero⟩
 refine zG fun _ hK10=>zB (yR rfl rfl) (zD hK10 (zS fun _ hK11=>zZ rfl (fun h2=>?_) (fun h2=>?_)))
 · refine yK hK11 (zS fun _ hK12=>zk (zG fun _ hK13=>zE rfl ?_))
   obtain ⟨ad1,hd1⟩:=hlA (ne_nil (i:=k) (by first | omega | (simp <;> omega)))
   refine zB (y6 (i:=k) rfl hd1 rfl (by omega) (by first | omega | (simp <;> omega)) underlying152 inf217) ?_
   obtain ⟨s1,hs1⟩:∃ x,l[k]?=some x:=⟨_,List.getElem?_eq_getElem (by first | omega | (simp <;> omega))⟩
   have hc91:=Sh.bIn_len z.fine s1.frm s1.to
   have hc92:=Sh.bIn_len z.coarse s1.frm s1.to
   have hc93:=Roll.inT_len z.raw s1.frm s1.to
   refine zB (vy 7 [iV s1.tier,iV s1.frm,iV s1.to] rfl rfl hd1 hs1 rfl rfl agg217 inf217) (yC wn inf217 rfl fun b11=>zP rfl (zr 0 wn rfl rfl rfl inf217 rfl rfl rfl (zD hK13 (zS fun _ hK14=>zS fun _ hK15=>vN mix (by kernel_rfl) (fun _ h=>h.drew) (zq (yM 0 [iV s1.tier,iV s1.frm,iV s1.to] rfl rfl rfl rfl agg217 inf217) (vP wn rfl call163 rfl (fun w1 hM=>gF b2 _ _ _ _ z s1 w1 (hM.blk (i:=3) rfl)) (zq (jB rfl) (yn rfl ?_))))))))
   refine vh (t:=31) rfl (fun h3=>?_) (fun h3=>?_)
   · refine yB (yB (yB (yx (wu rfl rfl) rfl (yx (wu rfl rfl) rfl (yx (wu rfl rfl) rfl (yx (wu rfl rfl) rfl (yx (wu rfl rfl) rfl (yx (wu rfl rfl) rfl (yx (wu rfl rfl) rfl (yx (wu rfl rfl) rfl (yx (wu rfl rfl) rfl ?_)))))))))))
     refine yB (zq (zM rfl rfl) (vJ (zy hK15 (vM rfl rfl (zG fun _ hK16=>zB (zz [iV 0,iV 0,iV 0,iV 0,iV 0,iV 0,iV 0] pl89 inf89 rfl rfl) (zr 2 wn rfl rfl rfl inf89 rfl rfl rfl (zP rfl (zP rfl (zD hK16 (zX (zK (yA (zK (uF (yA (zK (ud (.inl rfl) results118 (zt 2 rfl rfl agg89 inf89 rfl) (zR rfl) (zR rfl) fun w1 hM=>?_)))))))))))))))))
     have he:Sh.read z l=(Sum.zero,0,8):=Sh.read_bad h1 hI1.2.1 hs1 (.inl h3)
     rw [he]
     exact zn rfl hM
   refine yL (zi rfl) (yL (vH rfl rfl) (yL (zi rfl) (vh (t:=34) rfl (fun h4=>?_) (fun h4=>?_))))
   · refine yL (zi rfl) (yL (zi rfl) (yL (vw rfl rfl (by omega)) (yL (y6 (i:=(k - 1)) rfl hd1 rfl (by omega) (by first | omega | (simp <;> omega)) underlying152 inf217) (yL (yy rfl fld217_2) ?_))))
     obtain ⟨s2,hs2⟩:∃ x,l[(k - 1)]?=some x:=⟨_,List.getElem?_eq_getElem (by first | omega | (simp <;> omega))⟩
     refine yL (jY 8 rfl rfl hd1 hs2 rfl flat3) (yL (za rfl fld217_1) (yL (zg 0 rfl rfl rfl flat3) (yL (vD rfl rfl) (yL (zM rfl rfl) (zq (zM rfl rfl) (vJ (zy hK15 (zZ rfl (fun h5=>?_) (fun h5=>?_)))))))))
     · refine zG fun _ hK17=>zB (zz [iV 0,iV 0,iV 0,iV 0,iV 0,iV 0,iV 0] pl89 inf89 rfl rfl) (zr 2 wn rfl rfl rfl inf89 rfl rfl rfl (zP rfl (zP rfl (zD hK17 (zX (zK (yA (zK (uF (yA (zK (ud (.inl rfl) results118 (zt 2 rfl rfl agg89 inf89 rfl) (zR rfl) (zR rfl) fun w1 hM=>?_))))))))))))
       have he:Sh.read z l=(Sum.zero,0,8):=Sh.read_bad h1 hI1.2.1 hs1 (.inr ((Sh.apart_pos (by omega) hs2).2 h5))
       rw [he]
       exact zn rfl hM
     refine yK hK14 (zG fun _ hK18=>yC wn inf89 rfl fun b12=>zD hK18 (zS fun _ hK19=>zG fun _ hK20=>zB (za rfl fld217_0) (zB (zg 1 rfl rfl rfl flat3) (zD hK20 (zk (zG fun _ hK21=>zB (yf rfl rfl) ?_))))))
     refine zP rfl (zD hK21 (zZ rfl (fun h6=>?_) (fun h6=>?_)))
     · refine zG fun _ hK22=>zB (za rfl fld50_2) (zB (zg 4 rfl rfl rfl flat48) (zB (za rfl fld217_1) (zB (zg 1 rfl rfl rfl flat3) (zB (za rfl fld217_2) (zB (zg 1 rfl rfl rfl flat3) (yF wn rfl call164 rfl (fun w1 hM=>jF _ z.fine s1.frm s1.to w1 (hM.slp 7 rfl)) (zr 0 wn rfl rfl rfl inf89 rfl rfl rfl (zD hK22 (zL (zE rfl ?_))))))))))
       refine zB (za rfl fld50_2) (zB (zg 4 rfl rfl rfl flat48) (zB (yM 1 [iV s1.tier,iV s1.frm,iV s1.to] rfl rfl rfl rfl agg217 inf217) (yF wn rfl call165 rfl (fun w1 hM=>jU _ z.fine s1 w1 (hM.slp 7 rfl) (by omega)) (zB (zw rfl rfl (by omega)) (zP rfl (zl (zm (zy hK19 (zL (zB (yM 2 [iV u.count,iV u.total,iV u.min,iV u.max,iV u.first,iV u.last,iV u.rise] rfl rfl rfl rfl agg89 inf89) (zB (yM 0 [iV ((Roll.of z.fine s1.frm s1.to).count),iV ((Roll.of z.fine s1.frm s1.to).total),iV ((Roll.of z.fine s1.frm s1.to).min),iV ((Roll.of z.fine s1.frm s1.to).max),iV ((Roll.of z.fine s1.frm s1.to).first),iV ((Roll.of z.fine s1.frm s1.to).last),iV ((Roll.of z.fine s1.frm s1.to).rise)] rfl rfl rfl rfl agg89 inf89) (yF wn rfl call66 rfl (fun w1 hM=>uW u (Roll.of z.fine s1.frm s1.to) w1) (zr 2 wn rfl rfl rfl inf89 rfl rfl rfl ?_)))))))))))))
       refine zl (zm (zy hK12 (zL (zB (zw rfl rfl (by omega)) (zE rfl (zl (vI (k + 1) (Agg.join u (Roll.of z.fine s1.frm s1.to)) (c + ((Sh.bIn z.fine s1.frm s1.to).length:Int)) (sc rfl (sc rfl (sc rfl (sc rfl (sc rfl (sc rfl (sc rfl (sc (ji (by first | omega | (simp [Roll.inT,Sh.bIn]; done) | (rw [hst2,List.length_append]; simp only [List.length_cons,List.length_nil]; omega) | (rw [hst2]; done) | (rw [hst2]; omega))) sn)))))))) (S9 [2,3,4,5,6,7,8,9]) ?_ ?_)))))))
       · have hps:=Sh.partSum_1 (z:=z) h6
         have hgd:=Sh.partSum_good (Sh.ok_of h1) (Classical.not_not.1 h3)
         have hcr:=Sh.partCost_rng (Sh.ok_of h1) s1
         rw [hps.1] at hgd
         rw [hps.2] at hcr
         exact ⟨by omega,Sh.read_next hI1.2.1 hs1 (Classical.not_not.1 h3) (fun q=>h5 ((Sh.apart_pos (by omega) hs2).1 q)) hps.1 hps.2,by omega,(hI1.2.2.2.join hgd (by omega)).mono (by omega)⟩
       omega
     refine zG fun _ hK23=>zB (yf rfl rfl) (zP rfl (zD hK23 (zZ rfl (fun h7=>?_) (fun h7=>?_))))
     · refine zG fun _ hK24=>zB (za rfl fld50_3) (zB (zg 4 rfl rfl rfl flat48) (zB (za rfl fld217_1) (zB (zg 1 rfl rfl rfl flat3) (zB (za rfl fld217_2) (zB (zg 1 rfl rfl rfl flat3) (yF wn rfl call164 rfl (fun w1 hM=>jF _ z.coarse s1.frm s1.to w1 (hM.slp 8 rfl)) (zr 0 wn rfl rfl rfl inf89 rfl rfl rfl (zD hK24 (zL (zE rfl ?_))))))))))
       refine zB (za rfl fld50_3) (zB (zg 4 rfl rfl rfl flat48) (zB (yM 1 [iV s1.tier,iV s1.frm,iV s1.to] rfl rfl rfl rfl agg217 inf217) (yF wn rfl call165 rfl (fun w1 hM=>jU _ z.coarse s1 w1 (hM.slp 8 rfl) (by omega)) (zB (zw rfl rfl (by omega)) (zP rfl (zl (zm (zy hK19 (zL (zB (yM 2 [iV u.count,iV u.total,iV u.min,iV u.max,iV u.first,iV u.last,iV u.rise] rfl rfl rfl rfl agg89 inf89) (zB (yM 0 [iV ((Roll.of z.coarse s1.frm s1.to).count),iV ((Roll.of z.coarse s1.frm s1.to).total),iV ((Roll.of z.coarse s1.frm s1.to).min),iV ((Roll.of z.coarse s1.frm s1.to).max),iV ((Roll.of z.coarse s1.frm s1.to).first),iV ((Roll.of z.coarse s1.frm s1.to).last),iV ((Roll.of z.coarse s1.frm s1.to).rise)] rfl rfl rfl rfl agg89 inf89) (yF wn rfl call66 rfl (fun w1 hM=>uW u (Roll.of z.coarse s1.frm s1.to) w1) (zr 2 wn rfl rfl rfl inf89 rfl rfl rfl ?_)))))))))))))
       refine zl (zm (zy hK12 (zL (zB (zw rfl rfl (by omega)) (zE rfl (zl (vI (k + 1) (Agg.join u (Roll.of z.coarse s1.frm s1.to)) (c + ((Sh.bIn z.coarse s1.frm s1.to).length:Int)) (sc rfl (sc rfl (sc rfl (sc rfl (sc rfl (sc rfl (sc rfl (sc (ji (by first | omega | (simp [Roll.inT,Sh.bIn]; done) | (rw [hst2,List.length_append]; simp only [List.length_cons,List.length_nil]; omega) | (rw [hst2]; done) | (rw [hst2]; omega))) sn)))))))) (S9 [2,3,4,5,6,7,8,9]) ?_ ?_)))))))
       · have hps:=Sh.partSum_2 (z:=z) h6 h7
         have hgd:=Sh.partSum_good (Sh.ok_of h1) (Classical.not_not.1 h3)
         have hcr:=Sh.partCost_rng (Sh.ok_of h1) s1
         rw [hps.1] at hgd
         rw [hps.2] at hcr
         exact ⟨by omega,Sh.read_next hI1.2.1 hs1 (Classical.not_not.1 h3) (fun q=>h5 ((Sh.apart_pos (by omega) hs2).1 q)) hps.1 hps.2,by omega,(hI1.2.2.2.join hgd (by omega)).mono (by omega)⟩
       omega
     refine zG fun _ hK25=>zB (za rfl fld50_1) (zB (zg 4 rfl rfl rfl flat47) (zB (yW rfl underlying47) (zE rfl (zD hK25 (zk (y8 (fun (j:Nat)=>[(1,.slice lA l.length lc),(2,.pointer (some ⟨b2,0,none⟩)),(4,.pointer (some ⟨b4,0,none⟩)),(8,.pointer (some ⟨b8,0,none⟩)),(9,iV (c + ((Roll.inT (z.raw.take j) s1.frm s1.to).length:Int))),(11,.pointer (some ⟨b11,0,none⟩)),(12,.pointer (some ⟨b12,0,none⟩)),(21,.slice lA l.length lc),(22,iV l.length),(23,iV k),(50,.slice z1A z.raw.length z1c),(51,iV z.raw.length),(52,iV j)]) (fun (j:Nat)=>[.blk b12 [iV ((Agg.of (Roll.inT (z.raw.take j) s1.frm s1.to)).count),iV ((Agg.of (Roll.inT (z.raw.take j) s1.frm s1.to)).total),iV ((Agg.of (Roll.inT (z.raw.take j) s1.frm s1.to)).min),iV ((Agg.of (Roll.inT (z.raw.take j) s1.frm s1.to)).max),iV ((Agg.of (Roll.inT (z.raw.take j) s1.frm s1.to)).first),iV ((Agg.of (Roll.inT (z.raw.take j) s1.frm s1.to)).last),iV ((Agg.of (Roll.inT (z.raw.take j) s1.frm s1.to)).rise)] 89,.blk b11 [iV s1.tier,iV s1.frm,iV s1.to] 217,.blk b8 [iV u.count,iV u.total,iV u.min,iV u.max,iV u.first,iV u.last,iV u.rise] 89,.blk b4 [iV 0,iV 0,iV 0,iV 0,iV 0,iV 0,iV 0] 89,.blk b2 [.slice z0A z.zV.length z0c,.slice z1A z.raw.length z1c,.slice z2A z.fine.length z2c,.slice z3A z.coarse.length z3c,iV z.ze,iV z.zW,iV z.zI,iV z.zN,iV z.zH] 50,slP 2 zj (.slice z0A z.zV.length z0c) z.zV,slP 2 zo (.slice z1A z.raw.length z1c) z.raw,slP 8 zU (.slice z2A z.fine.length z2c) z.fine,slP 8 zU (.slice z3A z.coarse.length z3c) z.coarse,slP 3 vZ (.slice lA l.length lc) l]) (fun (j:Nat)=>j≤z.raw.length) (fun (j:Nat)=>z.raw.length - j) 0 (sc rfl (sc rfl (sc rfl (sc rfl (sc (ji (by first | omega | (simp [Roll.inT,Sh.bIn]; done) | (rw [hst2,List.length_append]; simp only [List.length_cons,List.length_nil]; omega) | (rw [hst2]; done) | (rw [hst2]; omega))) (sc rfl (sc rfl (sc rfl (sc rfl (sc rfl (sc rfl (sc rfl (sc (ji (by first | omega | (simp [Roll.inT,Sh.bIn]; done) | (rw [hst2,List.length_append]; simp only [List.length_cons,List.length_nil]; omega) | (rw [hst2]; done) | (rw [hst2]; omega))) sn))))))))))))) (fun _ h=>h) ?_ (fun j hI2=>?_)))))))
     · omega
     have hlj:=Nat.le_trans (Roll.inT_len (z.raw.take j) s1.frm s1.to) (List.length_take_le' j z.raw)
     refine zG fun _ hK26=>zB (yR rfl rfl) (zD hK26 (zS fun _ hK27=>zZ rfl (fun h8=>?_) (fun h8=>?_)))
     · refine yK hK27 (zS fun _ hK28=>zk (zG fun _ hK29=>?_))
       obtain ⟨ad2,hd2⟩:=hz1A (ne_nil (i:=j) (by first | omega | (simp <;> omega)))
       refine zB (y6 (i:=j) rfl hd2 rfl (by omega) (by first | omega | (simp <;> omega)) underlying47 inf41) ?_
       obtain ⟨s3,hs3⟩:∃ x,z.raw[j]?=some x:=⟨_,List.getElem?_eq_getElem (by first | omega | (simp <;> omega))⟩
       refine zB (vy 6 [iV s3.time,iV s3.value] rfl rfl hd2 hs3 rfl rfl agg41 inf41) (yC wn inf41 rfl fun b14=>zr 0 wn rfl rfl rfl inf41 rfl rfl rfl (zD hK29 (zG fun _ hK30=>zB (za rfl fld41_0) (zB (zg 0 rfl rfl rfl flat3) (zB (za rfl fld217_1) (zB (zg 2 rfl rfl rfl flat3) (zB (vn rfl rfl) (zE rfl (yQ (t:=61) rfl (fun h9=>?_) (fun h9=>?_))))))))))
       · refine zb (za rfl fld41_0) (zb (zg 0 rfl rfl rfl flat3) (zb (za rfl fld217_2) (zb (zg 2 rfl rfl rfl flat3) (zb (yR rfl rfl) (zB (zM rfl rfl) (zD hK30 (zZ rfl (fun h10=>?_) (fun h10=>?_))))))))
         · refine zS fun _ hK31=>va 5 mix (by kernel_rfl) (fun _ h=>h.drew) fun _ hT1=>zq (yM 1 [iV ((Agg.of (Roll.inT (z.raw.take j) s1.frm s1.to)).count),iV ((Agg.of (Roll.inT (z.raw.take j) s1.frm s1.to)).total),iV ((Agg.of (Roll.inT (z.raw.take j) s1.frm s1.to)).min),iV ((Agg.of (Roll.inT (z.raw.take j) s1.frm s1.to)).max),iV ((Agg.of (Roll.inT (z.raw.take j) s1.frm s1.to)).first),iV ((Agg.of (Roll.inT (z.raw.take j) s1.frm s1.to)).last),iV ((Agg.of (Roll.inT (z.raw.take j) s1.frm s1.to)).rise)] rfl rfl rfl rfl agg89 inf89) (zq (za rfl fld41_1) (zq (zg 0 rfl rfl rfl flat3) (vP wn rfl call67 rfl (fun w1 hM=>gN s3.value w1) (vP wn rfl call66 rfl (fun w1 hM=>uW (Agg.of (Roll.inT (z.raw.take j) s1.frm s1.to)) (Agg.one s3.value) w1) (v8 hT1 (zr 1 wn rfl rfl rfl inf89 rfl rfl rfl (zD hK31 (zL (zE rfl ?_)))))))))
           refine zB (zw rfl rfl (by omega)) (zP rfl (zl (zm (zy hK28 (zL (zB (zw rfl rfl (by omega)) (zE rfl ?_)))))))
           have hst:=(Sh.inT_of_succ (a:=s1.frm) (b:=s1.to) hs3).trans (if_pos (by omega))
           have hst2:=(Roll.inT_succ (a:=s1.frm) (b:=s1.to) hs3).trans (if_pos (by omega))
           refine zl (yX (j + 1) (sc rfl (sc rfl (sc rfl (sc rfl (sc (ji (by first | omega | (simp [Roll.inT,Sh.bIn]; done) | (rw [hst2,List.length_append]; simp only [List.length_cons,List.length_nil]; omega) | (rw [hst2]; done) | (rw [hst2]; omega))) (sc rfl (sc rfl (sc rfl (sc rfl (sc rfl (sc rfl (sc rfl (sc (ji (by first | omega | (simp [Roll.inT,Sh.bIn]; done) | (rw [hst2,List.length_append]; simp only [List.length_cons,List.length_nil]; omega) | (rw [hst2]; done) | (rw [hst2]; omega))) sn))))))))))))) (fun _ h=>by rw [hst]; exact (h.sel [1,2,3,4,5,6,7,8,9,10] (by decide) rfl)) ?_ ?_)
           · omega
           omega
         refine yU (zm (zy hK28 (zL (zB (zw rfl rfl (by omega)) (zE rfl ?_)))))
         have hst:=(Sh.inT_of_succ (a:=s1.frm) (b:=s1.to) hs3).trans (if_neg (by omega))
         have hst2:=(Roll.inT_succ (a:=s1.frm) (b:=s1.to) hs3).trans (if_neg (by omega))
         refine zl (yX (j + 1) (sc rfl (sc rfl (sc rfl (sc rfl (sc (ji (by first | omega | (simp [Roll.inT,Sh.bIn]; done) | (rw [hst2,List.length_append]; simp only [List.length_cons,List.length_nil]; omega) | (rw [hst2]; done) | (rw [hst2]; omega))) (sc rfl (sc rfl (sc rfl (sc rfl (sc rfl (sc rfl (sc rfl (sc (ji (by first | omega | (simp [Roll.inT,Sh.bIn]; done) | (rw [hst2,List.length_append]; simp only [List.length_cons,List.length_nil]; omega) | (rw [hst2]; done) | (rw [hst2]; omega))) sn))))))))))))) (fun _ h=>by rw [hst]; exact (h.sel [1,2,3,4,5,6,7,8,9,10] (by decide) rfl)) ?_ ?_)
         · omega
         omega
       refine zQ (zQ (zQ (zQ (zQ (zB (zM rfl rfl) (zD hK30 (yr rfl rfl (yU (zm (zy hK28 (zL (zB (zw rfl rfl (by omega)) (zE rfl ?_)))))))))))))
       have hst:=(Sh.inT_of_succ (a:=s1.frm) (b:=s1.to) hs3).trans (if_neg (by omega))
       have hst2:=(Roll.inT_succ (a:=s1.frm) (b:=s1.to) hs3).trans (if_neg (by omega))
       refine zl (yX (j + 1) (sc rfl (sc rfl (sc rfl (sc rfl (sc (ji (by first | omega | (simp [Roll.inT,Sh.bIn]; done) | (rw [hst2,List.length_append]; simp only [List.length_cons,List.length_nil]; omega) | (rw [hst2]; done) | (rw [hst2]; omega))) (sc rfl (sc rfl (sc rfl (sc rfl (sc rfl (sc rfl (sc rfl (sc (ji (by first | omega | (simp [Roll.inT,Sh.bIn]; done) | (rw [hst2,List.length_append]; simp only [List.length_cons,List.length_nil]; omega) | (rw [hst2]; done) | (rw [hst2]; omega))) sn))))))))))))) (fun _ h=>by rw [hst]; exact (h.sel [1,2,3,4,5,6,7,8,9,10] (by decide) rfl)) ?_ ?_)
       · omega
       omega
     have hk1:z.raw.take j=z.raw:=List.take_of_length_le (by omega)
     rw [hk1]
     refine yZ (yH (yj (yI (zm (zy hK19 (zL (zB (yM 2 [iV u.count,iV u.total,iV u.min,iV u.max,iV u.first,iV u.last,iV u.rise] rfl rfl rfl rfl agg89 inf89) (zB (yM 0 [iV ((Agg.of (Roll.inT z.raw s1.frm s1.to)).count),iV ((Agg.of (Roll.inT z.raw s1.frm s1.to)).total),iV ((Agg.of (Roll.inT z.raw s1.frm s1.to)).min),iV ((Agg.of (Roll.inT z.raw s1.frm s1.to)).max),iV ((Agg.of (Roll.inT z.raw s1.frm s1.to)).first),iV ((Agg.of (Roll.inT z.raw s1.frm s1.to)).last),iV ((Agg.of (Roll.inT z.raw s1.frm s1.to)).rise)] rfl rfl rfl rfl agg89 inf89) (yF wn rfl call66 rfl (fun w1 hM=>uW u (Agg.of (Roll.inT z.raw s1.frm s1.to)) w1) (zr 2 wn rfl rfl rfl inf89 rfl rfl rfl (zl (zm (zy hK12 (zL (zB (zw rfl rfl (by omega)) (zE rfl (zl (vI (k + 1) (Agg.join u (Agg.of (Roll.inT z.raw s1.frm s1.to))) (c + ((Roll.inT z.raw s1.frm s1.to).length:Int)) (sc rfl (sc rfl (sc rfl (sc rfl (sc rfl (sc rfl (sc rfl (sc (ji (by first | omega | (simp [Roll.inT,Sh.bIn]; done) | (rw [hst2,List.length_append]; simp only [List.length_cons,List.length_nil]; omega) | (rw [hst2]; done) | (rw [hst2]; omega))) sn)))))))) (S9 [2,3,4,5,6,7,8,9]) ?_ ?_))))))))))))))))))
     · have hps:=Sh.partSum_0 (z:=z) h6 h7
       have hgd:=Sh.partSum_good (Sh.ok_of h1) (Classical.not_not.1 h3)
       have hcr:=Sh.partCost_rng (Sh.ok_of h1) s1
       rw [hps.1] at hgd
       rw [hps.2] at hcr
       exact ⟨by omega,Sh.read_next hI1.2.1 hs1 (Classical.not_not.1 h3) (fun q=>h5 ((Sh.apart_pos (by omega) hs2).1 q)) hps.1 hps.2,by omega,(hI1.2.2.2.join hgd (by omega)).mono (by omega)⟩
     omega
   refine yB (yB (yB (yB (yB (yB (yB (yB (yB (yL (zM rfl rfl) (zq (zM rfl rfl) (vJ (zy hK15 ?_))))))))))))
   refine yr rfl rfl (yK hK14 (zG fun _ hK32=>yC wn inf89 rfl fun b12=>zD hK32 (zS fun _ hK33=>zG fun _ hK34=>zB (za rfl fld217_0) (zB (zg 1 rfl rfl rfl flat3) (zD hK34 (zk (zG fun _ hK35=>?_)))))))
   refine zB (yf rfl rfl) (zP rfl (zD hK35 (zZ rfl (fun h11=>?_) (fun h11=>?_))))
   · refine zG fun _ hK36=>zB (za rfl fld50_2) (zB (zg 4 rfl rfl rfl flat48) (zB (za rfl fld217_1) (zB (zg 1 rfl rfl rfl flat3) (zB (za rfl fld217_2) (zB (zg 1 rfl rfl rfl flat3) (yF wn rfl call164 rfl (fun w1 hM=>jF _ z.fine s1.frm s1.to w1 (hM.slp 7 rfl)) (zr 0 wn rfl rfl rfl inf89 rfl rfl rfl (zD hK36 (zL (zE rfl ?_))))))))))
     refine zB (za rfl fld50_2) (zB (zg 4 rfl rfl rfl flat48) (zB (yM 1 [iV s1.tier,iV s1.frm,iV s1.to] rfl rfl rfl rfl agg217 inf217) (yF wn rfl call165 rfl (fun w1 hM=>jU _ z.fine s1 w1 (hM.slp 7 rfl) (by omega)) (zB (zw rfl rfl (by omega)) (zP rfl (zl (zm (zy hK33 (zL (zB (yM 2 [iV u.count,iV u.total,iV u.min,iV u.max,iV u.first,iV u.last,iV u.rise] rfl rfl rfl rfl agg89 inf89) (zB (yM 0 [iV ((Roll.of z.fine s1.frm s1.to).count),iV ((Roll.of z.fine s1.frm s1.to).total),iV ((Roll.of z.fine s1.frm s1.to).min),iV ((Roll.of z.fine s1.frm s1.to).max),iV ((Roll.of z.fine s1.frm s1.to).first),iV ((Roll.of z.fine s1.frm s1.to).last),iV ((Roll.of z.fine s1.frm s1.to).rise)] rfl rfl rfl rfl agg89 inf89) (yF wn rfl call66 rfl (fun w1 hM=>uW u (Roll.of z.fine s1.frm s1.to) w1) (zr 2 wn rfl rfl rfl inf89 rfl rfl rfl ?_)))))))))))))
     refine zl (zm (zy hK12 (zL (zB (zw rfl rfl (by omega)) (zE rfl (zl (vI (k + 1) (Agg.join u (Roll.of z.fine s1.frm s1.to)) (c + ((Sh.bIn z.fine s1.frm s1.to).length:Int)) (sc rfl (sc rfl (sc rfl (sc rfl (sc rfl (sc rfl (sc rfl (sc (ji (by first | omega | (simp [Roll.inT,Sh.bIn]; done) | (rw [hst2,List.length_append]; simp only [List.length_cons,List.length_nil]; omega) | (rw [hst2]; done) | (rw [hst2]; omega))) sn)))))))) (S9 [2,3,4,5,6,7,8,9]) ?_ ?_)))))))
     · have hps:=Sh.partSum_1 (z:=z) h11
       have hgd:=Sh.partSum_good (Sh.ok_of h1) (Classical.not_not.1 h3)
       have hcr:=Sh.partCost_rng (Sh.ok_of h1) s1
       rw [hps.1] at hgd
       rw [hps.2] at hcr
       exact ⟨by omega,Sh.read_next hI1.2.1 hs1 (Classical.not_not.1 h3) (Sh.apart_zero (by omega)) hps.1 hps.2,by omega,(hI1.2.2.2.join hgd (by omega)).mono (by omega)⟩
     omega
   refine zG fun _ hK37=>zB (yf rfl rfl) (zP rfl (zD hK37 (zZ rfl (fun h12=>?_) (fun h12=>?_))))
   · refine zG fun _ hK38=>zB (za rfl fld50_3) (zB (zg 4 rfl rfl rfl flat48) (zB (za rfl fld217_1) (zB (zg 1 rfl rfl rfl flat3) (zB (za rfl fld217_2) (zB (zg 1 rfl rfl rfl flat3) (yF wn rfl call164 rfl (fun w1 hM=>jF _ z.coarse s1.frm s1.to w1 (hM.slp 8 rfl)) (zr 0 wn rfl rfl rfl inf89 rfl rfl rfl (zD hK38 (zL (zE rfl ?_))))))))))
     refine zB (za rfl fld50_3) (zB (zg 4 rfl rfl rfl flat48) (zB (yM 1 [iV s1.tier,iV s1.frm,iV s1.to] rfl rfl rfl rfl agg217 inf217) (yF wn rfl call165 rfl (fun w1 hM=>jU _ z.coarse s1 w1 (hM.slp 8 rfl) (by omega)) (zB (zw rfl rfl (by omega)) (zP rfl (zl (zm (zy hK33 (zL (zB (yM 2 [iV u.count,iV u.total,iV u.min,iV u.max,iV u.first,iV u.last,iV u.rise] rfl rfl rfl rfl agg89 inf89) (zB (yM 0 [iV ((Roll.of z.coarse s1.frm s1.to).count),iV ((Roll.of z.coarse s1.frm s1.to).total),iV ((Roll.of z.coarse s1.frm s1.to).min),iV ((Roll.of z.coarse s1.frm s1.to).max),iV ((Roll.of z.coarse s1.frm s1.to).first),iV ((Roll.of z.coarse s1.frm s1.to).last),iV ((Roll.of z.coarse s1.frm s1.to).rise)] rfl rfl rfl rfl agg89 inf89) (yF wn rfl call66 rfl (fun w1 hM=>uW u (Roll.of z.coarse s1.frm s1.to) w1) (zr 2 wn rfl rfl rfl inf89 rfl rfl rfl ?_)))))))))))))
     refine zl (zm (zy hK12 (zL (zB (zw rfl rfl (by omega)) (zE rfl (zl (vI (k + 1) (Agg.join u (Roll.of z.coarse s1.frm s1.to)) (c + ((Sh.bIn z.coarse s1.frm s1.to).length:Int)) (sc rfl (sc rfl (sc rfl (sc rfl (sc rfl (sc rfl (sc rfl (sc (ji (by first | omega | (simp [Roll.inT,Sh.bIn]; done) | (rw [hst2,List.length_append]; simp only [List.length_cons,List.length_nil]; omega) | (rw [hst2]; done) | (rw [hst2]; omega))) sn)))))))) (S9 [2,3,4,5,6,7,8,9]) ?_ ?_)))))))
     · have hps:=Sh.partSum_2 (z:=z) h11 h12
       have hgd:=Sh.partSum_good (Sh.ok_of h1) (Classical.not_not.1 h3)
       have hcr:=Sh.partCost_rng (Sh.ok_of h1) s1
       rw [hps.1] at hgd
       rw [hps.2] at hcr
       exact ⟨by omega,Sh.read_next hI1.2.1 hs1 (Classical.not_not.1 h3) (Sh.apart_zero (by omega)) hps.1 hps.2,by omega,(hI1.2.2.2.join hgd (by omega)).mono (by omega)⟩
     omega
   refine zG fun _ hK39=>zB (za rfl fld50_1) (zB (zg 4 rfl rfl rfl flat47) (zB (yW rfl underlying47) (zE rfl (zD hK39 (zk (y8 (fun (j:Nat)=>[(1,.slice lA l.length lc),(2,.pointer (some ⟨b2,0,none⟩)),(4,.pointer (some ⟨b4,0,none⟩)),(8,.pointer (some ⟨b8,0,none⟩)),(9,iV (c + ((Roll.inT (z.raw.take j) s1.frm s1.to).length:Int))),(11,.pointer (some ⟨b11,0,none⟩)),(12,.pointer (some ⟨b12,0,none⟩)),(21,.slice lA l.length lc),(22,iV l.length),(23,iV k),(50,.slice z1A z.raw.length z1c),(51,iV z.raw.length),(52,iV j)]) (fun (j:Nat)=>[.blk b12 [iV ((Agg.of (Roll.inT (z.raw.take j) s1.frm s1.to)).count),iV ((Agg.of (Roll.inT (z.raw.take j) s1.frm s1.to)).total),iV ((Agg.of (Roll.inT (z.raw.take j) s1.frm s1.to)).min),iV ((Agg.of (Roll.inT (z.raw.take j) s1.frm s1.to)).max),iV ((Agg.of (Roll.inT (z.raw.take j) s1.frm s1.to)).first),iV ((Agg.of (Roll.inT (z.raw.take j) s1.frm s1.to)).last),iV ((Agg.of (Roll.inT (z.raw.take j) s1.frm s1.to)).rise)] 89,.blk b11 [iV s1.tier,iV s1.frm,iV s1.to] 217,.blk b8 [iV u.count,iV u.total,iV u.min,iV u.max,iV u.first,iV u.last,iV u.rise] 89,.blk b4 [iV 0,iV 0,iV 0,iV 0,iV 0,iV 0,iV 0] 89,.blk b2 [.slice z0A z.zV.length z0c,.slice z1A z.raw.length z1c,.slice z2A z.fine.length z2c,.slice z3A z.coarse.length z3c,iV z.ze,iV z.zW,iV z.zI,iV z.zN,iV z.zH] 50,slP 2 zj (.slice z0A z.zV.length z0c) z.zV,slP 2 zo (.slice z1A z.raw.length z1c) z.raw,slP 8 zU (.slice z2A z.fine.length z2c) z.fine,slP 8 zU (.slice z3A z.coarse.length z3c) z.coarse,slP 3 vZ (.slice lA l.length lc) l]) (fun (j:Nat)=>j≤z.raw.length) (fun (j:Nat)=>z.raw.length - j) 0 (sc rfl (sc rfl (sc rfl (sc rfl (sc (ji (by first | omega | (simp [Roll.inT,Sh.bIn]; done) | (rw [hst2,List.length_append]; simp only [List.length_cons,List.length_nil]; omega) | (rw [hst2]; done) | (rw [hst2]; omega))) (sc rfl (sc rfl (sc rfl (sc rfl (sc rfl (sc rfl (sc rfl (sc (ji (by first | omega | (simp [Roll.inT,Sh.bIn]; done) | (rw [hst2,List.length_append]; simp only [List.length_cons,List.length_nil]; omega) | (rw [hst2]; done) | (rw [hst2]; omega))) sn))))))))))))) (fun _ h=>h) ?_ (fun j hI3=>?_)))))))
   · omega
   have hlj:=Nat.le_trans (Roll.inT_len (z.raw.take j) s1.frm s1.to) (List.length_take_le' j z.raw)
   refine zG fun _ hK40=>zB (yR rfl rfl) (zD hK40 (zS fun _ hK41=>zZ rfl (fun h13=>?_) (fun h13=>?_)))
   · refine yK hK41 (zS fun _ hK42=>zk (zG fun _ hK43=>?_))
     obtain ⟨ad3,hd3⟩:=hz1A (ne_nil (i:=j) (by first | omega | (simp <;> omega)))
     refine zB (y6 (i:=j) rfl hd3 rfl (by omega) (by first | omega | (simp <;> omega)) underlying47 inf41) ?_
     obtain ⟨s4,hs4⟩:∃ x,z.raw[j]?=some x:=⟨_,List.getElem?_eq_getElem (by first | omega | (simp <;> omega))⟩
     refine zB (vy 6 [iV s4.time,iV s4.value] rfl rfl hd3 hs4 rfl rfl agg41 inf41) (yC wn inf41 rfl fun b14=>zr 0 wn rfl rfl rfl inf41 rfl rfl rfl (zD hK43 (zG fun _ hK44=>zB (za rfl fld41_0) (zB (zg 0 rfl rfl rfl flat3) (zB (za rfl fld217_1) (zB (zg 2 rfl rfl rfl flat3) (zB (vn rfl rfl) (zE rfl (yQ (t:=61) rfl (fun h14=>?_) (fun h14=>?_))))))))))
     · refine zb (za rfl fld41_0) (zb (zg 0 rfl rfl rfl flat3) (zb (za rfl fld217_2) (zb (zg 2 rfl rfl rfl flat3) (zb (yR rfl rfl) (zB (zM rfl rfl) (zD hK44 (zZ rfl (fun h15=>?_) (fun h15=>?_))))))))
       · refine zS fun _ hK45=>va 5 mix (by kernel_rfl) (fun _ h=>h.drew) fun _ hT2=>zq (yM 1 [iV ((Agg.of (Roll.inT (z.raw.take j) s1.frm s1.to)).count),iV ((Agg.of (Roll.inT (z.raw.take j) s1.frm s1.to)).total),iV ((Agg.of (Roll.inT (z.raw.take j) s1.frm s1.to)).min),iV ((Agg.of (Roll.inT (z.raw.take j) s1.frm s1.to)).max),iV ((Agg.of (Roll.inT (z.raw.take j) s1.frm s1.to)).first),iV ((Agg.of (Roll.inT (z.raw.take j) s1.frm s1.to)).last),iV ((Agg.of (Roll.inT (z.raw.take j) s1.frm s1.to)).rise)] rfl rfl rfl rfl agg89 inf89) (zq (za rfl fld41_1) (zq (zg 0 rfl rfl rfl flat3) (vP wn rfl call67 rfl (fun w1 hM=>gN s4.value w1) (vP wn rfl call66 rfl (fun w1 hM=>uW (Agg.of (Roll.inT (z.raw.take j) s1.frm s1.to)) (Agg.one s4.value) w1) (v8 hT2 (zr 1 wn rfl rfl rfl inf89 rfl rfl rfl (zD hK45 (zL (zE rfl ?_)))))))))
         refine zB (zw rfl rfl (by omega)) (zP rfl (zl (zm (zy hK42 (zL (zB (zw rfl rfl (by omega)) (zE rfl ?_)))))))
         have hst:=(Sh.inT_of_succ (a:=s1.frm) (b:=s1.to) hs4).trans (if_pos (by omega))
         have hst2:=(Roll.inT_succ (a:=s1.frm) (b:=s1.to) hs4).trans (if_pos (by omega))
         refine zl (yX (j + 1) (sc rfl (sc rfl (sc rfl (sc rfl (sc (ji (by first | omega | (simp [Roll.inT,Sh.bIn]; done) | (rw [hst2,List.length_append]; simp only [List.length_cons,List.length_nil]; omega) | (rw [hst2]; done) | (rw [hst2]; omega))) (sc rfl (sc rfl (sc rfl (sc rfl (sc rfl (sc rfl (sc rfl (sc (ji (by first | omega | (simp [Roll.inT,Sh.bIn]; done) | (rw [hst2,List.length_append]; simp only [List.length_cons,List.length_nil]; omega) | (rw [hst2]; done) | (rw [hst2]; omega))) sn))))))))))))) (fun _ h=>by rw [hst]; exact (h.sel [1,2,3,4,5,6,7,8,9,10] (by decide) rfl)) ?_ ?_)
         · omega
         omega
       refine yU (zm (zy hK42 (zL (zB (zw rfl rfl (by omega)) (zE rfl ?_)))))
       have hst:=(Sh.inT_of_succ (a:=s1.frm) (b:=s1.to) hs4).trans (if_neg (by omega))
       have hst2:=(Roll.inT_succ (a:=s1.frm) (b:=s1.to) hs4).trans (if_neg (by omega))
       refine zl (yX (j + 1) (sc rfl (sc rfl (sc rfl (sc rfl (sc (ji (by first | omega | (simp [Roll.inT,Sh.bIn]; done) | (rw [hst2,List.length_append]; simp only [List.length_cons,List.length_nil]; omega) | (rw [hst2]; done) | (rw [hst2]; omega))) (sc rfl (sc rfl (sc rfl (sc rfl (sc rfl (sc rfl (sc rfl (sc (ji (by first | omega | (simp [Roll.inT,Sh.bIn]; done) | (rw [hst2,List.length_append]; simp only [List.length_cons,List.length_nil]; omega) | (rw [hst2]; done) | (rw [hst2]; omega))) sn))))))))))))) (fun _ h=>by rw [hst]; exact (h.sel [1,2,3,4,5,6,7,8,9,10] (by decide) rfl)) ?_ ?_)
       · omega
       omega
     refine zQ (zQ (zQ (zQ (zQ (zB (zM rfl rfl) (zD hK44 (yr rfl rfl (yU (zm (zy hK42 (zL (zB (zw rfl rfl (by omega)) (zE rfl ?_)))))))))))))
     have hst:=(Sh.inT_of_succ (a:=s1.frm) (b:=s1.to) hs4).trans (if_neg (by omega))
     have hst2:=(Roll.inT_succ (a:=s1.frm) (b:=s1.to) hs4).trans (if_neg (by omega))
     refine zl (yX (j + 1) (sc rfl (sc rfl (sc rfl (sc rfl (sc (ji (by first | omega | (simp [Roll.inT,Sh.bIn]; done) | (rw [hst2,List.length_append]; simp only [List.length_cons,List.length_nil]; omega) | (rw [hst2]; done) | (rw [hst2]; omega))) (sc rfl (sc rfl (sc rfl (sc rfl (sc rfl (sc rfl (sc rfl (sc (ji (by first | omega | (simp [Roll.inT,Sh.bIn]; done) | (rw [hst2,List.length_append]; simp only [List.length_cons,List.length_nil]; omega) | (rw [hst2]; done) | (rw [hst2]; omega))) sn))))))))))))) (fun _ h=>by rw [hst]; exact (h.sel [1,2,3,4,5,6,7,8,9,10] (by decide) rfl)) ?_ ?_)
     · omega
     omega
   have hk2:z.raw.take j=z.raw:=List.take_of_length_le (by omega)
   rw [hk2]
   refine yZ (yH (yj (yI (zm (zy hK33 (zL (zB (yM 2 [iV u.count,iV u.total,iV u.min,iV u.max,iV u.first,iV u.last,iV u.rise] rfl rfl rfl rfl agg89 inf89) (zB (yM 0 [iV ((Agg.of (Roll.inT z.raw s1.frm s1.to)).count),iV ((Agg.of (Roll.inT z.raw s1.frm s1.to)).total),iV ((Agg.of (Roll.inT z.raw s1.frm s1.to)).min),iV ((Agg.of (Roll.inT z.raw s1.frm s1.to)).max),iV ((Agg.of (Roll.inT z.raw s1.frm s1.to)).first),iV ((Agg.of (Roll.inT z.raw s1.frm s1.to)).last),iV ((Agg.of (Roll.inT z.raw s1.frm s1.to)).rise)] rfl rfl rfl rfl agg89 inf89) (yF wn rfl call66 rfl (fun w1 hM=>uW u (Agg.of (Roll.inT z.raw s1.frm s1.to)) w1) (zr 2 wn rfl rfl rfl inf89 rfl rfl rfl (zl (zm (zy hK12 (zL (zB (zw rfl rfl (by omega)) (zE rfl (zl (vI (k + 1) (Agg.join u (Agg.of (Roll.inT z.raw s1.frm s1.to))) (c + ((Roll.inT z.raw s1.frm s1.to).length:Int)) (sc rfl (sc rfl (sc rfl (sc rfl (sc rfl (sc rfl (sc rfl (sc (ji (by first | omega | (simp [Roll.inT,Sh.bIn]; done) | (rw [hst2,List.length_append]; simp only [List.length_cons,List.length_nil]; omega) | (rw [hst2]; done) | (rw [hst2]; omega))) sn)))))))) (S9 [2,3,4,5,6,7,8,9]) ?_ ?_))))))))))))))))))
   · have hps:=Sh.partSum_0 (z:=z) h11 h12
     have hgd:=Sh.partSum_good (Sh.ok_of h1) (Classical.not_not.1 h3)
     have hcr:=Sh.partCost_rng (Sh.ok_of h1) s1
     rw [hps.1] at hgd
     rw [hps.2] at hcr
     exact ⟨by omega,Sh.read_next hI1.2.1 hs1 (Classical.not_not.1 h3) (Sh.apart_zero (by omega)) hps.1 hps.2,by omega,(hI1.2.2.2.join hgd (by omega)).mono (by omega)⟩
   omega
 refine yZ (yH (uN (yI (zy hK8 (zG fun _ hK46=>zB (yM 0 [iV u.count,iV u.total,iV u.min,iV u.max,iV u.first,iV u.last,iV u.rise] rfl rfl rfl rfl agg89 inf89) (zE rfl (zr 1 wn rfl rfl rfl inf89 rfl rfl rfl (zP rfl (zP rfl (zD hK46 (zX (ud (.inl rfl) results118 (zt 1 rfl rfl agg89 inf89 rfl) (zR rfl) (zR rfl) fun w1 hM=>?_))))))))))))
 have he:Sh.read z l=(u,c,0):=Sh.read_ok h1 hI1.2.1 (by omega)
 rw [he]
 exact zn rfl hM
end
section
open Tryz
open Ex
set_option linter.unusedVariables false
set_option linter.unusedSimpArgs false
theorem c_idxX (lv : Value) (l : List zC) (f : Nat) (fcap : Array Value) (fp : zC → Bool) (P0 : Nat → Prop) (w : World) (hP0 : ∀ b, P0 b → b < w.heap.size) (hl : zJ P0 7 yl lv l w) (hla : ∀ x ∈ l, zC.Ok P0 x w) (fc : ∀ vs w, (callFunc f vs).run prog w = .ok (.enter f vs) w) (fh : ∀ x : zC, x ∈ l → ∀ w1 : World, Fr no w w1 → Calls prog f (#[.agg (yl x).toArray] ++ fcap) w1 (Ret w1 (.bool (fp x))))  :
    Calls prog 214 #[lv,.func (.func f) #[] fcap] w (Ret w (iV (Sh.idx fp l))):=by
 have hwl:∀ x ∈ l,zC.Wf x:=fun x hx=>(hla x hx).wf
 obtain ⟨lA,lc,rfl,hlc,hlm,hlA⟩:=hl.form
 refine fstart (N:=19) (vals:=[.slice lA l.length lc,.func (.func f) #[] fcap]) (S:=Mem w ⟨no,P0⟩ [slP 7 yl (.slice lA l.length lc) l,allP zC.Ok l]) func214 rfl rfl rfl (Mem.ofDatsP hP0 (dc (dlp hl) (dc (dp (all_loc zC.Ok.loc _) hla) dn))) (zG fun _ hK1=>zP rfl (zD hK1 (zS fun _ hK2=>zG fun _ hK3=>zE rfl (zB (yW rfl underlying57) (zE rfl (zD hK3 (zk (y8 (fun (k:Nat)=>[(0,.slice lA l.length lc),(1,.func (.func f) #[] fcap),(7,iV l.length),(8,iV k)]) (fun (k:Nat)=>[slP 7 yl (.slice lA l.length lc) l,allP zC.Ok l]) (fun (k:Nat)=>k≤l.length∧∀ y ∈ l.take k,fp y=false) (fun (k:Nat)=>l.length - k) 0 (sc rfl (sc rfl (sc rfl (sc (ji (by omega)) sn)))) (fun _ h=>h) ?_ (fun k hI1=>?_)))))))))
 · simp
 refine zG fun _ hK4=>zB (yR rfl rfl) (zD hK4 (zS fun _ hK5=>zZ rfl (fun h1=>?_) (fun h1=>?_)))
 · refine yK hK5 (zS fun _ hK6=>zk (zG fun _ hK7=>zE rfl (zP rfl (zD hK7 (zG fun _ hK8=>zE rfl (zE rfl (zE rfl ?_)))))))
   obtain ⟨ad1,hd1⟩:=hlA (ne_nil (i:=k) (by first | omega | (simp <;> omega)))
   refine zB (y6 (i:=k) rfl hd1 rfl (by omega) (by first | omega | (simp <;> omega)) underlying57 inf59) ?_
   obtain ⟨s1,hs1⟩:∃ x,l[k]?=some x:=⟨_,List.getElem?_eq_getElem (by first | omega | (simp <;> omega))⟩
   refine zB (vy 0 [iV s1.kind,iV s1.n,iV s1.range,.string s1.word,.slice s1.ms.A s1.ms.l.length s1.ms.c,.slice s1.by_.A s1.by_.l.length s1.by_.c,.slice s1.kids.A s1.kids.l.length s1.kids.c] rfl rfl hd1 hs1 rfl rfl agg59 inf59) (uJ wn rfl rfl fc rfl (fun w1 hM=>fh s1 (List.mem_of_getElem? hs1) w1 hM.fr) (zD hK8 (yp rfl (fun h2=>?_) (fun h2=>?_))))
   · refine zG fun _ hK9=>zE rfl (zP rfl (zD hK9 (zX (yA (zK (ye (yA (zK (zY (.inl rfl) results214 (zR rfl) fun w1 hM=>?_)))))))))
     exact zn (by rw [Sh.idx_at hI1.2 hs1 h2]) hM
   refine yU (zm (zy hK6 (zL (zB (zw rfl rfl (by omega)) (zE rfl (zl (yX (k + 1) (sc rfl (sc rfl (sc rfl (sc (ji (by omega)) sn)))) (fun _ h=>h) ?_ ?_)))))))
   · exact ⟨by omega,Sh.none_step hI1.2 hs1 h2⟩
   omega
 refine yZ (yH (yj (yI (zy hK2 (zG fun _ hK10=>zP rfl (zD hK10 (zX (zY (.inl rfl) results214 (zR rfl) fun w1 hM=>?_))))))))
 exact zn (by rw [Sh.idx_none hI1.2 (by omega)]) hM
theorem c_contX (lv : Value) (l : List zC) (f : Nat) (fcap : Array Value) (fp : zC → Bool) (P0 : Nat → Prop) (w : World) (hP0 : ∀ b, P0 b → b < w.heap.size) (hl : zJ P0 7 yl lv l w) (hla : ∀ x ∈ l, zC.Ok P0 x w) (fc : ∀ vs w, (callFunc f vs).run prog w = .ok (.enter f vs) w) (fh : ∀ x : zC, x ∈ l → ∀ w1 : World, Fr no w w1 → Calls prog f (#[.agg (yl x).toArray] ++ fcap) w1 (Ret w1 (.bool (fp x))))  :
    Calls prog 187 #[lv,.func (.func f) #[] fcap] w (Ret w (.bool (l.any fp))):=by
 have hwl:∀ x ∈ l,zC.Wf x:=fun x hx=>(hla x hx).wf
 obtain ⟨lA,lc,rfl,hlc,hlm,hlA⟩:=hl.form
 refine fstart (N:=9) (vals:=[.slice lA l.length lc,.func (.func f) #[] fcap]) (S:=Mem w ⟨no,P0⟩ [slP 7 yl (.slice lA l.length lc) l,allP zC.Ok l]) func187 rfl rfl rfl (Mem.ofDatsP hP0 (dc (dlp hl) (dc (dp (all_loc zC.Ok.loc _) hla) dn))) (zG fun _ hK1=>zP rfl (zD hK1 (zG fun _ hK2=>zE rfl (zE rfl (yF wn rfl call214 rfl (fun w1 hM=>c_idxX _ l f fcap fp (In w1) w1 (fun _ h=>h) (hM.slp 0 rfl) (hM.vQ (i:=1) rfl) fc (fun x hx w2 hf=>fh x hx w2 (hM.fr.trans hf (fun _ _ h=>h)))) (zB (vn rfl rfl) (zP rfl (zD hK2 (zX (zY (.inl rfl) results187 (zR rfl) fun w1 hM=>?_))))))))))
 exact zn (congrArg Value.bool (by rw [Bool.eq_iff_iff,decide_eq_true_iff]; exact Sh.idx_any)) hM
def jA (e : zC) : Prop := ∀ (P0 : Nat → Prop) (w : World) (hP0 : ∀ b, P0 b → b < w.heap.size) (he : zC.Ok P0 e w) ,
    Calls prog 154 #[.agg (yl e).toArray] w (Ret w (.bool (Lg.vector e.e)))
theorem c_vector_step (e : zC) (ih : ∀ k : zC, SizeOf.sizeOf k < SizeOf.sizeOf e → jA k) : jA e := by
  intro P0 w hP0 he
  have hwe:=he.wf
  refine fstart (N:=11) (vals:=[.agg (yl e).toArray]) (S:=Mem w ⟨no,P0⟩ [okP zC.Ok e]) func154 rfl rfl rfl (Mem.ofDatsP hP0 (dc (dp (zC.Ok.loc _) he) dn)) (zS fun K1 hK1=>zL (vS wn rfl rfl fun b1=>zP rfl (zD hK1 (zS fun K2 hK2=>zS fun K3 hK3=>zL (zB (za rfl fld59_0) (zB (zg 0 rfl rfl rfl flat3) (zD hK3 ?_)))))))
  refine zk (vm [(1,.pointer (some ⟨b1,0,none⟩)),(5,.bool (decide (((e.kind=2)∧(e.kind=2))∨(¬ (e.kind=2)∧(e.kind=3)))))] (Mem w ⟨no,P0⟩ [.blk b1 [iV e.kind,iV e.n,iV e.range,.string e.word,.slice e.ms.A e.ms.l.length e.ms.c,.slice e.by_.A e.by_.l.length e.by_.c,.slice e.kids.A e.kids.l.length e.kids.c] 59,okP zC.Ok e]) (fun K4 hK4=>?_) ?_)
  ·
    refine zS fun K5 hK5=>zL (zB (yf rfl rfl) (zP rfl (zD hK5 (zZ rfl (fun h1=>?_) (fun h1=>?_)))))
    ·
      refine yU (ym hK4 (sc rfl (sc (jp (iff_ite_l h1 Iff.rfl)) sn)) (fun _ h=>h))
    ·
      refine zL (zB (yf rfl rfl) (zP rfl ?_))
      refine zl (ym hK4 (sc rfl (sc (jp (iff_ite_r h1 Iff.rfl)) sn)) (fun _ h=>h))
  ·
    refine zZ rfl (fun h2=>?_) (fun h2=>?_)
    ·
      refine zS fun K6 hK6=>zL (zP rfl (zD hK6 (zX (yA (zK (zY (.inl rfl) results154 (zR rfl) fun w1 hM=>?_))))))
      exact zn (congrArg Value.bool (Lg.vector_yes (by have:=h2; omega)).symm) hM
    ·
      refine yU (zm (zy hK2 (zS fun K7 hK7=>zL (zB (za rfl fld59_6) (zB (zg 0 rfl rfl rfl flat57) (yV (fun _ h=>h.exprX 1 rfl) ?_))))))
      obtain ⟨hc1,hm1,hA1⟩:=hwe.ms
      obtain ⟨hc2,hm2,hA2⟩:=hwe.by_
      obtain ⟨hc3,hm3,hA3⟩:=hwe.kids
      refine yF wn rfl call187 rfl (fun w1 hM=>c_contX _ e.kids.l 154 #[] (fun k=>Lg.vector k.e) (In w1) w1 (fun _ h=>h) (hM.slp 2 rfl) (hM.vQ (i:=3) rfl) call154 (fun k hk w2 hf=>by simpa using ih k (zC.kid_lt hk) (In w2) w2 (fun _ h=>h) (zC.Ok.loc k (In w1) (In w2) w1 w2 (fun b hb=>Nat.lt_of_lt_of_le hb hf.size) (fun b hb=>hf.block b hb id) (hM.vQ (i:=3) rfl k hk)))) (zP rfl (zD hK7 (zX (zY (.inl rfl) results154 (zR rfl) fun w1 hM=>?_))))
      exact zn (congrArg Value.bool (Lg.vector_no (by have:=h2; omega)).symm) hM
theorem c_vector (e:zC):jA e:=recX c_vector_step e
def jP (e : zC) : Prop := ∀ (P0 : Nat → Prop) (w : World) (hP0 : ∀ b, P0 b → b < w.heap.size) (he : zC.Ok P0 e w) ,
    Calls prog 102 #[.agg (yl e).toArray] w (Ret w (iV (Lg.typed e.e)))
theorem c_typed_step (e : zC) (ih : ∀ k : zC, SizeOf.sizeOf k < SizeOf.sizeOf e → jP k) : jP e := by
  intro P0 w hP0 he
  have hwe:=he.wf
  refine fstart (N:=36) (vals:=[.agg (yl e).toArray]) (S:=Mem w ⟨no,P0⟩ [okP zC.Ok e]) func102 rfl rfl rfl (Mem.ofDatsP hP0 (dc (dp (zC.Ok.loc _) he) dn)) (zS fun K1 hK1=>zL (vS wn rfl rfl fun b1=>zP rfl (zD hK1 (zS fun K2 hK2=>vm [(1,.pointer (some ⟨b1,0,none⟩)),(22,.bool (decide ((e.kind=3)∧(((e.kids.l.length:Int)=1)∧((!(e.kids.l.any fun k=>Lg.vector k.e))=true)))))] (Mem w ⟨no,P0⟩ [.blk b1 [iV e.kind,iV e.n,iV e.range,.string e.word,.slice e.ms.A e.ms.l.length e.ms.c,.slice e.by_.A e.by_.l.length e.by_.c,.slice e.kids.A e.kids.l.length e.kids.c] 59,okP zC.Ok e]) (fun K3 hK3=>?_) ?_))))
  ·
    refine zL (zB (za rfl fld59_0) (zB (zg 0 rfl rfl rfl flat3) (zB (yf rfl rfl) (zE rfl (yQ (t:=9) rfl (fun h1=>?_) (fun h1=>?_))))))
    ·
      refine zb (za rfl fld59_6) (zb (zg 0 rfl rfl rfl flat57) (zb (yW rfl underlying57) (zb (yf rfl rfl) (zB (zM rfl rfl) (zE rfl (yQ (t:=15) rfl (fun h2=>?_) (fun h2=>?_)))))))
      ·
        refine zb (za rfl fld59_6) (zb (zg 0 rfl rfl rfl flat57) (yV (fun _ h=>h.exprX 1 rfl) ?_))
        obtain ⟨hc1,hm1,hA1⟩:=hwe.ms
        obtain ⟨hc2,hm2,hA2⟩:=hwe.by_
        obtain ⟨hc3,hm3,hA3⟩:=hwe.kids
        obtain ⟨ad1,hd1⟩:=hA3 (ne_nil (i:=0) (by first | omega | (simp <;> omega)))
        refine zb (y6 (i:=0) rfl hd1 rfl (by omega) (by first | omega | (simp <;> omega)) underlying57 inf59) ?_
        obtain ⟨s1,hs1⟩:∃ x,e.kids.l[0]?=some x:=⟨_,List.getElem?_eq_getElem (by first | omega | (simp <;> omega))⟩
        refine zb (vy 2 [iV s1.kind,iV s1.n,iV s1.range,.string s1.word,.slice s1.ms.A s1.ms.l.length s1.ms.c,.slice s1.by_.A s1.by_.l.length s1.by_.c,.slice s1.kids.A s1.kids.l.length s1.kids.c] rfl rfl hd1 hs1 rfl rfl agg59 inf59) ?_
        have hw1:=hwe.all _ (List.mem_of_getElem? hs1)
        refine yV (fun _ h=>h.one 3 zC.Ok.loc rfl hs1) (yF (wg rfl rfl rfl) rfl call154 rfl (fun w1 hM=>c_vector s1 (In w1) w1 (fun _ h=>h) (hM.vQ (i:=0) rfl)) (zb (rv_b (show _=(!(e.kids.l.any fun k=>Lg.vector k.e)) from congrArg Bool.not (Lg.any_one (by omega) hs1).symm) (vC rfl)) (zB (zM rfl rfl) ?_)))
        refine zl (ym hK3 (sc rfl (sc (jpb (iff_and_right h1 (iff_and_right h2 Iff.rfl))) sn)) (S9 [5,6]))
      ·
        refine zQ (zQ (zQ (zQ (zQ (zQ (zB (zM rfl rfl) ?_))))))
        refine zl (ym hK3 (sc rfl (sc (jf (fun g=>(fun g=>h2 g.1) g.2)) sn)) (fun _ h=>h))
    ·
      refine zQ (zQ (zQ (zQ (zB (zM rfl rfl) (zE rfl (zQ (zQ (zQ (zQ (zQ (zQ ?_)))))))))))
      refine zB (zM rfl rfl) ?_
      refine zl (ym hK3 (sc rfl (sc (jf (fun g=>h1 g.1)) sn)) (fun _ h=>h))
  ·
    refine zZ rfl (fun h3=>?_) (fun h3=>?_)
    ·
      refine zS fun K4 hK4=>zL (zP rfl (zD hK4 (zX (zK (zY (.inl rfl) results102 (zR rfl) fun w1 hM=>?_)))))
      exact zn (congrArg (Value.int .i64) (Lg.typed_8 h3).symm) hM
    ·
      refine yK hK2 (zS fun K5 hK5=>zS fun K6 hK6=>zL (zB (za rfl fld59_6) (zB (zg 0 rfl rfl rfl flat57) (zB (yW rfl underlying57) (zE rfl (zD hK6 (zk (y8 (fun (k:Nat)=>[(24,.slice e.kids.A e.kids.l.length e.kids.c),(25,iV e.kids.l.length),(26,iV k)]) (fun (k:Nat)=>[.blk b1 [iV e.kind,iV e.n,iV e.range,.string e.word,.slice e.ms.A e.ms.l.length e.ms.c,.slice e.by_.A e.by_.l.length e.by_.c,.slice e.kids.A e.kids.l.length e.kids.c] 59,okP zC.Ok e]) (fun (k:Nat)=>k≤e.kids.l.length∧Lg.typeds ((e.kids.l.take k).map zC.e)=0) (fun (k:Nat)=>e.kids.l.length - k) 0 (sc rfl (sc rfl (sc (ji (by omega)) sn))) (fun _ h=>h) ?_ (fun k hI1=>?_)))))))))
      · exact ⟨by omega,rfl⟩
      ·
        refine zS fun K7 hK7=>zL (zB (yR rfl rfl) (zD hK7 (zS fun K8 hK8=>zZ rfl (fun h4=>?_) (fun h4=>?_))))
        ·
          refine yK hK8 (zS fun K9 hK9=>zk (zS fun K10 hK10=>zL (yV (fun _ h=>h.exprX 1 rfl) ?_)))
          obtain ⟨hc4,hm4,hA4⟩:=hwe.ms
          obtain ⟨hc5,hm5,hA5⟩:=hwe.by_
          obtain ⟨hc6,hm6,hA6⟩:=hwe.kids
          obtain ⟨ad2,hd2⟩:=hA6 (ne_nil (i:=k) (by first | omega | (simp <;> omega)))
          refine zB (y6 (i:=k) rfl hd2 rfl (by omega) (by first | omega | (simp <;> omega)) underlying57 inf59) ?_
          obtain ⟨s2,hs2⟩:∃ x,e.kids.l[k]?=some x:=⟨_,List.getElem?_eq_getElem (by first | omega | (simp <;> omega))⟩
          refine zB (vy 2 [iV s2.kind,iV s2.n,iV s2.range,.string s2.word,.slice s2.ms.A s2.ms.l.length s2.ms.c,.slice s2.by_.A s2.by_.l.length s2.by_.c,.slice s2.kids.A s2.kids.l.length s2.kids.c] rfl rfl hd2 hs2 rfl rfl agg59 inf59) (yC wn inf59 rfl fun b4=>zr 0 wn rfl rfl rfl inf59 rfl rfl rfl (zD hK10 (zS fun K11 hK11=>zL (zB (yM 0 [iV s2.kind,iV s2.n,iV s2.range,.string s2.word,.slice s2.ms.A s2.ms.l.length s2.ms.c,.slice s2.by_.A s2.by_.l.length s2.by_.c,.slice s2.kids.A s2.kids.l.length s2.kids.c] rfl rfl rfl rfl agg59 inf59) ?_))))
          have hw2:=hwe.all _ (List.mem_of_getElem? hs2)
          refine yV (fun _ h=>h.one 4 zC.Ok.loc rfl hs2) (yF wn rfl call102 rfl (fun w1 hM=>ih s2 (zC.kid_lt (List.mem_of_getElem? hs2)) (In w1) w1 (fun _ h=>h) (hM.vQ (i:=0) rfl)) (zP rfl (zD hK11 (zS fun K12 hK12=>zL (zE rfl (zB (vD rfl rfl) (zD hK12 (zZ rfl (fun h5=>?_) (fun h5=>?_)))))))))
          ·
            refine zS fun K13 hK13=>zL (zE rfl (zP rfl (zD hK13 (zX (yA (zK (ye (yA (zK (zY (.inl rfl) results102 (zR rfl) fun w1 hM=>?_))))))))))
            exact zn (congrArg (Value.int .i64) (((Lg.typed_rest h3).trans ((Lg.typeds_next hI1.2 hs2).2 h5)).symm)) hM
          ·
            refine yU (zm (zy hK9 (zL (zB (zw rfl rfl (by omega)) (zE rfl (zl (yX (k + 1) (sc rfl (sc rfl (sc (ji (by omega)) sn))) (S9 [6,7]) ?_ ?_)))))))
            · exact ⟨by omega,(Lg.typeds_next hI1.2 hs2).1.trans (Classical.not_not.1 h5)⟩
            · omega
        ·
          refine yZ (yH (yj (yI (zy hK5 (zS fun K14 hK14=>zL (zP rfl (zD hK14 (zX (zY (.inl rfl) results102 (zR rfl) fun w1 hM=>?_)))))))))
          exact zn (congrArg (Value.int .i64) (((Lg.typed_rest h3).trans (by rw [← hI1.2,List.take_of_length_le (by omega)])).symm)) hM
theorem c_typed (e:zC):jP e:=recX c_typed_step e
theorem c_idxStr (lv : Value) (l : List ByteArray) (f : Nat) (fcap : Array Value) (fp : ByteArray → Bool) (w : World) (hl : zJ (In w) 1 strE lv l w) (fc : ∀ vs w, (callFunc f vs).run prog w = .ok (.enter f vs) w) (fh : ∀ (x : ByteArray) (w1 : World), Fr no w w1 → Calls prog f (#[.string x] ++ fcap) w1 (Ret w1 (.bool (fp x))))  :
    Calls prog 186 #[lv,.func (.func f) #[] fcap] w (Ret w (iV (Sh.idx fp l))):=by
 obtain ⟨lA,lc,rfl,hlc,hlm,hlA⟩:=hl.form
 refine fstart (N:=19) (vals:=[.slice lA l.length lc,.func (.func f) #[] fcap]) (S:=Mem w no [slO (In w) 1 strE (.slice lA l.length lc) l]) func186 rfl rfl rfl (Mem.ofDats (dc (dl hl) dn)) (zG fun _ hK1=>zP rfl (zD hK1 (zS fun _ hK2=>zG fun _ hK3=>zE rfl (zB (yW rfl underlying56) (zE rfl (zD hK3 (zk (y8 (fun (k:Nat)=>[(0,.slice lA l.length lc),(1,.func (.func f) #[] fcap),(7,iV l.length),(8,iV k)]) (fun (k:Nat)=>[slO (In w) 1 strE (.slice lA l.length lc) l]) (fun (k:Nat)=>k≤l.length∧∀ y ∈ l.take k,fp y=false) (fun (k:Nat)=>l.length - k) 0 (sc rfl (sc rfl (sc rfl (sc (ji (by omega)) sn)))) (fun _ h=>h) ?_ (fun k hI1=>?_)))))))))
 · simp
 refine zG fun _ hK4=>zB (yR rfl rfl) (zD hK4 (zS fun _ hK5=>zZ rfl (fun h1=>?_) (fun h1=>?_)))
 · refine yK hK5 (zS fun _ hK6=>zk (zG fun _ hK7=>zE rfl (zP rfl (zD hK7 (zG fun _ hK8=>zE rfl (zE rfl (zE rfl ?_)))))))
   obtain ⟨ad1,hd1⟩:=hlA (ne_nil (i:=k) (by first | omega | (simp <;> omega)))
   refine zB (y6 (i:=k) rfl hd1 rfl (by omega) (by first | omega | (simp <;> omega)) underlying56 inf9) ?_
   obtain ⟨s1,hs1⟩:∃ x,l[k]?=some x:=⟨_,List.getElem?_eq_getElem (by first | omega | (simp <;> omega))⟩
   refine zB (gH 0 rfl rfl hd1 hs1 rfl flat9) (uJ wn rfl rfl fc rfl (fun w1 hM=>fh s1 w1 hM.fr) (zD hK8 (yp rfl (fun h2=>?_) (fun h2=>?_))))
   · refine zG fun _ hK9=>zE rfl (zP rfl (zD hK9 (zX (yA (zK (ye (yA (zK (zY (.inl rfl) results186 (zR rfl) fun w1 hM=>?_)))))))))
     exact zn (by rw [Sh.idx_at hI1.2 hs1 h2]) hM
   refine yU (zm (zy hK6 (zL (zB (zw rfl rfl (by omega)) (zE rfl (zl (yX (k + 1) (sc rfl (sc rfl (sc rfl (sc (ji (by omega)) sn)))) (fun _ h=>h) ?_ ?_)))))))
   · exact ⟨by omega,Sh.none_step hI1.2 hs1 h2⟩
   omega
 refine yZ (yH (yj (yI (zy hK2 (zG fun _ hK10=>zP rfl (zD hK10 (zX (zY (.inl rfl) results186 (zR rfl) fun w1 hM=>?_))))))))
 exact zn (by rw [Sh.idx_none hI1.2 (by omega)]) hM
theorem c_contStr (lv : Value) (l : List ByteArray) (f : Nat) (fcap : Array Value) (fp : ByteArray → Bool) (w : World) (hl : zJ (In w) 1 strE lv l w) (fc : ∀ vs w, (callFunc f vs).run prog w = .ok (.enter f vs) w) (fh : ∀ (x : ByteArray) (w1 : World), Fr no w w1 → Calls prog f (#[.string x] ++ fcap) w1 (Ret w1 (.bool (fp x))))  :
    Calls prog 152 #[lv,.func (.func f) #[] fcap] w (Ret w (.bool (l.any fp))):=by
 obtain ⟨lA,lc,rfl,hlc,hlm,hlA⟩:=hl.form
 refine fstart (N:=9) (vals:=[.slice lA l.length lc,.func (.func f) #[] fcap]) (S:=Mem w no [slO (In w) 1 strE (.slice lA l.length lc) l]) func152 rfl rfl rfl (Mem.ofDats (dc (dl hl) dn)) (zG fun _ hK1=>zP rfl (zD hK1 (zG fun _ hK2=>zE rfl (zE rfl (yF wn rfl call186 rfl (fun w1 hM=>c_idxStr _ l f fcap fp w1 (hM.sl 0 rfl) fc (fun x w2 h2=>fh x w2 (hM.fr.trans h2 (fun _ _ h=>h)))) (zB (vn rfl rfl) (zP rfl (zD hK2 (zX (zY (.inl rfl) results152 (zR rfl) fun w1 hM=>?_))))))))))
 exact zn (congrArg Value.bool (by rw [Bool.eq_iff_iff,decide_eq_true_iff]; exact Sh.idx_any)) hM
theorem c_own1 (k : ByteArray) (w : World)   :
    Calls prog 153 #[.string k] w (Ret w (.bool (!zc.named k))):=by
 refine fstart (N:=6) (vals:=[.string k]) (S:=Mem w no []) func153 rfl rfl rfl (Mem.ofDats dn) (zG fun _ hK1=>zP rfl (zD hK1 (zG fun _ hK2=>zE rfl (yF wn rfl call92 rfl (fun w1 hM=>uu k w1) (zB (vC rfl) (zP rfl (zD hK2 (zX (zY (.inl rfl) results153 (zR rfl) fun w1 hM=>?_)))))))))
 exact zn rfl hM
theorem c_Totals  (w : World)   :
    Calls prog 151 #[] w (RetL w 9 1 strE Lg.totals):=by
 refine fstart (N:=2) (vals:=[]) (S:=Mem w no []) func151 rfl rfl rfl (Mem.ofDats dn) (zG fun _ hK1=>zP rfl (zD hK1 (zG fun _ hK2=>yw strE ([⟨#[99,111,117,110,116]⟩,⟨#[109,97,120]⟩,⟨#[109,105,110]⟩,⟨#[115,117,109]⟩]:List ByteArray) wn underlying56 inf9 rfl rfl rfl rfl (by decide) (by decide) rfl fun b1=>zP rfl (zD hK2 (zX (zY (.inl rfl) results151 (zR rfl) fun w1 hM=>?_))))))
 exact hM.uh 0 rfl rfl
theorem c_kids (kind : Int) (w : World)  (h1_ : 1 ≤ kind) (h2_ : kind ≤ 4) :
    Calls prog 100 #[iV kind] w (Ret w (iV (Lg.arity kind))):=by
 refine fstart (N:=7) (vals:=[iV kind]) (S:=Mem w no []) func100 rfl rfl rfl (Mem.ofDats dn) (zG fun _ hK1=>zP rfl (zD hK1 (zG fun _ hK2=>yw intE ([0,0,0,1,2]:List Int) wn underlying37 inf3 rfl rfl rfl rfl (by decide) (by decide) rfl fun b3=>zE rfl (zB (y6 (i:=kind.toNat) rfl rfl rfl (by omega) (by first | omega | (simp <;> omega)) underlying37 inf3) ?_))))
 obtain ⟨s1,hs1⟩:∃ x,([0,0,0,1,2]:List Int)[kind.toNat]?=some x:=⟨_,List.getElem?_eq_getElem (by first | omega | (simp <;> omega))⟩
 refine zB (u9 0 encInt rfl rfl rfl hs1 rfl flat3) (zP rfl (zD hK2 (zX (zY (.inl rfl) results100 (zR rfl) fun w1 hM=>?_))))
 exact zn (congrArg (Value.int .i64) (Lg.arity_at h1_ h2_ hs1)) hM
set_option maxHeartbeats 1000000 in
theorem c_shWindow (h : Value) (ead : Addr) (e : zC) (P0 : Nat → Prop) (w : World) (hP0 : ∀ b, P0 b → b < w.heap.size) (hec : ve P0 ead (yl e) w) (he : zC.Ok P0 e w)  :
    Calls prog 149 #[h,.pointer (some ead)] w (Ret w (iV (Lg.windowW e.word e.ms.l e.range))):=by
 have hwe:=he.wf
 refine fstart (N:=70) (vals:=[h,.pointer (some ((Addr.add ead 0).add 0))]) (S:=Mem w ⟨no,P0⟩ [celP ead [iV e.kind,iV e.n,iV e.range,.string e.word,.slice e.ms.A e.ms.l.length e.ms.c,.slice e.by_.A e.by_.l.length e.by_.c,.slice e.kids.A e.kids.l.length e.kids.c],okP zC.Ok e]) func149 rfl rfl rfl (Mem.ofDatsP hP0 (dc (dp (ve.loc _ _) hec) (dc (dp (zC.Ok.loc _) he) dn))) (zG fun _ hK1=>zP rfl (zD hK1 (zS fun _ hK2=>zS fun _ hK3=>vL (Mem w ⟨no,P0⟩ [celP ead [iV e.kind,iV e.n,iV e.range,.string e.word,.slice e.ms.A e.ms.l.length e.ms.c,.slice e.by_.A e.by_.l.length e.by_.c,.slice e.kids.A e.kids.l.length e.kids.c],okP zC.Ok e]) mix (fun _ h=>h.drew) rfl (u6 (f:=3) [1,2,3,4] rfl rfl (by kernel_rfl) (by kernel_rfl) (fun _ h=>h) fun KS hKS=>yD (zi rfl) (yD (zT rfl) (yD (yy rfl fld59_3) (yD (yz 0 rfl rfl rfl flat9) ?_)))))))
 refine yd hKS (yY 2 0 (yb (i:=0) rfl fun KN hKN=>uU Agg.words wn rfl call33 rfl (fun w1 hM=>c_Words  w1) fun A1 cp1 hc1 hm1 hA1=>yP hKN [1,2] (yY 1 5 (yb (i:=5) rfl fun KN hKN=>yF wn rfl call150 rfl (fun w1 hM=>uQ _ Agg.words e.word w1 (RowSl encString hM 0 rfl)) (yP hKN [1,2] (vK 0 [6] [1,2] rfl fun KS hKS=>yD (jB rfl) (yd hKS ?_)))))))
 refine yu (by kernel_rfl) (zy hK3 (zZ rfl (fun h1=>?_) (fun h1=>?_)))
 · refine zG fun _ hK4=>zP rfl (zD hK4 (zX (zK (zY (.inl rfl) results149 (zR rfl) fun w1 hM=>?_))))
   exact zn (congrArg (Value.int .i64) (by unfold Lg.windowW; grind)) hM
 refine yK hK2 (zS fun _ hK5=>zG fun _ hK6=>zE rfl (zB (zT rfl) (zB (yy rfl fld59_4) (zB (yz 1 rfl rfl rfl flat55) (zB (yW rfl underlying55) (zB (vH rfl rfl) (zD hK6 (zZ rfl (fun h2=>?_) (fun h2=>?_)))))))))
 · refine zG fun _ hK7=>zP rfl (zD hK7 (zX (zK (zY (.inl rfl) results149 (zR rfl) fun w1 hM=>?_))))
   exact zn (congrArg (Value.int .i64) (by unfold Lg.windowW; grind)) hM
 refine yK hK5 (zS fun _ hK8=>zG fun _ hK9=>zE rfl (zB (zT rfl) (zB (yy rfl fld59_4) (zB (yz 1 rfl rfl rfl flat55) (zB (yW rfl underlying55) (zE rfl (zD hK9 (zk (y8 (fun (k:Nat)=>[(1,.pointer (some ((Addr.add ead 0).add 0))),(23,.slice e.ms.A e.ms.l.length e.ms.c),(24,iV e.ms.l.length),(25,iV k)]) (fun (k:Nat)=>[Row (.slice A1 Agg.words.length cp1) 9 1 strE Agg.words,celP ead [iV e.kind,iV e.n,iV e.range,.string e.word,.slice e.ms.A e.ms.l.length e.ms.c,.slice e.by_.A e.by_.l.length e.by_.c,.slice e.kids.A e.kids.l.length e.kids.c],okP zC.Ok e]) (fun (k:Nat)=>k≤e.ms.l.length∧Lg.matchesW e.ms.l=Lg.matchesW (e.ms.l.drop k)) (fun (k:Nat)=>e.ms.l.length - k) 0 (sc rfl (sc rfl (sc rfl (sc (ji (by omega)) sn)))) (fun _ h=>h) ?_ (fun k hI1=>?_))))))))))
 · simp
 refine zG fun _ hK10=>zB (yR rfl rfl) (zD hK10 (zS fun _ hK11=>zZ rfl (fun h3=>?_) (fun h3=>?_)))
 · refine yK hK11 (zS fun _ hK12=>zk (zG fun _ hK13=>yV (fun _ h=>h.exprX 2 rfl) ?_))
   obtain ⟨hc2,hm2,hA2⟩:=hwe.ms
   obtain ⟨hc3,hm3,hA3⟩:=hwe.by_
   obtain ⟨hc4,hm4,hA4⟩:=hwe.kids
   obtain ⟨ad1,hd1⟩:=hA2 (ne_nil (i:=k) (by first | omega | (simp <;> omega)))
   refine zB (y6 (i:=k) rfl hd1 rfl (by omega) (by first | omega | (simp <;> omega)) underlying55 inf179) ?_
   obtain ⟨s1,hs1⟩:∃ x,e.ms.l[k]?=some x:=⟨_,List.getElem?_eq_getElem (by first | omega | (simp <;> omega))⟩
   refine zB (vy 0 [iV s1.kind,.string s1.key,.string s1.val] rfl rfl hd1 hs1 rfl rfl agg179 inf179) (yC wn inf179 rfl fun b6=>zr 0 wn rfl rfl rfl inf179 rfl rfl rfl (zD hK13 (zS fun _ hK14=>vm [(1,.pointer (some ((Addr.add ead 0).add 0))),(6,.pointer (some ⟨b6,0,none⟩)),(23,.slice e.ms.A e.ms.l.length e.ms.c),(24,iV e.ms.l.length),(25,iV k),(36,.bool (decide ((s1.kind < 1)∨(4 < s1.kind))))] (Mem w ⟨no,P0⟩ [.blk b6 [iV s1.kind,.string s1.key,.string s1.val] 179,slP 3 yg (.slice e.ms.A e.ms.l.length e.ms.c) e.ms.l,slP 1 strE (.slice e.by_.A e.by_.l.length e.by_.c) e.by_.l,slP 7 yl (.slice e.kids.A e.kids.l.length e.kids.c) e.kids.l,allP zC.Ok e.kids.l,Row (.slice A1 Agg.words.length cp1) 9 1 strE Agg.words,celP ead [iV e.kind,iV e.n,iV e.range,.string e.word,.slice e.ms.A e.ms.l.length e.ms.c,.slice e.by_.A e.by_.l.length e.by_.c,.slice e.kids.A e.kids.l.length e.kids.c],okP zC.Ok e]) (fun _ hK15=>?_) ?_)))
   · refine zL (zB (za rfl fld179_0) (zB (zg 0 rfl rfl rfl flat3) (zB (yR rfl rfl) (zE rfl (yQ (t:=32) rfl (fun h4=>?_) (fun h4=>?_))))))
     · refine zQ (zQ (zQ (zB (zM rfl rfl) ?_)))
       refine zl (ym hK15 (sc rfl (sc rfl (sc rfl (sc rfl (sc rfl (sc (jt (Or.inl h4)) sn)))))) (fun _ h=>h))
     refine zb (za rfl fld179_0) (zb (zg 0 rfl rfl rfl flat3) (zb (vH rfl rfl) (zB (zM rfl rfl) ?_)))
     refine zl (ym hK15 (sc rfl (sc rfl (sc rfl (sc rfl (sc rfl (sc (jp (iff_or_right h4 Iff.rfl)) sn)))))) (fun _ h=>h))
   refine zZ rfl (fun h5=>?_) (fun h5=>?_)
   · refine zG fun _ hK16=>zP rfl (zD hK16 (zX (zK (yA (zK (ye (yA (zK (zY (.inl rfl) results149 (zR rfl) fun w1 hM=>?_)))))))))
     exact zn (congrArg (Value.int .i64) (by have hx:=Lg.matchesW_step hs1; unfold Lg.matchW at hx; unfold Lg.windowW; grind)) hM
   refine yK hK14 (vm [(1,.pointer (some ((Addr.add ead 0).add 0))),(23,.slice e.ms.A e.ms.l.length e.ms.c),(24,iV e.ms.l.length),(25,iV k),(56,.bool (decide (((!(zc.named s1.key))=true)∨(((s1.kind=1)∧((!(zc.named s1.val))=true))∨(¬ (s1.kind=1)∧((s1.kind=2)∧((!(zc.named s1.val))=true)))))))] (Mem w ⟨no,P0⟩ [.blk b6 [iV s1.kind,.string s1.key,.string s1.val] 179,slP 3 yg (.slice e.ms.A e.ms.l.length e.ms.c) e.ms.l,slP 1 strE (.slice e.by_.A e.by_.l.length e.by_.c) e.by_.l,slP 7 yl (.slice e.kids.A e.kids.l.length e.kids.c) e.kids.l,allP zC.Ok e.kids.l,Row (.slice A1 Agg.words.length cp1) 9 1 strE Agg.words,celP ead [iV e.kind,iV e.n,iV e.range,.string e.word,.slice e.ms.A e.ms.l.length e.ms.c,.slice e.by_.A e.by_.l.length e.by_.c,.slice e.kids.A e.kids.l.length e.kids.c],okP zC.Ok e]) (fun _ hK17=>?_) ?_)
   · refine zL (zB (za rfl fld179_1) (zB (zg 0 rfl rfl rfl flat9) (yF wn rfl call92 rfl (fun w1 hM=>uu s1.key w1) (zB (vC rfl) (zE rfl (uT (t:=41) rfl (fun h6=>?_) (fun h6=>?_)))))))
     · refine zQ (zQ (zQ (zQ (y7 (wu rfl rfl) rfl (y7 (wu rfl rfl) rfl (y7 (wu rfl rfl) rfl (zQ (zQ (y7 (wu rfl rfl) rfl (y7 (wu rfl rfl) rfl (y7 (wu rfl rfl) rfl ?_)))))))))))
       refine y7 (wu rfl rfl) rfl (zQ (zB (zM rfl rfl) ?_))
       refine zl (ym hK17 (sc rfl (sc rfl (sc rfl (sc rfl (sc (jt (Or.inl h6)) sn))))) (fun _ h=>h))
     refine zb (za rfl fld179_0) (zb (zg 0 rfl rfl rfl flat3) (zb (yf rfl rfl) (zb (zi rfl) (yQ (t:=45) rfl (fun h7=>?_) (fun h7=>?_)))))
     · refine zQ (zQ (zQ (zb (zM rfl rfl) (zb (zi rfl) (zb (za rfl fld179_2) (zb (zg 0 rfl rfl rfl flat9) (yF (wg rfl rfl rfl) rfl call92 rfl (fun w1 hM=>uu s1.val w1) (zb (vC rfl) (zb (zM rfl rfl) (zB (zM rfl rfl) ?_))))))))))
       refine zl (ym hK17 (sc rfl (sc rfl (sc rfl (sc rfl (sc (jpb (iff_or_right h6 (iff_ite_l h7 Iff.rfl))) sn))))) (fun _ h=>h))
     refine zb (za rfl fld179_0) (zb (zg 0 rfl rfl rfl flat3) (zb (yf rfl rfl) (zb (zM rfl rfl) (zb (zi rfl) (yQ (t:=50) rfl (fun h8=>?_) (fun h8=>?_))))))
     · refine zb (za rfl fld179_2) (zb (zg 0 rfl rfl rfl flat9) (yF (wg rfl rfl rfl) rfl call92 rfl (fun w1 hM=>uu s1.val w1) (zb (vC rfl) (zb (zM rfl rfl) (zB (zM rfl rfl) ?_)))))
       refine zl (ym hK17 (sc rfl (sc rfl (sc rfl (sc rfl (sc (jpb (iff_or_right h6 (iff_ite_r h7 (iff_and_right h8 Iff.rfl)))) sn))))) (fun _ h=>h))
     refine zQ (zQ (zQ (zQ (zb (zM rfl rfl) (zB (zM rfl rfl) ?_)))))
     refine zl (ym hK17 (sc rfl (sc rfl (sc rfl (sc rfl (sc (jf (fun g=>g.elim h6 (fun g=>g.elim (fun k=>h7 k.1) (fun k=>(fun g=>h8 g.1) k.2)))) sn))))) (fun _ h=>h))
   refine zZ rfl (fun h9=>?_) (fun h9=>?_)
   · refine zG fun _ hK18=>zP rfl (zD hK18 (zX (yA (zK (ye (yA (zK (zY (.inl rfl) results149 (zR rfl) fun w1 hM=>?_))))))))
     exact zn (congrArg (Value.int .i64) (by have hx:=Lg.matchesW_step hs1; unfold Lg.matchW at hx; unfold Lg.windowW; grind)) hM
   refine yU (zm (zy hK12 (zL (zB (zw rfl rfl (by omega)) (zE rfl (zl (yX (k + 1) (sc rfl (sc rfl (sc rfl (sc (ji (by omega)) sn)))) (S9 [5,6,7]) ?_ ?_)))))))
   · exact ⟨by omega,by rw [hI1.2,Lg.matchesW_step hs1]; unfold Lg.matchW; grind⟩
   omega
 refine yZ (yH (yj (yI (zy hK8 (zS fun _ hK19=>vm [(69,.bool (decide ((e.range < 1)∨(100000 < e.range))))] (Mem w ⟨no,P0⟩ [Row (.slice A1 Agg.words.length cp1) 9 1 strE Agg.words,celP ead [iV e.kind,iV e.n,iV e.range,.string e.word,.slice e.ms.A e.ms.l.length e.ms.c,.slice e.by_.A e.by_.l.length e.by_.c,.slice e.kids.A e.kids.l.length e.kids.c],okP zC.Ok e]) (fun _ hK20=>?_) ?_)))))
 · refine zL (zE rfl (zB (zT rfl) (zB (yy rfl fld59_2) (zB (yz 1 rfl rfl rfl flat3) (zB (yR rfl rfl) (zE rfl (yQ (t:=63) rfl (fun h10=>?_) (fun h10=>?_))))))))
   · refine zQ (zQ (zQ (zQ (zQ (zB (zM rfl rfl) ?_)))))
     refine zl (ym hK20 (sc (jt (Or.inl h10)) sn) (fun _ h=>h))
   refine zb (zi rfl) (zb (zT rfl) (zb (yy rfl fld59_2) (zb (yz 1 rfl rfl rfl flat3) (zb (vH rfl rfl) (zB (zM rfl rfl) ?_)))))
   refine zl (ym hK20 (sc (jp (iff_or_right h10 Iff.rfl)) sn) (fun _ h=>h))
 refine zZ rfl (fun h11=>?_) (fun h11=>?_)
 · refine zG fun _ hK21=>zP rfl (zD hK21 (zX (zK (zY (.inl rfl) results149 (zR rfl) fun w1 hM=>?_))))
   exact zn (congrArg (Value.int .i64) (by have hx:=Lg.matchesW_end (l:=e.ms.l) (k:=k) (by omega); unfold Lg.windowW; grind)) hM
 refine yK hK19 (zG fun _ hK22=>zP rfl (zD hK22 (zX (zY (.inl rfl) results149 (zR rfl) fun w1 hM=>?_))))
 exact zn (congrArg (Value.int .i64) (by have hx:=Lg.matchesW_end (l:=e.ms.l) (k:=k) (by omega); unfold Lg.windowW; grind)) hM
set_option maxHeartbeats 1000000 in
theorem c_shOwn (h : Value) (ead : Addr) (e : zC) (P0 : Nat → Prop) (w : World) (hP0 : ∀ b, P0 b → b < w.heap.size) (hec : ve P0 ead (yl e) w) (he : zC.Ok P0 e w)  :
    Calls prog 101 #[h,.pointer (some ead)] w (Ret w (iV (Lg.ownW e.kind e.n e.range e.word e.ms.l e.by_.l))):=by
 have hwe:=he.wf
 refine fstart (N:=67) (vals:=[h,.pointer (some ((Addr.add ead 0).add 0))]) (S:=Mem w ⟨no,P0⟩ [celP ead [iV e.kind,iV e.n,iV e.range,.string e.word,.slice e.ms.A e.ms.l.length e.ms.c,.slice e.by_.A e.by_.l.length e.by_.c,.slice e.kids.A e.kids.l.length e.kids.c],okP zC.Ok e]) func101 rfl rfl rfl (Mem.ofDatsP hP0 (dc (dp (ve.loc _ _) hec) (dc (dp (zC.Ok.loc _) he) dn))) (zG fun _ hK1=>zP rfl (zD hK1 (zS fun _ hK2=>zG fun _ hK3=>zE rfl (zB (zT rfl) (zB (yy rfl fld59_0) (zB (yz 0 rfl rfl rfl flat3) (zD hK3 (zk ?_))))))))
 refine zG fun _ hK4=>zB (yf rfl rfl) (zP rfl (zD hK4 (zZ rfl (fun h1=>?_) (fun h1=>?_))))
 · refine vm [(41,.bool (decide ((e.n < 0)∨(1000000 < e.n))))] (Mem w ⟨no,P0⟩ [celP ead [iV e.kind,iV e.n,iV e.range,.string e.word,.slice e.ms.A e.ms.l.length e.ms.c,.slice e.by_.A e.by_.l.length e.by_.c,.slice e.kids.A e.kids.l.length e.kids.c],okP zC.Ok e]) (fun _ hK5=>?_) ?_
   · refine zL (zE rfl (zB (zT rfl) (zB (yy rfl fld59_1) (zB (yz 0 rfl rfl rfl flat3) (zB (yR rfl rfl) (zE rfl (yQ (t:=35) rfl (fun h2=>?_) (fun h2=>?_))))))))
     · refine zQ (zQ (zQ (zQ (zQ (zB (zM rfl rfl) ?_)))))
       refine zl (ym hK5 (sc (jt (Or.inl h2)) sn) (fun _ h=>h))
     refine zb (zi rfl) (zb (zT rfl) (zb (yy rfl fld59_1) (zb (yz 0 rfl rfl rfl flat3) (zb (vH rfl rfl) (zB (zM rfl rfl) ?_)))))
     refine zl (ym hK5 (sc (jp (iff_or_right h2 Iff.rfl)) sn) (fun _ h=>h))
   refine zZ rfl (fun h3=>?_) (fun h3=>?_)
   · refine zG fun _ hK6=>zP rfl (zD hK6 (zX (yA (zK (zY (.inl rfl) results101 (zR rfl) fun w1 hM=>?_)))))
     exact zn (congrArg (Value.int .i64) (by have hx:=Lg.signs_iff e.word; unfold Lg.ownW; grind)) hM
   refine yU (zm (zy hK2 (zG fun _ hK7=>zP rfl (zD hK7 (zX (zY (.inl rfl) results101 (zR rfl) fun w1 hM=>?_))))))
   exact zn (congrArg (Value.int .i64) (by have hx:=Lg.signs_iff e.word; unfold Lg.ownW; grind)) hM
 refine zG fun _ hK8=>zB (yf rfl rfl) (zP rfl (zD hK8 (zZ rfl (fun h4=>?_) (fun h4=>?_))))
 · refine zG fun _ hK9=>zE rfl (zE rfl (yF wn rfl call149 rfl (fun w1 hM=>c_shWindow h ead e (In w1) w1 (fun _ h=>h) (hM.vQ (i:=0) rfl) (hM.vQ (i:=1) rfl)) (zP rfl (zD hK9 (zX (yA (zK (zY (.inl rfl) results101 (zR rfl) fun w1 hM=>?_))))))))
   exact zn (congrArg (Value.int .i64) (by have hx:=Lg.signs_iff e.word; unfold Lg.ownW; grind)) hM
 refine zG fun _ hK10=>zB (yf rfl rfl) (zP rfl (zD hK10 (zZ rfl (fun h5=>?_) (fun h5=>?_))))
 · refine zS fun _ hK11=>zS fun _ hK12=>vL (Mem w ⟨no,P0⟩ [celP ead [iV e.kind,iV e.n,iV e.range,.string e.word,.slice e.ms.A e.ms.l.length e.ms.c,.slice e.by_.A e.by_.l.length e.by_.c,.slice e.kids.A e.kids.l.length e.kids.c],okP zC.Ok e]) mix (fun _ h=>h.drew) rfl (u6 (f:=3) [1,2,3,4] rfl rfl (by kernel_rfl) (by kernel_rfl) (fun _ h=>h) fun KS hKS=>yD (zi rfl) (yD (zT rfl) (yD (yy rfl fld59_3) (yD (yz 0 rfl rfl rfl flat9) (yd hKS (yY 2 0 (yb (i:=0) rfl fun KN hKN=>uU Lg.totals wn rfl call151 rfl (fun w1 hM=>c_Totals  w1) fun A1 cp1 hc1 hm1 hA1=>?_)))))))
   refine yP hKN [1,2] (yY 1 5 (yb (i:=5) rfl fun KN hKN=>yF wn rfl call150 rfl (fun w1 hM=>uQ _ Lg.totals e.word w1 (RowSl encString hM 0 rfl)) (yP hKN [1,2] (vK 0 [6] [1,2] rfl fun KS hKS=>yD (jB rfl) (yd hKS (yu (by kernel_rfl) (zy hK12 (zZ rfl (fun h6=>?_) (fun h6=>?_)))))))))
   · refine zG fun _ hK13=>zP rfl (zD hK13 (zX (zK (yA (zK (zY (.inl rfl) results101 (zR rfl) fun w1 hM=>?_))))))
     exact zn (congrArg (Value.int .i64) (by have hx:=Lg.signs_iff e.word; unfold Lg.ownW; grind)) hM
   refine yK hK11 (zS fun _ hK14=>zG fun _ hK15=>zE rfl (zB (zT rfl) (zB (yy rfl fld59_5) (zB (yz 1 rfl rfl rfl flat56) (zB (yW rfl underlying56) (zB (vH rfl rfl) (zD hK15 (zZ rfl (fun h7=>?_) (fun h7=>?_)))))))))
   · refine zG fun _ hK16=>zP rfl (zD hK16 (zX (zK (yA (zK (zY (.inl rfl) results101 (zR rfl) fun w1 hM=>?_))))))
     exact zn (congrArg (Value.int .i64) (by have hx:=Lg.signs_iff e.word; unfold Lg.ownW; grind)) hM
   refine yK hK14 (zG fun _ hK17=>zE rfl (zB (zT rfl) (zB (yy rfl fld59_5) (zB (yz 1 rfl rfl rfl flat56) (yV (fun _ h=>h.exprX 2 rfl) ?_)))))
   obtain ⟨hc2,hm2,hA2⟩:=hwe.ms
   obtain ⟨hc3,hm3,hA3⟩:=hwe.by_
   obtain ⟨hc4,hm4,hA4⟩:=hwe.kids
   refine yF wn rfl call152 rfl (fun w1 hM=>c_contStr _ e.by_.l 153 #[] (fun k=>!zc.named k) w1 (hM.slp 1 rfl) call153 (fun x w2 h2=>by simpa using c_own1 x w2)) (zD hK17 (yp rfl (fun h8=>?_) (fun h8=>?_)))
   · refine zG fun _ hK18=>zP rfl (zD hK18 (zX (yA (zK (zY (.inl rfl) results101 (zR rfl) fun w1 hM=>?_)))))
     exact zn (congrArg (Value.int .i64) (by have hx:=Lg.signs_iff e.word; unfold Lg.ownW; grind)) hM
   refine yU (zm (zy hK2 (zG fun _ hK19=>zP rfl (zD hK19 (zX (zY (.inl rfl) results101 (zR rfl) fun w1 hM=>?_))))))
   exact zn (congrArg (Value.int .i64) (by have hx:=Lg.signs_iff e.word; unfold Lg.ownW; grind)) hM
 refine vm [(27,.bool (decide ((e.word≠⟨#[43]⟩)∧((e.word≠⟨#[45]⟩)∧(e.word≠⟨#[42]⟩)))))] (Mem w ⟨no,P0⟩ [celP ead [iV e.kind,iV e.n,iV e.range,.string e.word,.slice e.ms.A e.ms.l.length e.ms.c,.slice e.by_.A e.by_.l.length e.by_.c,.slice e.kids.A e.kids.l.length e.kids.c],okP zC.Ok e]) (fun _ hK20=>?_) ?_
 · refine zL (zE rfl (zB (zT rfl) (zB (yy rfl fld59_3) (zB (yz 0 rfl rfl rfl flat9) (zB (u7 rfl rfl) (zE rfl (yQ (t:=14) rfl (fun h9=>?_) (fun h9=>?_))))))))
   · refine zb (zi rfl) (zb (zT rfl) (zb (yy rfl fld59_3) (zb (yz 0 rfl rfl rfl flat9) (zb (u7 rfl rfl) (zB (zM rfl rfl) (zE rfl (yQ (t:=21) rfl (fun h10=>?_) (fun h10=>?_))))))))
     · refine zb (zi rfl) (zb (zT rfl) (zb (yy rfl fld59_3) (zb (yz 0 rfl rfl rfl flat9) (zb (u7 rfl rfl) (zB (zM rfl rfl) ?_)))))
       refine zl (ym hK20 (sc (jp (iff_and_right h9 (iff_and_right h10 Iff.rfl))) sn) (fun _ h=>h))
     refine zQ (zQ (zQ (zQ (zQ (zB (zM rfl rfl) ?_)))))
     refine zl (ym hK20 (sc (jf (fun g=>(fun g=>h10 g.1) g.2)) sn) (fun _ h=>h))
   refine zQ (zQ (zQ (zQ (zQ (zB (zM rfl rfl) (zE rfl (zQ (zQ (zQ (zQ (zQ ?_)))))))))))
   refine zB (zM rfl rfl) ?_
   refine zl (ym hK20 (sc (jf (fun g=>h9 g.1)) sn) (fun _ h=>h))
 refine zZ rfl (fun h11=>?_) (fun h11=>?_)
 · refine zG fun _ hK21=>zP rfl (zD hK21 (zX (yA (zK (zY (.inl rfl) results101 (zR rfl) fun w1 hM=>?_)))))
   exact zn (congrArg (Value.int .i64) (by have hx:=Lg.signs_iff e.word; unfold Lg.ownW; grind)) hM
 refine yU (zm (zy hK2 (zG fun _ hK22=>zP rfl (zD hK22 (zX (zY (.inl rfl) results101 (zR rfl) fun w1 hM=>?_))))))
 exact zn (congrArg (Value.int .i64) (by have hx:=Lg.signs_iff e.word; unfold Lg.ownW; grind)) hM
def jQ (e : zC) : Prop := ∀ (hp : Nat) (cn : Int) (ead : Addr) (deep : Int) (P0 : Nat → Prop) (w : World) (hhp : w.heap[hp]? = some (.cells [iV cn].toArray 119 (0, 0))) (hP0 : ∀ b, P0 b → b < w.heap.size ∧ b ≠ hp) (hec : ve P0 ead (yl e) w) (he : zC.Ok P0 e w) (hc0 : 0 ≤ cn) (hc1 : cn ≤ 100) (hd0 : 0 ≤ deep),
    Calls prog 55 #[.pointer (some ⟨hp,0,none⟩),.pointer (some ead),iV deep] w (RetM w hp 119 (iV (Lg.shape e.e deep cn).1) [iV (Lg.shape e.e deep cn).2])
set_option maxHeartbeats 2000000 in
theorem c_shape_step (e : zC) (ih : ∀ k : zC, SizeOf.sizeOf k < SizeOf.sizeOf e → jQ k) : jQ e := by
  intro hp cn ead deep P0 w hhp hP0 hec he hc0 hc1 hd0
  have hwe:=he.wf
  refine fstart (N:=77) (vals:=[.pointer (some ⟨hp,0,none⟩),.pointer (some ((Addr.add ead 0).add 0)),iV deep]) (S:=Mem w ⟨(·=hp),P0⟩ [.blk hp [iV cn] 119,celP ead [iV e.kind,iV e.n,iV e.range,.string e.word,.slice e.ms.A e.ms.l.length e.ms.c,.slice e.by_.A e.by_.l.length e.by_.c,.slice e.kids.A e.kids.l.length e.kids.c],okP zC.Ok e]) func55 rfl rfl rfl (Mem.ptrDats hhp hP0 (dc (dp (ve.loc _ _) hec) (dc (dp (zC.Ok.loc _) he) dn))) (zS fun K1 hK1=>zL (zP rfl (zD hK1 (zS fun K2 hK2=>zS fun K3 hK3=>zL (zE rfl (zB (zT rfl) (zB (za rfl fld119_0) (zB (zg 0 rfl rfl rfl flat3) ?_))))))))
  refine zB (zw rfl rfl (by omega)) (zB (zT rfl) (zB (za rfl fld119_0) (yt 0 wn rfl rfl rfl rfl inf3 rfl rfl (zD hK3 (vm [(0,.pointer (some ⟨hp,0,none⟩)),(1,.pointer (some ((Addr.add ead 0).add 0))),(2,iV deep),(25,.bool (decide ((100 < (cn + 1))∨(20 < deep))))] (Mem w ⟨(·=hp),P0⟩ [.blk hp [iV (cn + 1)] 119,celP ead [iV e.kind,iV e.n,iV e.range,.string e.word,.slice e.ms.A e.ms.l.length e.ms.c,.slice e.by_.A e.by_.l.length e.by_.c,.slice e.kids.A e.kids.l.length e.kids.c],okP zC.Ok e]) (fun K4 hK4=>?_) ?_)))))
  ·
    refine zL (zE rfl (zB (zT rfl) (zB (za rfl fld119_0) (zB (zg 0 rfl rfl rfl flat3) (zB (vH rfl rfl) (zE rfl (yQ (t:=22) rfl (fun h1=>?_) (fun h1=>?_))))))))
    ·
      refine zQ (zQ (zB (zM rfl rfl) ?_))
      refine zl (ym hK4 (sc rfl (sc rfl (sc rfl (sc (jt (Or.inl h1)) sn)))) (fun _ h=>h))
    ·
      refine zb (zi rfl) (zb (vH rfl rfl) (zB (zM rfl rfl) ?_))
      refine zl (ym hK4 (sc rfl (sc rfl (sc rfl (sc (jp (iff_or_right h1 Iff.rfl)) sn)))) (fun _ h=>h))
  ·
    refine zZ rfl (fun h2=>?_) (fun h2=>?_)
    ·
      refine zS fun K5 hK5=>zL (zP rfl (zD hK5 (zX (zK (zY (.inl rfl) results55 (zR rfl) fun w1 hM=>?_)))))
      have hq:Lg.shape e.e deep cn=(4,(cn + 1)):=by rw [Lg.shape_e]; grind
      exact hM.gJ 0 rfl (by rw [hq] <;> rfl) (by rw [hq] <;> rfl)
    ·
      refine yK hK2 (zS fun K6 hK6=>vm [(0,.pointer (some ⟨hp,0,none⟩)),(1,.pointer (some ((Addr.add ead 0).add 0))),(2,iV deep),(37,.bool (decide ((e.kind < 1)∨(4 < e.kind))))] (Mem w ⟨(·=hp),P0⟩ [.blk hp [iV (cn + 1)] 119,celP ead [iV e.kind,iV e.n,iV e.range,.string e.word,.slice e.ms.A e.ms.l.length e.ms.c,.slice e.by_.A e.by_.l.length e.by_.c,.slice e.kids.A e.kids.l.length e.kids.c],okP zC.Ok e]) (fun K7 hK7=>?_) ?_)
      ·
        refine zL (zE rfl (zB (zT rfl) (zB (yy rfl fld59_0) (zB (yz 1 rfl rfl rfl flat3) (zB (yR rfl rfl) (zE rfl (yQ (t:=31) rfl (fun h3=>?_) (fun h3=>?_))))))))
        ·
          refine zQ (zQ (zQ (zQ (zQ (zB (zM rfl rfl) ?_)))))
          refine zl (ym hK7 (sc rfl (sc rfl (sc rfl (sc (jt (Or.inl h3)) sn)))) (fun _ h=>h))
        ·
          refine zb (zi rfl) (zb (zT rfl) (zb (yy rfl fld59_0) (zb (yz 1 rfl rfl rfl flat3) (zb (vH rfl rfl) (zB (zM rfl rfl) ?_)))))
          refine zl (ym hK7 (sc rfl (sc rfl (sc rfl (sc (jp (iff_or_right h3 Iff.rfl)) sn)))) (fun _ h=>h))
      ·
        refine zZ rfl (fun h4=>?_) (fun h4=>?_)
        ·
          refine zS fun K8 hK8=>zL (zP rfl (zD hK8 (zX (zK (zY (.inl rfl) results55 (zR rfl) fun w1 hM=>?_)))))
          have hq:Lg.shape e.e deep cn=(1,(cn + 1)):=by rw [Lg.shape_e]; grind
          exact hM.gJ 0 rfl (by rw [hq] <;> rfl) (by rw [hq] <;> rfl)
        ·
          refine yK hK6 (zS fun K9 hK9=>zS fun K10 hK10=>vN mix (by kernel_rfl) (fun _ h=>h.drew) (yn rfl (zq (zT rfl) (zq (yy rfl fld59_6) (zq (yz 1 rfl rfl rfl flat57) (zq (yW rfl underlying57) (yn rfl (zq (zT rfl) (zq (yy rfl fld59_0) ?_)))))))))
          refine zq (yz 1 rfl rfl rfl flat3) (vP wn rfl call100 rfl (fun w1 hM=>c_kids e.kind w1 (by omega) (by omega)) (zq (vD rfl rfl) (vJ (zy hK10 (zZ rfl (fun h5=>?_) (fun h5=>?_))))))
          ·
            refine zS fun K11 hK11=>zL (zP rfl (zD hK11 (zX (zK (zY (.inl rfl) results55 (zR rfl) fun w1 hM=>?_)))))
            have hq:Lg.shape e.e deep cn=(5,(cn + 1)):=by rw [Lg.shape_e]; grind
            exact hM.gJ 0 rfl (by rw [hq] <;> rfl) (by rw [hq] <;> rfl)
          ·
            refine yK hK9 (zS fun K12 hK12=>zS fun K13 hK13=>zL (zE rfl (zE rfl (yF wn rfl call101 rfl (fun w1 hM=>c_shOwn (.pointer (some ⟨hp,0,none⟩)) ead e (In w1) w1 (fun _ h=>h) (hM.vQ (i:=1) rfl) (hM.vQ (i:=2) rfl)) (zP rfl (zD hK13 (zS fun K14 hK14=>zL (zE rfl ?_))))))))
            refine zB (vD rfl rfl) (zD hK14 (zZ rfl (fun h6=>?_) (fun h6=>?_)))
            ·
              refine zS fun K15 hK15=>zL (zE rfl (zP rfl (zD hK15 (zX (zK (zY (.inl rfl) results55 (zR rfl) fun w1 hM=>?_))))))
              have hq:Lg.shape e.e deep cn=((Lg.ownW e.kind e.n e.range e.word e.ms.l e.by_.l),(cn + 1)):=by rw [Lg.shape_e]; grind
              exact hM.gJ 0 rfl (by rw [hq] <;> rfl) (by rw [hq] <;> rfl)
            ·
              refine yK hK12 (zS fun K16 hK16=>zS fun K17 hK17=>zL (zE rfl (zB (zT rfl) (zB (yy rfl fld59_6) (zB (yz 1 rfl rfl rfl flat57) (zB (yW rfl underlying57) (zE rfl (zD hK17 (zk ?_)))))))))
              refine uS (fun (k:Nat) (m:Int)=>[(0,.pointer (some ⟨hp,0,none⟩)),(1,.pointer (some ((Addr.add ead 0).add 0))),(2,iV deep),(59,iV e.kids.l.length),(60,iV k)]) (fun (k:Nat) (m:Int)=>[.blk hp [iV m] 119,celP ead [iV e.kind,iV e.n,iV e.range,.string e.word,.slice e.ms.A e.ms.l.length e.ms.c,.slice e.by_.A e.by_.l.length e.by_.c,.slice e.kids.A e.kids.l.length e.kids.c],okP zC.Ok e]) (fun (k:Nat) (m:Int)=>k≤e.kids.l.length∧(0≤m∧m≤100)∧Lg.shapes ((e.kids.l.take k).map zC.e) (deep + 1) (cn + 1)=(0,m)) (fun (k:Nat) (m:Int)=>e.kids.l.length - k) 0 (cn + 1) (sc rfl (sc rfl (sc rfl (sc rfl (sc (ji (by omega)) sn))))) (fun _ h=>h) ?_ (fun k m hI1=>?_)
              · exact ⟨by omega,⟨by omega,by omega⟩,rfl⟩
              ·
                have hq0:=hI1.2.1.1
                have hq1:=hI1.2.1.2
                refine zS fun K18 hK18=>zL (zB (yR rfl rfl) (zD hK18 (zS fun K19 hK19=>zZ rfl (fun h7=>?_) (fun h7=>?_))))
                ·
                  refine yK hK19 (zS fun K20 hK20=>zk (zS fun K21 hK21=>zL (zE rfl (zP rfl (zD hK21 (zS fun K22 hK22=>zL (zE rfl (zE rfl ?_))))))))
                  refine zB (zT rfl) (zB (yy rfl fld59_6) (zB (yz 1 rfl rfl rfl flat57) (zE rfl (yV (fun _ h=>h.exprX 2 rfl) ?_))))
                  obtain ⟨hc1,hm1,hA1⟩:=hwe.ms
                  obtain ⟨hc2,hm2,hA2⟩:=hwe.by_
                  obtain ⟨hc3,hm3,hA3⟩:=hwe.kids
                  obtain ⟨ad1,hd1⟩:=hA3 (ne_nil (i:=k) (by first | omega | (simp <;> omega)))
                  refine zB (y6 (i:=k) rfl hd1 rfl (by omega) (by first | omega | (simp <;> omega)) underlying57 inf59) (zE rfl (zB (zw rfl rfl (by omega)) ?_))
                  obtain ⟨s1,hs1⟩:∃ x,e.kids.l[k]?=some x:=⟨_,List.getElem?_eq_getElem (by first | omega | (simp <;> omega))⟩
                  have hw1:=hwe.all _ (List.mem_of_getElem? hs1)
                  refine yV (fun _ h=>h.one 3 zC.Ok.loc rfl hs1) (jn 5 (v:=iV ((Lg.shape s1.e (deep + 1) m).1)) (cs':=[iV ((Lg.shape s1.e (deep + 1) m).2)]) wn rfl rfl call55 rfl (fun w1 Pb hM pp=>ih s1 (zC.kid_lt (List.mem_of_getElem? hs1)) hp m (Addr.add ad1 (k * 7)) (deep + 1) Pb w1 (hM.blk (i:=5) rfl) (pp.sub' (i:=5) rfl) (cel_of (pp.sl 3 rfl) hd1 hs1) (pp.at_ 0 _ rfl) (by omega) (by omega) (by omega)) (zP rfl (zD hK22 (zS fun K23 hK23=>zL (zE rfl (zB (vD rfl rfl) (zD hK23 (zZ rfl (fun h8=>?_) (fun h8=>?_)))))))))
                  ·
                    refine zS fun K24 hK24=>zL (zE rfl (zP rfl (zD hK24 (zX (yA (zK (e_loop2_r (yA (zK (zY (.inl rfl) results55 (zR rfl) fun w1 hM=>?_))))))))))
                    have hq:Lg.shape e.e deep cn=((Lg.shape s1.e (deep + 1) m).1,(Lg.shape s1.e (deep + 1) m).2):=(show _=Lg.shapes (e.kids.l.map zC.e) (deep + 1) (cn + 1) from by rw [Lg.shape_e]; grind).trans (((Lg.shapes_next hI1.2.2 hs1).2 h8).trans rfl)
                    exact hM.gJ 5 rfl (by rw [hq] <;> rfl) (by rw [hq] <;> rfl)
                  ·
                    refine yU (zm (zy hK20 (zL (zB (zw rfl rfl (by omega)) (zE rfl (zl (vb (k + 1) ((Lg.shape s1.e (deep + 1) m).2) (sc rfl (sc rfl (sc rfl (sc rfl (sc (ji (by omega)) sn))))) (S9 [5,6,7]) ?_ ?_)))))))
                    · exact ⟨by omega,Lg.shape_le _ _ _ hq0 hq1 (Classical.not_not.1 h8),(Lg.shapes_next hI1.2.2 hs1).1 (Classical.not_not.1 h8)⟩
                    · omega
                ·
                  refine yZ (yH (uB (yI (zy hK16 (zS fun K25 hK25=>zL (zP rfl (zD hK25 (zX (zY (.inl rfl) results55 (zR rfl) fun w1 hM=>?_)))))))))
                  have hq:Lg.shape e.e deep cn=(0,m):=(show _=Lg.shapes (e.kids.l.map zC.e) (deep + 1) (cn + 1) from by rw [Lg.shape_e]; grind).trans (by rw [← hI1.2.2,List.take_of_length_le (by omega)])
                  exact hM.gJ 0 rfl (by rw [hq] <;> rfl) (by rw [hq] <;> rfl)
theorem c_shape (e:zC):jQ e:=recX c_shape_step e
theorem c_langWrong (e : zC) (P0 : Nat → Prop) (w : World) (hP0 : ∀ b, P0 b → b < w.heap.size) (he : zC.Ok P0 e w)  :
    Calls prog 62 #[.agg (yl e).toArray] w (Ret w (iV (Lg.wrong e.e))):=by
 have hwe:=he.wf
 refine fstart (N:=6) (vals:=[.agg (yl e).toArray]) (S:=Mem w ⟨no,P0⟩ [okP zC.Ok e]) func62 rfl rfl rfl (Mem.ofDatsP hP0 (dc (dp (zC.Ok.loc _) he) dn)) (zG fun _ hK1=>vS wn rfl rfl fun b1=>zP rfl (zD hK1 (zG fun _ hK2=>zB (zz [iV 0] pl119 inf119 rfl rfl) (vS wn rfl rfl fun b4=>l_sealB 1 rfl rfl (jn 0 (v:=iV ((Lg.shape e.e 1 0).1)) (cs':=[iV ((Lg.shape e.e 1 0).2)]) wn rfl rfl call55 rfl (fun w1 Pb hM pp=>c_shape e b4 0 ⟨b1,0,none⟩ 1 Pb w1 (hM.blk (i:=0) rfl) (pp.sub' (i:=0) rfl) (pp.at_ 1 _ rfl) (pp.at_ 2 _ rfl) (by omega) (by omega) (by omega)) (zP rfl (zD hK2 ?_)))))))
 refine zX (zY (.inl rfl) results62 (zR rfl) fun w1 hM=>?_)
 exact zn rfl hM
end
section
open Tryz
open Ex
set_option linter.unusedVariables false
set_option linter.unusedSimpArgs false
theorem c_check (e : zC) (time : Int) (P0 : Nat → Prop) (w : World) (hP0 : ∀ b, P0 b → b < w.heap.size) (he : zC.Ok P0 e w)  :
    Calls prog 57 #[.agg (yl e).toArray,iV time] w (Ret w (iV (Mn.check e.e time))):=by
 have hwe:=he.wf
 refine fstart (N:=23) (vals:=[.agg (yl e).toArray,iV time]) (S:=Mem w ⟨no,P0⟩ [okP zC.Ok e]) func57 rfl rfl rfl (Mem.ofDatsP hP0 (dc (dp (zC.Ok.loc _) he) dn)) (zG fun _ hK1=>vS wn rfl rfl fun b2=>zP rfl (zD hK1 (zS fun _ hK2=>zG fun _ hK3=>zB (yM 0 [iV e.kind,iV e.n,iV e.range,.string e.word,.slice e.ms.A e.ms.l.length e.ms.c,.slice e.by_.A e.by_.l.length e.by_.c,.slice e.kids.A e.kids.l.length e.kids.c] rfl rfl rfl rfl agg59 inf59) (yF wn rfl call62 rfl (fun w1 hM=>c_langWrong e (In w1) w1 (fun _ h=>h) (hM.vQ (i:=1) rfl)) (zP rfl (zD hK3 (zG fun _ hK4=>?_)))))))
 refine zE rfl (zB (vD rfl rfl) (zD hK4 (zZ rfl (fun h1=>?_) (fun h1=>?_))))
 · refine zG fun _ hK5=>zE rfl (zP rfl (zD hK5 (zX (zK (zY (.inl rfl) results57 (zR rfl) fun w1 hM=>?_)))))
   exact zn (congrArg (Value.int .i64) (by unfold Mn.check; grind)) hM
 refine yK hK2 (zS fun _ hK6=>zG fun _ hK7=>zB (yM 0 [iV e.kind,iV e.n,iV e.range,.string e.word,.slice e.ms.A e.ms.l.length e.ms.c,.slice e.by_.A e.by_.l.length e.by_.c,.slice e.kids.A e.kids.l.length e.kids.c] rfl rfl rfl rfl agg59 inf59) (yF wn rfl call102 rfl (fun w1 hM=>c_typed e (In w1) w1 (fun _ h=>h) (hM.vQ (i:=1) rfl)) (zP rfl (zD hK7 (zG fun _ hK8=>zE rfl (zB (vD rfl rfl) (zD hK8 (zZ rfl (fun h2=>?_) (fun h2=>?_)))))))))
 · refine zG fun _ hK9=>zE rfl (zP rfl (zD hK9 (zX (zK (zY (.inl rfl) results57 (zR rfl) fun w1 hM=>?_)))))
   exact zn (congrArg (Value.int .i64) (by unfold Mn.check; grind)) hM
 refine yK hK6 (zS fun _ hK10=>vm [(22,.bool (decide ((time < 0)∨(1000000 < time))))] (Mem w ⟨no,P0⟩ [.blk b2 [iV e.kind,iV e.n,iV e.range,.string e.word,.slice e.ms.A e.ms.l.length e.ms.c,.slice e.by_.A e.by_.l.length e.by_.c,.slice e.kids.A e.kids.l.length e.kids.c] 59,okP zC.Ok e]) (fun _ hK11=>?_) ?_)
 · refine zL (zE rfl (zB (yR rfl rfl) (zE rfl (yQ (t:=19) rfl (fun h3=>?_) (fun h3=>?_)))))
   · refine zQ (zQ (zB (zM rfl rfl) ?_))
     refine zl (ym hK11 (sc (jt (Or.inl h3)) sn) (fun _ h=>h))
   refine zb (zi rfl) (zb (vH rfl rfl) (zB (zM rfl rfl) ?_))
   refine zl (ym hK11 (sc (jp (iff_or_right h3 Iff.rfl)) sn) (fun _ h=>h))
 refine zZ rfl (fun h4=>?_) (fun h4=>?_)
 · refine zG fun _ hK12=>zP rfl (zD hK12 (zX (zK (zY (.inl rfl) results57 (zR rfl) fun w1 hM=>?_))))
   exact zn (congrArg (Value.int .i64) (by unfold Mn.check; grind)) hM
 refine yK hK10 (zG fun _ hK13=>zP rfl (zD hK13 (zX (zY (.inl rfl) results57 (zR rfl) fun w1 hM=>?_))))
 exact zn (congrArg (Value.int .i64) (by unfold Mn.check; grind)) hM
theorem jb (n : Int) (w : World)   :
    Calls prog 192 #[iV n] w (Ret w (.bool (Mn.fits n))):=by
 refine fstart (N:=9) (vals:=[iV n]) (S:=Mem w no []) func192 rfl rfl rfl (Mem.ofDats dn) (zG fun _ hK1=>zP rfl (zD hK1 (zG fun _ hK2=>zE rfl (zB (vn rfl rfl) (zE rfl (yQ (t:=5) rfl (fun h1=>?_) (fun h1=>?_)))))))
 · refine zb (zi rfl) (zb (u4 rfl rfl) (zB (zM rfl rfl) (zP rfl (zD hK2 (zX (zY (.inl rfl) results192 (zR rfl) fun w1 hM=>?_))))))
   exact zn (congrArg Value.bool (by unfold Mn.fits; grind)) hM
 refine zQ (zQ (zB (zM rfl rfl) (zP rfl (zD hK2 (zX (zY (.inl rfl) results192 (zR rfl) fun w1 hM=>?_))))))
 exact zn (congrArg Value.bool (by unfold Mn.fits; grind)) hM
theorem c_abs (n : Int) (w : World)  (hn : -9223372036854775807 ≤ n ∧ n ≤ 9223372036854775807) :
    Calls prog 217 #[iV n] w (Ret w (iV (Mn.abs n))):=by
 refine fstart (N:=7) (vals:=[iV n]) (S:=Mem w no []) func217 rfl rfl rfl (Mem.ofDats dn) (zG fun _ hK1=>zP rfl (zD hK1 (zG fun _ hK2=>zE rfl (zE rfl (zB (r_neg rfl (by omega)) (zB (uj rfl rfl) (zP rfl (zD hK2 (zX (zY (.inl rfl) results217 (zR rfl) fun w1 hM=>?_))))))))))
 exact zn (congrArg (Value.int .i64) (by unfold Mn.abs; grind)) hM
theorem c_op (v : ByteArray) (a : Int) (b : Int) (w : World)  (hab : -1125899906842624 ≤ a ∧ a ≤ 1125899906842624) (hbb : -1125899906842624 ≤ b ∧ b ≤ 1125899906842624) :
    Calls prog 194 #[.string v,iV a,iV b] w (Ret w (.tuple #[iV (Mn.op v a b).1,.bool (Mn.op v a b).2])):=by
 have ha3:=Mn.abs_all a
 have hb3:=Mn.abs_all b
 have hd3:0≤1125899906842624 / Mn.abs b:=Int.ediv_nonneg (by omega) hb3.1
 refine fstart (N:=44) (vals:=[.string v,iV a,iV b]) (S:=Mem w no []) func194 rfl rfl rfl (Mem.ofDats dn) (zG fun _ hK1=>zP rfl (zP rfl (zD hK1 (zS fun _ hK2=>zG fun _ hK3=>zE rfl (zD hK3 (zk (zG fun _ hK4=>zB (vf rfl rfl) ?_)))))))
 refine zP rfl (zD hK4 (zZ rfl (fun h1=>?_) (fun h1=>?_)))
 · refine zG fun _ hK5=>zE rfl (zE rfl (zB (zw rfl rfl (by first | omega | (have:=Mn.mul_rng (a:=a) (b:=b) (by unfold Mn.tooBig; grind); omega))) (zE rfl (zE rfl (zB (zw rfl rfl (by first | omega | (have:=Mn.mul_rng (a:=a) (b:=b) (by unfold Mn.tooBig; grind); omega))) (yF wn rfl call192 rfl (fun w1 hM=>jb (a + b) w1) (zP rfl (zP rfl (zD hK5 (zX (yA (zK (yT (.inl rfl) results194 (zR rfl) (zR rfl) fun w1 hM=>?_)))))))))))))
   exact zn (by rw [show Mn.op v a b=((a + b),(Mn.fits (a + b))) from by unfold Mn.op Mn.tooBig; grind]) hM
 refine zG fun _ hK6=>zB (vf rfl rfl) (zP rfl (zD hK6 (zZ rfl (fun h2=>?_) (fun h2=>?_))))
 · refine zG fun _ hK7=>zE rfl (zE rfl (zB (vw rfl rfl (by first | omega | (have:=Mn.mul_rng (a:=a) (b:=b) (by unfold Mn.tooBig; grind); omega))) (zE rfl (zE rfl (zB (vw rfl rfl (by first | omega | (have:=Mn.mul_rng (a:=a) (b:=b) (by unfold Mn.tooBig; grind); omega))) (yF wn rfl call192 rfl (fun w1 hM=>jb (a - b) w1) (zP rfl (zP rfl (zD hK7 (zX (yA (zK (yT (.inl rfl) results194 (zR rfl) (zR rfl) fun w1 hM=>?_)))))))))))))
   exact zn (by rw [show Mn.op v a b=((a - b),(Mn.fits (a - b))) from by unfold Mn.op Mn.tooBig; grind]) hM
 refine yU (zm (zy hK2 (zS fun _ hK8=>vm [(1,iV a),(2,iV b),(40,.bool (decide ((a≠0)∧((b≠0)∧((1125899906842624 / (Mn.abs b)) < (Mn.abs a))))))] (Mem w no []) (fun _ hK9=>?_) ?_)))
 · refine zL (zE rfl (zB (vD rfl rfl) (zE rfl (yQ (t:=29) rfl (fun h3=>?_) (fun h3=>?_)))))
   · refine zb (zi rfl) (zb (vD rfl rfl) (zB (zM rfl rfl) (zE rfl (yQ (t:=33) rfl (fun h4=>?_) (fun h4=>?_)))))
     · refine zb (zi rfl) (yF (wg rfl rfl rfl) rfl call217 rfl (fun w1 hM=>c_abs a w1 (by omega)) (zb (zi rfl) (yF (wg rfl rfl rfl) rfl call217 rfl (fun w1 hM=>c_abs b w1 (by omega)) (zb (r_quon rfl rfl (by omega) (by omega)) (zb (vH rfl rfl) (zB (zM rfl rfl) ?_))))))
       refine zl (ym hK9 (sc rfl (sc rfl (sc (jp (iff_and_right h3 (iff_and_right h4 Iff.rfl))) sn))) (fun _ h=>h))
     refine zQ (zQ (zQ (zQ (zQ (zQ (zB (zM rfl rfl) ?_))))))
     refine zl (ym hK9 (sc rfl (sc rfl (sc (jf (fun g=>(fun g=>h4 g.1) g.2)) sn))) (fun _ h=>h))
   refine zQ (zQ (zB (zM rfl rfl) (zE rfl (zQ (zQ (zQ (zQ (zQ (zQ (zB (zM rfl rfl) ?_))))))))))
   refine zl (ym hK9 (sc rfl (sc rfl (sc (jf (fun g=>h3 g.1)) sn))) (fun _ h=>h))
 refine zZ rfl (fun h5=>?_) (fun h5=>?_)
 · refine zG fun _ hK10=>zP rfl (zP rfl (zD hK10 (zX (zK (yT (.inl rfl) results194 (zR rfl) (zR rfl) fun w1 hM=>?_)))))
   exact zn (by rw [show Mn.op v a b=(0,false) from by unfold Mn.op Mn.tooBig; grind]) hM
 refine yK hK8 (zG fun _ hK11=>zE rfl (zE rfl (zB (r_muln rfl rfl (by first | omega | (have:=Mn.mul_rng (a:=a) (b:=b) (by unfold Mn.tooBig; grind); omega))) (zP rfl (zP rfl (zD hK11 (zX (yT (.inl rfl) results194 (zR rfl) (zR rfl) fun w1 hM=>?_))))))))
 exact zn (by rw [show Mn.op v a b=((a * b),true) from by unfold Mn.op Mn.tooBig; grind]) hM
theorem c_equalL (av : Value) (a : List Label) (bv : Value) (b : List Label) (w : World) (ha : zJ (In w) 2 zj av a w) (hb : zJ (In w) 2 zj bv b w)  :
    Calls prog 197 #[av,bv] w (Ret w (.bool (decide (a=b)))):=by
 obtain ⟨aA,ac,rfl,hac,ham,haA⟩:=ha.form
 obtain ⟨bA,bc,rfl,hbc,hbm,hbA⟩:=hb.form
 refine fstart (N:=26) (vals:=[.slice aA a.length ac,.slice bA b.length bc]) (S:=Mem w no [slO (In w) 2 zj (.slice aA a.length ac) a,slO (In w) 2 zj (.slice bA b.length bc) b]) func197 rfl rfl rfl (Mem.ofDats (dc (dl ha) (dc (dl hb) dn))) (zG fun _ hK1=>zP rfl (zD hK1 (zS fun _ hK2=>zG fun _ hK3=>zE rfl (zB (yW rfl underlying39) (zE rfl (zB (yW rfl underlying39) (zB (vD rfl rfl) (zD hK3 ?_))))))))
 refine zZ rfl (fun h1=>?_) (fun h1=>?_)
 · refine zG fun _ hK4=>zP rfl (zD hK4 (zX (zK (zY (.inl rfl) results197 (zR rfl) fun w1 hM=>?_))))
   exact zn (by rw [decide_eq_false (fun e=>h1 (by rw [e]))]) hM
 refine yK hK2 (zS fun _ hK5=>zG fun _ hK6=>zE rfl (zB (yW rfl underlying39) (zE rfl (zD hK6 (zk (y8 (fun (k:Nat)=>[(0,.slice aA a.length ac),(1,.slice bA b.length bc),(12,iV a.length),(13,iV k)]) (fun (k:Nat)=>[slO (In w) 2 zj (.slice aA a.length ac) a,slO (In w) 2 zj (.slice bA b.length bc) b]) (fun (k:Nat)=>k≤a.length∧a.take k=b.take k) (fun (k:Nat)=>a.length - k) 0 (sc rfl (sc rfl (sc rfl (sc (ji (by omega)) sn)))) (fun _ h=>h) ?_ (fun k hI1=>?_)))))))
 · simp
 refine zG fun _ hK7=>zB (yR rfl rfl) (zD hK7 (zS fun _ hK8=>zZ rfl (fun h2=>?_) (fun h2=>?_)))
 · refine yK hK8 (zS fun _ hK9=>zk (zG fun _ hK10=>zE rfl (zP rfl (zD hK10 (zS fun _ hK11=>vN mix (by kernel_rfl) (fun _ h=>h.drew) (yn rfl (yn rfl ?_)))))))
   obtain ⟨ad1,hd1⟩:=haA (ne_nil (i:=k) (by first | omega | (simp <;> omega)))
   refine zq (y6 (i:=k) rfl hd1 rfl (by omega) (by first | omega | (simp <;> omega)) underlying39 inf74) ?_
   obtain ⟨s1,hs1⟩:∃ x,a[k]?=some x:=⟨_,List.getElem?_eq_getElem (by first | omega | (simp <;> omega))⟩
   refine zq (vx 0 [.string s1.key,.string s1.val] rfl rfl hd1 hs1 rfl rfl agg74 inf74) (yn rfl (yn rfl ?_))
   obtain ⟨ad2,hd2⟩:=hbA (ne_nil (i:=k) (by first | omega | (simp <;> omega)))
   refine zq (y6 (i:=k) rfl hd2 rfl (by omega) (by first | omega | (simp <;> omega)) underlying39 inf74) ?_
   obtain ⟨s2,hs2⟩:∃ x,b[k]?=some x:=⟨_,List.getElem?_eq_getElem (by first | omega | (simp <;> omega))⟩
   refine zq (vx 1 [.string s2.key,.string s2.val] rfl rfl hd2 hs2 rfl rfl agg74 inf74) (zq (jk (a:=s1) (b:=s2) rfl rfl eqv74) (vJ (zy hK11 (zZ rfl (fun h3=>?_) (fun h3=>?_)))))
   · refine zG fun _ hK12=>zP rfl (zD hK12 (zX (yA (zK (ye (yA (zK (zY (.inl rfl) results197 (zR rfl) fun w1 hM=>?_))))))))
     exact zn (by rw [decide_eq_false (fun e=>h3 (Option.some.inj (hs1.symm.trans (by rw [e]; exact hs2))))]) hM
   refine yU (zm (zy hK9 (zL (zB (zw rfl rfl (by omega)) (zE rfl (zl (yX (k + 1) (sc rfl (sc rfl (sc rfl (sc (ji (by omega)) sn)))) (fun _ h=>h) ?_ ?_)))))))
   · exact ⟨by omega,same_step hI1.2 hs1 hs2 (Classical.not_not.1 h3)⟩
   omega
 refine yZ (yH (yj (yI (zy hK5 (zG fun _ hK13=>zP rfl (zD hK13 (zX (zY (.inl rfl) results197 (zR rfl) fun w1 hM=>?_))))))))
 exact zn (by rw [decide_eq_true (same_done (by omega) (by omega) hI1.2)]) hM
theorem c_idxC (lv : Value) (l : List zO) (f : Nat) (fcap : Array Value) (fp : zO → Bool) (P0 : Nat → Prop) (w : World) (hP0 : ∀ b, P0 b → b < w.heap.size) (hl : zJ P0 2 yi lv l w) (hla : ∀ x ∈ l, zO.Ok P0 x w) (fc : ∀ vs w, (callFunc f vs).run prog w = .ok (.enter f vs) w) (fh : ∀ x : zO, x ∈ l → ∀ w1 : World, Fr no w w1 → Calls prog f (#[.agg (yi x).toArray] ++ fcap) w1 (Ret w1 (.bool (fp x))))  :
    Calls prog 195 #[lv,.func (.func f) #[] fcap] w (Ret w (iV (Sh.idx fp l))):=by
 have hwl:∀ x ∈ l,zO.Wf x:=fun x hx=>(hla x hx).wf
 obtain ⟨lA,lc,rfl,hlc,hlm,hlA⟩:=hl.form
 refine fstart (N:=19) (vals:=[.slice lA l.length lc,.func (.func f) #[] fcap]) (S:=Mem w ⟨no,P0⟩ [slP 2 yi (.slice lA l.length lc) l,allP zO.Ok l]) func195 rfl rfl rfl (Mem.ofDatsP hP0 (dc (dlp hl) (dc (dp (all_loc zO.Ok.loc _) hla) dn))) (zG fun _ hK1=>zP rfl (zD hK1 (zS fun _ hK2=>zG fun _ hK3=>zE rfl (zB (yW rfl underlying32) (zE rfl (zD hK3 (zk (y8 (fun (k:Nat)=>[(0,.slice lA l.length lc),(1,.func (.func f) #[] fcap),(7,iV l.length),(8,iV k)]) (fun (k:Nat)=>[slP 2 yi (.slice lA l.length lc) l,allP zO.Ok l]) (fun (k:Nat)=>k≤l.length∧∀ y ∈ l.take k,fp y=false) (fun (k:Nat)=>l.length - k) 0 (sc rfl (sc rfl (sc rfl (sc (ji (by omega)) sn)))) (fun _ h=>h) ?_ (fun k hI1=>?_)))))))))
 · simp
 refine zG fun _ hK4=>zB (yR rfl rfl) (zD hK4 (zS fun _ hK5=>zZ rfl (fun h1=>?_) (fun h1=>?_)))
 · refine yK hK5 (zS fun _ hK6=>zk (zG fun _ hK7=>zE rfl (zP rfl (zD hK7 (zG fun _ hK8=>zE rfl (zE rfl (zE rfl ?_)))))))
   obtain ⟨ad1,hd1⟩:=hlA (ne_nil (i:=k) (by first | omega | (simp <;> omega)))
   refine zB (y6 (i:=k) rfl hd1 rfl (by omega) (by first | omega | (simp <;> omega)) underlying32 inf81) ?_
   obtain ⟨s1,hs1⟩:∃ x,l[k]?=some x:=⟨_,List.getElem?_eq_getElem (by first | omega | (simp <;> omega))⟩
   refine zB (vy 0 [.slice s1.sr.A s1.sr.l.length s1.sr.c,iV s1.value] rfl rfl hd1 hs1 rfl rfl agg81 inf81) (uJ wn rfl rfl fc rfl (fun w1 hM=>fh s1 (List.mem_of_getElem? hs1) w1 hM.fr) (zD hK8 (yp rfl (fun h2=>?_) (fun h2=>?_))))
   · refine zG fun _ hK9=>zE rfl (zP rfl (zD hK9 (zX (yA (zK (ye (yA (zK (zY (.inl rfl) results195 (zR rfl) fun w1 hM=>?_)))))))))
     exact zn (by rw [Sh.idx_at hI1.2 hs1 h2]) hM
   refine yU (zm (zy hK6 (zL (zB (zw rfl rfl (by omega)) (zE rfl (zl (yX (k + 1) (sc rfl (sc rfl (sc rfl (sc (ji (by omega)) sn)))) (fun _ h=>h) ?_ ?_)))))))
   · exact ⟨by omega,Sh.none_step hI1.2 hs1 h2⟩
   omega
 refine yZ (yH (yj (yI (zy hK2 (zG fun _ hK10=>zP rfl (zD hK10 (zX (zY (.inl rfl) results195 (zR rfl) fun w1 hM=>?_))))))))
 exact zn (by rw [Sh.idx_none hI1.2 (by omega)]) hM
theorem c_bin2 (d : zO) (cad : Addr) (c : zO) (P0 : Nat → Prop) (w : World) (hP0 : ∀ b, P0 b → b < w.heap.size) (hd : zO.Ok P0 d w) (hcc : ve P0 cad (yi c) w) (hc : zO.Ok P0 c w)  :
    Calls prog 196 #[.agg (yi d).toArray,.pointer (some cad)] w (Ret w (.bool (decide (c.sr.l=d.sr.l)))):=by
 have hwd:=hd.wf
 have hwc:=hc.wf
 refine fstart (N:=9) (vals:=[.agg (yi d).toArray,.pointer (some ((Addr.add cad 0).add 0))]) (S:=Mem w ⟨no,P0⟩ [okP zO.Ok d,celP cad [.slice c.sr.A c.sr.l.length c.sr.c,iV c.value],okP zO.Ok c]) func196 rfl rfl rfl (Mem.ofDatsP hP0 (dc (dp (zO.Ok.loc _) hd) (dc (dp (ve.loc _ _) hcc) (dc (dp (zO.Ok.loc _) hc) dn)))) (zG fun _ hK1=>vS wn rfl rfl fun b2=>zP rfl (zD hK1 (zG fun _ hK2=>zB (yy rfl fld81_0) (zB (yz 2 rfl rfl rfl flat39) (zB (za rfl fld81_0) (zB (zg 0 rfl rfl rfl flat39) (yV (fun _ h=>h.cellX 3 rfl) ?_)))))))
 obtain ⟨hc1,hm1,hA1⟩:=hwc.sr
 refine yV (fun _ h=>h.cellX 2 rfl) ?_
 obtain ⟨hc2,hm2,hA2⟩:=hwd.sr
 refine yF wn rfl call197 rfl (fun w1 hM=>c_equalL _ c.sr.l _ d.sr.l w1 (hM.slp 1 rfl) (hM.slp 0 rfl)) (zP rfl (zD hK2 (zX (zY (.inl rfl) results196 (zR rfl) fun w1 hM=>?_))))
 exact zn rfl hM
theorem gQ (word : ByteArray) (vec : Bool) (n : Int) (v : Value) (l : List zO) (z : SlX Label) (a b : Int) (wp op : Nat) (Pb : Nat → Prop) (w : World) (hG : Mem w ⟨fpOf [.blk wp [.string word] 9, .blk op [.bool vec, iV n, v] 172, Row v 81 2 yi l, allP zO.Ok l, slP 2 zj (.slice z.A z.l.length z.c) z.l], Pb⟩ [.blk wp [.string word] 9, .blk op [.bool vec, iV n, v] 172, Row v 81 2 yi l, allP zO.Ok l, slP 2 zj (.slice z.A z.l.length z.c) z.l] w) (hab : -1125899906842624 ≤ a ∧ a ≤ 1125899906842624) (hbb : -1125899906842624 ≤ b ∧ b ≤ 1125899906842624) (hl1 : l.length ≤ 1048576) :
    Calls prog 193 #[.slice z.A z.l.length z.c,iV a,iV b,.pointer (some ⟨wp,0,none⟩),.pointer (some ⟨op,0,none⟩)] w (RetA w [.blk wp [.string word] 9,.blk op [.bool vec,iV n,v] 172,Row v 81 2 yi l,allP zO.Ok l,slP 2 zj (.slice z.A z.l.length z.c) z.l] Pb (fun _:Value=>.bool (Mn.op word a b).2) (fun _=>True) (fun v=>[.blk wp [.string word] 9,.blk op [.bool vec,iV n,v] 172,Row v 81 2 yi (l++[zO.mk z (Mn.op word a b).1]),allP zO.Ok (l++[zO.mk z (Mn.op word a b).1]),slP 2 zj (.slice z.A z.l.length z.c) z.l])):=by
 obtain ⟨rA,rc,rfl,hrc,hrm,hrA⟩:=row_form' (hG.row (i:=2) rfl)
 obtain ⟨hzc,hzm,hzA⟩:=zJ.wf (hG.vQ (i:=4) rfl)
 have hwl:∀ x ∈ l,zO.Wf x:=fun x hx=>(hG.vQ (i:=3) rfl x hx).wf
 refine fstart (N:=27) (vals:=[.slice z.A z.l.length z.c,iV a,iV b,.pointer (some ⟨wp,0,none⟩),.pointer (some ⟨op,0,none⟩)]) (S:=Mem w ⟨fpOf [.blk wp [.string word] 9,.blk op [.bool vec,iV n,.slice rA l.length rc] 172,Row (.slice rA l.length rc) 81 2 yi l,allP zO.Ok l,slP 2 zj (.slice z.A z.l.length z.c) z.l],Pb⟩ [.blk wp [.string word] 9,.blk op [.bool vec,iV n,.slice rA l.length rc] 172,Row (.slice rA l.length rc) 81 2 yi l,allP zO.Ok l,slP 2 zj (.slice z.A z.l.length z.c) z.l]) func193 rfl rfl rfl hG (zG fun _ hK1=>zP rfl (zD hK1 (zG fun _ hK2=>zB (zg 0 rfl rfl rfl flat9) (zE rfl (zE rfl (yF wn rfl call194 rfl (fun w1 hM=>c_op word a b w1 (by first | assumption | omega) (by first | assumption | omega)) (zE rfl (zB (yG rfl rfl) (zB (yG rfl rfl) ?_)))))))))
 refine zP rfl (zP rfl (zD hK2 (zG fun _ hK3=>zB (za rfl fld172_2) (zB (zg 1 rfl rfl rfl flat32) (zE rfl (zE rfl (zB (zz [.slice z.A z.l.length z.c,iV ((Mn.op word a b).1)] pl81 inf81 rfl rfl) (yw yi ([(zO.mk ⟨z.A,z.c,z.l⟩ ((Mn.op word a b).1))]:List zO) wn underlying32 inf81 rfl rfl rfl rfl (by decide) (by decide) rfl fun b23=>vG 3 l ([(zO.mk ⟨z.A,z.c,z.l⟩ ((Mn.op word a b).1))]:List zO) encCellX wn rfl rfl rfl (fun _ hM=>(RowSl encCellX hM 0 rfl)) underlying32 inf81 rfl rfl (by simp only [List.length_append,List.length_cons,List.length_nil]; omega) rfl fun A1 cp1 hc1 hm1 hA1=>yV (fun _ h=>h.allCell (n:=(Mn.op word a b).1) 4 5 rfl rfl) ?_))))))))
 have hw1:∀ x ∈ (l++([(zO.mk ⟨z.A,z.c,z.l⟩ ((Mn.op word a b).1))]:List zO)),zO.Wf x:=fun x hx=>(List.mem_append.1 hx).elim (hwl x) fun h=>by rw [List.mem_singleton.1 h]; exact ⟨⟨by omega,by omega,hzA⟩⟩
 refine zB (za rfl fld172_2) (yt 3 wn rfl rfl rfl rfl inf32 rfl rfl (zD hK3 (zG fun _ hK4=>zE rfl (zP rfl (zD hK4 (zX (zY (.inl rfl) results193 (zR rfl) fun w1 hM=>?_)))))))
 exact hM.vV (.slice A1 ((l++([(zO.mk ⟨z.A,z.c,z.l⟩ ((Mn.op word a b).1))]:List zO)).length) cp1) rfl trivial (fun h=>h.sel [2,3,4,0,6] (by decide) rfl)
end
section
open Tryz
open Ex
set_option linter.unusedVariables false
set_option linter.unusedSimpArgs false
set_option maxHeartbeats 2000000 in
theorem c_bask1 (box bp cost : Nat) (x : ya) (S : Nat → Prop) (ms : SlX Match) (a b n : Int) (Pb : Nat → Prop) (w : World) (hG : Mem w ⟨fpOf [.blk cost [iV n] 3, .dat S (Lent 91 93 S box bp x), slP 3 yg (.slice ms.A ms.l.length ms.c) ms.l], Pb⟩ [.blk cost [iV n] 3, .dat S (Lent 91 93 S box bp x), slP 3 yg (.slice ms.A ms.l.length ms.c) ms.l] w) (hok : ∀ s ∈ x.zA.l, s.sr.l.length ≤ 1048576) (hlen : x.zA.l.length ≤ 8) :
    Calls prog 116 #[.slice ms.A ms.l.length ms.c,iV a,iV b,.pointer (some ⟨box,0,none⟩),.pointer (some ⟨cost,0,none⟩)] w (RetA w [.blk cost [iV n] 3,.dat S (Lent 91 93 S box bp x),slP 3 yg (.slice ms.A ms.l.length ms.c) ms.l] Pb (winV (Bs.look (x.zA.l.map zF.e) ms.l a b).2) (fun z=>vu.is z (Bs.look (x.zA.l.map zF.e) ms.l a b).1) (fun z=>[.pub (fun S=>vu.Ok S z),.blk cost [iV (Bs.cost (x.zA.l.map zF.e) ms.l a b n)] 3])):=by
 obtain ⟨hwf,hsc,hsm,hsA⟩:=hG.lentWf 1 rfl
 obtain ⟨hmc,hmm,hmA⟩:=zJ.wf (hG.slp 2 rfl)
 have hG:=hG.lent 1 rfl
 refine fstart (N:=68) (vals:=[.slice ms.A ms.l.length ms.c,iV a,iV b,.pointer (some ⟨box,0,none⟩),.pointer (some ⟨cost,0,none⟩)]) (S:=Mem w ⟨fpOf [.blk cost [iV n] 3,.dat S (Lent 91 93 S box bp x),slP 3 yg (.slice ms.A ms.l.length ms.c) ms.l],Pb⟩ [datB box [.pointer (some ⟨bp,0,none⟩)] 91,datB bp [.slice x.zA.A x.zA.l.length x.zA.c,iV x.zh] 93,slO S 9 zx (.slice x.zA.A x.zA.l.length x.zA.c) x.zA.l,.blk cost [iV n] 3,.dat S (Lent 91 93 S box bp x),slP 3 yg (.slice ms.A ms.l.length ms.c) ms.l]) func116 rfl rfl rfl hG (zG fun _ hK1=>vE (serE:vF→List Value) 39 1 (yV (fun _ h=>h.all0 vF.Ok.loc) (zP rfl (vE (sumE:Sum→List Value) 89 7 (zP rfl (zP rfl (zD hK1 (zS fun _ hK2=>zG fun _ hK3=>zB (vz 3 rfl rfl rfl flat91) ?_))))))))
 refine zB (zT rfl) (zB (za rfl fld93_0) (zB (za rfl fld25_0) (zB (vz 4 rfl rfl rfl flat23) (zB (yW rfl underlying23) (zE rfl (zD hK3 (zk (c_loop7 (fun (k:Nat) (ss:List vF) (us:List Sum) (acc:List (List Label × Sum)) (c:Int) (sv:Value) (uv:Value)=>[(0,.slice ms.A ms.l.length ms.c),(1,iV a),(2,iV b),(4,.pointer (some ⟨cost,0,none⟩)),(8,sv),(9,uv),(21,.slice x.zA.A x.zA.l.length x.zA.c),(22,iV x.zA.l.length),(23,iV k)]) (fun (k:Nat) (ss:List vF) (us:List Sum) (acc:List (List Label × Sum)) (c:Int) (sv:Value) (uv:Value)=>[Row uv 89 7 sumE us,allP vF.Ok ss,Row sv 39 1 serE ss,datB box [.pointer (some ⟨bp,0,none⟩)] 91,datB bp [.slice x.zA.A x.zA.l.length x.zA.c,iV x.zh] 93,slO S 9 zx (.slice x.zA.A x.zA.l.length x.zA.c) x.zA.l,.blk cost [iV c] 3,.dat S (Lent 91 93 S box bp x),slP 3 yg (.slice ms.A ms.l.length ms.c) ms.l]) (fun (k:Nat) (ss:List vF) (us:List Sum) (acc:List (List Label × Sum)) (c:Int) (sv:Value) (uv:Value)=>k≤x.zA.l.length∧(∀ y ∈ ss,vF.Wf y)∧ss.map (fun y=>y.sr.l)=acc.map (·.1)∧us=acc.map (·.2)∧Bs.look (x.zA.l.map zF.e) ms.l a b=Bs.pre acc (Bs.look ((x.zA.l.map zF.e).drop k) ms.l a b)∧Bs.cost (x.zA.l.map zF.e) ms.l a b n=Bs.cost ((x.zA.l.map zF.e).drop k) ms.l a b c∧(ss.length≤k∧us.length≤k)) (fun (k:Nat) (ss:List vF) (us:List Sum) (acc:List (List Label × Sum)) (c:Int) (sv:Value) (uv:Value)=>x.zA.l.length - k) 0 [] [] [] n (Zs) (Zs) (sc rfl (sc rfl (sc rfl (sc rfl (sc rfl (sc rfl (sc rfl (sc rfl (sc (ji (by omega)) sn))))))))) (fun _ h=>h) ?_ (fun k ss us acc c sv uv hI1=>?_)))))))))
 · exact ⟨Nat.zero_le _,fun x hx=>(by cases hx),rfl,rfl,Bs.pre_0 _ _ _,rfl,Nat.le_refl _,Nat.le_refl _⟩
 have hwl:=hI1.2.1
 have hll:=hI1.2.2.2.2.2.2
 refine vW 2 (l:=ss) rfl fun A1 cp1 hv1 hc1 hm1 hA1=>?_
 subst hv1
 refine vW 0 (l:=us) rfl fun A2 cp2 hv2 hc2 hm2 hA2=>?_
 subst hv2
 refine zG fun _ hK4=>zB (yR rfl rfl) (zD hK4 (zS fun _ hK5=>zZ rfl (fun h1=>?_) (fun h1=>?_)))
 · refine yK hK5 (zS fun _ hK6=>zk (zG fun _ hK7=>?_))
   obtain ⟨ad1,hd1⟩:=hsA (ne_nil (i:=k) (by first | omega | (simp <;> omega)))
   refine zB (y6 (i:=k) rfl hd1 rfl (by omega) (by first | omega | (simp <;> omega)) underlying23 inf50) ?_
   obtain ⟨s1,hs1⟩:∃ y9,x.zA.l[k]?=some y9:=⟨_,List.getElem?_eq_getElem (by first | omega | (simp <;> omega))⟩
   refine yV (fun _ h=>h.lentAt 7 rfl hs1) ?_
   have hw1:=hwf _ (List.mem_of_getElem? hs1)
   have hs4:=hok _ (List.mem_of_getElem? hs1)
   obtain ⟨hc3,hm3,hA3⟩:=hw1.sr
   obtain ⟨hc4,hm4,hA4⟩:=hw1.raw
   obtain ⟨hc5,hm5,hA5⟩:=hw1.fine
   obtain ⟨hc6,hm6,hA6⟩:=hw1.coarse
   refine zB (vx 9 [.slice s1.sr.A s1.sr.l.length s1.sr.c,.slice s1.raw.A s1.raw.l.length s1.raw.c,.slice s1.fine.A s1.fine.l.length s1.fine.c,.slice s1.coarse.A s1.coarse.l.length s1.coarse.c,iV s1.ze,iV s1.zW,iV s1.zI,iV s1.zN,iV s1.zH] rfl rfl hd1 hs1 rfl rfl agg50 inf50) (yC wn inf50 rfl fun b12=>zr 0 wn rfl rfl rfl inf50 rfl rfl rfl (zD hK7 (zS fun _ hK8=>zG fun _ hK9=>zB (za rfl fld50_0) (zB (zg 0 rfl rfl rfl flat39) (zE rfl (yF wn rfl call60 rfl (fun w1 hM=>c_matches _ s1.sr.l _ ms.l w1 (hM.sl 1 rfl) (hM.slp 13 rfl)) (zB (vC rfl) (zD hK9 ?_))))))))
   refine yp rfl (fun h2=>?_) (fun h2=>?_)
   · refine yZ (yH (yI (zy hK6 (zL (zB (zw rfl rfl (by omega)) (zE rfl (zl (uk (k + 1) ss us acc c (.slice A1 ss.length cp1) (.slice A2 us.length cp2) (sc rfl (sc rfl (sc rfl (sc rfl (sc rfl (sc rfl (sc rfl (sc rfl (sc (ji (by omega)) sn))))))))) (S9 [5,6,7,8,9,10,11,12,13]) ?_ ?_))))))))
     · have hm9:¬ zc.vB (zF.e s1).zV ms.l=true:=by simpa [zF.e] using h2
       exact ⟨by omega,hwl,hI1.2.2.1,hI1.2.2.2.1,Bs.look_skip (by rw [List.getElem?_map,hs1]; rfl) hI1.2.2.2.2.1 hm9,Bs.cost_skip (by rw [List.getElem?_map,hs1]; rfl) hI1.2.2.2.2.2.1 hm9,by omega⟩
     omega
   refine yK hK8 (zG fun _ hK10=>zB (yM 0 [.slice s1.sr.A s1.sr.l.length s1.sr.c,.slice s1.raw.A s1.raw.l.length s1.raw.c,.slice s1.fine.A s1.fine.l.length s1.fine.c,.slice s1.coarse.A s1.coarse.l.length s1.coarse.c,iV s1.ze,iV s1.zW,iV s1.zI,iV s1.zN,iV s1.zH] rfl rfl rfl rfl agg50 inf50) (zE rfl (zE rfl (l_callLT ((Sh.choose (zF.e s1) a b).1) (fun r=>.tuple (List.toArray [r,iV ((Sh.choose (zF.e s1) a b).2)])) wn rfl rfl call117 rfl (fun w1 hM=>c_choose _ _ _ _ (zF.e s1) a b (In w1) w1 (fun _ h=>h) (hM.sl 1 rfl) (hM.sl 2 rfl) (hM.sl 3 rfl) (hM.sl 4 rfl)) fun A3 cp3 hc7 hm7 hA7=>zE rfl (zB (yG rfl rfl) (zB (yG rfl rfl) (zP rfl (zP rfl (zD hK10 ?_)))))))))
   refine zS fun _ hK11=>zG fun _ hK12=>zE rfl (zB (vD rfl rfl) (zD hK12 (zZ rfl (fun h3=>?_) (fun h3=>?_))))
   · refine zG fun _ hK13=>zE rfl (vE (serE:vF→List Value) 39 1 (yV (fun _ h=>h.all0 vF.Ok.loc) (zP rfl (vE (sumE:Sum→List Value) 89 7 (zP rfl (zP rfl (zD hK13 (zX (zK (yA (zK (e_loop7_r (yA (zK (ud (.inl rfl) results116 (zR rfl) (zR rfl) (zR rfl) fun w1 hM=>?_)))))))))))))))
     have hm9:zc.vB (zF.e s1).zV ms.l=true:=by simpa [zF.e] using h2
     have h9:=Bs.look_bad1 (by rw [List.getElem?_map,hs1]; rfl) hI1.2.2.2.2.1 hm9 h3
     have h8:=Bs.cost_bad1 (by rw [List.getElem?_map,hs1]; rfl) hI1.2.2.2.2.2.1 hm9 h3
     have hM:=hM.vU (vu.Ok.loc (⟨⟨none,0,[]⟩,⟨none,0,[]⟩⟩:vu)) fun Pb pp=>⟨zJ.yq _ _ _ _,fun c hc=>(by cases hc),zJ.yq _ _ _ _⟩
     exact hM.vV (⟨⟨none,0,[]⟩,⟨none,0,[]⟩⟩:vu) (by rw [h9]; rfl) ⟨by rw [h9]; rfl,by rw [h9]; rfl⟩ (fun h=>by rw [h8]; exact h.sel [0,16] (by decide) rfl)
   refine yK hK11 (zG fun _ hK14=>zB (yM 1 [.slice s1.sr.A s1.sr.l.length s1.sr.c,.slice s1.raw.A s1.raw.l.length s1.raw.c,.slice s1.fine.A s1.fine.l.length s1.fine.c,.slice s1.coarse.A s1.coarse.l.length s1.coarse.c,iV s1.ze,iV s1.zW,iV s1.zI,iV s1.zN,iV s1.zH] rfl rfl rfl rfl agg50 inf50) (zE rfl (yF wn rfl call118 rfl (fun w1 hM=>c_read _ _ _ _ (zF.e s1) _ ((Sh.choose (zF.e s1) a b).1) (In w1) w1 (fun _ h=>h) (hM.sl 2 rfl) (hM.sl 3 rfl) (hM.sl 4 rfl) (hM.sl 5 rfl) (RowSl encPart hM 0 rfl) (by first | omega | assumption | exact Sh.choose_len _ _ _ | simp)) (zE rfl (zB (yG rfl rfl) (zB (yG rfl rfl) (zB (yG rfl rfl) (yC wn inf89 rfl fun b15=>zr 0 wn rfl rfl rfl inf89 rfl rfl rfl (zP rfl ?_)))))))))
   refine zP rfl (zD hK14 (zS fun _ hK15=>zG fun _ hK16=>zE rfl (zB (vD rfl rfl) (zD hK16 (zZ rfl (fun h4=>?_) (fun h4=>?_))))))
   · refine zG fun _ hK17=>zE rfl (vE (serE:vF→List Value) 39 1 (yV (fun _ h=>h.all0 vF.Ok.loc) (zP rfl (vE (sumE:Sum→List Value) 89 7 (zP rfl (zP rfl (zD hK17 (zX (zK (yA (zK (e_loop7_r (yA (zK (ud (.inl rfl) results116 (zR rfl) (zR rfl) (zR rfl) fun w1 hM=>?_)))))))))))))))
     have hm9:zc.vB (zF.e s1).zV ms.l=true:=by simpa [zF.e] using h2
     have h9:=Bs.look_bad2 (by rw [List.getElem?_map,hs1]; rfl) hI1.2.2.2.2.1 hm9 h3 h4
     have h8:=Bs.cost_bad2 (by rw [List.getElem?_map,hs1]; rfl) hI1.2.2.2.2.2.1 hm9 h3 h4
     have hM:=hM.vU (vu.Ok.loc (⟨⟨none,0,[]⟩,⟨none,0,[]⟩⟩:vu)) fun Pb pp=>⟨zJ.yq _ _ _ _,fun c hc=>(by cases hc),zJ.yq _ _ _ _⟩
     exact hM.vV (⟨⟨none,0,[]⟩,⟨none,0,[]⟩⟩:vu) (by rw [h9]; rfl) ⟨by rw [h9]; rfl,by rw [h9]; rfl⟩ (fun h=>by rw [h8]; exact h.sel [0,17] (by decide) rfl)
   refine yK hK15 (zG fun _ hK18=>zB (zg 13 rfl rfl rfl flat3) (zE rfl (zB (jc rfl rfl) (yt 13 wn rfl rfl rfl rfl inf3 rfl rfl (zD hK18 (vL (Mem w ⟨fpOf [.blk cost [iV n] 3,.dat S (Lent 91 93 S box bp x),slP 3 yg (.slice ms.A ms.l.length ms.c) ms.l],Pb⟩ [.blk b15 [iV (((Sh.read (zF.e s1) ((Sh.choose (zF.e s1) a b).1)).1).count),iV (((Sh.read (zF.e s1) ((Sh.choose (zF.e s1) a b).1)).1).total),iV (((Sh.read (zF.e s1) ((Sh.choose (zF.e s1) a b).1)).1).min),iV (((Sh.read (zF.e s1) ((Sh.choose (zF.e s1) a b).1)).1).max),iV (((Sh.read (zF.e s1) ((Sh.choose (zF.e s1) a b).1)).1).first),iV (((Sh.read (zF.e s1) ((Sh.choose (zF.e s1) a b).1)).1).last),iV (((Sh.read (zF.e s1) ((Sh.choose (zF.e s1) a b).1)).1).rise)] 89,Row (.slice A3 (((Sh.choose (zF.e s1) a b).1).length) cp3) 217 3 vZ ((Sh.choose (zF.e s1) a b).1),.blk b12 [.slice s1.sr.A s1.sr.l.length s1.sr.c,.slice s1.raw.A s1.raw.l.length s1.raw.c,.slice s1.fine.A s1.fine.l.length s1.fine.c,.slice s1.coarse.A s1.coarse.l.length s1.coarse.c,iV s1.ze,iV s1.zW,iV s1.zI,iV s1.zN,iV s1.zH] 50,slO S 2 zj (.slice s1.sr.A s1.sr.l.length s1.sr.c) s1.sr.l,slO S 2 zo (.slice s1.raw.A s1.raw.l.length s1.raw.c) s1.raw.l,slO S 8 zU (.slice s1.fine.A s1.fine.l.length s1.fine.c) s1.fine.l,slO S 8 zU (.slice s1.coarse.A s1.coarse.l.length s1.coarse.c) s1.coarse.l,datB box [.pointer (some ⟨bp,0,none⟩)] 91,datB bp [.slice x.zA.A x.zA.l.length x.zA.c,iV x.zh] 93,slO S 9 zx (.slice x.zA.A x.zA.l.length x.zA.c) x.zA.l,.blk cost [iV (IntKind.wrap .i64 (c + (Sh.read (zF.e s1) ((Sh.choose (zF.e s1) a b).1)).2.1))] 3,.dat S (Lent 91 93 S box bp x),slP 3 yg (.slice ms.A ms.l.length ms.c) ms.l]) mix (fun _ h=>h.drew) rfl (vK 7 [0,1,2,6,7] [0,1,2,3,4,5,6,10,11,12,13,14,15] rfl fun KS hKS=>yD (zi rfl) (yD (za rfl fld50_0) (yD (zg 2 rfl rfl rfl flat39) ?_)))))))))
   refine yD (zi rfl) (yD (yM 0 [iV (((Sh.read (zF.e s1) ((Sh.choose (zF.e s1) a b).1)).1).count),iV (((Sh.read (zF.e s1) ((Sh.choose (zF.e s1) a b).1)).1).total),iV (((Sh.read (zF.e s1) ((Sh.choose (zF.e s1) a b).1)).1).min),iV (((Sh.read (zF.e s1) ((Sh.choose (zF.e s1) a b).1)).1).max),iV (((Sh.read (zF.e s1) ((Sh.choose (zF.e s1) a b).1)).1).first),iV (((Sh.read (zF.e s1) ((Sh.choose (zF.e s1) a b).1)).1).last),iV (((Sh.read (zF.e s1) ((Sh.choose (zF.e s1) a b).1)).1).rise)] rfl rfl rfl rfl agg89 inf89) (yd hKS (vX (f:=6) (i:=3) (j:=8) rfl (by kernel_rfl) ?_ ?_)))
   · refine yb (i:=3) rfl fun KN hKN=>uU s1.sr.l wn rfl call61 rfl (fun w1 hM=>uM _ s1.sr.l w1 (hM.sl 3 rfl) (by omega)) fun A4 cp4 hc8 hm8 hA8=>yP hKN [1,2,3,4,5,6,7,11,12,13,14,15,16] (vX (f:=5) (i:=4) (j:=8) rfl (by kernel_rfl) ?_ ?_)
     · refine yb (i:=4) rfl fun KN hKN=>yw serE ([(vF.mk ⟨A4,cp4,s1.sr.l⟩)]:List vF) wn underlying125 inf39 rfl rfl rfl rfl (by decide) (by decide) rfl fun b59=>yP hKN [2,3,4,5,6,7,8,12,13,14,15,16,17] (vX (f:=4) (i:=5) (j:=8) rfl (by kernel_rfl) ?_ ?_)
       · refine yb (i:=5) rfl fun KN hKN=>vG 11 ss ([(vF.mk ⟨A4,cp4,s1.sr.l⟩)]:List vF) encSerX wn rfl rfl rfl (fun _ hM=>(RowSl encSerX hM 0 rfl)) underlying125 inf39 rfl rfl (by simp only [List.length_append,List.length_cons,List.length_nil]; omega) rfl fun A5 cp5 hc9 hm9 hA9=>jT 1 15 encLabel rfl rfl rfl onlyC (yV (fun _ h=>h.allSer 10 1 rfl rfl) ?_)
         have hw2:∀ x ∈ (ss++([(vF.mk ⟨A4,cp4,s1.sr.l⟩)]:List vF)),vF.Wf x:=fun x hx=>(List.mem_append.1 hx).elim (hwl x) fun h=>by rw [List.mem_singleton.1 h]; exact ⟨⟨by omega,by omega,hA8⟩⟩
         refine yP hKN [3,4,5,6,7,8,9,13,14,15,16,17,18] (yY 3 8 (yb (i:=8) rfl fun KN hKN=>yw sumE ([((Sh.read (zF.e s1) ((Sh.choose (zF.e s1) a b).1)).1)]:List Sum) wn underlying126 inf89 rfl rfl rfl rfl (by decide) (by decide) rfl fun b63=>yP hKN [4,5,6,7,8,9,10,14,15,16,17,18,19] (yY 2 9 (yb (i:=9) rfl fun KN hKN=>vG 11 us ([((Sh.read (zF.e s1) ((Sh.choose (zF.e s1) a b).1)).1)]:List Sum) encSum wn rfl rfl rfl (fun _ hM=>(RowSl encSum hM 0 rfl)) underlying126 inf89 rfl rfl (by simp only [List.length_append,List.length_cons,List.length_nil]; omega) rfl fun A6 cp6 hc10 hm10 hA10=>yP hKN [4,5,6,7,8,9,10,14,15,16,17,18,19] (vK 0 [10,11] [4,5,6,7,8,9,10,14,15,16,17,18,19] rfl fun KS hKS=>yD (yk rfl) (yD (yk rfl) ?_))))))
         refine yd hKS (yu (by kernel_rfl) (zm (zy hK6 (zL (zB (zw rfl rfl (by omega)) (zE rfl (zl (uk (k + 1) (ss++([(vF.mk ⟨A4,cp4,s1.sr.l⟩)]:List vF)) (us++([((Sh.read (zF.e s1) ((Sh.choose (zF.e s1) a b).1)).1)]:List Sum)) (acc++[(s1.sr.l,(Sh.read (zF.e s1) (Sh.choose (zF.e s1) a b).1).1)]) (IntKind.wrap .i64 (c + (Sh.read (zF.e s1) ((Sh.choose (zF.e s1) a b).1)).2.1)) (.slice A5 ((ss++([(vF.mk ⟨A4,cp4,s1.sr.l⟩)]:List vF)).length) cp5) (.slice A6 ((us++([((Sh.read (zF.e s1) ((Sh.choose (zF.e s1) a b).1)).1)]:List Sum)).length) cp6) (sc rfl (sc rfl (sc rfl (sc rfl (sc rfl (sc rfl (sc rfl (sc rfl (sc (ji (by omega)) sn))))))))) (S9 [11,1,13,14,15,16,17,18,19]) ?_ ?_))))))))
         · have hm9:zc.vB (zF.e s1).zV ms.l=true:=by simpa [zF.e] using h2
           exact ⟨by omega,hw2,by rw [List.map_append,List.map_append,← hI1.2.2.1]; rfl,by rw [List.map_append,← hI1.2.2.2.1]; rfl,Bs.look_more (by rw [List.getElem?_map,hs1]; rfl) hI1.2.2.2.2.1 hm9 h3 h4,Bs.cost_more (by rw [List.getElem?_map,hs1]; rfl) hI1.2.2.2.2.2.1 hm9 h3 h4,by simp only [List.length_append,List.length_cons,List.length_nil]; omega⟩
         omega
       refine yb (i:=8) rfl fun KN hKN=>yw sumE ([((Sh.read (zF.e s1) ((Sh.choose (zF.e s1) a b).1)).1)]:List Sum) wn underlying126 inf89 rfl rfl rfl rfl (by decide) (by decide) rfl fun b63=>yP hKN [3,4,5,6,7,8,9,13,14,15,16,17,18] (yY 3 5 (yb (i:=5) rfl fun KN hKN=>vG 12 ss ([(vF.mk ⟨A4,cp4,s1.sr.l⟩)]:List vF) encSerX wn rfl rfl rfl (fun _ hM=>(RowSl encSerX hM 1 rfl)) underlying125 inf39 rfl rfl (by simp only [List.length_append,List.length_cons,List.length_nil]; omega) rfl fun A7 cp7 hc11 hm11 hA11=>jT 2 16 encLabel rfl rfl rfl onlyC (yV (fun _ h=>h.allSer 11 2 rfl rfl) ?_)))
       have hw3:∀ x ∈ (ss++([(vF.mk ⟨A4,cp4,s1.sr.l⟩)]:List vF)),vF.Wf x:=fun x hx=>(List.mem_append.1 hx).elim (hwl x) fun h=>by rw [List.mem_singleton.1 h]; exact ⟨⟨by omega,by omega,hA8⟩⟩
       refine yP hKN [4,5,6,7,8,9,10,14,15,16,17,18,19] (yY 2 9 (yb (i:=9) rfl fun KN hKN=>vG 11 us ([((Sh.read (zF.e s1) ((Sh.choose (zF.e s1) a b).1)).1)]:List Sum) encSum wn rfl rfl rfl (fun _ hM=>(RowSl encSum hM 1 rfl)) underlying126 inf89 rfl rfl (by simp only [List.length_append,List.length_cons,List.length_nil]; omega) rfl fun A8 cp8 hc12 hm12 hA12=>yP hKN [4,5,6,7,8,9,10,14,15,16,17,18,19] (vK 0 [10,11] [4,5,6,7,8,9,10,14,15,16,17,18,19] rfl fun KS hKS=>yD (yk rfl) (yD (yk rfl) (yd hKS (yu (by kernel_rfl) (zm (zy hK6 (zL (zB (zw rfl rfl (by omega)) ?_))))))))))
       refine zE rfl (zl (uk (k + 1) (ss++([(vF.mk ⟨A4,cp4,s1.sr.l⟩)]:List vF)) (us++([((Sh.read (zF.e s1) ((Sh.choose (zF.e s1) a b).1)).1)]:List Sum)) (acc++[(s1.sr.l,(Sh.read (zF.e s1) (Sh.choose (zF.e s1) a b).1).1)]) (IntKind.wrap .i64 (c + (Sh.read (zF.e s1) ((Sh.choose (zF.e s1) a b).1)).2.1)) (.slice A7 ((ss++([(vF.mk ⟨A4,cp4,s1.sr.l⟩)]:List vF)).length) cp7) (.slice A8 ((us++([((Sh.read (zF.e s1) ((Sh.choose (zF.e s1) a b).1)).1)]:List Sum)).length) cp8) (sc rfl (sc rfl (sc rfl (sc rfl (sc rfl (sc rfl (sc rfl (sc rfl (sc (ji (by omega)) sn))))))))) (S9 [11,0,13,14,15,16,17,18,19]) ?_ ?_))
       · have hm9:zc.vB (zF.e s1).zV ms.l=true:=by simpa [zF.e] using h2
         exact ⟨by omega,hw3,by rw [List.map_append,List.map_append,← hI1.2.2.1]; rfl,by rw [List.map_append,← hI1.2.2.2.1]; rfl,Bs.look_more (by rw [List.getElem?_map,hs1]; rfl) hI1.2.2.2.2.1 hm9 h3 h4,Bs.cost_more (by rw [List.getElem?_map,hs1]; rfl) hI1.2.2.2.2.2.1 hm9 h3 h4,by simp only [List.length_append,List.length_cons,List.length_nil]; omega⟩
       omega
     refine yb (i:=8) rfl fun KN hKN=>yw sumE ([((Sh.read (zF.e s1) ((Sh.choose (zF.e s1) a b).1)).1)]:List Sum) wn underlying126 inf89 rfl rfl rfl rfl (by decide) (by decide) rfl fun b63=>yP hKN [2,3,4,5,6,7,8,12,13,14,15,16,17] (yY 4 4 (yb (i:=4) rfl fun KN hKN=>yw serE ([(vF.mk ⟨A4,cp4,s1.sr.l⟩)]:List vF) wn underlying125 inf39 rfl rfl rfl rfl (by decide) (by decide) rfl fun b59=>yP hKN [3,4,5,6,7,8,9,13,14,15,16,17,18] (yY 3 5 (yb (i:=5) rfl fun KN hKN=>vG 12 ss ([(vF.mk ⟨A4,cp4,s1.sr.l⟩)]:List vF) encSerX wn rfl rfl rfl (fun _ hM=>(RowSl encSerX hM 0 rfl)) underlying125 inf39 rfl rfl (by simp only [List.length_append,List.length_cons,List.length_nil]; omega) rfl fun A9 cp9 hc13 hm13 hA13=>jT 2 16 encLabel rfl rfl rfl onlyC (yV (fun _ h=>h.allSer 11 2 rfl rfl) ?_)))))
     have hw4:∀ x ∈ (ss++([(vF.mk ⟨A4,cp4,s1.sr.l⟩)]:List vF)),vF.Wf x:=fun x hx=>(List.mem_append.1 hx).elim (hwl x) fun h=>by rw [List.mem_singleton.1 h]; exact ⟨⟨by omega,by omega,hA8⟩⟩
     refine yP hKN [4,5,6,7,8,9,10,14,15,16,17,18,19] (yY 2 9 (yb (i:=9) rfl fun KN hKN=>vG 11 us ([((Sh.read (zF.e s1) ((Sh.choose (zF.e s1) a b).1)).1)]:List Sum) encSum wn rfl rfl rfl (fun _ hM=>(RowSl encSum hM 2 rfl)) underlying126 inf89 rfl rfl (by simp only [List.length_append,List.length_cons,List.length_nil]; omega) rfl fun A10 cp10 hc14 hm14 hA14=>yP hKN [4,5,6,7,8,9,10,14,15,16,17,18,19] (vK 0 [10,11] [4,5,6,7,8,9,10,14,15,16,17,18,19] rfl fun KS hKS=>yD (yk rfl) (yD (yk rfl) (yd hKS (yu (by kernel_rfl) (zm (zy hK6 (zL (zB (zw rfl rfl (by omega)) ?_))))))))))
     refine zE rfl (zl (uk (k + 1) (ss++([(vF.mk ⟨A4,cp4,s1.sr.l⟩)]:List vF)) (us++([((Sh.read (zF.e s1) ((Sh.choose (zF.e s1) a b).1)).1)]:List Sum)) (acc++[(s1.sr.l,(Sh.read (zF.e s1) (Sh.choose (zF.e s1) a b).1).1)]) (IntKind.wrap .i64 (c + (Sh.read (zF.e s1) ((Sh.choose (zF.e s1) a b).1)).2.1)) (.slice A9 ((ss++([(vF.mk ⟨A4,cp4,s1.sr.l⟩)]:List vF)).length) cp9) (.slice A10 ((us++([((Sh.read (zF.e s1) ((Sh.choose (zF.e s1) a b).1)).1)]:List Sum)).length) cp10) (sc rfl (sc rfl (sc rfl (sc rfl (sc rfl (sc rfl (sc rfl (sc rfl (sc (ji (by omega)) sn))))))))) (S9 [11,0,13,14,15,16,17,18,19]) ?_ ?_))
     · have hm9:zc.vB (zF.e s1).zV ms.l=true:=by simpa [zF.e] using h2
       exact ⟨by omega,hw4,by rw [List.map_append,List.map_append,← hI1.2.2.1]; rfl,by rw [List.map_append,← hI1.2.2.2.1]; rfl,Bs.look_more (by rw [List.getElem?_map,hs1]; rfl) hI1.2.2.2.2.1 hm9 h3 h4,Bs.cost_more (by rw [List.getElem?_map,hs1]; rfl) hI1.2.2.2.2.2.1 hm9 h3 h4,by simp only [List.length_append,List.length_cons,List.length_nil]; omega⟩
     omega
   refine yb (i:=8) rfl fun KN hKN=>yw sumE ([((Sh.read (zF.e s1) ((Sh.choose (zF.e s1) a b).1)).1)]:List Sum) wn underlying126 inf89 rfl rfl rfl rfl (by decide) (by decide) rfl fun b63=>yP hKN [1,2,3,4,5,6,7,11,12,13,14,15,16] (yY 5 3 (yb (i:=3) rfl fun KN hKN=>uU s1.sr.l wn rfl call61 rfl (fun w1 hM=>uM _ s1.sr.l w1 (hM.sl 4 rfl) (by omega)) fun A11 cp11 hc15 hm15 hA15=>yP hKN [2,3,4,5,6,7,8,12,13,14,15,16,17] (yY 4 4 (yb (i:=4) rfl fun KN hKN=>yw serE ([(vF.mk ⟨A11,cp11,s1.sr.l⟩)]:List vF) wn underlying125 inf39 rfl rfl rfl rfl (by decide) (by decide) rfl fun b59=>yP hKN [3,4,5,6,7,8,9,13,14,15,16,17,18] (yY 3 5 ?_)))))
   refine yb (i:=5) rfl fun KN hKN=>vG 12 ss ([(vF.mk ⟨A11,cp11,s1.sr.l⟩)]:List vF) encSerX wn rfl rfl rfl (fun _ hM=>(RowSl encSerX hM 0 rfl)) underlying125 inf39 rfl rfl (by simp only [List.length_append,List.length_cons,List.length_nil]; omega) rfl fun A12 cp12 hc16 hm16 hA16=>jT 1 16 encLabel rfl rfl rfl onlyC (yV (fun _ h=>h.allSer 11 1 rfl rfl) ?_)
   have hw5:∀ x ∈ (ss++([(vF.mk ⟨A11,cp11,s1.sr.l⟩)]:List vF)),vF.Wf x:=fun x hx=>(List.mem_append.1 hx).elim (hwl x) fun h=>by rw [List.mem_singleton.1 h]; exact ⟨⟨by omega,by omega,hA15⟩⟩
   refine yP hKN [4,5,6,7,8,9,10,14,15,16,17,18,19] (yY 2 9 (yb (i:=9) rfl fun KN hKN=>vG 11 us ([((Sh.read (zF.e s1) ((Sh.choose (zF.e s1) a b).1)).1)]:List Sum) encSum wn rfl rfl rfl (fun _ hM=>(RowSl encSum hM 3 rfl)) underlying126 inf89 rfl rfl (by simp only [List.length_append,List.length_cons,List.length_nil]; omega) rfl fun A13 cp13 hc17 hm17 hA17=>yP hKN [4,5,6,7,8,9,10,14,15,16,17,18,19] (vK 0 [10,11] [4,5,6,7,8,9,10,14,15,16,17,18,19] rfl fun KS hKS=>yD (yk rfl) (yD (yk rfl) (yd hKS (yu (by kernel_rfl) (zm (zy hK6 (zL (zB (zw rfl rfl (by omega)) ?_))))))))))
   refine zE rfl (zl (uk (k + 1) (ss++([(vF.mk ⟨A11,cp11,s1.sr.l⟩)]:List vF)) (us++([((Sh.read (zF.e s1) ((Sh.choose (zF.e s1) a b).1)).1)]:List Sum)) (acc++[(s1.sr.l,(Sh.read (zF.e s1) (Sh.choose (zF.e s1) a b).1).1)]) (IntKind.wrap .i64 (c + (Sh.read (zF.e s1) ((Sh.choose (zF.e s1) a b).1)).2.1)) (.slice A12 ((ss++([(vF.mk ⟨A11,cp11,s1.sr.l⟩)]:List vF)).length) cp12) (.slice A13 ((us++([((Sh.read (zF.e s1) ((Sh.choose (zF.e s1) a b).1)).1)]:List Sum)).length) cp13) (sc rfl (sc rfl (sc rfl (sc rfl (sc rfl (sc rfl (sc rfl (sc rfl (sc (ji (by omega)) sn))))))))) (S9 [11,0,13,14,15,16,17,18,19]) ?_ ?_))
   · have hm9:zc.vB (zF.e s1).zV ms.l=true:=by simpa [zF.e] using h2
     exact ⟨by omega,hw5,by rw [List.map_append,List.map_append,← hI1.2.2.1]; rfl,by rw [List.map_append,← hI1.2.2.2.1]; rfl,Bs.look_more (by rw [List.getElem?_map,hs1]; rfl) hI1.2.2.2.2.1 hm9 h3 h4,Bs.cost_more (by rw [List.getElem?_map,hs1]; rfl) hI1.2.2.2.2.2.1 hm9 h3 h4,by simp only [List.length_append,List.length_cons,List.length_nil]; omega⟩
   omega
 refine yZ (yH (e_loop7_x (yI (zy hK2 (zG fun _ hK19=>zE rfl (zE rfl (zP rfl (zP rfl (zP rfl (zD hK19 (zX (ud (.inl rfl) results116 (zR rfl) (zR rfl) (zR rfl) fun w1 hM=>?_))))))))))))
 have hM:=hM.um encSerX (i:=2) (j:=6) rfl rfl (by decide) onlyC
 have hM:=hM.um encSum (i:=0) (j:=6) rfl rfl (by decide) onlyC
 have h9:=Bs.look_end hI1.2.2.2.2.1 (by rw [List.length_map]; omega)
 have h8:=Bs.cost_end hI1.2.2.2.2.2.1 (by rw [List.length_map]; omega)
 have hM:=hM.vU (vu.Ok.loc (⟨⟨A1,cp1,ss⟩,⟨A2,cp2,us⟩⟩:vu)) fun Pb pp=>⟨pp.sl 2 rfl,pp.at_ 1 _ rfl,pp.sl 0 rfl⟩
 exact hM.vV (⟨⟨A1,cp1,ss⟩,⟨A2,cp2,us⟩⟩:vu) (by rw [h9]) ⟨by rw [h9]; exact hI1.2.2.1,by rw [h9]; exact hI1.2.2.2.1⟩ (fun h=>by rw [h8]; exact h.sel [0,7] (by decide) rfl)
end
section
open Tryz
open Ex
set_option linter.unusedVariables false
set_option linter.unusedSimpArgs false
set_option maxHeartbeats 2000000 in
theorem c_bin (wd : ByteArray) (a : yO) (b : yO) (P0 : Nat → Prop) (w : World) (hP0 : ∀ b, P0 b → b < w.heap.size) (ha : yO.Ok P0 a w) (hb : yO.Ok P0 b w) (hba : Mn.Bnd a.e) (hbb : Mn.Bnd b.e) (hla : a.cells.l.length ≤ 1048576) (hlb : b.cells.l.length ≤ 1048576) :
    Calls prog 157 #[.string wd,.agg (uY a).toArray,.agg (uY b).toArray] w (RetE w P0 (fun z:yO=>.tuple #[.agg (uY z).toArray,iV (Mn.bin wd a.e b.e).2]) (fun z=>z.e=(Mn.bin wd a.e b.e).1) (fun z S=>yO.Ok S z)):=by
 have hwa:=ha.wf
 have hwb:=hb.wf
 have hna:=hba.1
 have hnb:=hbb.1
 have hna2:-1125899906842624≤a.n∧a.n≤1125899906842624:=hba.1
 have hnb2:-1125899906842624≤b.n∧b.n≤1125899906842624:=hbb.1
 refine fstart (N:=119) (vals:=[.string wd,.agg (uY a).toArray,.agg (uY b).toArray]) (S:=Mem w ⟨no,P0⟩ [okP yO.Ok a,okP yO.Ok b]) func157 rfl rfl rfl (Mem.ofDatsP hP0 (dc (dp (yO.Ok.loc _) ha) (dc (dp (yO.Ok.loc _) hb) dn))) (zG fun _ hK1=>jJ wn rfl rfl rfl fun b3=>vS wn rfl rfl fun b4=>vS wn rfl rfl fun b5=>yC wn inf172 rfl fun b6=>zP rfl (zD hK1 (zG fun _ hK2=>zB (za rfl fld172_0) (zB (zg 2 rfl rfl rfl flat4) (zE rfl ?_)))))
 refine uT (t:=20) rfl (fun h1=>?_) (fun h1=>?_)
 · refine zQ (zQ (zB (zM rfl rfl) (zB (zz [.bool true,iV 0,Zs] pl172 inf172 rfl rfl) (yC wn inf172 rfl fun b8=>zr 0 wn rfl rfl rfl inf172 rfl rfl rfl (zD hK2 (zG fun _ hK3=>zB (vg rfl rfl) (zP rfl (zD hK3 (zG fun _ hK4=>?_)))))))))
   refine zP rfl (zD hK4 (zS fun _ hK5=>zk (zG fun _ hK6=>zB (za rfl fld172_0) (zB (zg 0 rfl rfl rfl flat4) (zB (vC rfl) (zP rfl (zD hK6 (yr rfl rfl (zG fun _ hK7=>?_)))))))))
   refine zB (za rfl fld172_0) (zB (zg 2 rfl rfl rfl flat4) (zB (vC rfl) (zP rfl (zD hK7 (yp rfl (fun h2=>?_) (fun h2=>?_))))))
   · refine zG fun _ hK8=>zB (za rfl fld172_2) (zB (zg 3 rfl rfl rfl flat32) (zB (yW rfl underlying32) (zE rfl (zD hK8 (zk (jZ (fun _ h=>h.uP zO 81 2 yi) (je (fun _ h=>h.all0 zO.Ok.loc) (uK (fun (k:Nat) (cs:List zO) (ok:Bool) (ov:Value)=>[(5,.pointer (some ⟨b5,0,none⟩)),(6,.pointer (some ⟨b6,0,none⟩)),(8,.pointer (some ⟨b8,0,none⟩)),(9,.func (.func 193) #[] #[.pointer (some ⟨b3,0,none⟩),.pointer (some ⟨b8,0,none⟩)]),(10,.bool ok),(74,.slice a.cells.A a.cells.l.length a.cells.c),(75,iV a.cells.l.length),(76,iV k)]) (fun (k:Nat) (cs:List zO) (ok:Bool) (ov:Value)=>[allP zO.Ok cs,Row ov 81 2 yi cs,.blk b8 [.bool true,iV 0,ov] 172,.blk b6 [.bool false,iV 0,Zs] 172,.blk b5 [.bool b.vec,iV b.n,.slice b.cells.A b.cells.l.length b.cells.c] 172,.blk b4 [.bool a.vec,iV a.n,.slice a.cells.A a.cells.l.length a.cells.c] 172,.blk b3 [.string wd] 9,okP yO.Ok a,okP yO.Ok b]) (fun (k:Nat) (cs:List zO) (ok:Bool) (ov:Value)=>k≤a.cells.l.length∧(∀ x ∈ cs,zO.Wf x)∧cs.map zO.e=Mn.done wd (Mn.p1 a b k)∧ok=Mn.fine wd (Mn.p1 a b k)∧cs.length≤k) (fun (k:Nat) (cs:List zO) (ok:Bool) (ov:Value)=>a.cells.l.length - k) 0 [] true (Zs) (sc rfl (sc rfl (sc rfl (sc rfl (sc rfl (sc rfl (sc rfl (sc (ji (by omega)) sn)))))))) (fun _ h=>h) ?_ (fun k cs ok ov hI1=>?_)))))))))
     · exact ⟨Nat.zero_le _,fun x hx=>(by cases hx),rfl,rfl,Nat.le_refl _⟩
     have hwf:=hI1.2.1
     have hlen:=hI1.2.2.2.2
     refine vW 1 (l:=cs) rfl fun A1 cp1 hv1 hc1 hm1 hA1=>?_
     subst hv1
     refine zG fun _ hK9=>zB (yR rfl rfl) (zD hK9 (zS fun _ hK10=>zZ rfl (fun h3=>?_) (fun h3=>?_)))
     · refine yK hK10 (zS fun _ hK11=>zk (zG fun _ hK12=>yV (fun _ h=>h.valX 7 rfl) ?_))
       obtain ⟨hc2,hm2,hA2⟩:=hwa.cells
       obtain ⟨ad1,hd1⟩:=hA2 (ne_nil (i:=k) (by first | omega | (simp <;> omega)))
       refine zB (y6 (i:=k) rfl hd1 rfl (by omega) (by first | omega | (simp <;> omega)) underlying32 inf81) ?_
       obtain ⟨s1,hs1⟩:∃ x,a.cells.l[k]?=some x:=⟨_,List.getElem?_eq_getElem (by first | omega | (simp <;> omega))⟩
       have hb_s1:=Mn.Bnd.at_ hba hs1
       refine zB (vy 0 [.slice s1.sr.A s1.sr.l.length s1.sr.c,iV s1.value] rfl rfl hd1 hs1 rfl rfl agg81 inf81) (yC wn inf81 rfl fun b12=>zr 0 wn rfl rfl rfl inf81 rfl rfl rfl (zD hK12 (zL (zE rfl (zB (za rfl fld81_0) (zB (zg 0 rfl rfl rfl flat39) (zB (za rfl fld81_1) (zB (zg 0 rfl rfl rfl flat3) (zB (za rfl fld172_1) (zB (zg 7 rfl rfl rfl flat3) ?_))))))))))
       have hw1:=hwa.all _ (List.mem_of_getElem? hs1)
       refine yV (fun _ h=>h.one 2 zO.Ok.loc rfl hs1) (yV (fun _ h=>h.cellX 0 rfl) ?_)
       obtain ⟨hc3,hm3,hA3⟩:=hw1.sr
       refine vO (α:=Value) [.blk b3 [.string wd] 9,.blk b8 [.bool true,iV 0,.slice A1 cs.length cp1] 172,Row (.slice A1 cs.length cp1) 81 2 yi cs,allP zO.Ok cs,slP 2 zj (.slice s1.sr.A s1.sr.l.length s1.sr.c) s1.sr.l] [okP zO.Ok s1,.blk b12 [.slice s1.sr.A s1.sr.l.length s1.sr.c,iV s1.value] 81,slP 2 yi (.slice a.cells.A a.cells.l.length a.cells.c) a.cells.l,allP zO.Ok a.cells.l,.blk b6 [.bool false,iV 0,Zs] 172,.blk b5 [.bool b.vec,iV b.n,.slice b.cells.A b.cells.l.length b.cells.c] 172,.blk b4 [.bool a.vec,iV a.n,.slice a.cells.A a.cells.l.length a.cells.c] 172,okP yO.Ok a,okP yO.Ok b] (fun _=>.bool (Mn.op wd s1.value b.n).2) (fun z1=>True) (fun z1=>[.blk b3 [.string wd] 9,.blk b8 [.bool true,iV 0,z1] 172,Row z1 81 2 yi (cs++[zO.mk s1.sr (Mn.op wd s1.value b.n).1]),allP zO.Ok (cs++[zO.mk s1.sr (Mn.op wd s1.value b.n).1]),slP 2 zj (.slice s1.sr.A s1.sr.l.length s1.sr.c) s1.sr.l]) _ (fun _=>rfl) (S9 [11,7,6,5,0,1,2,3,4,8,9,10,12,13]) (fun _=>rfl) wn rfl rfl call193 rfl (fun w1 Pb hG=>gQ wd true 0 _ _ s1.sr s1.value b.n _ _ Pb w1 hG (by first | omega | assumption) (by first | omega | assumption) (by omega)) fun z1 hz1=>jL 2 (l:=(cs++[zO.mk s1.sr (Mn.op wd s1.value b.n).1])) rfl fun A2 cp2 hv2 hc4 hm4 hA4=>?_
       subst hv2
       have hw2:∀ x ∈ (cs++[zO.mk s1.sr (Mn.op wd s1.value b.n).1]),zO.Wf x:=fun x hx=>(List.mem_append.1 hx).elim (hwf x) fun h=>by rw [List.mem_singleton.1 h]; exact ⟨hw1.sr⟩
       refine zE rfl (uT (t:=88) rfl (fun h4=>?_) (fun h4=>?_))
       · refine zb (zi rfl) (zB (zM rfl rfl) (zP rfl (zl (zm (zy hK11 (zL (zB (zw rfl rfl (by omega)) (zE rfl (zl (vY (k + 1) (cs++[zO.mk s1.sr (Mn.op wd s1.value b.n).1]) ok (.slice A2 ((cs++[zO.mk s1.sr (Mn.op wd s1.value b.n).1]).length) cp2) (sc rfl (sc rfl (sc rfl (sc rfl (sc rfl (sc rfl (sc rfl (sc (ji (by omega)) sn)))))))) (S9 [3,2,1,9,10,11,0,12,13]) ?_ ?_))))))))))
         · exact ⟨by omega,hw2,Mn.done_at hI1.2.2.1 (Mn.p1_at hs1),Mn.fine_t hI1.2.2.2.1 (Mn.p1_at hs1) h4,by simp only [List.length_append,List.length_cons,List.length_nil]; omega⟩
         omega
       refine zQ (zB (zM rfl rfl) (zP rfl (zl (zm (zy hK11 (zL (zB (zw rfl rfl (by omega)) (zE rfl (zl (vY (k + 1) (cs++[zO.mk s1.sr (Mn.op wd s1.value b.n).1]) false (.slice A2 ((cs++[zO.mk s1.sr (Mn.op wd s1.value b.n).1]).length) cp2) (sc rfl (sc rfl (sc rfl (sc rfl (sc rfl (sc rfl (sc rfl (sc (ji (by omega)) sn)))))))) (S9 [3,2,1,9,10,11,0,12,13]) ?_ ?_))))))))))
       · exact ⟨by omega,hw2,Mn.done_at hI1.2.2.1 (Mn.p1_at hs1),Mn.fine_f (Mn.p1_at hs1) h4,by simp only [List.length_append,List.length_cons,List.length_nil]; omega⟩
       omega
     refine yZ (yH (uC (yI (zm (zy hK5 (zS fun _ hK13=>zG fun _ hK14=>zE rfl (zB (vC rfl) (zD hK14 (yp rfl (fun h5=>?_) (fun h5=>?_))))))))))
     · refine zG fun _ hK15=>zB (zz [.bool false,iV 0,Zs] pl172 inf172 rfl rfl) (zr 3 wn rfl rfl rfl inf172 rfl rfl rfl (zP rfl (zD hK15 (zX (zK (yT (.inl rfl) results157 (zt 3 rfl rfl agg172 inf172 rfl) (zR rfl) fun w1 hM=>?_))))))
       have hb9:=Mn.bin_vec (w:=wd) (.inl (by simpa using h1)) (Mn.p1_end (by simpa using h2) (by omega)) hI1.2.2.1 hI1.2.2.2.1
       rw [if_neg (by simpa using h5)] at hb9
       exact hM.uR (⟨false,0,⟨none,0,[]⟩⟩:yO) (by first | (rw [hb9]; done) | (rw [hb9]; rfl)) (by first | (rw [hb9]; done) | (rw [hb9]; rfl) | (have e9:=h1; rw [hb9]; simp [yO.e] at e9 ⊢; exact e9) | (have e9:=h2; rw [hb9]; simp [yO.e] at e9 ⊢; exact e9)) fun Pb pp=>⟨zJ.yq _ _ _ _,fun c hc=>by cases hc⟩
     refine yK hK13 (zG fun _ hK16=>zB (yM 2 [.bool true,iV 0,.slice A1 cs.length cp1] rfl rfl rfl rfl agg172 inf172) (zr 3 wn rfl rfl rfl inf172 rfl rfl rfl (zP rfl (zD hK16 (zX (yT (.inl rfl) results157 (zt 3 rfl rfl agg172 inf172 rfl) (zR rfl) fun w1 hM=>?_))))))
     have hb9:=Mn.bin_vec (w:=wd) (.inl (by simpa using h1)) (Mn.p1_end (by simpa using h2) (by omega)) hI1.2.2.1 hI1.2.2.2.1
     rw [if_pos (by simpa using h5)] at hb9
     have hM:=hM.yh encCellX (i:=1) rfl rfl
     exact hM.uR (⟨true,0,⟨A1,cp1,cs⟩⟩:yO) (by first | (rw [hb9]; done) | (rw [hb9]; rfl)) (by first | (rw [hb9]; done) | (rw [hb9]; rfl) | (have e9:=h1; rw [hb9]; simp [yO.e] at e9 ⊢; exact e9) | (have e9:=h2; rw [hb9]; simp [yO.e] at e9 ⊢; exact e9)) fun Pb pp=>⟨pp.sl 1 rfl,pp.at_ 0 _ rfl⟩
   refine zG fun _ hK17=>zB (za rfl fld172_0) (zB (zg 3 rfl rfl rfl flat4) (zB (vC rfl) (zP rfl (zD hK17 (yr rfl (by simpa using h1) (zG fun _ hK18=>zB (za rfl fld172_2) (zB (zg 3 rfl rfl rfl flat32) (zB (yW rfl underlying32) (zE rfl ?_)))))))))
   refine zD hK18 (zk (jZ (fun _ h=>h.uP zO 81 2 yi) (je (fun _ h=>h.all0 zO.Ok.loc) (uK (fun (k:Nat) (cs:List zO) (ok:Bool) (ov:Value)=>[(5,.pointer (some ⟨b5,0,none⟩)),(6,.pointer (some ⟨b6,0,none⟩)),(8,.pointer (some ⟨b8,0,none⟩)),(9,.func (.func 193) #[] #[.pointer (some ⟨b3,0,none⟩),.pointer (some ⟨b8,0,none⟩)]),(10,.bool ok),(27,.slice a.cells.A a.cells.l.length a.cells.c),(28,iV a.cells.l.length),(29,iV k)]) (fun (k:Nat) (cs:List zO) (ok:Bool) (ov:Value)=>[allP zO.Ok cs,Row ov 81 2 yi cs,.blk b8 [.bool true,iV 0,ov] 172,.blk b6 [.bool false,iV 0,Zs] 172,.blk b5 [.bool b.vec,iV b.n,.slice b.cells.A b.cells.l.length b.cells.c] 172,.blk b4 [.bool a.vec,iV a.n,.slice a.cells.A a.cells.l.length a.cells.c] 172,.blk b3 [.string wd] 9,okP yO.Ok a,okP yO.Ok b]) (fun (k:Nat) (cs:List zO) (ok:Bool) (ov:Value)=>k≤a.cells.l.length∧(∀ x ∈ cs,zO.Wf x)∧cs.map zO.e=Mn.done wd (Mn.p3 a b k)∧ok=Mn.fine wd (Mn.p3 a b k)∧cs.length≤k) (fun (k:Nat) (cs:List zO) (ok:Bool) (ov:Value)=>a.cells.l.length - k) 0 [] true (Zs) (sc rfl (sc rfl (sc rfl (sc rfl (sc rfl (sc rfl (sc rfl (sc (ji (by omega)) sn)))))))) (fun _ h=>h) ?_ (fun k cs ok ov hI2=>?_)))))
   · exact ⟨Nat.zero_le _,fun x hx=>(by cases hx),rfl,rfl,Nat.le_refl _⟩
   have hwf:=hI2.2.1
   have hlen:=hI2.2.2.2.2
   refine vW 1 (l:=cs) rfl fun A3 cp3 hv3 hc5 hm5 hA5=>?_
   subst hv3
   refine zG fun _ hK19=>zB (yR rfl rfl) (zD hK19 (zS fun _ hK20=>zZ rfl (fun h6=>?_) (fun h6=>?_)))
   · refine yK hK20 (zS fun _ hK21=>zk (zG fun _ hK22=>yV (fun _ h=>h.valX 7 rfl) ?_))
     obtain ⟨hc6,hm6,hA6⟩:=hwa.cells
     obtain ⟨ad2,hd2⟩:=hA6 (ne_nil (i:=k) (by first | omega | (simp <;> omega)))
     refine zB (y6 (i:=k) rfl hd2 rfl (by omega) (by first | omega | (simp <;> omega)) underlying32 inf81) ?_
     obtain ⟨s2,hs2⟩:∃ x,a.cells.l[k]?=some x:=⟨_,List.getElem?_eq_getElem (by first | omega | (simp <;> omega))⟩
     have hb_s2:=Mn.Bnd.at_ hba hs2
     refine zB (vy 0 [.slice s2.sr.A s2.sr.l.length s2.sr.c,iV s2.value] rfl rfl hd2 hs2 rfl rfl agg81 inf81) (yC wn inf81 rfl fun b16=>zr 0 wn rfl rfl rfl inf81 rfl rfl rfl (zD hK22 (zG fun _ hK23=>zB (za rfl fld172_2) (zB (zg 7 rfl rfl rfl flat32) (zB (vg rfl rfl) ?_)))))
     have hw3:=hwa.all _ (List.mem_of_getElem? hs2)
     refine yV (fun _ h=>h.one 2 zO.Ok.loc rfl hs2) (l_sealB 1 rfl rfl (yV (fun _ h=>h.valX 12 rfl) ?_))
     obtain ⟨hc7,hm7,hA7⟩:=hwb.cells
     refine yF wn rfl call195 rfl (fun w1 hM=>c_idxC _ b.cells.l 196 #[.pointer (some ⟨b16,0,none⟩)] (fun d:zO=>decide (s2.sr.l=d.sr.l)) (In w1) w1 (fun _ h=>h) (hM.slp 0 rfl) (hM.vQ (i:=1) rfl) call196 (fun d hd w2 hf=>by simpa using c_bin2 d _ s2 (In w2) w2 (fun _ h=>h) (zO.Ok.loc d (In w1) (In w2) w1 w2 (fun b hb=>Nat.lt_of_lt_of_le hb hf.size) (fun b hb=>hf.block b hb id) (hM.vQ (i:=1) rfl d hd)) (ve.loc _ _ (In w1) (In w2) w1 w2 (fun b hb=>Nat.lt_of_lt_of_le hb hf.size) (fun b hb=>hf.block b hb id) (hM.vQ (i:=3) rfl)) (zO.Ok.loc s2 (In w1) (In w2) w1 w2 (fun b hb=>Nat.lt_of_lt_of_le hb hf.size) (fun b hb=>hf.block b hb id) (hM.vQ (i:=2) rfl)))) (zP rfl (zD hK23 (zG fun _ hK24=>zE rfl (zB (vn rfl rfl) (zD hK24 (zZ rfl (fun h7=>?_) (fun h7=>?_)))))))
     · obtain ⟨j,y,hj1,hy1,hpy1,hbe1⟩:=(Sh.idx_cases (fun d:zO=>decide (s2.sr.l=d.sr.l)) b.cells.l).resolve_left (fun h=>by have:=h.1; omega)
       have hjl:=(List.getElem?_eq_some_iff.1 hy1).1
       have hb_y:=Mn.Bnd.at_ hbb hy1
       refine va 11 mix (by kernel_rfl) (fun _ h=>h.drew) fun _ hT1=>yn rfl (zq (yy (ad:=⟨b16,0,none⟩) (i:=0) (o:=0) rfl fld81_0) (zq (yz 3 rfl rfl rfl flat39) (zq (yy (ad:=⟨b16,0,none⟩) (i:=0) (o:=0) rfl fld81_1) (zq (yz 3 rfl rfl rfl flat3) (zq (za rfl fld172_2) (zq (zg 10 rfl rfl rfl flat32) (yn rfl ?_)))))))
       obtain ⟨ad3,hd3⟩:=hA7 (ne_nil (i:=j) (by first | omega | (simp <;> omega)))
       refine zq (y6 (i:=j) rfl hd3 rfl (by omega) (by first | omega | (simp <;> omega)) underlying32 inf81) (zq (yy rfl fld81_1) (zq (jY 0 rfl rfl hd3 hy1 rfl flat3) (v8 hT1 (yV (fun _ h=>h.cellX 2 rfl) ?_))))
       obtain ⟨hc8,hm8,hA8⟩:=hw3.sr
       refine vO (α:=Value) [.blk b3 [.string wd] 9,.blk b8 [.bool true,iV 0,.slice A3 cs.length cp3] 172,Row (.slice A3 cs.length cp3) 81 2 yi cs,allP zO.Ok cs,slP 2 zj (.slice s2.sr.A s2.sr.l.length s2.sr.c) s2.sr.l] [slP 2 yi (.slice b.cells.A b.cells.l.length b.cells.c) b.cells.l,allP zO.Ok b.cells.l,okP zO.Ok s2,celP ⟨b16,0,none⟩ [.slice s2.sr.A s2.sr.l.length s2.sr.c,iV s2.value],slP 2 yi (.slice a.cells.A a.cells.l.length a.cells.c) a.cells.l,allP zO.Ok a.cells.l,.blk b6 [.bool false,iV 0,Zs] 172,.blk b5 [.bool b.vec,iV b.n,.slice b.cells.A b.cells.l.length b.cells.c] 172,.blk b4 [.bool a.vec,iV a.n,.slice a.cells.A a.cells.l.length a.cells.c] 172,okP yO.Ok a,okP yO.Ok b] (fun _=>.bool (Mn.op wd s2.value y.value).2) (fun z2=>True) (fun z2=>[.blk b3 [.string wd] 9,.blk b8 [.bool true,iV 0,z2] 172,Row z2 81 2 yi (cs++[zO.mk s2.sr (Mn.op wd s2.value y.value).1]),allP zO.Ok (cs++[zO.mk s2.sr (Mn.op wd s2.value y.value).1]),slP 2 zj (.slice s2.sr.A s2.sr.l.length s2.sr.c) s2.sr.l]) _ (fun _=>rfl) (S9 [13,9,8,7,0,1,2,3,4,5,6,10,11,12,14,15]) (fun _=>rfl) wn rfl rfl call193 rfl (fun w1 Pb hG=>gQ wd true 0 _ _ s2.sr s2.value y.value _ _ Pb w1 hG (by first | omega | assumption) (by first | omega | assumption) (by omega)) fun z2 hz2=>jL 2 (l:=(cs++[zO.mk s2.sr (Mn.op wd s2.value y.value).1])) rfl fun A4 cp4 hv4 hc9 hm9 hA9=>?_
       subst hv4
       have hw4:∀ x ∈ (cs++[zO.mk s2.sr (Mn.op wd s2.value y.value).1]),zO.Wf x:=fun x hx=>(List.mem_append.1 hx).elim (hwf x) fun h=>by rw [List.mem_singleton.1 h]; exact ⟨hw3.sr⟩
       refine zE rfl (uT (t:=51) rfl (fun h8=>?_) (fun h8=>?_))
       · refine zb (zi rfl) (zB (zM rfl rfl) (zP rfl (zl (zm (zy hK21 (zL (zB (zw rfl rfl (by omega)) (zE rfl (zl (vY (k + 1) (cs++[zO.mk s2.sr (Mn.op wd s2.value y.value).1]) ok (.slice A4 ((cs++[zO.mk s2.sr (Mn.op wd s2.value y.value).1]).length) cp4) (sc rfl (sc rfl (sc rfl (sc rfl (sc rfl (sc rfl (sc rfl (sc (ji (by omega)) sn)))))))) (S9 [3,2,1,11,12,13,0,14,15]) ?_ ?_))))))))))
         · exact ⟨by omega,hw4,Mn.done_at hI2.2.2.1 (Mn.p3_at hs2 hy1 hpy1 hbe1),Mn.fine_t hI2.2.2.2.1 (Mn.p3_at hs2 hy1 hpy1 hbe1) h8,by simp only [List.length_append,List.length_cons,List.length_nil]; omega⟩
         omega
       refine zQ (zB (zM rfl rfl) (zP rfl (zl (zm (zy hK21 (zL (zB (zw rfl rfl (by omega)) (zE rfl (zl (vY (k + 1) (cs++[zO.mk s2.sr (Mn.op wd s2.value y.value).1]) false (.slice A4 ((cs++[zO.mk s2.sr (Mn.op wd s2.value y.value).1]).length) cp4) (sc rfl (sc rfl (sc rfl (sc rfl (sc rfl (sc rfl (sc rfl (sc (ji (by omega)) sn)))))))) (S9 [3,2,1,11,12,13,0,14,15]) ?_ ?_))))))))))
       · exact ⟨by omega,hw4,Mn.done_at hI2.2.2.1 (Mn.p3_at hs2 hy1 hpy1 hbe1),Mn.fine_f (Mn.p3_at hs2 hy1 hpy1 hbe1) h8,by simp only [List.length_append,List.length_cons,List.length_nil]; omega⟩
       omega
     have hno1:=((Sh.idx_cases (fun d:zO=>decide (s2.sr.l=d.sr.l)) b.cells.l).resolve_right (fun h=>by obtain ⟨j,y,hj,_⟩:=h; omega)).2
     refine yU (zm (zy hK21 (zL (zB (zw rfl rfl (by omega)) (zE rfl (zl (vY (k + 1) cs ok (.slice A3 cs.length cp3) (sc rfl (sc rfl (sc rfl (sc rfl (sc rfl (sc rfl (sc rfl (sc (ji (by omega)) sn)))))))) (S9 [6,7,8,9,10,11,12,13,14]) ?_ ?_)))))))
     · exact ⟨by omega,hI2.2.1,by rw [Mn.p3_no hs2 hno1]; exact hI2.2.2.1,by rw [Mn.p3_no hs2 hno1]; exact hI2.2.2.2.1,by omega⟩
     omega
   refine yZ (yH (uC (yI (zm (zy hK5 (zS fun _ hK25=>zG fun _ hK26=>zE rfl (zB (vC rfl) (zD hK26 (yp rfl (fun h9=>?_) (fun h9=>?_))))))))))
   · refine zG fun _ hK27=>zB (zz [.bool false,iV 0,Zs] pl172 inf172 rfl rfl) (zr 3 wn rfl rfl rfl inf172 rfl rfl rfl (zP rfl (zD hK27 (zX (zK (yT (.inl rfl) results157 (zt 3 rfl rfl agg172 inf172 rfl) (zR rfl) fun w1 hM=>?_))))))
     have hb9:=Mn.bin_vec (w:=wd) (.inl (by simpa using h1)) (Mn.p3_end (by simpa using h2) (by simpa using h1) (by omega)) hI2.2.2.1 hI2.2.2.2.1
     rw [if_neg (by simpa using h9)] at hb9
     exact hM.uR (⟨false,0,⟨none,0,[]⟩⟩:yO) (by first | (rw [hb9]; done) | (rw [hb9]; rfl)) (by first | (rw [hb9]; done) | (rw [hb9]; rfl) | (have e9:=h1; rw [hb9]; simp [yO.e] at e9 ⊢; exact e9) | (have e9:=h2; rw [hb9]; simp [yO.e] at e9 ⊢; exact e9)) fun Pb pp=>⟨zJ.yq _ _ _ _,fun c hc=>by cases hc⟩
   refine yK hK25 (zG fun _ hK28=>zB (yM 2 [.bool true,iV 0,.slice A3 cs.length cp3] rfl rfl rfl rfl agg172 inf172) (zr 3 wn rfl rfl rfl inf172 rfl rfl rfl (zP rfl (zD hK28 (zX (yT (.inl rfl) results157 (zt 3 rfl rfl agg172 inf172 rfl) (zR rfl) fun w1 hM=>?_))))))
   have hb9:=Mn.bin_vec (w:=wd) (.inl (by simpa using h1)) (Mn.p3_end (by simpa using h2) (by simpa using h1) (by omega)) hI2.2.2.1 hI2.2.2.2.1
   rw [if_pos (by simpa using h9)] at hb9
   have hM:=hM.yh encCellX (i:=1) rfl rfl
   exact hM.uR (⟨true,0,⟨A3,cp3,cs⟩⟩:yO) (by first | (rw [hb9]; done) | (rw [hb9]; rfl)) (by first | (rw [hb9]; done) | (rw [hb9]; rfl) | (have e9:=h1; rw [hb9]; simp [yO.e] at e9 ⊢; exact e9) | (have e9:=h2; rw [hb9]; simp [yO.e] at e9 ⊢; exact e9)) fun Pb pp=>⟨pp.sl 1 rfl,pp.at_ 0 _ rfl⟩
 refine zb (za rfl fld172_0) (zb (zg 1 rfl rfl rfl flat4) (zB (zM rfl rfl) (zB (zz [.bool b.vec,iV 0,Zs] pl172 inf172 rfl rfl) (yC wn inf172 rfl fun b8=>zr 0 wn rfl rfl rfl inf172 rfl rfl rfl (zD hK2 (zG fun _ hK29=>zB (vg rfl rfl) (zP rfl (zD hK29 (zG fun _ hK30=>?_)))))))))
 refine zP rfl (zD hK30 (zS fun _ hK31=>zk (zG fun _ hK32=>zB (za rfl fld172_0) (zB (zg 0 rfl rfl rfl flat4) (zB (vC rfl) (zP rfl (zD hK32 (yp rfl (fun h10=>?_) (fun h10=>?_)))))))))
 · refine zL (zB (zg 4 rfl rfl rfl flat9) (zB (za rfl fld172_1) (zB (zg 3 rfl rfl rfl flat3) (zB (za rfl fld172_1) (zB (zg 2 rfl rfl rfl flat3) (yF wn rfl call194 rfl (fun w1 hM=>c_op wd a.n b.n w1 (by first | assumption | omega) (by first | assumption | omega)) (zE rfl (zB (yG rfl rfl) (zB (yG rfl rfl) (zB (za rfl fld172_1) (yt 0 wn rfl rfl rfl rfl inf3 rfl rfl ?_)))))))))))
   refine zP rfl (zl (zm (zy hK31 (zS fun _ hK33=>zG fun _ hK34=>zE rfl (zB (vC rfl) (zD hK34 (yp rfl (fun h11=>?_) (fun h11=>?_))))))))
   · refine zG fun _ hK35=>zB (zz [.bool false,iV 0,Zs] pl172 inf172 rfl rfl) (zr 1 wn rfl rfl rfl inf172 rfl rfl rfl (zP rfl (zD hK35 (zX (zK (yT (.inl rfl) results157 (zt 1 rfl rfl agg172 inf172 rfl) (zR rfl) fun w1 hM=>?_))))))
     have hb9:=Mn.bin_num (w:=wd) (a:=a) (b:=b) (by simpa using h1) (by simpa using h10)
     rw [if_neg (by simpa using h11)] at hb9
     exact hM.uR (⟨false,0,⟨none,0,[]⟩⟩:yO) (by first | (rw [hb9]; done) | (rw [hb9]; rfl)) (by first | (rw [hb9]; done) | (rw [hb9]; rfl) | (have e9:=h1; rw [hb9]; simp [yO.e] at e9 ⊢; exact e9) | (have e9:=h10; rw [hb9]; simp [yO.e] at e9 ⊢; exact e9)) fun Pb pp=>⟨zJ.yq _ _ _ _,fun c hc=>by cases hc⟩
   refine yK hK33 (zG fun _ hK36=>zB (yM 0 [.bool b.vec,iV ((Mn.op wd a.n b.n).1),Zs] rfl rfl rfl rfl agg172 inf172) (zr 1 wn rfl rfl rfl inf172 rfl rfl rfl (zP rfl (zD hK36 (zX (yT (.inl rfl) results157 (zt 1 rfl rfl agg172 inf172 rfl) (zR rfl) fun w1 hM=>?_))))))
   have hb9:=Mn.bin_num (w:=wd) (a:=a) (b:=b) (by simpa using h1) (by simpa using h10)
   rw [if_pos (by simpa using h11)] at hb9
   exact hM.uR (⟨b.vec,(Mn.op wd a.n b.n).1,⟨none,0,[]⟩⟩:yO) (by first | (rw [hb9]; done) | (rw [hb9]; rfl)) (by first | (rw [hb9]; done) | (rw [hb9]; rfl) | (have e9:=h1; rw [hb9]; simp [yO.e] at e9 ⊢; exact e9) | (have e9:=h10; rw [hb9]; simp [yO.e] at e9 ⊢; exact e9)) fun Pb pp=>⟨zJ.yq _ _ _ _,fun c hc=>by cases hc⟩
 refine zG fun _ hK37=>zB (za rfl fld172_0) (zB (zg 2 rfl rfl rfl flat4) (zB (vC rfl) (zP rfl (zD hK37 (yr rfl (by simpa using h10) (zG fun _ hK38=>zB (za rfl fld172_0) (zB (zg 3 rfl rfl rfl flat4) (zB (vC rfl) (zP rfl ?_)))))))))
 refine zD hK38 (vM rfl (by simpa using h1) (zG fun _ hK39=>zB (za rfl fld172_2) (zB (zg 2 rfl rfl rfl flat32) (zB (yW rfl underlying32) (zE rfl (zD hK39 (zk (jZ (fun _ h=>h.uP zO 81 2 yi) (je (fun _ h=>h.all0 zO.Ok.loc) (uK (fun (k:Nat) (cs:List zO) (ok:Bool) (ov:Value)=>[(4,.pointer (some ⟨b4,0,none⟩)),(6,.pointer (some ⟨b6,0,none⟩)),(8,.pointer (some ⟨b8,0,none⟩)),(9,.func (.func 193) #[] #[.pointer (some ⟨b3,0,none⟩),.pointer (some ⟨b8,0,none⟩)]),(10,.bool ok),(97,.slice b.cells.A b.cells.l.length b.cells.c),(98,iV b.cells.l.length),(99,iV k)]) (fun (k:Nat) (cs:List zO) (ok:Bool) (ov:Value)=>[allP zO.Ok cs,Row ov 81 2 yi cs,.blk b8 [.bool b.vec,iV 0,ov] 172,.blk b6 [.bool false,iV 0,Zs] 172,.blk b5 [.bool b.vec,iV b.n,.slice b.cells.A b.cells.l.length b.cells.c] 172,.blk b4 [.bool a.vec,iV a.n,.slice a.cells.A a.cells.l.length a.cells.c] 172,.blk b3 [.string wd] 9,okP yO.Ok a,okP yO.Ok b]) (fun (k:Nat) (cs:List zO) (ok:Bool) (ov:Value)=>k≤b.cells.l.length∧(∀ x ∈ cs,zO.Wf x)∧cs.map zO.e=Mn.done wd (Mn.p2 a b k)∧ok=Mn.fine wd (Mn.p2 a b k)∧cs.length≤k) (fun (k:Nat) (cs:List zO) (ok:Bool) (ov:Value)=>b.cells.l.length - k) 0 [] true (Zs) (sc rfl (sc rfl (sc rfl (sc rfl (sc rfl (sc rfl (sc rfl (sc (ji (by omega)) sn)))))))) (fun _ h=>h) ?_ (fun k cs ok ov hI3=>?_)))))))))))
 · exact ⟨Nat.zero_le _,fun x hx=>(by cases hx),rfl,rfl,Nat.le_refl _⟩
 have hwf:=hI3.2.1
 have hlen:=hI3.2.2.2.2
 refine vW 1 (l:=cs) rfl fun A5 cp5 hv5 hc10 hm10 hA10=>?_
 subst hv5
 refine zG fun _ hK40=>zB (yR rfl rfl) (zD hK40 (zS fun _ hK41=>zZ rfl (fun h12=>?_) (fun h12=>?_)))
 · refine yK hK41 (zS fun _ hK42=>zk (zG fun _ hK43=>yV (fun _ h=>h.valX 8 rfl) ?_))
   obtain ⟨hc11,hm11,hA11⟩:=hwb.cells
   obtain ⟨ad4,hd4⟩:=hA11 (ne_nil (i:=k) (by first | omega | (simp <;> omega)))
   refine zB (y6 (i:=k) rfl hd4 rfl (by omega) (by first | omega | (simp <;> omega)) underlying32 inf81) ?_
   obtain ⟨s3,hs3⟩:∃ x,b.cells.l[k]?=some x:=⟨_,List.getElem?_eq_getElem (by first | omega | (simp <;> omega))⟩
   have hb_s3:=Mn.Bnd.at_ hbb hs3
   refine zB (vy 0 [.slice s3.sr.A s3.sr.l.length s3.sr.c,iV s3.value] rfl rfl hd4 hs3 rfl rfl agg81 inf81) (yC wn inf81 rfl fun b14=>zr 0 wn rfl rfl rfl inf81 rfl rfl rfl (zD hK43 (zL (zE rfl (zB (za rfl fld81_0) (zB (zg 0 rfl rfl rfl flat39) (zB (za rfl fld172_1) (zB (zg 8 rfl rfl rfl flat3) (zB (za rfl fld81_1) (zB (zg 0 rfl rfl rfl flat3) ?_))))))))))
   have hw5:=hwb.all _ (List.mem_of_getElem? hs3)
   refine yV (fun _ h=>h.one 2 zO.Ok.loc rfl hs3) (yV (fun _ h=>h.cellX 0 rfl) ?_)
   obtain ⟨hc12,hm12,hA12⟩:=hw5.sr
   refine vO (α:=Value) [.blk b3 [.string wd] 9,.blk b8 [.bool b.vec,iV 0,.slice A5 cs.length cp5] 172,Row (.slice A5 cs.length cp5) 81 2 yi cs,allP zO.Ok cs,slP 2 zj (.slice s3.sr.A s3.sr.l.length s3.sr.c) s3.sr.l] [okP zO.Ok s3,.blk b14 [.slice s3.sr.A s3.sr.l.length s3.sr.c,iV s3.value] 81,slP 2 yi (.slice b.cells.A b.cells.l.length b.cells.c) b.cells.l,allP zO.Ok b.cells.l,.blk b6 [.bool false,iV 0,Zs] 172,.blk b5 [.bool b.vec,iV b.n,.slice b.cells.A b.cells.l.length b.cells.c] 172,.blk b4 [.bool a.vec,iV a.n,.slice a.cells.A a.cells.l.length a.cells.c] 172,okP yO.Ok a,okP yO.Ok b] (fun _=>.bool (Mn.op wd a.n s3.value).2) (fun z3=>True) (fun z3=>[.blk b3 [.string wd] 9,.blk b8 [.bool b.vec,iV 0,z3] 172,Row z3 81 2 yi (cs++[zO.mk s3.sr (Mn.op wd a.n s3.value).1]),allP zO.Ok (cs++[zO.mk s3.sr (Mn.op wd a.n s3.value).1]),slP 2 zj (.slice s3.sr.A s3.sr.l.length s3.sr.c) s3.sr.l]) _ (fun _=>rfl) (S9 [11,7,6,5,0,1,2,3,4,8,9,10,12,13]) (fun _=>rfl) wn rfl rfl call193 rfl (fun w1 Pb hG=>gQ wd b.vec 0 _ _ s3.sr a.n s3.value _ _ Pb w1 hG (by first | omega | assumption) (by first | omega | assumption) (by omega)) fun z3 hz3=>jL 2 (l:=(cs++[zO.mk s3.sr (Mn.op wd a.n s3.value).1])) rfl fun A6 cp6 hv6 hc13 hm13 hA13=>?_
   subst hv6
   have hw6:∀ x ∈ (cs++[zO.mk s3.sr (Mn.op wd a.n s3.value).1]),zO.Wf x:=fun x hx=>(List.mem_append.1 hx).elim (hwf x) fun h=>by rw [List.mem_singleton.1 h]; exact ⟨hw5.sr⟩
   refine zE rfl (uT (t:=111) rfl (fun h13=>?_) (fun h13=>?_))
   · refine zb (zi rfl) (zB (zM rfl rfl) (zP rfl (zl (zm (zy hK42 (zL (zB (zw rfl rfl (by omega)) (zE rfl (zl (vY (k + 1) (cs++[zO.mk s3.sr (Mn.op wd a.n s3.value).1]) ok (.slice A6 ((cs++[zO.mk s3.sr (Mn.op wd a.n s3.value).1]).length) cp6) (sc rfl (sc rfl (sc rfl (sc rfl (sc rfl (sc rfl (sc rfl (sc (ji (by omega)) sn)))))))) (S9 [3,2,1,9,10,11,0,12,13]) ?_ ?_))))))))))
     · exact ⟨by omega,hw6,Mn.done_at hI3.2.2.1 (Mn.p2_at hs3),Mn.fine_t hI3.2.2.2.1 (Mn.p2_at hs3) h13,by simp only [List.length_append,List.length_cons,List.length_nil]; omega⟩
     omega
   refine zQ (zB (zM rfl rfl) (zP rfl (zl (zm (zy hK42 (zL (zB (zw rfl rfl (by omega)) (zE rfl (zl (vY (k + 1) (cs++[zO.mk s3.sr (Mn.op wd a.n s3.value).1]) false (.slice A6 ((cs++[zO.mk s3.sr (Mn.op wd a.n s3.value).1]).length) cp6) (sc rfl (sc rfl (sc rfl (sc rfl (sc rfl (sc rfl (sc rfl (sc (ji (by omega)) sn)))))))) (S9 [3,2,1,9,10,11,0,12,13]) ?_ ?_))))))))))
   · exact ⟨by omega,hw6,Mn.done_at hI3.2.2.1 (Mn.p2_at hs3),Mn.fine_f (Mn.p2_at hs3) h13,by simp only [List.length_append,List.length_cons,List.length_nil]; omega⟩
   omega
 refine yZ (yH (uC (yI (zm (zy hK31 (zS fun _ hK44=>zG fun _ hK45=>zE rfl (zB (vC rfl) (zD hK45 (yp rfl (fun h14=>?_) (fun h14=>?_))))))))))
 · refine zG fun _ hK46=>zB (zz [.bool false,iV 0,Zs] pl172 inf172 rfl rfl) (zr 3 wn rfl rfl rfl inf172 rfl rfl rfl (zP rfl (zD hK46 (zX (zK (yT (.inl rfl) results157 (zt 3 rfl rfl agg172 inf172 rfl) (zR rfl) fun w1 hM=>?_))))))
   have hb9:=Mn.bin_vec (w:=wd) (.inr (by simpa using h10)) (Mn.p2_end (by simpa using h10) (by simpa using h1) (by omega)) hI3.2.2.1 hI3.2.2.2.1
   rw [if_neg (by simpa using h14)] at hb9
   exact hM.uR (⟨false,0,⟨none,0,[]⟩⟩:yO) (by first | (rw [hb9]; done) | (rw [hb9]; rfl)) (by first | (rw [hb9]; done) | (rw [hb9]; rfl) | (have e9:=h1; rw [hb9]; simp [yO.e] at e9 ⊢; exact e9) | (have e9:=h10; rw [hb9]; simp [yO.e] at e9 ⊢; exact e9)) fun Pb pp=>⟨zJ.yq _ _ _ _,fun c hc=>by cases hc⟩
 refine yK hK44 (zG fun _ hK47=>zB (yM 2 [.bool b.vec,iV 0,.slice A5 cs.length cp5] rfl rfl rfl rfl agg172 inf172) (zr 3 wn rfl rfl rfl inf172 rfl rfl rfl (zP rfl (zD hK47 (zX (yT (.inl rfl) results157 (zt 3 rfl rfl agg172 inf172 rfl) (zR rfl) fun w1 hM=>?_))))))
 have hb9:=Mn.bin_vec (w:=wd) (.inr (by simpa using h10)) (Mn.p2_end (by simpa using h10) (by simpa using h1) (by omega)) hI3.2.2.1 hI3.2.2.2.1
 rw [if_pos (by simpa using h14)] at hb9
 have hM:=hM.yh encCellX (i:=1) rfl rfl
 exact hM.uR (⟨b.vec,0,⟨A5,cp5,cs⟩⟩:yO) (by first | (rw [hb9]; done) | (rw [hb9]; rfl)) (by first | (rw [hb9]; done) | (rw [hb9]; rfl) | (have e9:=h1; rw [hb9]; simp [yO.e] at e9 ⊢; exact e9) | (have e9:=h10; rw [hb9]; simp [yO.e] at e9 ⊢; exact e9)) fun Pb pp=>⟨pp.sl 1 rfl,pp.at_ 0 _ rfl⟩
set_option maxHeartbeats 1000000 in
theorem c_insertC (sv vv : Value) (l : List zO) (x : zO) (i : Nat) (Pb : Nat → Prop) (w : World) (hG : Mem w ⟨fpOf [Row sv 81 2 yi l, Row vv 81 2 yi [x]], Pb⟩ [Row sv 81 2 yi l, Row vv 81 2 yi [x]] w) (hil : i ≤ l.length) (hl1 : l.length ≤ 1048576) :
    Calls prog 191 #[sv,iV i,vv] w (RetA w [Row sv 81 2 yi l,Row vv 81 2 yi [x]] Pb (fun z:Value=>z) (fun _=>True) (fun z=>[Row z 81 2 yi (l.take i++x::l.drop i)])):=by
 obtain ⟨sA,sc,rfl,hsc,hsm,hsA⟩:=row_form' (hG.row (i:=0) rfl)
 obtain ⟨vA,vc,hv0,hvc,hvm,hvA⟩:=row_form' (hG.row (i:=1) rfl)
 have hv0:vv=.slice vA 1 vc:=hv0
 have hvc:1≤vc:=hvc
 subst hv0
 refine fstart (N:=95) (vals:=[.slice sA l.length sc,iV i,.slice vA 1 vc]) (S:=Mem w ⟨fpOf [Row (.slice sA l.length sc) 81 2 yi l,Row (.slice vA 1 vc) 81 2 yi [x]],Pb⟩ [Row (.slice sA l.length sc) 81 2 yi l,Row (.slice vA 1 vc) 81 2 yi [x]]) func191 rfl rfl rfl hG (zG fun _ hK1=>zP rfl (zD hK1 (zG fun _ hK2=>zE rfl (zE rfl (zB (jr (lo:=i) (hi:=l.length) rfl (lo1 rfl (by omega)) hi0 (by first | omega | (simp <;> omega)) (by first | omega | (simp <;> omega)) (by first | omega | (simp <;> omega)) underlying32 inf81) (zD hK2 (zG fun _ hK3=>zE rfl (zB (yW rfl underlying32) ?_))))))))
 refine zP rfl (zD hK3 (zS fun _ hK4=>zG fun _ hK5=>zE rfl (zB (yf rfl rfl) (zD hK5 (yr rfl (decide_eq_false (by decide)) (yK hK4 (zG fun _ hK6=>zE rfl (zB (yW rfl underlying32) ?_))))))))
 refine zP rfl (zD hK6 (zS fun _ hK7=>zG fun _ hK8=>zE rfl (zE rfl (zB (yf rfl rfl) (zD hK8 (zZ rfl (fun h1=>?_) (fun h1=>?_)))))))
 · refine zG fun _ hK9=>zE rfl (zE rfl (vG 0 l [x] encCellX wn rfl rfl rfl (fun _ hM=>(RowSl encCellX hM 1 rfl)) underlying32 inf81 rfl rfl (by simp only [List.length_append,List.length_cons,List.length_nil]; omega) rfl fun A1 cp1 hc1 hm1 hA1=>zP rfl (zD hK9 (zX (zK (zY (.inl rfl) results191 (zR rfl) fun w1 hM=>?_))))))
   exact hM.vV (.slice A1 ((l++[x]).length) cp1) rfl trivial (fun h=>row_as (v:=.slice A1 ((l++[x]).length) cp1) (n:=(l++[x]).length) (by rw [ins_len hil,List.length_append]; rfl) (ins_end (by omega)) (h.sel [0] (by decide) rfl))
 refine yK hK7 (zS fun _ hK10=>zG fun _ hK11=>?_)
 obtain ⟨sad,hsd⟩:=hsA (ne_nil (i:=i) (by omega))
 obtain ⟨vad,hvd⟩:=hvA (by simp)
 refine zE rfl (zE rfl (zB (zw rfl rfl (by omega)) (zE rfl (zB (r_cap rfl underlying32) (zB (vH rfl rfl) (zD hK11 (zZ rfl (fun h2=>?_) (fun h2=>?_))))))))
 · refine zG fun _ hK12=>zE rfl (zE rfl (zB (gR (by rw [subA_zero,Nat.sub_zero,Nat.sub_zero]) (vp (lo:=0) (hi:=i) rfl lo0 (hi1 rfl (by omega)) (by omega) (by omega) underlying32 inf81)) (zE rfl (zE rfl (zB (zw rfl rfl (by omega)) (zE rfl (zB (vw rfl rfl (by omega)) (l_appZ (enc:=yi) (l.take i++List.replicate (l.length + 1 - i) (zO.mk ⟨none,0,[]⟩ 0)) (l.length + 1) (kk:=l.length + 1 - i) (olds:=(l.take i).flatMap yi) wn rfl rfl (by omega) (by omega) (by rw [flat_len encCellX.len,List.length_take]; omega) (fun h=>by rw [hsd] at h; cases h) (fun ad h=>by rw [hsd] at h; injection h with h; subst h; exact fun w hS p u hu=>rowCells 0 rfl hsd w hS p u (by have:=flat_pre (k:=2) hu; rwa [Nat.zero_mul,Nat.zero_add] at this)) (by omega) (by omega) rfl (by decide) underlying32 underlying3 inf81 rfl (by rw [List.flatMap_append]; exact congrArg _ (zero_cells _)) (by omega) rfl fun b1 C1 hc2 hm2=>zP rfl (zD hK12 ?_)))))))))
   refine zG fun _ hK13=>zE rfl (zE rfl (zB (vp (lo:=i) (hi:=(l.length + 1)) rfl (lo1 rfl (by omega)) hi0 (by omega) (by omega) underlying32 inf81) (zE rfl (uy 0 (j:=i) (l.take i++List.replicate (l.length + 1 - i) (zO.mk ⟨none,0,[]⟩ 0)) [x] encCellX wn rfl (subA_some rfl (by omega)) rfl hvd rfl rfl underlying32 inf81 (by simp only [List.length_drop,List.length_cons,List.length_nil]; show _=min _ _; omega) (by simp only [List.length_append,List.length_take,List.length_drop,List.length_replicate,List.length_cons,List.length_nil]; omega) (by simp only [List.length_append,List.length_take,List.length_drop,List.length_replicate,List.length_cons,List.length_nil]; omega) (rowCells 2 rfl hvd) rfl (zD hK13 (zS fun _ hK14=>va 8 mix (by kernel_rfl) (fun _ h=>h.drew) fun _ hT1=>yn rfl (yn rfl (yn rfl ?_))))))))
   refine zq (zw rfl rfl (by omega)) (zq (vp (lo:=(i + 1)) (hi:=(l.length + 1)) rfl (lo1 rfl (by omega)) hi0 (by omega) (by omega) underlying32 inf81) (yn rfl (yn rfl (zq (vp (lo:=i) (hi:=l.length) rfl (lo1 rfl (by omega)) hi0 (by omega) (by omega) underlying32 inf81) (v8 hT1 (uy 0 (j:=(i + 1)) ((l.take i++List.replicate (l.length + 1 - i) (zO.mk ⟨none,0,[]⟩ 0)).take i++[x]++(l.take i++List.replicate (l.length + 1 - i) (zO.mk ⟨none,0,[]⟩ 0)).drop (i + [x].length)) (l.drop i) encCellX wn rfl (subA_some rfl (by omega)) rfl (subA_some hsd (by omega)) rfl rfl underlying32 inf81 (by simp only [List.length_drop,List.length_cons,List.length_nil]; show _=min _ _; omega) (by simp only [List.length_append,List.length_take,List.length_drop,List.length_replicate,List.length_cons,List.length_nil]; omega) (by simp only [List.length_append,List.length_take,List.length_drop,List.length_replicate,List.length_cons,List.length_nil]; omega) (subCells (rowCells 1 rfl hsd) fun p u hu=>flat_suf encCellX.len (by omega) hu) rfl (zD hK14 (zG fun _ hK15=>zE rfl (zP rfl (zD hK15 ?_))))))))))
   refine zX (zK (zY (.inl rfl) results191 (zR rfl) fun w1 hM=>?_))
   exact hM.vV (.slice (some ⟨b1,0,none⟩) (l.length + 1) C1) rfl trivial (fun h=>row_as (ins_len (by omega)) (ins_grow (by omega) (List.length_replicate)) (h.sel [0] (by decide) rfl))
 refine yK hK10 (zG fun _ hK16=>zE rfl (zE rfl (zE rfl (zB (zw rfl rfl (by omega)) (zB (gR (by rw [subA_zero,Nat.sub_zero,Nat.sub_zero]) (vp (lo:=0) (hi:=(l.length + 1)) rfl lo0 (hi1 rfl (by omega)) (by omega) (by omega) underlying32 inf81)) (l_more 0 1 rfl hsd (by omega) fun ys hys=>zP rfl (zD hK16 (zS fun _ hK17=>zG fun _ hK18=>?_))))))))
 refine zE rfl (zE rfl (zE rfl (zE rfl (zB (zw rfl rfl (by omega)) (zB (vp (lo:=(i + 1)) (hi:=(l.length + 1)) rfl (lo1 rfl (by omega)) hi0 (by omega) (by omega) underlying32 inf81) (zB (r_ext rfl (over_apart (T':=4) (fn:=Tryz.f215) (qa:=1) (qb:=0) (by decide) rfl rfl (by omega) (by omega) (by decide) sad hsd (subA_some hsd (by omega)) func215 (by kernel_rfl) (by kernel_rfl) (by kernel_rfl) (by kernel_rfl) underlying32 inf81)) (zB (vC rfl) (zD hK18 (vM rfl rfl (zS fun _ hK19=>va 8 mix (by kernel_rfl) (fun _ h=>h.drew) fun _ hT2=>?_))))))))))
 refine yn rfl (yn rfl (yn rfl (zq (zw rfl rfl (by omega)) (zq (vp (lo:=(i + 1)) (hi:=(l.length + 1)) rfl (lo1 rfl (by omega)) hi0 (by omega) (by omega) underlying32 inf81) (yn rfl (yn rfl (zq (vp (lo:=i) (hi:=(l.length + 1)) rfl (lo1 rfl (by omega)) hi0 (by omega) (by omega) underlying32 inf81) (v8 hT2 (jx 0 (ad:=sad) (j:=i + 1) (cs:=(l.drop i).flatMap yi) _ wn rfl (subA_some hsd (by omega)) rfl (subA_some hsd (by omega)) rfl hsd underlying32 inf81 (by rw [flat_len encCellX.len,List.length_drop]; show _=min _ _ * 2; omega) (by rw [flat_len encCellX.len,List.length_drop]; omega) (subCells (rowCells 0 rfl hsd) fun p u hu=>by have:=flat_suf encCellX.len (by omega) hu; rw [List.getElem?_append_left (List.getElem?_eq_some_iff.1 this).1]; exact this) (fun u hu=>by obtain ⟨a,_,ha⟩:=List.mem_flatMap.1 hu; exact encCellX.one a u ha) (ins_shift encCellX.len (by omega) hys) rfl ?_)))))))))
 refine zD hK19 (zG fun _ hK20=>zE rfl (zE rfl (zB (vp (lo:=i) (hi:=(l.length + 1)) rfl (lo1 rfl (by omega)) hi0 (by omega) (by omega) underlying32 inf81) (zE rfl (uy 0 (j:=i) (l.take (i + 1)++l.drop i) [x] encCellX wn rfl (subA_some hsd (by omega)) rfl hvd rfl hsd underlying32 inf81 (by simp only [List.length_drop,List.length_cons,List.length_nil]; show _=min _ _; omega) (by simp only [List.length_append,List.length_take,List.length_drop,List.length_replicate,List.length_cons,List.length_nil]; omega) (by simp only [List.length_append,List.length_take,List.length_drop,List.length_replicate,List.length_cons,List.length_nil]; omega) (rowCells 1 rfl hvd) rfl (zD hK20 (zG fun _ hK21=>zE rfl (zP rfl (zD hK21 ?_)))))))))
 refine zX (zK (zY (.inl rfl) results191 (zR rfl) fun w1 hM=>?_))
 exact hM.vV (.slice sA (l.length + 1) sc) rfl trivial (fun h=>row_as (ins_len (by omega)) (ins_place (by omega)) (h.sel [0] (by decide) rfl))
theorem c_all1 (d : zO) (tv : Value) (t : List Label) (P0 : Nat → Prop) (w : World) (hP0 : ∀ b, P0 b → b < w.heap.size) (hd : zO.Ok P0 d w) (ht : zJ P0 2 zj tv t w)  :
    Calls prog 190 #[.agg (yi d).toArray,tv] w (Ret w (iV (zc.compare d.sr.l t))):=by
 have hwd:=hd.wf
 obtain ⟨tA,tc,rfl,htc,htm,htA⟩:=ht.form
 refine fstart (N:=9) (vals:=[.agg (yi d).toArray,.slice tA t.length tc]) (S:=Mem w ⟨no,P0⟩ [okP zO.Ok d,slP 2 zj (.slice tA t.length tc) t]) func190 rfl rfl rfl (Mem.ofDatsP hP0 (dc (dp (zO.Ok.loc _) hd) (dc (dlp ht) dn))) (zG fun _ hK1=>vS wn rfl rfl fun b2=>zP rfl (zD hK1 (zG fun _ hK2=>zB (za rfl fld81_0) (zB (zg 0 rfl rfl rfl flat39) (zE rfl (yV (fun _ h=>h.cellX 1 rfl) ?_))))))
 obtain ⟨hc1,hm1,hA1⟩:=hwd.sr
 refine yF wn rfl call22 rfl (fun w1 hM=>c_compare _ d.sr.l _ t w1 (hM.slp 0 rfl) (hM.slp 3 rfl)) (zP rfl (zD hK2 (zX (zY (.inl rfl) results190 (zR rfl) fun w1 hM=>?_))))
 exact zn rfl hM
theorem c_bsC (clv : Value) (cl : List zO) (tv : Value) (t : List Label) (P0 : Nat → Prop) (w : World) (hP0 : ∀ b, P0 b → b < w.heap.size) (hcl : zJ P0 2 yi clv cl w) (hcla : ∀ x ∈ cl, zO.Ok P0 x w) (ht : zJ P0 2 zj tv t w) (has : Mn.Asc (cl.map zO.e)) (hl1 : cl.length ≤ 1048576) :
    Calls prog 189 #[clv,tv,.func (.func 190) #[] #[]] w (Ret w (.tuple #[iV (Mn.pos (cl.map zO.e) t:Nat),.bool (Mn.has (cl.map zO.e) t)])):=by
 have hwcl:∀ x ∈ cl,zO.Wf x:=fun x hx=>(hcla x hx).wf
 obtain ⟨clA,clc,rfl,hclc,hclm,hclA⟩:=hcl.form
 obtain ⟨tA,tc,rfl,htc,htm,htA⟩:=ht.form
 refine fstart (N:=49) (vals:=[.slice clA cl.length clc,.slice tA t.length tc,.func (.func 190) #[] #[]]) (S:=Mem w ⟨no,P0⟩ [slP 2 yi (.slice clA cl.length clc) cl,allP zO.Ok cl,slP 2 zj (.slice tA t.length tc) t]) func189 rfl rfl rfl (Mem.ofDatsP hP0 (dc (dlp hcl) (dc (dp (all_loc zO.Ok.loc _) hcla) (dc (dlp ht) dn)))) (zG fun _ hK1=>zP rfl (zP rfl (zD hK1 (zG fun _ hK2=>zE rfl (zB (yW rfl underlying32) (zP rfl (zD hK2 (zG fun _ hK3=>zE rfl ?_))))))))
 refine zP rfl (zP rfl (zD hK3 (zS fun _ hK4=>zk (uS (fun (i:Nat) (j:Nat)=>[(0,.slice clA cl.length clc),(1,.slice tA t.length tc),(2,.func (.func 190) #[] #[]),(8,iV cl.length),(9,iV i),(10,iV j)]) (fun (i:Nat) (j:Nat)=>[slP 2 yi (.slice clA cl.length clc) cl,allP zO.Ok cl,slP 2 zj (.slice tA t.length tc) t]) (fun (i:Nat) (j:Nat)=>i≤j∧j≤cl.length∧(∀ (q:Nat) (y:Cell),(cl.map zO.e)[q]?=some y→q < i→zc.compare y.sr t < 0)∧(∀ (q:Nat) (y:Cell),(cl.map zO.e)[q]?=some y→j≤q→¬ zc.compare y.sr t < 0)) (fun (i:Nat) (j:Nat)=>j - i) 0 cl.length (sc rfl (sc rfl (sc rfl (sc rfl (sc (ji (by omega)) (sc rfl sn)))))) (fun _ h=>h) ?_ (fun i j hI1=>?_)))))
 · exact ⟨Nat.zero_le _,Nat.le_refl _,fun q y _ h=>absurd h (Nat.not_lt_zero _),fun q y h h2=>by have:=(List.getElem?_eq_some_iff.1 h).1; simp only [List.length_map] at this; omega⟩
 refine zS fun _ hK5=>zG fun _ hK6=>zE rfl (zE rfl (zB (yR rfl rfl) (zD hK6 (zZ rfl (fun h1=>?_) (fun h1=>?_)))))
 · refine yK hK5 (zk (zG fun _ hK7=>zE rfl (zE rfl (zB (zw rfl rfl (by omega)) (zB (r_natu64 (a:=(i + j)) rfl (by omega) (by omega) (by rw [underlying3]; rfl) underlying228) (zB (r_shr (u:=(i + j)) (j:=1) rfl rfl (by omega) (by omega)) (zB (r_int64 (a:=((i + j) / 2 ^ 1)) rfl (by omega) (by rw [underlying228]; rfl) underlying3) (zP rfl (zD hK7 (zG fun _ hK8=>?_))))))))))
   refine zE rfl (zE rfl (zE rfl ?_))
   obtain ⟨ad1,hd1⟩:=hclA (ne_nil (i:=((i + j) / 2 ^ 1)) (by first | omega | (simp <;> omega)))
   refine zB (y6 (i:=((i + j) / 2 ^ 1)) rfl hd1 rfl (by omega) (by first | omega | (simp <;> omega)) underlying32 inf81) ?_
   obtain ⟨s1,hs1⟩:∃ x,cl[((i + j) / 2 ^ 1)]?=some x:=⟨_,List.getElem?_eq_getElem (by first | omega | (simp <;> omega))⟩
   refine zB (vy 0 [.slice s1.sr.A s1.sr.l.length s1.sr.c,iV s1.value] rfl rfl hd1 hs1 rfl rfl agg81 inf81) (zE rfl ?_)
   have hw1:=hwcl _ (List.mem_of_getElem? hs1)
   refine yV (fun _ h=>h.one 1 zO.Ok.loc rfl hs1) (jD wn rfl rfl call190 rfl (fun w1 hM=>c_all1 s1 _ t (In w1) w1 (fun _ h=>h) (hM.vQ (i:=0) rfl) (hM.slp 3 rfl)) (zB (yR rfl rfl) (zD hK8 (zZ rfl (fun h2=>?_) (fun h2=>?_)))))
   · refine zL (zE rfl (zB (zw rfl rfl (by omega)) (zP rfl (zl (zm (vb (((i + j) / 2 ^ 1) + 1) j (sc rfl (sc rfl (sc rfl (sc rfl (sc (ji (by omega)) (sc rfl sn)))))) (S9 [1,2,3]) ?_ ?_))))))
     · exact ⟨by omega,by omega,Mn.asc_lt (x:=zO.e s1) has (by rw [List.getElem?_map,hs1]; rfl) h2,hI1.2.2.2⟩
     omega
   refine zL (zE rfl (zP rfl (zl (zm (vb i ((i + j) / 2 ^ 1) (sc rfl (sc rfl (sc rfl (sc rfl (sc rfl (sc (ji (by omega)) sn)))))) (S9 [1,2,3]) ?_ ?_)))))
   · exact ⟨by omega,by omega,hI1.2.2.1,Mn.asc_ge (x:=zO.e s1) has (by rw [List.getElem?_map,hs1]; rfl) h2⟩
   omega
 refine yZ (yH (uB (yI (zy hK4 (zG fun _ hK9=>zE rfl (zE rfl (zE rfl (zB (yR rfl rfl) (zE rfl (yQ (t:=39) rfl (fun h3=>?_) (fun h3=>?_)))))))))))
 · refine zb (zi rfl) (zb (zi rfl) (zb (zi rfl) ?_))
   obtain ⟨ad2,hd2⟩:=hclA (ne_nil (i:=i) (by first | omega | (simp <;> omega)))
   refine zb (y6 (i:=i) rfl hd2 rfl (by omega) (by first | omega | (simp <;> omega)) underlying32 inf81) ?_
   obtain ⟨s2,hs2⟩:∃ x,cl[i]?=some x:=⟨_,List.getElem?_eq_getElem (by first | omega | (simp <;> omega))⟩
   refine zb (vy 0 [.slice s2.sr.A s2.sr.l.length s2.sr.c,iV s2.value] rfl rfl hd2 hs2 rfl rfl agg81 inf81) (zb (zi rfl) ?_)
   have hw2:=hwcl _ (List.mem_of_getElem? hs2)
   refine yV (fun _ h=>h.one 1 zO.Ok.loc rfl hs2) (jD (wg rfl rfl rfl) rfl rfl call190 rfl (fun w1 hM=>c_all1 s2 _ t (In w1) w1 (fun _ h=>h) (hM.vQ (i:=0) rfl) (hM.slp 3 rfl)) (zb (yf rfl rfl) (zB (zM rfl rfl) (zP rfl (zP rfl (zD hK9 (zX (yT (.inl rfl) results189 (zR rfl) (zR rfl) fun w1 hM=>?_))))))))
   have hp9:Mn.pos (cl.map zO.e) t=i:=Mn.pos_eq (by simp only [List.length_map]; omega) hI1.2.2.1 (by have:i=j:=(by omega); rw [this]; exact hI1.2.2.2)
   have hh9:Mn.has (cl.map zO.e) t=decide (zc.compare s2.sr.l t=0):=Mn.bs_has (x:=zO.e s2) has (by rw [List.getElem?_map,hs2]; rfl) hI1.2.2.1 (by have:j=i:=(by omega); exact hI1.2.2.2 i _ (by rw [List.getElem?_map,hs2]; rfl) (by omega))
   exact zn (by rw [hp9,hh9]) hM
 refine zQ (zQ (zQ (zQ (zQ (zQ (zQ (zQ (zB (zM rfl rfl) (zP rfl (zP rfl (zD hK9 ?_)))))))))))
 refine zX (yT (.inl rfl) results189 (zR rfl) (zR rfl) fun w1 hM=>?_)
 have hp9:Mn.pos (cl.map zO.e) t=i:=Mn.pos_eq (by simp only [List.length_map]; omega) hI1.2.2.1 (by have:i=j:=(by omega); rw [this]; exact hI1.2.2.2)
 have hh9:Mn.has (cl.map zO.e) t=false:=Mn.bs_no (i:=i) (by simp only [List.length_map]; omega) hI1.2.2.1
 exact zn (by rw [hp9,hh9]) hM
set_option maxHeartbeats 2000000 in
theorem c_mall (wd : ByteArray) (by_v : Value) (by_ : List ByteArray) (lv : Value) (l : List zO) (P0 : Nat → Prop) (w : World) (hP0 : ∀ b, P0 b → b < w.heap.size) (hby_ : zJ P0 1 strE by_v by_ w) (hl : zJ P0 2 yi lv l w) (hla : ∀ x ∈ l, zO.Ok P0 x w) (hbl : ∀ c ∈ l, -1125899906842624 ≤ c.value ∧ c.value ≤ 1125899906842624) (hsm : ∀ c ∈ l, c.sr.l.length ≤ 1048576) (hll : l.length ≤ 1048576) :
    Calls prog 156 #[.string wd,by_v,lv] w (RetE w P0 (fun z:yO=>.tuple #[.agg (uY z).toArray,iV (Mn.all wd by_ (l.map zO.e)).2]) (fun z=>z.e=(Mn.all wd by_ (l.map zO.e)).1) (fun z S=>yO.Ok S z)):=by
 obtain ⟨by_A,by_c,rfl,hby_c,hby_m,hby_A⟩:=hby_.form
 have hwl:∀ x ∈ l,zO.Wf x:=fun x hx=>(hla x hx).wf
 obtain ⟨lA,lc,rfl,hlc,hlm,hlA⟩:=hl.form
 refine fstart (N:=93) (vals:=[.string wd,.slice by_A by_.length by_c,.slice lA l.length lc]) (S:=Mem w ⟨no,P0⟩ [slP 1 strE (.slice by_A by_.length by_c) by_,slP 2 yi (.slice lA l.length lc) l,allP zO.Ok l]) func156 rfl rfl rfl (Mem.ofDatsP hP0 (dc (dlp hby_) (dc (dlp hl) (dc (dp (all_loc zO.Ok.loc _) hla) dn)))) (zG fun _ hK1=>yC wn inf172 rfl fun b6=>zP rfl (zD hK1 (zG fun _ hK2=>zB (zz [.bool true,iV 0,Zs] pl172 inf172 rfl rfl) (yC wn inf172 rfl fun b8=>zr 0 wn rfl rfl rfl inf172 rfl rfl rfl (zD hK2 (zS fun _ hK3=>zG fun _ hK4=>?_))))))
 refine zE rfl (zB (yW rfl underlying32) (zE rfl (zD hK4 (zk (jZ (fun _ h=>h.uP zO 81 2 yi) (je (fun _ h=>h.all0 zO.Ok.loc) (ur (fun (k:Nat) (cs:List zO) (ov:Value)=>[(0,.string wd),(1,.slice by_A by_.length by_c),(6,.pointer (some ⟨b6,0,none⟩)),(8,.pointer (some ⟨b8,0,none⟩)),(17,.slice lA l.length lc),(18,iV l.length),(19,iV k)]) (fun (k:Nat) (cs:List zO) (ov:Value)=>[allP zO.Ok cs,Row ov 81 2 yi cs,.blk b8 [.bool true,iV 0,ov] 172,.blk b6 [.bool false,iV 0,Zs] 172,slP 1 strE (.slice by_A by_.length by_c) by_,slP 2 yi (.slice lA l.length lc) l,allP zO.Ok l]) (fun (k:Nat) (cs:List zO) (ov:Value)=>k≤l.length∧(∀ x ∈ cs,zO.Wf x)∧Mn.allFrom wd by_ [] (l.map zO.e)=Mn.allFrom wd by_ (cs.map zO.e) ((l.drop k).map zO.e)∧Mn.Asc (cs.map zO.e)∧Mn.Fit (cs.map zO.e)∧cs.length≤k) (fun (k:Nat) (cs:List zO) (ov:Value)=>l.length - k) 0 [] (Zs) (sc rfl (sc rfl (sc rfl (sc rfl (sc rfl (sc rfl (sc (ji (by omega)) sn))))))) (fun _ h=>h) ?_ (fun k cs ov hI1=>?_))))))))
 · exact ⟨Nat.zero_le _,fun x hx=>(by cases hx),by rw [List.drop_zero]; rfl,List.Pairwise.nil,fun x hx=>(by cases hx),Nat.le_refl _⟩
 have hwf:=hI1.2.1
 have hasc:=hI1.2.2.2.1
 have hfit:=hI1.2.2.2.2.1
 have hlen:=hI1.2.2.2.2.2
 refine vW 1 (l:=cs) rfl fun A1 cp1 hv1 hc1 hm1 hA1=>?_
 subst hv1
 refine zG fun _ hK5=>zB (yR rfl rfl) (zD hK5 (zS fun _ hK6=>zZ rfl (fun h1=>?_) (fun h1=>?_)))
 · refine yK hK6 (zS fun _ hK7=>zk (zG fun _ hK8=>?_))
   obtain ⟨ad1,hd1⟩:=hlA (ne_nil (i:=k) (by first | omega | (simp <;> omega)))
   refine zB (y6 (i:=k) rfl hd1 rfl (by omega) (by first | omega | (simp <;> omega)) underlying32 inf81) ?_
   obtain ⟨s1,hs1⟩:∃ x,l[k]?=some x:=⟨_,List.getElem?_eq_getElem (by first | omega | (simp <;> omega))⟩
   have hb_s1:=hbl _ (List.mem_of_getElem? hs1)
   have hs_s1:=hsm _ (List.mem_of_getElem? hs1)
   refine zB (vy 5 [.slice s1.sr.A s1.sr.l.length s1.sr.c,iV s1.value] rfl rfl hd1 hs1 rfl rfl agg81 inf81) (yC wn inf81 rfl fun b10=>zr 0 wn rfl rfl rfl inf81 rfl rfl rfl (zD hK8 (zG fun _ hK9=>zB (za rfl fld81_0) (zB (zg 0 rfl rfl rfl flat39) (zE rfl ?_)))))
   have hw1:=hwl _ (List.mem_of_getElem? hs1)
   refine yV (fun _ h=>h.one 7 zO.Ok.loc rfl hs1) (yV (fun _ h=>h.cellX 0 rfl) ?_)
   obtain ⟨hc2,hm2,hA2⟩:=hw1.sr
   refine uU (zc.only s1.sr.l by_) wn rfl call188 rfl (fun w1 hM=>c_only _ s1.sr.l _ by_ w1 (hM.slp 0 rfl) (hM.slp 7 rfl) (by first | assumption | omega)) fun A2 cp2 hc3 hm3 hA3=>zP rfl (zD hK9 (zG fun _ hK10=>zB (za rfl fld81_1) (zB (zg 3 rfl rfl rfl flat3) (zP rfl (zD hK10 (vm [(0,.string wd),(1,.slice by_A by_.length by_c),(6,.pointer (some ⟨b6,0,none⟩)),(8,.pointer (some ⟨b8,0,none⟩)),(11,.slice A2 ((zc.only s1.sr.l by_).length) cp2),(12,iV (if wd=⟨#[99,111,117,110,116]⟩ then 1 else s1.value)),(17,.slice lA l.length lc),(18,iV l.length),(19,iV k)] (Mem w ⟨no,P0⟩ [Row (.slice A2 ((zc.only s1.sr.l by_).length) cp2) 74 2 zj (zc.only s1.sr.l by_),slP 2 zj (.slice s1.sr.A s1.sr.l.length s1.sr.c) s1.sr.l,okP zO.Ok s1,.blk b10 [.slice s1.sr.A s1.sr.l.length s1.sr.c,iV s1.value] 81,allP zO.Ok cs,Row (.slice A1 cs.length cp1) 81 2 yi cs,.blk b8 [.bool true,iV 0,.slice A1 cs.length cp1] 172,.blk b6 [.bool false,iV 0,Zs] 172,slP 1 strE (.slice by_A by_.length by_c) by_,slP 2 yi (.slice lA l.length lc) l,allP zO.Ok l]) (fun _ hK11=>?_) ?_))))))
   · refine zG fun _ hK12=>zE rfl (zB (vf rfl rfl) (zD hK12 (zZ rfl (fun h2=>?_) (fun h2=>?_))))
     · refine zL (zP rfl ?_)
       refine zl (ym hK11 (sc rfl (sc rfl (sc rfl (sc rfl (sc rfl (sc (by first | (simp only [if_pos h2]; done) | (simp only [if_pos h2]; rfl)) (sc rfl (sc rfl (sc rfl sn))))))))) (fun _ h=>h))
     refine yU (ym hK11 (sc rfl (sc rfl (sc rfl (sc rfl (sc rfl (sc (by first | (simp only [if_neg h2]; done) | (simp only [if_neg h2]; rfl)) (sc rfl (sc rfl (sc rfl sn))))))))) (fun _ h=>h))
   refine zG fun _ hK13=>?_
   have hux:-1125899906842624≤(if wd=⟨#[99,111,117,110,116]⟩ then 1 else s1.value)∧(if wd=⟨#[99,111,117,110,116]⟩ then 1 else s1.value)≤1125899906842624:=Mn.unit_rng (w:=wd) hb_s1
   refine zB (za rfl fld172_2) (zB (zg 6 rfl rfl rfl flat32) (zE rfl (yF wn rfl call189 rfl (fun w1 hM=>c_bsC _ cs _ (zc.only s1.sr.l by_) (In w1) w1 (fun _ h=>h) (RowSl encCellX hM 5 rfl) (hM.vQ (i:=4) rfl) (RowSl encLabel hM 0 rfl) hasc (by omega)) (zE rfl (zB (yG rfl rfl) (zB (yG rfl rfl) (zP rfl (zP rfl (zD hK13 (zS fun _ hK14=>zG fun _ hK15=>?_))))))))))
   refine zE rfl (zB (vC rfl) (zD hK15 (yp rfl (fun h3=>?_) (fun h3=>?_))))
   · have hhas:Mn.has (cs.map zO.e) (zc.only s1.sr.l by_)=false:=by simpa using h3
     refine zG fun _ hK16=>zB (za rfl fld172_2) (zB (zg 6 rfl rfl rfl flat32) (zE rfl (zE rfl (zE rfl (zB (zz [.slice A2 ((zc.only s1.sr.l by_).length) cp2,iV (if wd=⟨#[99,111,117,110,116]⟩ then 1 else s1.value)] pl81 inf81 rfl rfl) (yw yi ([(zO.mk ⟨A2,cp2,(zc.only s1.sr.l by_)⟩ (if wd=⟨#[99,111,117,110,116]⟩ then 1 else s1.value))]:List zO) wn underlying32 inf81 rfl rfl rfl rfl (by decide) (by decide) rfl fun b46=>jv 1 encLabel rfl rfl (vO (α:=Value) [Row (.slice A1 cs.length cp1) 81 2 yi cs,Row (.slice (some ⟨b46,0,none⟩) 1 1) 81 2 yi ([(zO.mk ⟨A2,cp2,(zc.only s1.sr.l by_)⟩ (if wd=⟨#[99,111,117,110,116]⟩ then 1 else s1.value))]:List zO)] [slP 2 zj (.slice A2 ((zc.only s1.sr.l by_).length) cp2) (zc.only s1.sr.l by_),slP 2 zj (.slice s1.sr.A s1.sr.l.length s1.sr.c) s1.sr.l,okP zO.Ok s1,.blk b10 [.slice s1.sr.A s1.sr.l.length s1.sr.c,iV s1.value] 81,allP zO.Ok cs,.blk b8 [.bool true,iV 0,.slice A1 cs.length cp1] 172,.blk b6 [.bool false,iV 0,Zs] 172,slP 1 strE (.slice by_A by_.length by_c) by_,slP 2 yi (.slice lA l.length lc) l,allP zO.Ok l] (fun z=>z) (fun z1=>True) (fun z1=>[Row z1 81 2 yi (cs.take (Mn.pos (cs.map zO.e) (zc.only s1.sr.l by_))++(zO.mk ⟨A2,cp2,(zc.only s1.sr.l by_)⟩ (if wd=⟨#[99,111,117,110,116]⟩ then 1 else s1.value))::cs.drop (Mn.pos (cs.map zO.e) (zc.only s1.sr.l by_)))]) _ (fun _=>rfl) (S9 [6,0,1,2,3,4,5,7,8,9,10,11]) (fun _=>rfl) wn rfl rfl call191 rfl (fun w1 Pb hG=>c_insertC _ _ cs (zO.mk ⟨A2,cp2,(zc.only s1.sr.l by_)⟩ (if wd=⟨#[99,111,117,110,116]⟩ then 1 else s1.value)) (Mn.pos (cs.map zO.e) (zc.only s1.sr.l by_)) Pb w1 hG Mn.pos_le' (by omega)) fun z1 hz1=>jL 0 (l:=(cs.take (Mn.pos (cs.map zO.e) (zc.only s1.sr.l by_))++(zO.mk ⟨A2,cp2,(zc.only s1.sr.l by_)⟩ (if wd=⟨#[99,111,117,110,116]⟩ then 1 else s1.value))::cs.drop (Mn.pos (cs.map zO.e) (zc.only s1.sr.l by_)))) rfl fun A3 cp3 hv2 hc4 hm4 hA4=>?_)))))))
     subst hv2
     refine yV (fun _ h=>h.allIns (l':=(cs.take (Mn.pos (cs.map zO.e) (zc.only s1.sr.l by_))++(zO.mk ⟨A2,cp2,(zc.only s1.sr.l by_)⟩ (if wd=⟨#[99,111,117,110,116]⟩ then 1 else s1.value))::cs.drop (Mn.pos (cs.map zO.e) (zc.only s1.sr.l by_)))) 5 1 rfl rfl ins_of) ?_
     have hw2:∀ y ∈ (cs.take (Mn.pos (cs.map zO.e) (zc.only s1.sr.l by_))++(zO.mk ⟨A2,cp2,(zc.only s1.sr.l by_)⟩ (if wd=⟨#[99,111,117,110,116]⟩ then 1 else s1.value))::cs.drop (Mn.pos (cs.map zO.e) (zc.only s1.sr.l by_))),zO.Wf y:=fun y hy=>(ins_of y hy).elim (hwf y) fun e=>⟨by rw [e]; exact (show Ex.Wf ⟨A2,cp2,(zc.only s1.sr.l by_)⟩ from ⟨by omega,by omega,hA3⟩)⟩
     refine zB (za rfl fld172_2) (yt 7 wn rfl rfl rfl rfl inf32 rfl rfl (zD hK16 (yZ (yH (yI (zy hK7 (zL (zB (zw rfl rfl (by omega)) (zE rfl (zl (vI (k + 1) (cs.take (Mn.pos (cs.map zO.e) (zc.only s1.sr.l by_))++(zO.mk ⟨A2,cp2,(zc.only s1.sr.l by_)⟩ (if wd=⟨#[99,111,117,110,116]⟩ then 1 else s1.value))::cs.drop (Mn.pos (cs.map zO.e) (zc.only s1.sr.l by_))) (.slice A3 ((cs.take (Mn.pos (cs.map zO.e) (zc.only s1.sr.l by_))++(zO.mk ⟨A2,cp2,(zc.only s1.sr.l by_)⟩ (if wd=⟨#[99,111,117,110,116]⟩ then 1 else s1.value))::cs.drop (Mn.pos (cs.map zO.e) (zc.only s1.sr.l by_))).length) cp3) (sc rfl (sc rfl (sc rfl (sc rfl (sc rfl (sc rfl (sc (ji (by omega)) sn))))))) (S9 [0,1,7,8,9,10,11]) ?_ ?_)))))))))))
     · obtain ⟨g1,g2,g3⟩:=Mn.all_ins (w:=wd) (by_:=by_) (s:=zc.only s1.sr.l by_) (c:=zO.e s1) (r:=(l.drop (k + 1)).map zO.e) (x:=(if wd=⟨#[99,111,117,110,116]⟩ then 1 else s1.value)) (z:=(zO.mk ⟨A2,cp2,(zc.only s1.sr.l by_)⟩ (if wd=⟨#[99,111,117,110,116]⟩ then 1 else s1.value))) rfl rfl rfl hhas hfit hb_s1
       exact ⟨by omega,hw2,by rw [hI1.2.2.1,Mn.drop_map hs1,g3,← g1],by rw [g1]; exact Mn.put_asc hasc,by rw [g1]; exact g2,by rw [ins_len Mn.pos_le']; omega⟩
     omega
   have hhas:Mn.has (cs.map zO.e) (zc.only s1.sr.l by_)=true:=by simpa using h3
   have hpl:=Mn.pos_lt hasc hhas
   refine yK hK14 (zG fun _ hK17=>zB (za rfl fld172_2) (zB (zg 6 rfl rfl rfl flat32) (zE rfl ?_)))
   obtain ⟨ad2,hd2⟩:=hA1 (ne_nil (i:=(Mn.pos (cs.map zO.e) (zc.only s1.sr.l by_))) (by first | omega | (simp <;> omega)))
   refine zB (y6 (i:=(Mn.pos (cs.map zO.e) (zc.only s1.sr.l by_))) rfl hd2 rfl (by omega) (by first | omega | (simp <;> omega)) underlying32 inf81) (zP rfl (zD hK17 (zS fun _ hK18=>zG fun _ hK19=>zE rfl (zD hK19 (zk (zG fun _ hK20=>zB (vf rfl rfl) (zP rfl (zD hK20 ?_))))))))
   refine zZ rfl (fun h4=>?_) (fun h4=>?_)
   · refine zL (zE rfl (zE rfl (zB (zT rfl) (zB (yy rfl fld81_1) ?_))))
     obtain ⟨s2,hs2⟩:∃ x,cs[(Mn.pos (cs.map zO.e) (zc.only s1.sr.l by_))]?=some x:=⟨_,List.getElem?_eq_getElem (by first | omega | (simp <;> omega))⟩
     have hb_s2:=Mn.Fit.at_ hfit hs2
     refine zB (u9 5 encCellX rfl rfl hd2 hs2 rfl flat3) (zE rfl (zB (uj rfl rfl) (zB (zT rfl) (zB (yy rfl fld81_1) (u5 5 (vs:=[iV (if s2.value < (if wd=⟨#[99,111,117,110,116]⟩ then 1 else s1.value) then (if wd=⟨#[99,111,117,110,116]⟩ then 1 else s1.value) else s2.value)]) (zO.mk ⟨s2.sr.A,s2.sr.c,s2.sr.l⟩ (if s2.value < (if wd=⟨#[99,111,117,110,116]⟩ then 1 else s1.value) then (if wd=⟨#[99,111,117,110,116]⟩ then 1 else s1.value) else s2.value)) encCellX wn rfl rfl rfl rfl hd2 hs2 inf3 rfl rfl rfl rfl (yV (fun _ h=>h.allOf (l':=(cs.set (Mn.pos (cs.map zO.e) (zc.only s1.sr.l by_)) (zO.mk ⟨s2.sr.A,s2.sr.c,s2.sr.l⟩ (if s2.value < (if wd=⟨#[99,111,117,110,116]⟩ then 1 else s1.value) then (if wd=⟨#[99,111,117,110,116]⟩ then 1 else s1.value) else s2.value)))) 4 rfl (set_of hs2 rfl)) ?_))))))
     have hw3:∀ x ∈ (cs.set (Mn.pos (cs.map zO.e) (zc.only s1.sr.l by_)) (zO.mk ⟨s2.sr.A,s2.sr.c,s2.sr.l⟩ (if s2.value < (if wd=⟨#[99,111,117,110,116]⟩ then 1 else s1.value) then (if wd=⟨#[99,111,117,110,116]⟩ then 1 else s1.value) else s2.value))),zO.Wf x:=fun x hx=>by obtain ⟨y,hy,e⟩:=set_of (z:=(zO.mk ⟨s2.sr.A,s2.sr.c,s2.sr.l⟩ (if s2.value < (if wd=⟨#[99,111,117,110,116]⟩ then 1 else s1.value) then (if wd=⟨#[99,111,117,110,116]⟩ then 1 else s1.value) else s2.value))) hs2 rfl x hx; exact ⟨by rw [e]; exact (hwf y hy).sr⟩
     refine zl (zm (zy hK18 (zG fun _ hK21=>zE rfl (zB (zT rfl) (zB (yy rfl fld81_1) (zB (u9 6 encCellX rfl rfl hd2 (set_at hs2) rfl flat3) (yF wn rfl call192 rfl (fun w1 hM=>jb ((zO.mk ⟨s2.sr.A,s2.sr.c,s2.sr.l⟩ (if s2.value < (if wd=⟨#[99,111,117,110,116]⟩ then 1 else s1.value) then (if wd=⟨#[99,111,117,110,116]⟩ then 1 else s1.value) else s2.value)).value) w1) (zB (vC rfl) (zD hK21 (yp rfl (fun h5=>?_) (fun h5=>?_)))))))))))
     · refine zG fun _ hK22=>zB (zz [.bool false,iV 0,Zs] pl172 inf172 rfl rfl) (zr 8 wn rfl rfl rfl inf172 rfl rfl rfl (zP rfl (zD hK22 (zX (yA (zK (uF (yA (zK (yT (.inl rfl) results156 (zt 8 rfl rfl agg172 inf172 rfl) (zR rfl) fun w1 hM=>?_))))))))))
       obtain ⟨g1,_,g2⟩:=Mn.all_set (w:=wd) (by_:=by_) (s:=zc.only s1.sr.l by_) (c:=zO.e s1) (r:=(l.drop (k + 1)).map zO.e) (x:=(if wd=⟨#[99,111,117,110,116]⟩ then 1 else s1.value)) (z:=(zO.mk ⟨s2.sr.A,s2.sr.c,s2.sr.l⟩ (if s2.value < (if wd=⟨#[99,111,117,110,116]⟩ then 1 else s1.value) then (if wd=⟨#[99,111,117,110,116]⟩ then 1 else s1.value) else s2.value))) rfl rfl hasc hhas hfit hs2 rfl (by show _=Mn.comb wd s2.value (if wd=⟨#[99,111,117,110,116]⟩ then 1 else s1.value); unfold Mn.comb; grind)
       have hb9:Mn.all wd by_ (l.map zO.e)=(Mn.zero,3):=by rw [Mn.all,hI1.2.2.1,Mn.drop_map hs1,g2 (by simpa using h5)]
       exact hM.uR (⟨false,0,⟨none,0,[]⟩⟩:yO) (by first | (rw [hb9]; done) | (rw [hb9]; rfl)) (by first | (rw [hb9]; done) | (rw [hb9]; rfl)) fun Pb pp=>⟨zJ.yq _ _ _ _,fun c hc=>by cases hc⟩
     refine yU (zm (zy hK7 (zL (zB (zw rfl rfl (by omega)) (zE rfl (zl (vI (k + 1) (cs.set (Mn.pos (cs.map zO.e) (zc.only s1.sr.l by_)) (zO.mk ⟨s2.sr.A,s2.sr.c,s2.sr.l⟩ (if s2.value < (if wd=⟨#[99,111,117,110,116]⟩ then 1 else s1.value) then (if wd=⟨#[99,111,117,110,116]⟩ then 1 else s1.value) else s2.value))) (.slice A1 cs.length cp1) (sc rfl (sc rfl (sc rfl (sc rfl (sc rfl (sc rfl (sc (ji (by omega)) sn))))))) (S9 [0,6,7,8,9,10,11]) ?_ ?_)))))))
     · obtain ⟨g1,g2,_⟩:=Mn.all_set (w:=wd) (by_:=by_) (s:=zc.only s1.sr.l by_) (c:=zO.e s1) (r:=(l.drop (k + 1)).map zO.e) (x:=(if wd=⟨#[99,111,117,110,116]⟩ then 1 else s1.value)) (z:=(zO.mk ⟨s2.sr.A,s2.sr.c,s2.sr.l⟩ (if s2.value < (if wd=⟨#[99,111,117,110,116]⟩ then 1 else s1.value) then (if wd=⟨#[99,111,117,110,116]⟩ then 1 else s1.value) else s2.value))) rfl rfl hasc hhas hfit hs2 rfl (by show _=Mn.comb wd s2.value (if wd=⟨#[99,111,117,110,116]⟩ then 1 else s1.value); unfold Mn.comb; grind)
       obtain ⟨g3,g4⟩:=g2 (by simpa using h5)
       exact ⟨by omega,hw3,by rw [hI1.2.2.1,Mn.drop_map hs1,g4,← g1],by rw [g1]; exact Mn.put_asc hasc,by rw [g1]; exact g3,by rw [List.length_set]; omega⟩
     omega
   refine zG fun _ hK23=>zB (vf rfl rfl) (zP rfl (zD hK23 (zZ rfl (fun h6=>?_) (fun h6=>?_))))
   · refine zL (zE rfl (zE rfl (zB (zT rfl) (zB (yy rfl fld81_1) ?_))))
     obtain ⟨s3,hs3⟩:∃ x,cs[(Mn.pos (cs.map zO.e) (zc.only s1.sr.l by_))]?=some x:=⟨_,List.getElem?_eq_getElem (by first | omega | (simp <;> omega))⟩
     have hb_s3:=Mn.Fit.at_ hfit hs3
     refine zB (u9 5 encCellX rfl rfl hd2 hs3 rfl flat3) (zE rfl (zB (jd rfl rfl) (zB (zT rfl) (zB (yy rfl fld81_1) (u5 5 (vs:=[iV (if (if wd=⟨#[99,111,117,110,116]⟩ then 1 else s1.value) < s3.value then (if wd=⟨#[99,111,117,110,116]⟩ then 1 else s1.value) else s3.value)]) (zO.mk ⟨s3.sr.A,s3.sr.c,s3.sr.l⟩ (if (if wd=⟨#[99,111,117,110,116]⟩ then 1 else s1.value) < s3.value then (if wd=⟨#[99,111,117,110,116]⟩ then 1 else s1.value) else s3.value)) encCellX wn rfl rfl rfl rfl hd2 hs3 inf3 rfl rfl rfl rfl (yV (fun _ h=>h.allOf (l':=(cs.set (Mn.pos (cs.map zO.e) (zc.only s1.sr.l by_)) (zO.mk ⟨s3.sr.A,s3.sr.c,s3.sr.l⟩ (if (if wd=⟨#[99,111,117,110,116]⟩ then 1 else s1.value) < s3.value then (if wd=⟨#[99,111,117,110,116]⟩ then 1 else s1.value) else s3.value)))) 4 rfl (set_of hs3 rfl)) ?_))))))
     have hw4:∀ x ∈ (cs.set (Mn.pos (cs.map zO.e) (zc.only s1.sr.l by_)) (zO.mk ⟨s3.sr.A,s3.sr.c,s3.sr.l⟩ (if (if wd=⟨#[99,111,117,110,116]⟩ then 1 else s1.value) < s3.value then (if wd=⟨#[99,111,117,110,116]⟩ then 1 else s1.value) else s3.value))),zO.Wf x:=fun x hx=>by obtain ⟨y,hy,e⟩:=set_of (z:=(zO.mk ⟨s3.sr.A,s3.sr.c,s3.sr.l⟩ (if (if wd=⟨#[99,111,117,110,116]⟩ then 1 else s1.value) < s3.value then (if wd=⟨#[99,111,117,110,116]⟩ then 1 else s1.value) else s3.value))) hs3 rfl x hx; exact ⟨by rw [e]; exact (hwf y hy).sr⟩
     refine zl (zm (zy hK18 (zG fun _ hK24=>zE rfl (zB (zT rfl) (zB (yy rfl fld81_1) (zB (u9 6 encCellX rfl rfl hd2 (set_at hs3) rfl flat3) (yF wn rfl call192 rfl (fun w1 hM=>jb ((zO.mk ⟨s3.sr.A,s3.sr.c,s3.sr.l⟩ (if (if wd=⟨#[99,111,117,110,116]⟩ then 1 else s1.value) < s3.value then (if wd=⟨#[99,111,117,110,116]⟩ then 1 else s1.value) else s3.value)).value) w1) (zB (vC rfl) (zD hK24 (yp rfl (fun h7=>?_) (fun h7=>?_)))))))))))
     · refine zG fun _ hK25=>zB (zz [.bool false,iV 0,Zs] pl172 inf172 rfl rfl) (zr 8 wn rfl rfl rfl inf172 rfl rfl rfl (zP rfl (zD hK25 (zX (yA (zK (uF (yA (zK (yT (.inl rfl) results156 (zt 8 rfl rfl agg172 inf172 rfl) (zR rfl) fun w1 hM=>?_))))))))))
       obtain ⟨g1,_,g2⟩:=Mn.all_set (w:=wd) (by_:=by_) (s:=zc.only s1.sr.l by_) (c:=zO.e s1) (r:=(l.drop (k + 1)).map zO.e) (x:=(if wd=⟨#[99,111,117,110,116]⟩ then 1 else s1.value)) (z:=(zO.mk ⟨s3.sr.A,s3.sr.c,s3.sr.l⟩ (if (if wd=⟨#[99,111,117,110,116]⟩ then 1 else s1.value) < s3.value then (if wd=⟨#[99,111,117,110,116]⟩ then 1 else s1.value) else s3.value))) rfl rfl hasc hhas hfit hs3 rfl (by show _=Mn.comb wd s3.value (if wd=⟨#[99,111,117,110,116]⟩ then 1 else s1.value); unfold Mn.comb; grind)
       have hb9:Mn.all wd by_ (l.map zO.e)=(Mn.zero,3):=by rw [Mn.all,hI1.2.2.1,Mn.drop_map hs1,g2 (by simpa using h7)]
       exact hM.uR (⟨false,0,⟨none,0,[]⟩⟩:yO) (by first | (rw [hb9]; done) | (rw [hb9]; rfl)) (by first | (rw [hb9]; done) | (rw [hb9]; rfl)) fun Pb pp=>⟨zJ.yq _ _ _ _,fun c hc=>by cases hc⟩
     refine yU (zm (zy hK7 (zL (zB (zw rfl rfl (by omega)) (zE rfl (zl (vI (k + 1) (cs.set (Mn.pos (cs.map zO.e) (zc.only s1.sr.l by_)) (zO.mk ⟨s3.sr.A,s3.sr.c,s3.sr.l⟩ (if (if wd=⟨#[99,111,117,110,116]⟩ then 1 else s1.value) < s3.value then (if wd=⟨#[99,111,117,110,116]⟩ then 1 else s1.value) else s3.value))) (.slice A1 cs.length cp1) (sc rfl (sc rfl (sc rfl (sc rfl (sc rfl (sc rfl (sc (ji (by omega)) sn))))))) (S9 [0,6,7,8,9,10,11]) ?_ ?_)))))))
     · obtain ⟨g1,g2,_⟩:=Mn.all_set (w:=wd) (by_:=by_) (s:=zc.only s1.sr.l by_) (c:=zO.e s1) (r:=(l.drop (k + 1)).map zO.e) (x:=(if wd=⟨#[99,111,117,110,116]⟩ then 1 else s1.value)) (z:=(zO.mk ⟨s3.sr.A,s3.sr.c,s3.sr.l⟩ (if (if wd=⟨#[99,111,117,110,116]⟩ then 1 else s1.value) < s3.value then (if wd=⟨#[99,111,117,110,116]⟩ then 1 else s1.value) else s3.value))) rfl rfl hasc hhas hfit hs3 rfl (by show _=Mn.comb wd s3.value (if wd=⟨#[99,111,117,110,116]⟩ then 1 else s1.value); unfold Mn.comb; grind)
       obtain ⟨g3,g4⟩:=g2 (by simpa using h7)
       exact ⟨by omega,hw4,by rw [hI1.2.2.1,Mn.drop_map hs1,g4,← g1],by rw [g1]; exact Mn.put_asc hasc,by rw [g1]; exact g3,by rw [List.length_set]; omega⟩
     omega
   refine zL (zE rfl (zB (zT rfl) (zB (yy rfl fld81_1) ?_)))
   obtain ⟨s4,hs4⟩:∃ x,cs[(Mn.pos (cs.map zO.e) (zc.only s1.sr.l by_))]?=some x:=⟨_,List.getElem?_eq_getElem (by first | omega | (simp <;> omega))⟩
   have hb_s4:=Mn.Fit.at_ hfit hs4
   refine zB (u9 5 encCellX rfl rfl hd2 hs4 rfl flat3) (zE rfl (zB (zw rfl rfl (by omega)) (zB (zT rfl) (zB (yy rfl fld81_1) (u5 5 (vs:=[iV (s4.value + (if wd=⟨#[99,111,117,110,116]⟩ then 1 else s1.value))]) (zO.mk ⟨s4.sr.A,s4.sr.c,s4.sr.l⟩ (s4.value + (if wd=⟨#[99,111,117,110,116]⟩ then 1 else s1.value))) encCellX wn rfl rfl rfl rfl hd2 hs4 inf3 rfl rfl rfl rfl (yV (fun _ h=>h.allOf (l':=(cs.set (Mn.pos (cs.map zO.e) (zc.only s1.sr.l by_)) (zO.mk ⟨s4.sr.A,s4.sr.c,s4.sr.l⟩ (s4.value + (if wd=⟨#[99,111,117,110,116]⟩ then 1 else s1.value))))) 4 rfl (set_of hs4 rfl)) ?_))))))
   have hw5:∀ x ∈ (cs.set (Mn.pos (cs.map zO.e) (zc.only s1.sr.l by_)) (zO.mk ⟨s4.sr.A,s4.sr.c,s4.sr.l⟩ (s4.value + (if wd=⟨#[99,111,117,110,116]⟩ then 1 else s1.value)))),zO.Wf x:=fun x hx=>by obtain ⟨y,hy,e⟩:=set_of (z:=(zO.mk ⟨s4.sr.A,s4.sr.c,s4.sr.l⟩ (s4.value + (if wd=⟨#[99,111,117,110,116]⟩ then 1 else s1.value)))) hs4 rfl x hx; exact ⟨by rw [e]; exact (hwf y hy).sr⟩
   refine zl (zm (zy hK18 (zG fun _ hK26=>zE rfl (zB (zT rfl) (zB (yy rfl fld81_1) (zB (u9 6 encCellX rfl rfl hd2 (set_at hs4) rfl flat3) (yF wn rfl call192 rfl (fun w1 hM=>jb ((zO.mk ⟨s4.sr.A,s4.sr.c,s4.sr.l⟩ (s4.value + (if wd=⟨#[99,111,117,110,116]⟩ then 1 else s1.value))).value) w1) (zB (vC rfl) (zD hK26 (yp rfl (fun h8=>?_) (fun h8=>?_)))))))))))
   · refine zG fun _ hK27=>zB (zz [.bool false,iV 0,Zs] pl172 inf172 rfl rfl) (zr 8 wn rfl rfl rfl inf172 rfl rfl rfl (zP rfl (zD hK27 (zX (yA (zK (uF (yA (zK (yT (.inl rfl) results156 (zt 8 rfl rfl agg172 inf172 rfl) (zR rfl) fun w1 hM=>?_))))))))))
     obtain ⟨g1,_,g2⟩:=Mn.all_set (w:=wd) (by_:=by_) (s:=zc.only s1.sr.l by_) (c:=zO.e s1) (r:=(l.drop (k + 1)).map zO.e) (x:=(if wd=⟨#[99,111,117,110,116]⟩ then 1 else s1.value)) (z:=(zO.mk ⟨s4.sr.A,s4.sr.c,s4.sr.l⟩ (s4.value + (if wd=⟨#[99,111,117,110,116]⟩ then 1 else s1.value)))) rfl rfl hasc hhas hfit hs4 rfl (by show _=Mn.comb wd s4.value (if wd=⟨#[99,111,117,110,116]⟩ then 1 else s1.value); unfold Mn.comb; grind)
     have hb9:Mn.all wd by_ (l.map zO.e)=(Mn.zero,3):=by rw [Mn.all,hI1.2.2.1,Mn.drop_map hs1,g2 (by simpa using h8)]
     exact hM.uR (⟨false,0,⟨none,0,[]⟩⟩:yO) (by first | (rw [hb9]; done) | (rw [hb9]; rfl)) (by first | (rw [hb9]; done) | (rw [hb9]; rfl)) fun Pb pp=>⟨zJ.yq _ _ _ _,fun c hc=>by cases hc⟩
   refine yU (zm (zy hK7 (zL (zB (zw rfl rfl (by omega)) (zE rfl (zl (vI (k + 1) (cs.set (Mn.pos (cs.map zO.e) (zc.only s1.sr.l by_)) (zO.mk ⟨s4.sr.A,s4.sr.c,s4.sr.l⟩ (s4.value + (if wd=⟨#[99,111,117,110,116]⟩ then 1 else s1.value)))) (.slice A1 cs.length cp1) (sc rfl (sc rfl (sc rfl (sc rfl (sc rfl (sc rfl (sc (ji (by omega)) sn))))))) (S9 [0,6,7,8,9,10,11]) ?_ ?_)))))))
   · obtain ⟨g1,g2,_⟩:=Mn.all_set (w:=wd) (by_:=by_) (s:=zc.only s1.sr.l by_) (c:=zO.e s1) (r:=(l.drop (k + 1)).map zO.e) (x:=(if wd=⟨#[99,111,117,110,116]⟩ then 1 else s1.value)) (z:=(zO.mk ⟨s4.sr.A,s4.sr.c,s4.sr.l⟩ (s4.value + (if wd=⟨#[99,111,117,110,116]⟩ then 1 else s1.value)))) rfl rfl hasc hhas hfit hs4 rfl (by show _=Mn.comb wd s4.value (if wd=⟨#[99,111,117,110,116]⟩ then 1 else s1.value); unfold Mn.comb; grind)
     obtain ⟨g3,g4⟩:=g2 (by simpa using h8)
     exact ⟨by omega,hw5,by rw [hI1.2.2.1,Mn.drop_map hs1,g4,← g1],by rw [g1]; exact Mn.put_asc hasc,by rw [g1]; exact g3,by rw [List.length_set]; omega⟩
   omega
 refine yZ (yH (uN (yI (zy hK3 (zG fun _ hK28=>zB (yM 2 [.bool true,iV 0,.slice A1 cs.length cp1] rfl rfl rfl rfl agg172 inf172) (zr 3 wn rfl rfl rfl inf172 rfl rfl rfl (zP rfl (zD hK28 (zX (yT (.inl rfl) results156 (zt 3 rfl rfl agg172 inf172 rfl) (zR rfl) fun w1 hM=>?_))))))))))
 have hb9:Mn.all wd by_ (l.map zO.e)=(⟨true,0,cs.map zO.e⟩,0):=by rw [Mn.all,hI1.2.2.1,Mn.drop_end (by omega),Mn.allFrom]
 have hM:=hM.yh encCellX (i:=1) rfl rfl
 exact hM.uR (⟨true,0,⟨A1,cp1,cs⟩⟩:yO) (by first | (rw [hb9]; done) | (rw [hb9]; rfl)) (by first | (rw [hb9]; done) | (rw [hb9]; rfl)) fun Pb pp=>⟨pp.sl 1 rfl,pp.at_ 0 _ rfl⟩
end
end Go.Proofs.YtgojhpocpajmlaaGreatDoor
