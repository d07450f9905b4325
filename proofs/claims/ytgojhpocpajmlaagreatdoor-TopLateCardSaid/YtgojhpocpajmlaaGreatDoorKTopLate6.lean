/- Proved: whatever it is given, graintop.TopLate answers true (a sample of rolled time is refused as too late, a newest one from then on is not), and its arguments read as before. Conditions: those of the given card TopLateCardSaid alone. -/
import Derived.Test.YtgojhpocpajmlaaGreatDoorRows
import Derived.Carry
import Derived.Deep.Slices
import Derived.JoinedCond
import Derived.Test.YtgojhpocpajmlaaGreatDoorCards
import Derived.Test.YtgojhpocpajmlaaGreatDoorTie
import Derived.Deep.DeepHandedRow
import Derived.Lib.LaidTab
import Derived.Stop.LaidErr
import Derived.Test.YtgojhpocpajmlaaGreatDoorKTopLate5
namespace Go.Proofs.YtgojhpocpajmlaaGreatDoor
section
open _root_.Go.Proofs.Tryz
open Ex
set_option linter.unusedVariables false
set_option linter.unusedSimpArgs false
theorem do1_fn (ba dad : Addr) (d : yv) : ShFn prog 71 #[.pointer (some ba)] (DoAt ba dad d) (fun s => Sh.forget s d.tier d.to) :=
  ⟨call71,DoAt.loc _ _ _,fun s w Pb hP hs hC=>by simpa using c_do1 s ba dad d Pb w hP hs hC.box hC.cel hC.ok⟩
theorem do2_fn (ba dad : Addr) (d : yv) : ShFn prog 73 #[.pointer (some ba)] (DoAt ba dad d) (fun s => Sh.roll s d.to) :=
  ⟨call73,DoAt.loc _ _ _,fun s w Pb hP hs hC=>by simpa using c_do2 s ba dad d Pb w hP hs hC.box hC.cel hC.ok⟩
set_option maxHeartbeats 1000000 in
theorem c_bdo (bp : Nat) (x : yw) (dad : Addr) (d : yv) (Pb : Nat → Prop) (w : World) (hG : Mem w ⟨fpOf [.blk bp [.slice x.zA.A x.zA.l.length x.zA.c, iV x.zh] 93, Row (.slice x.zA.A x.zA.l.length x.zA.c) 50 9 zx x.zA.l, allP zF.Ok x.zA.l, celP dad [iV d.kind, iV d.tier, iV d.to, .slice d.sr.A d.sr.l.length d.sr.c, iV d.zf.time, iV d.zf.value, .string d.text], okP yv.Ok d, .pub zb], Pb⟩ [.blk bp [.slice x.zA.A x.zA.l.length x.zA.c, iV x.zh] 93, Row (.slice x.zA.A x.zA.l.length x.zA.c) 50 9 zx x.zA.l, allP zF.Ok x.zA.l, celP dad [iV d.kind, iV d.tier, iV d.to, .slice d.sr.A d.sr.l.length d.sr.c, iV d.zf.time, iV d.zf.value, .string d.text], okP yv.Ok d, .pub zb] w) (hi : Bs.Inv x.e 120) :
    Calls prog 37 #[.pointer (some ⟨bp,0,none⟩),.pointer (some ((Addr.add dad 0).add 0))] w (RetA w [.blk bp [.slice x.zA.A x.zA.l.length x.zA.c,iV x.zh] 93,Row (.slice x.zA.A x.zA.l.length x.zA.c) 50 9 zx x.zA.l,allP zF.Ok x.zA.l,celP dad [iV d.kind,iV d.tier,iV d.to,.slice d.sr.A d.sr.l.length d.sr.c,iV d.zf.time,iV d.zf.value,.string d.text],okP yv.Ok d,.pub zb] Pb (fun z:yw × yY=>.agg (uC z.2).toArray) (fun z=>(z.1.e,z.2.e)=Bs.one x.e d.e) (fun z=>[okP yY.Ok z.2,.blk bp [.slice z.1.zA.A z.1.zA.l.length z.1.zA.c,iV z.1.zh] 93,Row (.slice z.1.zA.A z.1.zA.l.length z.1.zA.c) 50 9 zx z.1.zA.l,allP zF.Ok z.1.zA.l,celP dad (uB d),okP yv.Ok d,.pub zb])):=by
 have hwf:∀ y ∈ x.zA.l,zF.Wf y:=fun y hy=>((hG.vP (i:=2) rfl) y hy).wf
 have hwd:=(hG.vP (i:=4) rfl).wf
 obtain ⟨hsc,hsm,hsA⟩:=row_wf (hG.row (i:=1) rfl)
 have hlen:=len_k hi
 have hh0:=hi.hor
 have hh1:x.e.zh=x.zh:=rfl
 refine fstart (N:=86) (vals:=[.pointer (some ⟨bp,0,none⟩),.pointer (some ((Addr.add dad 0).add 0))]) (S:=Mem w ⟨fpOf [.blk bp [.slice x.zA.A x.zA.l.length x.zA.c,iV x.zh] 93,Row (.slice x.zA.A x.zA.l.length x.zA.c) 50 9 zx x.zA.l,allP zF.Ok x.zA.l,celP dad [iV d.kind,iV d.tier,iV d.to,.slice d.sr.A d.sr.l.length d.sr.c,iV d.zf.time,iV d.zf.value,.string d.text],okP yv.Ok d,.pub zb],Pb⟩ [.blk bp [.slice x.zA.A x.zA.l.length x.zA.c,iV x.zh] 93,Row (.slice x.zA.A x.zA.l.length x.zA.c) 50 9 zx x.zA.l,allP zF.Ok x.zA.l,celP dad [iV d.kind,iV d.tier,iV d.to,.slice d.sr.A d.sr.l.length d.sr.c,iV d.zf.time,iV d.zf.value,.string d.text],okP yv.Ok d,.pub zb]) func37 rfl rfl rfl hG (zG fun _ hK1=>jF wn rfl rfl rfl fun b3=>zy wn inf34 rfl fun b4=>zD hK1 (zS fun _ hK2=>zG fun _ hK3=>zB (zi 1 rfl rfl rfl flat95) (zB (zR rfl) (zB (y0 rfl fld43_0) (zB (yy 5 rfl rfl rfl flat3) (zD hK3 ?_))))))
 refine zl (zG fun _ hK4=>zB (yj rfl rfl) (zO rfl (zD hK4 (za rfl (fun h1=>?_) (fun h1=>?_)))))
 · refine zG fun _ hK5=>zE rfl (zB (zi 1 rfl rfl rfl flat95) (vK (α:=yw × yY) [.blk bp [.slice x.zA.A x.zA.l.length x.zA.c,iV x.zh] 93,Row (.slice x.zA.A x.zA.l.length x.zA.c) 50 9 zx x.zA.l,allP zF.Ok x.zA.l,celP dad [iV d.kind,iV d.tier,iV d.to,.slice d.sr.A d.sr.l.length d.sr.c,iV d.zf.time,iV d.zf.value,.string d.text],okP yv.Ok d] [.blk b4 [iV 0,iV 0,Zs,iV 0] 34,.blk b3 [.pointer (some ((Addr.add dad 0).add 0))] 95,.pub zb] (fun z:yw × yY=>.agg (uC z.2).toArray) (fun z1=>(z1.1.e,z1.2.e)=Bs.add x.e d.e) (fun z1=>[okP yY.Ok z1.2,.blk bp [.slice z1.1.zA.A z1.1.zA.l.length z1.1.zA.c,iV z1.1.zh] 93,Row (.slice z1.1.zA.A z1.1.zA.l.length z1.1.zA.c) 50 9 zx z1.1.zA.l,allP zF.Ok z1.1.zA.l,celP dad [iV d.kind,iV d.tier,iV d.to,.slice d.sr.A d.sr.l.length d.sr.c,iV d.zf.time,iV d.zf.value,.string d.text],okP yv.Ok d]) _ (fun _=>rfl) (S9 [2,3,4,5,6,0,1,7]) (fun _=>rfl) wn rfl rfl call68 rfl (fun w1 Pb hG=>c_badd bp x dad d Pb w1 hG hi) fun z1 hz1=>zn 6 wn rfl rfl rfl inf34 rfl rfl rfl (zD hK5 (zV (yD (zJ (zY (.inl rfl) results37 (zo 6 rfl rfl agg34 inf34 rfl) fun w1 hM=>?_)))))))
   exact hM.vS z1 rfl (one_1 h1 hz1) (fun h=>h.sel [0,1,2,3,4,5,8] (by decide) rfl)
 refine zG fun _ hK6=>zB (yj rfl rfl) (zO rfl (zD hK6 (za rfl (fun h2=>?_) (fun h2=>?_))))
 · refine zG fun _ hK7=>zE rfl (zB (zi 1 rfl rfl rfl flat95) (vK (α:=yw × yY) [.blk bp [.slice x.zA.A x.zA.l.length x.zA.c,iV x.zh] 93,Row (.slice x.zA.A x.zA.l.length x.zA.c) 50 9 zx x.zA.l,allP zF.Ok x.zA.l,celP dad [iV d.kind,iV d.tier,iV d.to,.slice d.sr.A d.sr.l.length d.sr.c,iV d.zf.time,iV d.zf.value,.string d.text],okP yv.Ok d,.pub zb] [.blk b4 [iV 0,iV 0,Zs,iV 0] 34,.blk b3 [.pointer (some ((Addr.add dad 0).add 0))] 95] (fun z:yw × yY=>.agg (uC z.2).toArray) (fun z2=>(z2.1.e,z2.2.e)=(x.e,Bs.ask x.e d.e)) (fun z2=>[okP yY.Ok z2.2,.blk bp [.slice z2.1.zA.A z2.1.zA.l.length z2.1.zA.c,iV z2.1.zh] 93,Row (.slice z2.1.zA.A z2.1.zA.l.length z2.1.zA.c) 50 9 zx z2.1.zA.l,allP zF.Ok z2.1.zA.l,celP dad [iV d.kind,iV d.tier,iV d.to,.slice d.sr.A d.sr.l.length d.sr.c,iV d.zf.time,iV d.zf.value,.string d.text],okP yv.Ok d,.pub zb]) _ (fun _=>rfl) (S9 [2,3,4,5,6,7,0,1]) (fun _=>rfl) wn rfl rfl call69 rfl (fun w1 Pb hG=>c_bask bp x dad d Pb w1 hG hi) fun z2 hz2=>zn 7 wn rfl rfl rfl inf34 rfl rfl rfl (zD hK7 (zV (yD (zJ (zY (.inl rfl) results37 (zo 7 rfl rfl agg34 inf34 rfl) fun w1 hM=>?_)))))))
   exact hM.vS z2 rfl (one_2 h1 h2 hz2) (fun h=>h.sel [0,1,2,3,4,5,6] (by decide) rfl)
 refine zS fun _ hK8=>zG fun _ hK9=>zB (yj rfl rfl) (zO rfl (zD hK9 (za rfl (fun h3=>?_) (fun h3=>?_))))
 · refine yL hK8 (y6 rfl (decide_eq_true h3) (yV (zm (yC hK2 (zS fun _ hK10=>zG fun _ hK11=>zB (zi 1 rfl rfl rfl flat95) (zB (zR rfl) (zB (y0 rfl fld43_2) (zB (yy 5 rfl rfl rfl flat3) (zB (yR rfl rfl) (zE rfl (yQ (t:=29) rfl (fun h4=>?_) (fun h4=>?_))))))))))))
   · refine zW (zW (zW (zW (zW (zB (zP rfl rfl) (zD hK11 (y6 rfl rfl (zG fun _ hK12=>zB (zw [iV 3,iV 0,Zs,iV 0] pl34 inf34 rfl rfl) (zn 0 wn rfl rfl rfl inf34 rfl rfl rfl (zD hK12 ?_))))))))))
     refine zV (zJ (zY (.inl rfl) results37 (zo 0 rfl rfl agg34 inf34 rfl) fun w1 hM=>?_))
     have hM:=hM.vT (yY.Ok.loc (noX 3)) fun Pb pp=>noX_ok _ _ _
     exact hM.vS (x,noX 3) rfl (one_4 h1 h2 (.inl h3) (by omega)) (fun h=>h.sel [0,3,4,5,6,7,8] (by decide) rfl)
   refine zd (zi 1 rfl rfl rfl flat95) (zd (zR rfl) (zd (y0 rfl fld43_2) (zd (yy 5 rfl rfl rfl flat3) (zd (y8 rfl rfl) (zB (zP rfl rfl) (zD hK11 (za rfl (fun h5=>?_) (fun h5=>?_))))))))
   · refine zG fun _ hK13=>zB (zw [iV 3,iV 0,Zs,iV 0] pl34 inf34 rfl rfl) (zn 0 wn rfl rfl rfl inf34 rfl rfl rfl (zD hK13 (zV (zJ (zY (.inl rfl) results37 (zo 0 rfl rfl agg34 inf34 rfl) fun w1 hM=>?_)))))
     have hM:=hM.vT (yY.Ok.loc (noX 3)) fun Pb pp=>noX_ok _ _ _
     exact hM.vS (x,noX 3) rfl (one_4 h1 h2 (.inl h3) (by omega)) (fun h=>h.sel [0,3,4,5,6,7,8] (by decide) rfl)
   refine yL hK10 (zS fun _ hK14=>zG fun _ hK15=>zB (zi 1 rfl rfl rfl flat95) (zB (zR rfl) (zB (y0 rfl fld43_0) (zB (yy 5 rfl rfl rfl flat3) (zB (yj rfl rfl) (zD hK15 (yu rfl (decide_eq_false (by omega)) (yL hK14 (zG fun _ hK16=>?_)))))))))
   refine zE rfl (zB (ve rfl rfl) (l_sealB2 1 2 3 rfl rfl rfl rfl rfl onlyB (yU (fun _ h=>h.vT (DoAt.loc ⟨b3,0,none⟩ dad d) fun Pb pp=>⟨pp.at_ 1 _ rfl,pp.at_ 5 _ rfl,pp.at_ 6 _ rfl⟩) (vK (α:=yw) [.blk bp [.slice x.zA.A x.zA.l.length x.zA.c,iV x.zh] 93,Row (.slice x.zA.A x.zA.l.length x.zA.c) 50 9 zx x.zA.l,allP zF.Ok x.zA.l,.pub (DoAt ⟨b3,0,none⟩ dad d)] [.blk b4 [iV 0,iV 0,Zs,iV 0] 34,celP ⟨b3,0,none⟩ [.pointer (some ((Addr.add dad 0).add 0))],celP dad [iV d.kind,iV d.tier,iV d.to,.slice d.sr.A d.sr.l.length d.sr.c,iV d.zf.time,iV d.zf.value,.string d.text],okP yv.Ok d,.pub zb] (fun _=>iV (Bs.each (fun s=>Sh.roll s d.to) x.e.zA).2) (fun z3=>z3.e=if (Bs.each (fun s=>Sh.roll s d.to) x.e.zA).2≠0 then x.e else ⟨(Bs.each (fun s=>Sh.roll s d.to) x.e.zA).1,x.zh⟩) (fun z3=>[.blk bp [.slice z3.zA.A z3.zA.l.length z3.zA.c,iV z3.zh] 93,Row (.slice z3.zA.A z3.zA.l.length z3.zA.c) 50 9 zx z3.zA.l,allP zF.Ok z3.zA.l,.pub (DoAt ⟨b3,0,none⟩ dad d)]) _ (fun _=>rfl) (S9 [3,4,5,0,1,2,6,7,8]) (fun _=>rfl) wn rfl rfl call70 rfl (fun w1 Pb hG=>c_each bp x 73 #[.pointer (some ⟨b3,0,none⟩)] (DoAt ⟨b3,0,none⟩ dad d) (fun s=>Sh.roll s d.to) Pb w1 hG (do2_fn _ _ _) hlen) fun z3 hz3=>?_))))
   have hh1:=hor_of hz3
   refine zO rfl (zD hK16 (zS fun _ hK17=>zG fun _ hK18=>zE rfl (zB (yj rfl rfl) (zD hK18 (za rfl (fun h6=>?_) (fun h6=>?_))))))
   · refine vY 20 mix (by kernel_rfl) (fun _ h=>h.drew) fun _ hT1=>yq rfl (yq rfl (zt (zR rfl) (zt (zc rfl fld93_0) (zt (zc rfl fld25_1) (zt (zi 0 rfl rfl rfl flat3) (zt (r_celL 5 rfl rfl rfl flat95) (zt (zR rfl) (zt (y0 rfl fld43_2) (zt (yy 6 rfl rfl rfl flat3) (zt (r_celL 5 rfl rfl rfl flat95) ?_))))))))))
     refine zt (zR rfl) (zt (y0 rfl fld43_2) (zt (yy 6 rfl rfl rfl flat3) (zt (jD rfl rfl (by omega) (by omega)) (zt (vl rfl rfl (by omega)) (zt (jn (show _=(Sh.mx z3.zh (d.to - (d.to % 10))) from rfl) (uh rfl rfl)) (zt (zR rfl) (zt (zc rfl fld93_0) (zt (zc rfl fld25_1) (vx hT1 (yo 0 wn rfl rfl rfl rfl inf3 rfl rfl (zD hK17 ?_)))))))))))
     refine zG fun _ hK19=>zE rfl (zB (zw [iV ((Bs.each (fun s=>Sh.roll s d.to) x.e.zA).2),iV 0,Zs,iV 0] pl34 inf34 rfl rfl) (zn 4 wn rfl rfl rfl inf34 rfl rfl rfl (zD hK19 (zV (zY (.inl rfl) results37 (zo 4 rfl rfl agg34 inf34 rfl) fun w1 hM=>?_)))))
     have hM:=hM.vT (yY.Ok.loc (noX ((Bs.each (fun s=>Sh.roll s d.to) x.e.zA).2))) fun Pb pp=>noX_ok _ _ _
     exact hM.vS (⟨z3.zA,Sh.mx z3.zh (d.to - d.to % 10)⟩,noX ((Bs.each (fun s=>Sh.roll s d.to) x.e.zA).2)) rfl (one_8 h1 h2 h3 (by omega) h6 hz3) (fun h=>h.sel [0,1,2,3,7,8,9] (by decide) rfl)
   refine yL hK17 (zG fun _ hK20=>zE rfl (zB (zw [iV ((Bs.each (fun s=>Sh.roll s d.to) x.e.zA).2),iV 0,Zs,iV 0] pl34 inf34 rfl rfl) (zn 4 wn rfl rfl rfl inf34 rfl rfl rfl (zD hK20 (zV (zY (.inl rfl) results37 (zo 4 rfl rfl agg34 inf34 rfl) fun w1 hM=>?_))))))
   have hM:=hM.vT (yY.Ok.loc (noX ((Bs.each (fun s=>Sh.roll s d.to) x.e.zA).2))) fun Pb pp=>noX_ok _ _ _
   exact hM.vS (z3,noX ((Bs.each (fun s=>Sh.roll s d.to) x.e.zA).2)) rfl (one_7 h1 h2 h3 (by omega) h6 hz3) (fun h=>h.sel [0,1,2,3,7,8,9] (by decide) rfl)
 refine zL (zB (yj rfl rfl) (zO rfl (zD hK8 (za rfl (fun h7=>?_) (fun h7=>?_)))))
 · refine yV (zm (yC hK2 (zS fun _ hK21=>zG fun _ hK22=>zB (zi 1 rfl rfl rfl flat95) (zB (zR rfl) (zB (y0 rfl fld43_2) (zB (yy 5 rfl rfl rfl flat3) (zB (yR rfl rfl) (zE rfl (yQ (t:=29) rfl (fun h8=>?_) (fun h8=>?_))))))))))
   · refine zW (zW (zW (zW (zW (zB (zP rfl rfl) (zD hK22 (y6 rfl rfl (zG fun _ hK23=>zB (zw [iV 3,iV 0,Zs,iV 0] pl34 inf34 rfl rfl) (zn 0 wn rfl rfl rfl inf34 rfl rfl rfl (zD hK23 ?_))))))))))
     refine zV (zJ (zY (.inl rfl) results37 (zo 0 rfl rfl agg34 inf34 rfl) fun w1 hM=>?_))
     have hM:=hM.vT (yY.Ok.loc (noX 3)) fun Pb pp=>noX_ok _ _ _
     exact hM.vS (x,noX 3) rfl (one_4 h1 h2 (.inr h7) (by omega)) (fun h=>h.sel [0,3,4,5,6,7,8] (by decide) rfl)
   refine zd (zi 1 rfl rfl rfl flat95) (zd (zR rfl) (zd (y0 rfl fld43_2) (zd (yy 5 rfl rfl rfl flat3) (zd (y8 rfl rfl) (zB (zP rfl rfl) (zD hK22 (za rfl (fun h9=>?_) (fun h9=>?_))))))))
   · refine zG fun _ hK24=>zB (zw [iV 3,iV 0,Zs,iV 0] pl34 inf34 rfl rfl) (zn 0 wn rfl rfl rfl inf34 rfl rfl rfl (zD hK24 (zV (zJ (zY (.inl rfl) results37 (zo 0 rfl rfl agg34 inf34 rfl) fun w1 hM=>?_)))))
     have hM:=hM.vT (yY.Ok.loc (noX 3)) fun Pb pp=>noX_ok _ _ _
     exact hM.vS (x,noX 3) rfl (one_4 h1 h2 (.inr h7) (by omega)) (fun h=>h.sel [0,3,4,5,6,7,8] (by decide) rfl)
   refine yL hK21 (zS fun _ hK25=>zG fun _ hK26=>zB (zi 1 rfl rfl rfl flat95) (zB (zR rfl) (zB (y0 rfl fld43_0) (zB (yy 5 rfl rfl rfl flat3) (zB (yj rfl rfl) (zD hK26 (y6 rfl (decide_eq_true h7) (zS fun _ hK27=>zG fun _ hK28=>?_))))))))
   refine zB (zi 1 rfl rfl rfl flat95) (zB (zR rfl) (zB (y0 rfl fld43_1) (zB (yy 5 rfl rfl rfl flat3) (zB (yR rfl rfl) (zE rfl (yQ (t:=47) rfl (fun h10=>?_) (fun h10=>?_)))))))
   · refine zW (zW (zW (zW (zW (zB (zP rfl rfl) (zD hK28 (y6 rfl rfl (zG fun _ hK29=>zB (zw [iV 1,iV 0,Zs,iV 0] pl34 inf34 rfl rfl) (zn 0 wn rfl rfl rfl inf34 rfl rfl rfl (zD hK29 ?_))))))))))
     refine zV (zJ (zJ (zY (.inl rfl) results37 (zo 0 rfl rfl agg34 inf34 rfl) fun w1 hM=>?_)))
     have hM:=hM.vT (yY.Ok.loc (noX 1)) fun Pb pp=>noX_ok _ _ _
     exact hM.vS (x,noX 1) rfl (one_5 h1 h2 h7 (by omega) (by omega)) (fun h=>h.sel [0,3,4,5,6,7,8] (by decide) rfl)
   refine zd (zi 1 rfl rfl rfl flat95) (zd (zR rfl) (zd (y0 rfl fld43_1) (zd (yy 5 rfl rfl rfl flat3) (zd (y8 rfl rfl) (zB (zP rfl rfl) (zD hK28 (za rfl (fun h11=>?_) (fun h11=>?_))))))))
   · refine zG fun _ hK30=>zB (zw [iV 1,iV 0,Zs,iV 0] pl34 inf34 rfl rfl) (zn 0 wn rfl rfl rfl inf34 rfl rfl rfl (zD hK30 (zV (zJ (zJ (zY (.inl rfl) results37 (zo 0 rfl rfl agg34 inf34 rfl) fun w1 hM=>?_))))))
     have hM:=hM.vT (yY.Ok.loc (noX 1)) fun Pb pp=>noX_ok _ _ _
     exact hM.vS (x,noX 1) rfl (one_5 h1 h2 h7 (by omega) (by omega)) (fun h=>h.sel [0,3,4,5,6,7,8] (by decide) rfl)
   refine yL hK27 (zG fun _ hK31=>zE rfl (zB (ve rfl rfl) (l_sealB2 1 2 3 rfl rfl rfl rfl rfl onlyB (yU (fun _ h=>h.vT (DoAt.loc ⟨b3,0,none⟩ dad d) fun Pb pp=>⟨pp.at_ 1 _ rfl,pp.at_ 5 _ rfl,pp.at_ 6 _ rfl⟩) (vK (α:=yw) [.blk bp [.slice x.zA.A x.zA.l.length x.zA.c,iV x.zh] 93,Row (.slice x.zA.A x.zA.l.length x.zA.c) 50 9 zx x.zA.l,allP zF.Ok x.zA.l,.pub (DoAt ⟨b3,0,none⟩ dad d)] [.blk b4 [iV 0,iV 0,Zs,iV 0] 34,celP ⟨b3,0,none⟩ [.pointer (some ((Addr.add dad 0).add 0))],celP dad [iV d.kind,iV d.tier,iV d.to,.slice d.sr.A d.sr.l.length d.sr.c,iV d.zf.time,iV d.zf.value,.string d.text],okP yv.Ok d,.pub zb] (fun _=>iV (Bs.each (fun s=>Sh.forget s d.tier d.to) x.e.zA).2) (fun z4=>z4.e=if (Bs.each (fun s=>Sh.forget s d.tier d.to) x.e.zA).2≠0 then x.e else ⟨(Bs.each (fun s=>Sh.forget s d.tier d.to) x.e.zA).1,x.zh⟩) (fun z4=>[.blk bp [.slice z4.zA.A z4.zA.l.length z4.zA.c,iV z4.zh] 93,Row (.slice z4.zA.A z4.zA.l.length z4.zA.c) 50 9 zx z4.zA.l,allP zF.Ok z4.zA.l,.pub (DoAt ⟨b3,0,none⟩ dad d)]) _ (fun _=>rfl) (S9 [3,4,5,0,1,2,6,7,8]) (fun _=>rfl) wn rfl rfl call70 rfl (fun w1 Pb hG=>c_each bp x 71 #[.pointer (some ⟨b3,0,none⟩)] (DoAt ⟨b3,0,none⟩ dad d) (fun s=>Sh.forget s d.tier d.to) Pb w1 hG (do1_fn _ _ _) hlen) fun z4 hz4=>?_)))))
   have hh2:=hor_of hz4
   refine zB (zw [iV ((Bs.each (fun s=>Sh.forget s d.tier d.to) x.e.zA).2),iV 0,Zs,iV 0] pl34 inf34 rfl rfl) (zn 4 wn rfl rfl rfl inf34 rfl rfl rfl (zD hK31 (zV (zJ (zY (.inl rfl) results37 (zo 4 rfl rfl agg34 inf34 rfl) fun w1 hM=>?_)))))
   have hM:=hM.vT (yY.Ok.loc (noX ((Bs.each (fun s=>Sh.forget s d.tier d.to) x.e.zA).2))) fun Pb pp=>noX_ok _ _ _
   exact hM.vS (z4,noX ((Bs.each (fun s=>Sh.forget s d.tier d.to) x.e.zA).2)) rfl (one_6 h1 h2 h7 (by omega) (by omega) hz4) (fun h=>h.sel [0,1,2,3,7,8,9] (by decide) rfl)
 refine zG fun _ hK32=>zB (zw [iV 1,iV 0,Zs,iV 0] pl34 inf34 rfl rfl) (zn 0 wn rfl rfl rfl inf34 rfl rfl rfl (zD hK32 (zV (yD (zJ (zY (.inl rfl) results37 (zo 0 rfl rfl agg34 inf34 rfl) fun w1 hM=>?_))))))
 have hM:=hM.vT (yY.Ok.loc (noX 1)) fun Pb pp=>noX_ok _ _ _
 exact hM.vS (x,noX 1) rfl (one_3 h1 h2 (by omega)) (fun h=>h.sel [0,3,4,5,6,7,8] (by decide) rfl)
end
section
open _root_.Go.Proofs.Tryz
open Ex
set_option linter.unusedVariables false
set_option linter.unusedSimpArgs false
set_option maxHeartbeats 1000000 in
theorem c_play (lv : Value) (l : List yv) (P0 : Nat → Prop) (w : World) (hP0 : ∀ b, P0 b → b < w.heap.size) (hl : zK P0 7 uB lv l w) (hla : ∀ x ∈ l, yv.Ok P0 x w) (hE : zb P0 w)  :
    Calls prog 14 #[lv] w (RetE w P0 (fun z:yw × SlX yY=>.tuple #[.agg (baseXE z.1).toArray,.slice z.2.A z.2.l.length z.2.c,iV (Bs.play (l.map yv.e)).2.2]) (fun z=>(z.1.e,z.2.l.map yY.e)=((Bs.play (l.map yv.e)).1,(Bs.play (l.map yv.e)).2.1)) (fun z S w=>yw.Ok S z.1 w∧AnssX.Ok S z.2 w)):=by
 have hwl:∀ x ∈ l,yv.Wf x:=fun x hx=>(hla x hx).wf
 obtain ⟨lA,lc,rfl,hlc,hlm,hlA⟩:=hl.form
 refine fstart (N:=33) (vals:=[.slice lA l.length lc]) (S:=Mem w ⟨no,P0⟩ [slP 7 uB (.slice lA l.length lc) l,allP yv.Ok l,.pub zb]) func14 rfl rfl rfl (Mem.ofDatsP hP0 (dc (dlp hl) (dc (dp (all_loc yv.Ok.loc _) hla) (dc (dp zb.loc hE) dn)))) (zG fun _ hK1=>zy wn inf25 rfl fun b2=>zO rfl (zO rfl (zD hK1 (zS fun _ hK2=>zG fun _ hK3=>zE rfl (zB (yg rfl underlying22) (zB (y8 rfl rfl) (zD hK3 ?_)))))))
 refine za rfl (fun h1=>?_) (fun h1=>?_)
 · refine zG fun _ hK4=>zB (zw [Zs,iV 0] pl25 inf25 rfl rfl) (zn 0 wn rfl rfl rfl inf25 rfl rfl rfl (zO rfl (zO rfl (zD hK4 (zV (zJ (ua (.inl rfl) results14 (zo 0 rfl rfl agg25 inf25 rfl) (zQ rfl) (zQ rfl) fun w1 hM=>?_)))))))
   have hb9:=play_many h1
   exact hM.uE ((⟨⟨none,0,[]⟩,0⟩,⟨none,0,[]⟩):yw × SlX yY) (by rw [hb9]; rfl) (by rw [hb9]; rfl) fun Pb pp=>⟨⟨zK.ym _ _ _ _,fun c hc=>(by cases hc)⟩,⟨zK.ym _ _ _ _,fun c hc=>(by cases hc)⟩⟩
 refine yL hK2 (zG fun _ hK5=>zB (zw [Zs,iV 0] pl93 inf93 rfl rfl) (vR wn rfl rfl fun b13=>zO rfl (zD hK5 (zG fun _ hK6=>vB (uC:yY→List Value) 34 4 (yU (fun _ h=>h.all0 yY.Ok.loc) (zO rfl (zD hK6 (zS fun _ hK7=>?_))))))))
 refine zG fun _ hK8=>zE rfl (zB (yg rfl underlying22) (zE rfl (zD hK8 (zl (jT (fun _ h=>h.uM zF 50 9 zx) (jZ (fun _ h=>h.all0 zF.Ok.loc) (uI (fun (k:Nat) (x:yw) (zs:List yY) (ov:Value)=>[(0,.slice lA l.length lc),(2,.pointer (some ⟨b2,0,none⟩)),(5,.pointer (some ⟨b13,0,none⟩)),(6,ov),(15,iV l.length),(16,iV k)]) (fun (k:Nat) (x:yw) (zs:List yY) (ov:Value)=>[allP zF.Ok x.zA.l,Row (.slice x.zA.A x.zA.l.length x.zA.c) 50 9 zx x.zA.l,allP yY.Ok zs,Row ov 34 4 uC zs,.blk b13 [.slice x.zA.A x.zA.l.length x.zA.c,iV x.zh] 93,.blk b2 [Zs,iV 0] 25,slP 7 uB (.slice lA l.length lc) l,allP yv.Ok l,.pub zb]) (fun (k:Nat) (x:yw) (zs:List yY) (ov:Value)=>k≤l.length∧(∀ y ∈ zs,yY.Wf y)∧Bs.run Bs.zero ((l.take k).map yv.e)=(x.e,zs.map yY.e)∧zs.length=k) (fun (k:Nat) (x:yw) (zs:List yY) (ov:Value)=>l.length - k) 0 (⟨⟨none,0,[]⟩,0⟩:yw) [] (Zs) (sc rfl (sc rfl (sc rfl (sc rfl (sc rfl (sc (ji (by omega)) sn)))))) (fun _ h=>h) ?_ (fun k x zs ov hI1=>?_))))))))
 · exact ⟨Nat.zero_le _,fun x hx=>(by cases hx),rfl,rfl⟩
 have hwz:=hI1.2.1
 have hzl:=hI1.2.2.2
 refine vV 3 (l:=zs) rfl fun A1 cp1 hv1 hc1 hm1 hA1=>?_
 subst hv1
 refine zG fun _ hK9=>zB (yR rfl rfl) (zD hK9 (zS fun _ hK10=>za rfl (fun h2=>?_) (fun h2=>?_)))
 · refine yL hK10 (zS fun _ hK11=>zl (zG fun _ hK12=>zE rfl (zO rfl (zD hK12 (zL (zE rfl (zE rfl (zE rfl (zE rfl ?_)))))))))
   obtain ⟨ad1,hd1⟩:=hlA (ne_nil (i:=k) (by first | omega | (simp <;> omega)))
   refine zB (vC (i:=k) rfl hd1 rfl (by omega) (by first | omega | (simp <;> omega)) underlying22 inf43) ?_
   obtain ⟨s1,hs1⟩:∃ x,l[k]?=some x:=⟨_,List.getElem?_eq_getElem (by first | omega | (simp <;> omega))⟩
   have hiv1:Bs.Inv x.e 120:=inv_at hI1.2.2.1 (by omega)
   refine yU (fun _ h=>h.celAt 6 rfl hd1 hs1) ?_
   have hw1:=hwl _ (List.mem_of_getElem? hs1)
   refine yU (fun _ h=>h.one 8 yv.Ok.loc rfl hs1) (yU (fun _ h=>h.dup 10 rfl rfl) (vK (α:=yw × yY) [.blk b13 [.slice x.zA.A x.zA.l.length x.zA.c,iV x.zh] 93,Row (.slice x.zA.A x.zA.l.length x.zA.c) 50 9 zx x.zA.l,allP zF.Ok x.zA.l,celP (Addr.add ad1 (k * 7)) [iV s1.kind,iV s1.tier,iV s1.to,.slice s1.sr.A s1.sr.l.length s1.sr.c,iV s1.zf.time,iV s1.zf.value,.string s1.text],okP yv.Ok s1,.pub zb] [allP yY.Ok zs,Row (.slice A1 zs.length cp1) 34 4 uC zs,.blk b2 [Zs,iV 0] 25,slP 7 uB (.slice lA l.length lc) l,allP yv.Ok l,.pub zb] (fun z:yw × yY=>.agg (uC z.2).toArray) (fun z1=>(z1.1.e,z1.2.e)=Bs.one x.e s1.e) (fun z1=>[okP yY.Ok z1.2,.blk b13 [.slice z1.1.zA.A z1.1.zA.l.length z1.1.zA.c,iV z1.1.zh] 93,Row (.slice z1.1.zA.A z1.1.zA.l.length z1.1.zA.c) 50 9 zx z1.1.zA.l,allP zF.Ok z1.1.zA.l,celP (Addr.add ad1 (k * 7)) [iV s1.kind,iV s1.tier,iV s1.to,.slice s1.sr.A s1.sr.l.length s1.sr.c,iV s1.zf.time,iV s1.zf.value,.string s1.text],okP yv.Ok s1,.pub zb]) _ (fun _=>rfl) (S9 [7,4,3,2,1,0,5,6,8,9,10,11]) (fun _=>rfl) wn rfl rfl call37 rfl (fun w1 Pb hG=>c_bdo b13 x (Addr.add ad1 (k * 7)) s1 Pb w1 hG hiv1) fun z1 hz1=>vh 0 rfl (fun S w h=>yY.Ok.wf h) fun hw2=>yt uC ([z1.2]:List yY) wn underlying26 inf34 rfl rfl rfl rfl (by decide) (by decide) rfl fun b25=>vD 9 zs ([z1.2]:List yY) encAnsX wn rfl rfl rfl (fun _ hM=>(RowSl encAnsX hM 0 rfl)) underlying26 inf34 rfl rfl (by simp only [List.length_append,List.length_cons,List.length_nil]; omega) rfl fun A2 cp2 hc2 hm2 hA2=>yU (fun _ h=>h.allSnoc 8 1 yY.Ok.loc rfl rfl) ?_))
   have hw3:∀ x ∈ (zs++([z1.2]:List yY)),yY.Wf x:=fun x hx=>(List.mem_append.1 hx).elim (hwz x) fun h=>by rw [List.mem_singleton.1 h]; exact hw2
   refine zO rfl (zj (zm (yC hK11 (zL (zB (zz rfl rfl (by omega)) (zE rfl (zj (vW (k + 1) z1.1 (zs++([z1.2]:List yY)) (.slice A2 ((zs++([z1.2]:List yY)).length) cp2) (sc rfl (sc rfl (sc rfl (sc rfl (sc rfl (sc (ji (by omega)) sn)))))) (S9 [5,4,0,10,3,11,12,13,8]) ?_ ?_))))))))
   · exact ⟨by omega,hw3,play_next hs1 hI1.2.2.1 hz1,by rw [List.length_append,List.length_singleton]; omega⟩
   omega
 refine yc (yH (v7 (yJ (yC hK7 (zG fun _ hK13=>zE rfl (zB (zR rfl) (zB (zc rfl fld93_0) (zB (yM 4 [.slice x.zA.A x.zA.l.length x.zA.c,iV x.zh] rfl rfl rfl rfl agg25 inf25) (zE rfl (zn 5 wn rfl rfl rfl inf25 rfl rfl rfl (zO rfl (zO rfl (zD hK13 (zV (ua (.inl rfl) results14 (zo 5 rfl rfl agg25 inf25 rfl) (zQ rfl) (zQ rfl) fun w1 hM=>?_)))))))))))))))
 have hb9:=play_end hI1.2.2.1 (by omega) (by omega)
 have hM:=hM.yb encShelfX (i:=1) rfl rfl
 have hM:=hM.yb encAnsX (i:=3) rfl rfl
 exact hM.uE ((x,⟨A1,cp1,zs⟩):yw × SlX yY) (by rw [hb9]; first | done | rfl) (by rw [hb9]) fun Pb pp=>⟨⟨pp.sl 1 rfl,pp.at_ 0 _ rfl⟩,⟨pp.sl 3 rfl,pp.at_ 2 _ rfl⟩⟩
end
section
namespace Bs
open Ex Sh
set_option linter.unusedVariables false
def hostL (h:ByteArray):List Label:=[⟨⟨#[104,111,115,116]⟩,h⟩]
def addD (h:ByteArray) (t v:Int):Do:=⟨1,0,0,hostL h,⟨t,v⟩,⟨#[]⟩⟩
def askD (s:ByteArray) (t:Int):Do:=⟨4,0,t,[],⟨0,0⟩,s⟩
def rollD (t:Int):Do:=⟨2,0,t,[],⟨0,0⟩,⟨#[]⟩⟩
def aB:ByteArray:=⟨#[97]⟩
def bB:ByteArray:=⟨#[98]⟩
def last (l:List Do):Ans:=if (play l).2.2≠0 then no 1 else match (play l).2.1.getLast? with | none=>no 1 | some x=>x
def sumT:ByteArray:=⟨#[115,117,109,40,123,125,91,54,48,93,41]⟩
def topL:List Do:=[addD aB 5 7,rollD 60,askD sumT 60]
theorem alive_top:(last topL).err=0∧(last topL).cells.map (·.value)=[7]:=by decide +kernel
section
variable {z:yw × SlX yY} {l:List Do} {s:yY}
theorem last_of (hz : (z.1.e, z.2.l.map yY.e) = ((play l).1, (play l).2.1)) (h0 : ¬ (play l).2.2 ≠ 0) (hs : z.2.l[z.2.l.length - 1]? = some s) : s.e = last l := by
  have h2:(play l).2.1=z.2.l.map yY.e:=(congrArg Prod.snd hz).symm
  unfold last
  rw [if_neg h0,h2,List.getLast?_map,List.getLast?_eq_getElem?,hs]; rfl
theorem last_no (hz : (z.1.e, z.2.l.map yY.e) = ((play l).1, (play l).2.1)) (h0 : (play l).2.2 ≠ 0 ∨ (z.2.l.length : Int) = 0) : (noX 1).e = last l := by
  have h2:(play l).2.1=z.2.l.map yY.e:=(congrArg Prod.snd hz).symm
  unfold last
  by_cases h1:(play l).2.2≠0
  · rw [if_pos h1]; rfl
  · have h3:z.2.l=[]:=List.eq_nil_of_length_eq_zero (by have:=h0.resolve_left h1; omega)
    rw [if_neg h1,h2,h3]; rfl
end
theorem alive_x {z : yY} (h : z.e = last topL) : z.err = 0 ∧ z.cells.l.map (fun c => c.value) = [7] := by
  have h1:=alive_top.1; have h2:=alive_top.2
  rw [← h] at h1 h2
  refine ⟨h1,?_⟩
  have:z.e.cells.map (·.value)=z.cells.l.map (fun c=>c.value):=by show (z.cells.l.map zM.e).map _=_; rw [List.map_map]; rfl
  rw [← this]; exact h2
theorem val_x {l : List zM} {c : zM} (h : l.map (fun c => c.value) = [7]) (hs : l[0]? = some c) : c.value = 7 := by
  have:=congrArg (·[0]?) h
  simp only [List.getElem?_map,hs,Option.map_some] at this
  simpa using this
theorem err9d {e:Int} {p:Prop} [Decidable p] (h:e=if p then 9 else 0):decide (decide (e=9)=decide p)=true:=by subst h; by_cases hp:p <;> simp [hp]
theorem radd_len (l : List Bucket) (t st : Int) (s : Sum) : (Roll.add l t st s).length ≤ l.length + 1 := by
  unfold Roll.add
  split
  · split <;> simp
  · simp
theorem fold_len {α : Type} (t : α → Int) (st : Int) (f : α → Sum) : ∀ (l : List α) (acc : List Bucket), (l.foldl (fun b s => Roll.add b (t s) st (f s)) acc).length ≤ acc.length + l.length
  | [],acc=>Nat.le_refl _
  | x :: r, acc => by
    have h1:=fold_len t st f r (Roll.add acc (t x) st (f x)); have h2:=radd_len acc (t x) st (f x)
    simp only [List.foldl_cons,List.length_cons]; omega
theorem up_len' (l : List Sample) (k : Int) : (Roll.up l k).length ≤ l.length := by
  unfold Roll.up
  split
  · exact Nat.zero_le _
  · have:=fold_len Sample.time (Roll.step k) (fun s:Sample=>Agg.one s.value) l []
    simpa [Roll.ups] using this
theorem fineL_len' (z : Shelf) (to : Int) : (vt z to).length ≤ z.fine.length + z.raw.length := by
  unfold vt
  rw [List.length_append]
  have h1:=up_len' (Roll.inT z.raw z.zI (zI z to)) 1; have h2:=Roll.inT_len z.raw z.zI (zI z to); omega
theorem coarseL_len' (z : Shelf) (to : Int) : (vf z to).length ≤ z.coarse.length + z.fine.length + z.raw.length := by
  unfold vf
  rw [List.length_append]
  have h1:=fold_len Bucket.at_ 60 (fun b:Bucket=>b.sum) (bIn (vt z to) z.zH (zH z to)) []
  have h2:=bIn_len (vt z to) z.zH (zH z to); have h3:=fineL_len' z to
  have h4:(Roll.greater (bIn (vt z to) z.zH (zH z to))).length≤(bIn (vt z to) z.zH (zH z to)).length:=by simpa [Roll.greater] using h1
  omega
theorem roll_few {z : Shelf} {to : Int} (h : OK z) (h0 : 0 ≤ to) (h1 : to ≤ 1000000) (hl : z.coarse.length + z.fine.length + z.raw.length ≤ 500) : roll z to = (rolled z to, 0) :=
  roll_mk h h0 h1 (by have:=fineL_len' z to; omega) (by have:=coarseL_len' z to; omega)
theorem codec_one {t v : Int} (h0 : 0 ≤ t) (h1 : t ≤ 1000000) (hv : -1000000000 ≤ v ∧ v ≤ 1000000000) : (Codec.wrong [⟨t, v⟩]).err = 0 := by
  exact Codec.wrong_right ⟨by simp,fun x hx=>by obtain rfl:=List.mem_singleton.1 hx; exact ⟨h0,h1,hv⟩,by simp⟩
theorem fresh_is {t : List Label} {h : Int} (hw : zZ.wrong t = 0) (h0 : 0 ≤ h) (h1 : h ≤ 1000000) : fresh t h = rolled (new t) h := by
  have:roll (new t) h=(rolled (new t) h,0):=roll_few (keep_new t hw).ok h0 h1 (by simp [new])
  unfold fresh; rw [this]
theorem append_new {t : List Label} {h a v : Int} (hw : zZ.wrong t = 0) (h0 : 0 ≤ h) (h1 : h ≤ 1000000) (hh : h % 10 = 0) (ha : h ≤ a) (ha1 : a ≤ 1000000) (hv : -1000000000 ≤ v ∧ v ≤ 1000000000) :
    append (fresh t h) ⟨a,v⟩=(⟨t,[⟨a,v⟩],(fresh t h).fine,(fresh t h).coarse,0,0,h,0,(fresh t h).zH⟩,0)∧(fresh t h).zI=h:=by
  obtain ⟨f1,f2,f3,f4⟩:=fresh_keep hw h0 h1
  have e4:(fresh t h).zI=h:=by rw [f4]; unfold mx; split <;> omega
  have e:=fresh_is hw h0 h1
  have er:(fresh t h).raw=[]:=by rw [e]; rfl
  refine ⟨?_,e4⟩
  rw [append_ok (by simp [f1.ok.wrong]) (by rw [codec_one (by omega) ha1 hv]; simp) (by rw [e4,er]; show ¬ (a < h∨late [] _=true); simp [late]; omega) (by rw [er]; decide)]
  rw [f3,er,e4,e]; rfl
theorem wrong_a:zZ.wrong (hostL aB)=0:=by decide +kernel
theorem wrong_b:zZ.wrong (hostL bB)=0:=by decide +kernel
theorem add_first {b : Base} {h : ByteArray} {t v : Int} (hw : zZ.wrong (hostL h) = 0) (hh : 0 ≤ b.zh ∧ b.zh ≤ 1000000 ∧ b.zh % 10 = 0) (ht : 0 ≤ t ∧ t ≤ 1000000) (hv : -1000000000 ≤ v ∧ v ≤ 1000000000) (hn : there b.zA (hostL h) = false) (hl : b.zA.length < 8) :
    one b (addD h t v)=if t < b.zh then (b,no 9) else (⟨b.zA.take (place b.zA (hostL h))++(append (fresh (hostL h) b.zh) ⟨t,v⟩).1::b.zA.drop (place b.zA (hostL h)),b.zh⟩,no 0):=by
  have hc:=codec_one ht.1 ht.2 hv
  show (if (1:Int)=1 then add b (addD h t v) else _)=_
  rw [if_pos rfl,add,if_neg (by show ¬ zZ.wrong (hostL h)≠0; simp [hw]),if_neg (by show ¬ (Codec.wrong [⟨t,v⟩]).err≠0; simp [hc])]
  by_cases h3:t < b.zh
  · rw [if_pos (show (addD h t v).zf.time < b.zh from h3),if_pos h3]
  · rw [if_neg (show ¬ (addD h t v).zf.time < b.zh from h3),if_neg h3,if_neg (by show ¬ there b.zA (hostL h)=true; rw [hn]; decide),if_neg (by omega)]
    have ha:=(append_new hw hh.1 hh.2.1 hh.2.2 (by omega:b.zh≤t) ht.2 hv).1
    rw [if_neg (by show ¬ (append (fresh (hostL h) b.zh) ⟨t,v⟩).2≠0; rw [ha]; simp)]; rfl
def s1 (h:ByteArray) (a v:Int):Shelf:=(append (fresh (hostL h) 0) ⟨a,v⟩).1
theorem s1_is {h : ByteArray} {a v : Int} (hw : zZ.wrong (hostL h) = 0) (ha : 0 ≤ a ∧ a ≤ 1000000) (hv : -1000000000 ≤ v ∧ v ≤ 1000000000) : Keep (s1 h a v) [⟨a, v⟩] ∧ s1 h a v = ⟨hostL h, [⟨a, v⟩], [], [], 0,0,0,0, 0⟩ := by
  have ho:=append_new hw (by decide:(0:Int)≤0) (by decide) (by decide) ha.1 ha.2 hv
  have hk:=(fresh_keep hw (by decide:(0:Int)≤0) (by decide)).1
  refine ⟨by have:=hk.append (x:=⟨a,v⟩) (by rw [ho.1]); exact this,?_⟩
  unfold s1; rw [ho.1,fresh_is hw (by decide) (by decide)]; rfl
theorem run_first {h : ByteArray} {a v : Int} (hw : zZ.wrong (hostL h) = 0) (ha : 0 ≤ a ∧ a ≤ 1000000) (hv : -1000000000 ≤ v ∧ v ≤ 1000000000) : one zero (addD h a v) = (⟨[s1 h a v], 0⟩, no 0) := by
  rw [add_first hw ⟨by decide,by decide,by decide⟩ ha hv (by rfl) (by decide),if_neg (show ¬ a < zero.zh by show ¬ a < (0:Int); omega)]; rfl
def s2 (h:ByteArray) (a v to:Int):Shelf:=(roll (s1 h a v) to).1
theorem run_roll {h : ByteArray} {a v to : Int} (hw : zZ.wrong (hostL h) = 0) (ha : 0 ≤ a ∧ a ≤ 1000000) (hv : -1000000000 ≤ v ∧ v ≤ 1000000000) (ht : 0 ≤ to ∧ to ≤ 1000000) :
    one ⟨[s1 h a v],0⟩ (rollD to)=(⟨[s2 h a v to],to - to % 10⟩,no 0)∧Keep (s2 h a v to) [⟨a,v⟩]∧(s2 h a v to).zT=hostL h∧(s2 h a v to).raw=[⟨a,v⟩]∧(s2 h a v to).zI=to - to % 10:=by
  obtain ⟨hk,he⟩:=s1_is hw ha hv
  have hr:roll (s1 h a v) to=(rolled (s1 h a v) to,0):=roll_few hk.ok ht.1 ht.2 (by rw [he]; simp)
  have h2:s2 h a v to=rolled (s1 h a v) to:=by unfold s2; rw [hr]
  refine ⟨?_,by have:=hk.roll (to:=to) (by rw [hr]); exact this,by rw [h2]; unfold rolled; rw [he],by rw [h2]; unfold rolled; rw [he],by rw [h2]; show zI (s1 h a v) to=_; unfold zI mx; rw [he]; split <;> simp only at * <;> omega⟩
  show (if (2:Int)=1 then _ else if (2:Int)=4 then _ else if ¬ ((2:Int)=2∨(2:Int)=3) then _ else if to < 0∨1000000 < to then _ else if (2:Int)=3 then _ else rollAll ⟨[s1 h a v],0⟩ to)=_
  rw [if_neg (by decide),if_neg (by decide),if_neg (by decide),if_neg (by omega),if_neg (by decide),rollAll]
  have hE : each (fun s => roll s to) [s1 h a v] = ([s2 h a v to], 0) := by
    rw [each,if_neg (by rw [hr]; simp),each,if_neg (by simp)]; rfl
  show (if (each (fun s=>roll s to) [s1 h a v]).2≠0 then _ else _)=_
  rw [hE,if_neg (by simp)]
  show ((⟨[s2 h a v to],mx 0 (to - to % 10)⟩:Base),no 0)=_
  have:mx 0 (to - to % 10)=to - to % 10:=by unfold mx; split <;> omega
  rw [this]
theorem last3 (a b c : Do) : last [a, b, c] = (one (one (one zero a).1 b).1 c).2 := by
  have hp:play [a,b,c]=((run zero [a,b,c]).1,(run zero [a,b,c]).2,0):=if_neg (by simp)
  unfold last
  rw [hp]; rfl
theorem late_a {a to b : Int} {z : yY} (ha : 0 ≤ a ∧ a ≤ 1000) (ht : 0 ≤ to ∧ to ≤ 1000) (hb : 0 ≤ b ∧ b ≤ 1000) (hz : z.e = last [addD aB a 1, rollD to, addD aB b 2]) : z.err = if b < to - to % 10 ∨ b ≤ a then 9 else 0 := by
  have h0:z.err=z.e.err:=rfl
  rw [h0,hz,last3,run_first wrong_a (by omega) (by decide)]
  obtain ⟨e1,hk,e2,e3,e4⟩:=run_roll (h:=aB) (a:=a) (v:=1) (to:=to) wrong_a (by omega) (by decide) (by omega)
  rw [e1]
  have hc:=codec_one (t:=b) (v:=2) hb.1 (by omega) (by decide)
  show (if (1:Int)=1 then add ⟨[s2 aB a 1 to],to - to % 10⟩ (addD aB b 2) else _).2.err=_
  rw [if_pos rfl,add,if_neg (by show ¬ zZ.wrong (hostL aB)≠0; simp [wrong_a]),if_neg (by show ¬ (Codec.wrong [⟨b,2⟩]).err≠0; simp [hc])]
  by_cases h3:b < to - to % 10
  · rw [if_pos (show (addD aB b 2).zf.time < to - to % 10 from h3),if_pos (.inl h3)]; rfl
  rw [if_neg (show ¬ (addD aB b 2).zf.time < to - to % 10 from h3)]
  have hkey:[s2 aB a 1 to].map key=[⟨hostL aB,0⟩]:=by show [key _]=_; unfold key; rw [e2]
  have hth:there [s2 aB a 1 to] (addD aB b 2).sr=true:=by unfold there; rw [hkey]; show Mn.has [⟨hostL aB,0⟩] (hostL aB)=true; decide +kernel
  have hpl:place [s2 aB a 1 to] (addD aB b 2).sr=0:=by unfold place; rw [hkey]; show Mn.pos [⟨hostL aB,0⟩] (hostL aB)=0; decide +kernel
  rw [if_pos hth,hpl]
  show (if (append (s2 aB a 1 to) ⟨b,2⟩).2≠0 then ((⟨[s2 aB a 1 to],to - to % 10⟩:Base),no (append (s2 aB a 1 to) ⟨b,2⟩).2) else (⟨[s2 aB a 1 to].set 0 (append (s2 aB a 1 to) ⟨b,2⟩).1,to - to % 10⟩,no 0)).2.err=_
  by_cases h4:b≤a
  · rw [append_late (by simp [hk.ok.wrong]) (by simp [hc]) (.inr (by rw [e3]; show decide (b≤a)=true; simp [h4])),if_pos (by decide),if_pos (.inr h4)]; rfl
  · rw [append_ok (by simp [hk.ok.wrong]) (by simp [hc]) (by rw [e4,e3]; show ¬ (b < to - to % 10∨decide (b≤a)=true); simp [h4]; omega) (by rw [e3]; show ¬ ((1:Nat):Int)=500; decide),if_neg (by simp),if_neg (by omega)]; rfl
theorem late_b {a to b : Int} {z : yY} (ha : 0 ≤ a ∧ a ≤ 1000) (ht : 0 ≤ to ∧ to ≤ 1000) (hb : 0 ≤ b ∧ b ≤ 1000) (hz : z.e = last [addD aB a 1, rollD to, addD bB b 2]) : z.err = if b < to - to % 10 then 9 else 0 := by
  have h0:z.err=z.e.err:=rfl
  rw [h0,hz,last3,run_first wrong_a (by omega) (by decide)]
  obtain ⟨e1,hk,e2,e3,e4⟩:=run_roll (h:=aB) (a:=a) (v:=1) (to:=to) wrong_a (by omega) (by decide) (by omega)
  have hkey:[s2 aB a 1 to].map key=[⟨hostL aB,0⟩]:=by show [key _]=_; unfold key; rw [e2]
  rw [e1,add_first wrong_b ⟨by show 0≤to - to % 10; omega,by show to - to % 10≤1000000; omega,by show (to - to % 10) % 10=0; omega⟩ (by omega) (by decide) (by unfold there; show Mn.has ([s2 aB a 1 to].map key) _=false; rw [hkey]; decide +kernel) (by show 1 < 8; decide)]
  show (if b < to - to % 10 then _ else _:Base × Ans).2.err=_
  split <;> rfl
end Bs
namespace Ex
def PlayOk (z:yw × SlX yY) (S:Nat→Prop) (w:World):Prop:=yw.Ok S z.1 w∧AnssX.Ok S z.2 w
theorem PlayOk.loc (z:yw × SlX yY):Loc (PlayOk z):=fun S S' u u' hs hk h=>⟨yw.Ok.loc _ S S' u u' hs hk h.1,AnssX.Ok.loc _ S S' u u' hs hk h.2⟩
theorem PlayOk.wf {z:yw × SlX yY} {S:Nat→Prop} {w:World} (h:PlayOk z S w):yw.Wf z.1∧AnssX.Wf z.2:=⟨h.1.wf,h.2.wf⟩
theorem Mem.playX {w0 w : World} {M : Fp} {L : List Own} (h : Mem w0 M L w) (q : Nat) {z : yw × SlX yY} (hi : L[q]? = some (.pub (PlayOk z))) : Mem w0 M (slP 4 uC (.slice z.2.A z.2.l.length z.2.c) z.2.l :: allP yY.Ok z.2.l :: okP yw.Ok z.1 :: L) w := by
  have h1:=h.imp q hi (yw.Ok.loc z.1) fun _ hF=>hF.1
  have h2:=h1.imp (q + 1) hi (all_loc yY.Ok.loc z.2.l) fun _ hF=>hF.2.all
  exact h2.imp (q + 2) hi (zK.loc 4 uC _ z.2.l) fun _ hF=>hF.2.sl
end Ex
end
section
open _root_.Go.Proofs.Tryz
open Ex
set_option linter.unusedVariables false
set_option linter.unusedSimpArgs false
theorem jW (h : ByteArray) (t : Int) (v : Int) (P0 : Nat → Prop) (w : World) (hP0 : ∀ b, P0 b → b < w.heap.size)  :
    Calls prog 27 #[.string h,iV t,iV v] w (RetE w P0 (fun z:yv=>.agg (uB z).toArray) (fun z=>z.e=Bs.addD h t v) (fun z S=>yv.Ok S z)):=by
 refine fstart (N:=14) (vals:=[.string h,iV t,iV v]) (S:=Mem w ⟨no,P0⟩ []) func27 rfl rfl rfl (Mem.ofDatsP hP0 dn) (zG fun _ hK1=>zy wn inf43 rfl fun b6=>zD hK1 (zG fun _ hK2=>zE rfl (zB (zw [.string ⟨#[104,111,115,116]⟩,.string h] pl74 inf74 rfl rfl) (yt zk ([(⟨⟨#[104,111,115,116]⟩,h⟩:Label)]:List Label) wn underlying39 inf74 rfl rfl rfl rfl (by decide) (by decide) rfl fun b9=>zE rfl (zE rfl (zB (zw [iV t,iV v] pl41 inf41 rfl rfl) (zB (zw [iV 1,iV 0,iV 0,.slice (some ⟨b9,0,none⟩) 1 1,iV t,iV v,.string ⟨#[]⟩] pl43 inf43 rfl rfl) ?_)))))))
 refine zn 1 wn rfl rfl rfl inf43 rfl rfl rfl (zD hK2 (zV (zY (.inl rfl) results27 (zo 1 rfl rfl agg43 inf43 rfl) fun w1 hM=>?_)))
 have hM:=hM.yb encLabel (i:=0) rfl rfl
 exact hM.uE (yv.mk 1 0 0 ⟨(some ⟨b9,0,none⟩),1,([(⟨⟨#[104,111,115,116]⟩,h⟩:Label)]:List Label)⟩ ⟨t,v⟩ ⟨#[]⟩) rfl rfl fun Pb pp=>⟨pp.sl 0 rfl⟩
theorem jk (t : Int) (P0 : Nat → Prop) (w : World) (hP0 : ∀ b, P0 b → b < w.heap.size)  :
    Calls prog 28 #[iV t] w (RetE w P0 (fun z:yv=>.agg (uB z).toArray) (fun z=>z.e=Bs.rollD t) (fun z S=>yv.Ok S z)):=by
 refine fstart (N:=5) (vals:=[iV t]) (S:=Mem w ⟨no,P0⟩ []) func28 rfl rfl rfl (Mem.ofDatsP hP0 dn) (zG fun _ hK1=>zy wn inf43 rfl fun b2=>zD hK1 (zG fun _ hK2=>zE rfl (zB (zw [iV 2,iV 0,iV t,Zs,iV 0,iV 0,.string ⟨#[]⟩] pl43 inf43 rfl rfl) (zn 0 wn rfl rfl rfl inf43 rfl rfl rfl (zD hK2 (zV (zY (.inl rfl) results28 (zo 0 rfl rfl agg43 inf43 rfl) fun w1 hM=>?_)))))))
 exact hM.uE (yv.mk 2 0 t ⟨none,0,[]⟩ ⟨0,0⟩ ⟨#[]⟩) rfl rfl fun Pb pp=>⟨zK.ym _ _ _ _⟩
theorem c_task (s : ByteArray) (t : Int) (P0 : Nat → Prop) (w : World) (hP0 : ∀ b, P0 b → b < w.heap.size)  :
    Calls prog 31 #[.string s,iV t] w (RetE w P0 (fun z:yv=>.agg (uB z).toArray) (fun z=>z.e=Bs.askD s t) (fun z S=>yv.Ok S z)):=by
 refine fstart (N:=8) (vals:=[.string s,iV t]) (S:=Mem w ⟨no,P0⟩ []) func31 rfl rfl rfl (Mem.ofDatsP hP0 dn) (zG fun _ hK1=>zy wn inf43 rfl fun b4=>zD hK1 (zG fun _ hK2=>zE rfl (zE rfl (zB (zw [iV 4,iV 0,iV t,Zs,iV 0,iV 0,.string s] pl43 inf43 rfl rfl) (zn 0 wn rfl rfl rfl inf43 rfl rfl rfl (zD hK2 (zV (zY (.inl rfl) results31 (zo 0 rfl rfl agg43 inf43 rfl) fun w1 hM=>?_))))))))
 exact hM.uE (yv.mk 4 0 t ⟨none,0,[]⟩ ⟨0,0⟩ s) rfl rfl fun Pb pp=>⟨zK.ym _ _ _ _⟩
theorem jw (lv : Value) (l : List yv) (P0 : Nat → Prop) (w : World) (hP0 : ∀ b, P0 b → b < w.heap.size) (hl : zK P0 7 uB lv l w) (hla : ∀ x ∈ l, yv.Ok P0 x w) (hE : zb P0 w)  :
    Calls prog 26 #[lv] w (RetE w P0 (fun z:yY=>.agg (uC z).toArray) (fun z=>z.e=Bs.last (l.map yv.e)) (fun z S=>yY.Ok S z)):=by
 have hwl:∀ x ∈ l,yv.Wf x:=fun x hx=>(hla x hx).wf
 obtain ⟨lA,lc,rfl,hlc,hlm,hlA⟩:=hl.form
 refine fstart (N:=26) (vals:=[.slice lA l.length lc]) (S:=Mem w ⟨no,P0⟩ [slP 7 uB (.slice lA l.length lc) l,allP yv.Ok l,.pub zb]) func26 rfl rfl rfl (Mem.ofDatsP hP0 (dc (dlp hl) (dc (dp (all_loc yv.Ok.loc _) hla) (dc (dp zb.loc hE) dn)))) (zG fun _ hK1=>zy wn inf34 rfl fun b2=>zD hK1 (zG fun _ hK2=>zE rfl (vL (β:=yw × SlX yY) (fun z=>.tuple #[.agg (baseXE z.1).toArray,.slice z.2.A z.2.l.length z.2.c,iV (Bs.play (l.map yv.e)).2.2]) (fun z=>(z.1.e,z.2.l.map yY.e)=((Bs.play (l.map yv.e)).1,(Bs.play (l.map yv.e)).2.1)) (fun z S w=>PlayOk z S w) (fun z=>PlayOk.loc z) wn rfl call14 rfl (fun w1 Pb hM pp=>c_play _ l Pb w1 pp.lt (pp.sl 1 rfl) (pp.at_ 2 _ rfl) (pp.at_ 3 _ rfl)) fun z1 hz1=>vh 0 rfl (fun S w h=>PlayOk.wf h) fun hw1=>yU (fun _ h=>h.playX 0 rfl) ?_)))
 obtain ⟨hc1,hm1,hA1⟩:=hw1.2.sl
 refine zE rfl (zB (yI rfl rfl) (zB (yI rfl rfl) (zB (yI rfl rfl) (zy wn inf25 rfl fun b3=>zn 0 wn rfl rfl rfl inf25 rfl rfl rfl (zO rfl (zO rfl (zD hK2 (zS fun _ hK3=>zG fun _ hK4=>zE rfl ?_))))))))
 refine zB (vH rfl rfl) (zE rfl (yQ (t:=14) rfl (fun h1=>?_) (fun h1=>?_)))
 · refine zW (zW (zW (zB (zP rfl rfl) (zD hK4 (y6 rfl rfl (zG fun _ hK5=>zB (zw [iV 1,iV 0,Zs,iV 0] pl34 inf34 rfl rfl) (zn 5 wn rfl rfl rfl inf34 rfl rfl rfl (zD hK5 (zV (zJ (zY (.inl rfl) results26 (zo 5 rfl rfl agg34 inf34 rfl) fun w1 hM=>?_)))))))))))
   exact hM.uE (noX 1) rfl (Bs.last_no hz1 (.inl h1)) fun Pb pp=>noX_ok _ _ _
 refine zd (zg rfl) (zd (yg rfl underlying26) (zd (yj rfl rfl) (zB (zP rfl rfl) (zD hK4 (za rfl (fun h2=>?_) (fun h2=>?_))))))
 · refine zG fun _ hK6=>zB (zw [iV 1,iV 0,Zs,iV 0] pl34 inf34 rfl rfl) (zn 5 wn rfl rfl rfl inf34 rfl rfl rfl (zD hK6 (zV (zJ (zY (.inl rfl) results26 (zo 5 rfl rfl agg34 inf34 rfl) fun w1 hM=>?_)))))
   exact hM.uE (noX 1) rfl (Bs.last_no hz1 (.inr h2)) fun Pb pp=>noX_ok _ _ _
 refine yL hK3 (zG fun _ hK7=>zE rfl (zE rfl (zB (yg rfl underlying26) (zB (vl rfl rfl (by omega)) ?_))))
 obtain ⟨ad1,hd1⟩:=hA1 (ne_nil (i:=(z1.2.l.length - 1)) (by first | omega | (simp <;> omega)))
 refine zB (vC (i:=(z1.2.l.length - 1)) rfl hd1 rfl (by omega) (by first | omega | (simp <;> omega)) underlying26 inf34) ?_
 obtain ⟨s1,hs1⟩:∃ x,z1.2.l[(z1.2.l.length - 1)]?=some x:=⟨_,List.getElem?_eq_getElem (by first | omega | (simp <;> omega))⟩
 refine zB (v8 1 [iV s1.err,iV s1.at_,.slice s1.cells.A s1.cells.l.length s1.cells.c,iV s1.cost] rfl rfl hd1 hs1 rfl rfl agg34 inf34) ?_
 have hw2:=hw1.2.all _ (List.mem_of_getElem? hs1)
 refine yU (fun _ h=>h.one 2 yY.Ok.loc rfl hs1) (zn 6 wn rfl rfl rfl inf34 rfl rfl rfl (zD hK7 (zV (zY (.inl rfl) results26 (zo 6 rfl rfl agg34 inf34 rfl) fun w1 hM=>?_))))
 exact hM.uE s1 rfl (Bs.last_of hz1 h1 hs1) fun Pb pp=>pp.at_ 0 _ rfl
end
section
open _root_.Go.Proofs.Tryz
open Ex
set_option linter.unusedVariables false
set_option linter.unusedSimpArgs false
theorem c_talive (P0 : Nat → Prop) (w : World) (hP0 : ∀ b, P0 b → b < w.heap.size) (hE : zb P0 w)  :
    Calls prog 25 #[] w (Ret w (.bool true)):=by
 refine fstart (N:=24) (vals:=[]) (S:=Mem w ⟨no,P0⟩ [.pub zb]) func25 rfl rfl rfl (Mem.ofDatsP hP0 (dc (dp zb.loc hE) dn)) (zG fun _ hK1=>zO rfl (zD hK1 (zG fun _ hK2=>vL (β:=yv) (fun z=>.agg (uB z).toArray) (fun z=>z.e=Bs.addD ⟨#[97]⟩ 5 7) (fun z S=>yv.Ok S z) (fun z=>yv.Ok.loc z) wn rfl call27 rfl (fun w1 Pb hM pp=>jW ⟨#[97]⟩ 5 7 Pb w1 pp.lt) fun z1 hz1=>vh 0 rfl (fun S w h=>yv.Ok.wf h) fun hw1=>vL (β:=yv) (fun z=>.agg (uB z).toArray) (fun z=>z.e=Bs.rollD 60) (fun z S=>yv.Ok S z) (fun z=>yv.Ok.loc z) wn rfl call28 rfl (fun w1 Pb hM pp=>jk 60 Pb w1 pp.lt) fun z2 hz2=>vh 0 rfl (fun S w h=>yv.Ok.wf h) fun hw2=>vL (β:=yv) (fun z=>.agg (uB z).toArray) (fun z=>z.e=Bs.askD ⟨#[115,117,109,40,123,125,91,54,48,93,41]⟩ 60) (fun z S=>yv.Ok S z) (fun z=>yv.Ok.loc z) wn rfl call31 rfl (fun w1 Pb hM pp=>c_task ⟨#[115,117,109,40,123,125,91,54,48,93,41]⟩ 60 Pb w1 pp.lt) fun z3 hz3=>vh 0 rfl (fun S w h=>yv.Ok.wf h) fun hw3=>yt uB ([z1,z2,z3]:List yv) wn underlying22 inf43 rfl rfl rfl rfl (by decide) (by decide) rfl fun b5=>?_)))
 refine yU (fun _ h=>h.all0 yv.Ok.loc) (yU (fun _ h=>h.allSnoc 0 4 yv.Ok.loc rfl rfl) (yU (fun _ h=>h.allSnoc 0 4 yv.Ok.loc rfl rfl) (yU (fun _ h=>h.allSnoc 0 4 yv.Ok.loc rfl rfl) (jd 4 encDoX rfl rfl (vL (β:=yY) (fun z=>.agg (uC z).toArray) (fun z=>z.e=Bs.last (([z1,z2,z3]:List yv).map yv.e)) (fun z S=>yY.Ok S z) (fun z=>yY.Ok.loc z) wn rfl call26 rfl (fun w1 Pb hM pp=>jw _ ([z1,z2,z3]:List yv) Pb w1 pp.lt (pp.sl 4 rfl) (pp.at_ 0 _ rfl) (pp.at_ 8 _ rfl)) fun z4 hz4=>vh 0 rfl (fun S w h=>yY.Ok.wf h) fun hw4=>?_)))))
 have hal:=Bs.alive_x (hz4.trans (congrArg Bs.last (show [yv.e z1,yv.e z2,yv.e z3]=Bs.topL from by rw [hz1,hz2,hz3]; rfl)))
 refine zy wn inf34 rfl fun b1=>zn 0 wn rfl rfl rfl inf34 rfl rfl rfl (zD hK2 (zG fun _ hK3=>zB (zc rfl fld34_0) (zB (zi 0 rfl rfl rfl flat27) (zB (yj rfl rfl) (zE rfl (l_litt (t:=10) rfl hal.1 (zd (zc rfl fld34_2) (zd (zi 0 rfl rfl rfl flat32) (zd (yg rfl underlying32) ?_)))))))))
 refine zd (yj rfl rfl) (zB (zP rfl rfl) (zE rfl (l_litt (t:=16) rfl (by have:=congrArg List.length hal.2; simp only [List.length_map,List.length_cons,List.length_nil] at this; omega) (zd (zc rfl fld34_2) (zd (zi 0 rfl rfl rfl flat32) (yU (fun _ h=>h.ansX 1 rfl) ?_))))))
 obtain ⟨hc1,hm1,hA1⟩:=hw4.cells
 obtain ⟨ad1,hd1⟩:=hA1 (ne_nil (i:=0) (by have:=congrArg List.length hal.2; simp only [List.length_map,List.length_cons,List.length_nil] at this; omega))
 refine zd (vC (i:=0) rfl hd1 rfl (by omega) (by have:=congrArg List.length hal.2; simp only [List.length_map,List.length_cons,List.length_nil] at this; omega) underlying32 inf81) (zd (y0 rfl fld81_1) ?_)
 obtain ⟨s1,hs1⟩:∃ x,z4.cells.l[0]?=some x:=⟨_,List.getElem?_eq_getElem (by have:=congrArg List.length hal.2; simp only [List.length_map,List.length_cons,List.length_nil] at this; omega)⟩
 refine zd (gD 0 rfl rfl hd1 hs1 rfl flat3) (zd (yj rfl rfl) (zB (zP rfl rfl) (zO rfl (zD hK3 (zV (zY (.inl rfl) results25 (zQ rfl) fun w1 hM=>?_))))))
 exact zq (by simp [hal.1,Bs.val_x hal.2 hs1]) hM
theorem law_TopLate (a : Int) (to : Int) (b : Int) (P0 : Nat → Prop) (w : World) (hP0 : ∀ b, P0 b → b < w.heap.size) (hE : zb P0 w)  :
    Calls prog 8 #[iV a,iV to,iV b] w (Ret w (.bool true)):=by
 refine fstart (N:=73) (vals:=[iV a,iV to,iV b]) (S:=Mem w ⟨no,P0⟩ [.pub zb]) func8 rfl rfl rfl (Mem.ofDatsP hP0 (dc (dp zb.loc hE) dn)) (zG fun _ hK1=>zO rfl (zD hK1 (zS fun _ hK2=>zG fun _ hK3=>yF wn rfl call25 rfl (fun w1 hM=>c_talive (In w1) w1 (fun _ h=>h) (hM.vP (i:=0) rfl)) (zB (y5 rfl) (zD hK3 (yu rfl rfl (yL hK2 (zS fun _ hK4=>?_))))))))
 refine zG fun _ hK5=>zE rfl (zB (yR rfl rfl) (zE rfl (yQ (t:=14) rfl (fun h1=>?_) (fun h1=>?_))))
 · refine zW (zW (zB (zP rfl rfl) (zE rfl (zW (zW (zB (zP rfl rfl) (zE rfl (zW (zW (zB (zP rfl rfl) (zE rfl ?_)))))))))))
   refine zW (zW (zB (zP rfl rfl) (zE rfl (zW (zW (zB (zP rfl rfl) (zD hK5 (y6 rfl rfl (zG fun _ hK6=>zO rfl (zD hK6 ?_))))))))))
   refine zV (zJ (zY (.inl rfl) results8 (zQ rfl) fun w1 hM=>?_))
   exact zq rfl hM
 refine zd (zg rfl) (zd (yR rfl rfl) (zB (zP rfl rfl) (zE rfl (yQ (t:=18) rfl (fun h2=>?_) (fun h2=>?_)))))
 · refine zW (zW (zB (zP rfl rfl) (zE rfl (zW (zW (zB (zP rfl rfl) (zE rfl (zW (zW (zB (zP rfl rfl) (zE rfl ?_)))))))))))
   refine zW (zW (zB (zP rfl rfl) (zD hK5 (y6 rfl rfl (zG fun _ hK7=>zO rfl (zD hK7 (zV (zJ (zY (.inl rfl) results8 (zQ rfl) fun w1 hM=>?_)))))))))
   exact zq rfl hM
 refine zd (zg rfl) (zd (yR rfl rfl) (zB (zP rfl rfl) (zE rfl (yQ (t:=22) rfl (fun h3=>?_) (fun h3=>?_)))))
 · refine zW (zW (zB (zP rfl rfl) (zE rfl (zW (zW (zB (zP rfl rfl) (zE rfl (zW (zW (zB (zP rfl rfl) (zD hK5 ?_)))))))))))
   refine y6 rfl rfl (zG fun _ hK8=>zO rfl (zD hK8 (zV (zJ (zY (.inl rfl) results8 (zQ rfl) fun w1 hM=>?_)))))
   exact zq rfl hM
 refine zd (zg rfl) (zd (y8 rfl rfl) (zB (zP rfl rfl) (zE rfl (yQ (t:=26) rfl (fun h4=>?_) (fun h4=>?_)))))
 · refine zW (zW (zB (zP rfl rfl) (zE rfl (zW (zW (zB (zP rfl rfl) (zD hK5 (y6 rfl rfl (zG fun _ hK9=>zO rfl (zD hK9 ?_))))))))))
   refine zV (zJ (zY (.inl rfl) results8 (zQ rfl) fun w1 hM=>?_))
   exact zq rfl hM
 refine zd (zg rfl) (zd (y8 rfl rfl) (zB (zP rfl rfl) (zE rfl (yQ (t:=30) rfl (fun h5=>?_) (fun h5=>?_)))))
 · refine zW (zW (zB (zP rfl rfl) (zD hK5 (y6 rfl rfl (zG fun _ hK10=>zO rfl (zD hK10 (zV (zJ (zY (.inl rfl) results8 (zQ rfl) fun w1 hM=>?_)))))))))
   exact zq rfl hM
 refine zd (zg rfl) (zd (y8 rfl rfl) (zB (zP rfl rfl) (zD hK5 (za rfl (fun h6=>?_) (fun h6=>?_)))))
 · refine zG fun _ hK11=>zO rfl (zD hK11 (zV (zJ (zY (.inl rfl) results8 (zQ rfl) fun w1 hM=>?_))))
   exact zq rfl hM
 refine yL hK4 (zG fun _ hK12=>?_)
 have hr9:(0≤a∧a≤1000)∧(0≤to∧to≤1000)∧(0≤b∧b≤1000):=by omega
 refine zE rfl (vL (β:=yv) (fun z=>.agg (uB z).toArray) (fun z=>z.e=Bs.addD ⟨#[97]⟩ a 1) (fun z S=>yv.Ok S z) (fun z=>yv.Ok.loc z) wn rfl call27 rfl (fun w1 Pb hM pp=>jW ⟨#[97]⟩ a 1 Pb w1 pp.lt) fun z1 hz1=>vh 0 rfl (fun S w h=>yv.Ok.wf h) fun hw1=>zE rfl (vL (β:=yv) (fun z=>.agg (uB z).toArray) (fun z=>z.e=Bs.rollD to) (fun z S=>yv.Ok S z) (fun z=>yv.Ok.loc z) wn rfl call28 rfl (fun w1 Pb hM pp=>jk to Pb w1 pp.lt) fun z2 hz2=>vh 0 rfl (fun S w h=>yv.Ok.wf h) fun hw2=>zE rfl (vL (β:=yv) (fun z=>.agg (uB z).toArray) (fun z=>z.e=Bs.addD ⟨#[97]⟩ b 2) (fun z S=>yv.Ok S z) (fun z=>yv.Ok.loc z) wn rfl call27 rfl (fun w1 Pb hM pp=>jW ⟨#[97]⟩ b 2 Pb w1 pp.lt) fun z3 hz3=>vh 0 rfl (fun S w h=>yv.Ok.wf h) fun hw3=>yt uB ([z1,z2,z3]:List yv) wn underlying22 inf43 rfl rfl rfl rfl (by decide) (by decide) rfl fun b40=>yU (fun _ h=>h.all0 yv.Ok.loc) (yU (fun _ h=>h.allSnoc 0 4 yv.Ok.loc rfl rfl) ?_))))
 refine yU (fun _ h=>h.allSnoc 0 4 yv.Ok.loc rfl rfl) (yU (fun _ h=>h.allSnoc 0 4 yv.Ok.loc rfl rfl) (jd 4 encDoX rfl rfl (vL (β:=yY) (fun z=>.agg (uC z).toArray) (fun z=>z.e=Bs.last (([z1,z2,z3]:List yv).map yv.e)) (fun z S=>yY.Ok S z) (fun z=>yY.Ok.loc z) wn rfl call26 rfl (fun w1 Pb hM pp=>jw _ ([z1,z2,z3]:List yv) Pb w1 pp.lt (pp.sl 4 rfl) (pp.at_ 0 _ rfl) (pp.at_ 8 _ rfl)) fun z4 hz4=>vh 0 rfl (fun S w h=>yY.Ok.wf h) fun hw4=>?_)))
 have hla:z4.e=Bs.last [Bs.addD Bs.aB a 1,Bs.rollD to,Bs.addD Bs.aB b 2]:=hz4.trans (congrArg Bs.last (by show [yv.e z1,yv.e z2,yv.e z3]=_; rw [hz1,hz2,hz3]; rfl))
 have hfa:=Bs.late_a hr9.1 hr9.2.1 hr9.2.2 hla
 refine zy wn inf34 rfl fun b7=>zn 0 wn rfl rfl rfl inf34 rfl rfl rfl (zD hK12 (zG fun _ hK13=>zE rfl (vL (β:=yv) (fun z=>.agg (uB z).toArray) (fun z=>z.e=Bs.addD ⟨#[97]⟩ a 1) (fun z S=>yv.Ok S z) (fun z=>yv.Ok.loc z) wn rfl call27 rfl (fun w1 Pb hM pp=>jW ⟨#[97]⟩ a 1 Pb w1 pp.lt) fun z5 hz5=>vh 0 rfl (fun S w h=>yv.Ok.wf h) fun hw5=>zE rfl (vL (β:=yv) (fun z=>.agg (uB z).toArray) (fun z=>z.e=Bs.rollD to) (fun z S=>yv.Ok S z) (fun z=>yv.Ok.loc z) wn rfl call28 rfl (fun w1 Pb hM pp=>jk to Pb w1 pp.lt) fun z6 hz6=>vh 0 rfl (fun S w h=>yv.Ok.wf h) fun hw6=>zE rfl (vL (β:=yv) (fun z=>.agg (uB z).toArray) (fun z=>z.e=Bs.addD ⟨#[98]⟩ b 2) (fun z S=>yv.Ok S z) (fun z=>yv.Ok.loc z) wn rfl call27 rfl (fun w1 Pb hM pp=>jW ⟨#[98]⟩ b 2 Pb w1 pp.lt) fun z7 hz7=>?_)))))
 refine vh 0 rfl (fun S w h=>yv.Ok.wf h) fun hw7=>yt uB ([z5,z6,z7]:List yv) wn underlying22 inf43 rfl rfl rfl rfl (by decide) (by decide) rfl fun b48=>yU (fun _ h=>h.all0 yv.Ok.loc) (yU (fun _ h=>h.allSnoc 0 4 yv.Ok.loc rfl rfl) (yU (fun _ h=>h.allSnoc 0 4 yv.Ok.loc rfl rfl) (yU (fun _ h=>h.allSnoc 0 4 yv.Ok.loc rfl rfl) (jd 4 encDoX rfl rfl (vL (β:=yY) (fun z=>.agg (uC z).toArray) (fun z=>z.e=Bs.last (([z5,z6,z7]:List yv).map yv.e)) (fun z S=>yY.Ok S z) (fun z=>yY.Ok.loc z) wn rfl call26 rfl (fun w1 Pb hM pp=>jw _ ([z5,z6,z7]:List yv) Pb w1 pp.lt (pp.sl 4 rfl) (pp.at_ 0 _ rfl) (pp.at_ 18 _ rfl)) fun z8 hz8=>vh 0 rfl (fun S w h=>yY.Ok.wf h) fun hw8=>?_)))))
 have hlb:z8.e=Bs.last [Bs.addD Bs.aB a 1,Bs.rollD to,Bs.addD Bs.bB b 2]:=hz8.trans (congrArg Bs.last (by show [yv.e z5,yv.e z6,yv.e z7]=_; rw [hz5,hz6,hz7]; rfl))
 have hfb:=Bs.late_b hr9.1 hr9.2.1 hr9.2.2 hlb
 refine zy wn inf34 rfl fun b8=>zn 0 wn rfl rfl rfl inf34 rfl rfl rfl (zD hK13 (zG fun _ hK14=>zE rfl (zE rfl (zE rfl (zB (jD rfl rfl (by omega) (by omega)) (zB (vl rfl rfl (by omega)) (zB (yR rfl rfl) (zO rfl (zD hK14 ?_)))))))))
 refine zG fun _ hK15=>zB (zc rfl fld34_0) (zB (zi 10 rfl rfl rfl flat27) (zB (yj rfl rfl) (zE rfl (zE rfl (yQ (t:=60) rfl (fun h7=>?_) (fun h7=>?_))))))
 · refine zW (zW (zW (zB (zP rfl rfl) (zB (jc rfl rfl flat4 underlying4) (zE rfl (yQ (t:=66) rfl (fun h8=>?_) (fun h8=>?_)))))))
   · refine zd (zc rfl fld34_0) (zd (zi 0 rfl rfl rfl flat27) (zd (yj rfl rfl) (zd (zg rfl) (zd (jc rfl rfl flat4 underlying4) (zB (zP rfl rfl) (zO rfl (zD hK15 (zV (zY (.inl rfl) results8 (zQ rfl) fun w1 hM=>?_)))))))))
     exact zq (congrArg Value.bool (Bs.err9d hfb)) hM
   refine zW (zW (zW (zW (zW (zB (zP rfl rfl) (zO rfl (zD hK15 (zV (zY (.inl rfl) results8 (zQ rfl) fun w1 hM=>?_)))))))))
   exact absurd (by rw [hfa]; by_cases hq:b≤a <;> simp [h7,hq]) h8
 refine zd (zg rfl) (zd (zg rfl) (zd (ug rfl rfl) (zB (zP rfl rfl) (zB (jc rfl rfl flat4 underlying4) (zE rfl (yQ (t:=66) rfl (fun h9=>?_) (fun h9=>?_)))))))
 · refine zd (zc rfl fld34_0) (zd (zi 0 rfl rfl rfl flat27) (zd (yj rfl rfl) (zd (zg rfl) (zd (jc rfl rfl flat4 underlying4) (zB (zP rfl rfl) (zO rfl (zD hK15 (zV (zY (.inl rfl) results8 (zQ rfl) fun w1 hM=>?_)))))))))
   exact zq (congrArg Value.bool (Bs.err9d hfb)) hM
 refine zW (zW (zW (zW (zW (zB (zP rfl rfl) (zO rfl (zD hK15 (zV (zY (.inl rfl) results8 (zQ rfl) fun w1 hM=>?_)))))))))
 exact absurd (by rw [hfa]; by_cases hq:b≤a <;> simp [h7,hq]) h9
end
section
open Go.ChangeShapes Go.WideShapes Go.ChangeAt Go.RowKit
namespace Ex
theorem Tryz.own_:ownKnob Tryz.prog.godebug=none:=by kernel_rfl
theorem Tryz.laid_:laidOutB Tryz.prog=true:=by kernel_rfl
section
variable {H:Type} {enc:TypeId × Value→H} {P:Program}
theorem trodAll_stays (hl : laidOutB P = true) {W W' : World} {sp' : Nat → Bool} (hsame : Fr no W W') : ∀ {ts : List TypeId} {vs : List Value} {ds : List (DataW H)} {ps : List MemPlace}, (∀ t ∈ ts, P.readableRec t = true ∧ t < P.types.size) →
    DataW.TrodAll enc P W 0 (fun _=>true) true ts vs ds ps→(∀ p ∈ ps,p.block < W.heap.size)→(∀ p ∈ ps,sp' p.block=true)→DataW.TrodAll enc P W' 0 sp' true ts vs ds ps
  | [],[],[],_,_,h,_,_=>h
  | t :: ts, v :: vs, d :: ds, _, hr, ⟨p, q, h1, h2, e⟩, hlt, hs =>
    ⟨p, q, WideElems.Trod_stays hl (hr t (List.mem_cons_self ..)).1 (hr t (List.mem_cons_self ..)).2 h1 (fun x hx => (Fr.below hsame).same (hlt x (by rw [e]; exact List.mem_append_left _ hx))) (fun x hx => hs x (by rw [e]; exact List.mem_append_left _ hx)),
      trodAll_stays hl hsame (fun t ht=>hr t (List.mem_cons_of_mem _ ht)) h2 (fun x hx=>hlt x (by rw [e]; exact List.mem_append_right _ hx)) (fun x hx=>hs x (by rw [e]; exact List.mem_append_right _ hx)),e⟩
theorem post_true {f : Func} {s : ChangeSpec} {W W' : World} {args : Array Value} {ds gs : List (DataW H)} {before : List MemPlace} {bt : TypeId} (hl : laidOutB P = true) (hr : ∀ t ∈ f.params.toList, P.readableRec t = true ∧ t < P.types.size)
    (hres:f.resultTypes=#[bt]) (hb:P.underlying bt=some .bool) (hvars:s.vars=[]) (hW:DataW.Whole enc P f.params.toList s.vars false W args.toList ds gs before)
    (hs:∀ ds:List (DataW H),ds.length=f.params.size→(s.fn H ds).results=[.lit (.bool true)]∧(s.fn H ds).args=ds∧(s.fn H ds).vars=[]) (hf:Fr no W W') :
    s.post enc P f false true false false W args (.bool true) W':=by
  have hlt:=hW.lt
  have hW0:=hW
  obtain ⟨p,q,hA,hV,rfl,hfz,hnd⟩:=hW
  rw [hvars] at hV
  obtain ⟨rfl,rfl⟩:=trodVars_none hV
  have hlen : ∀ {ts : List TypeId} {vs : List Value} {ds : List (DataW H)} {ps : List MemPlace}, DataW.TrodAll enc P W 0 (fun _ => true) true ts vs ds ps → ds.length = ts.length := by
    intro ts
    induction ts with
    | nil=>intro vs ds ps h; cases vs <;> cases ds <;> simp_all [DataW.TrodAll]
    | cons t ts ih =>
      intro vs ds ps h
      cases vs <;> cases ds <;> try (simp [DataW.TrodAll] at h; done)
      obtain ⟨_,_,_,h2,_⟩:=h
      simp [ih h2]
  obtain ⟨e1,e2,e3⟩:=hs ds (by rw [hlen hA]; simp)
  refine ⟨ds,[],_,[],p,[],hW0,?_,?_,?_,?_,fun h=>by cases h⟩
  · rw [List.append_nil,e1,hres]
    exact trodAll_mk1 (shut_bool hb true)
  · rw [List.append_nil,e2]
    exact trodAll_stays hl hf hr hA (fun x hx=>hlt x (by simpa using hx)) (fun x hx=>by simpa using hlt x (by simpa using hx))
  · rw [List.append_nil,e3,hvars]
    exact rfl
  · exact (Fr.below hf).frame _
end
def ok64 (n:Int):Prop:=-9223372036854775808≤n∧n≤9223372036854775807
theorem ok64_wf {n : Int} (h : (Lit.int .i64 n).wf = true) : ok64 n := by
  simpa [Lit.wf,IntKind.min,IntKind.max,IntKind.signed,IntKind.bits,ok64] using h
end Ex
end
section
namespace topLateP
open Ex
open Go.ChangeShapes Go.WideShapes Go.ChangeAt Go.RowKit
set_option linter.unusedVariables false
theorem star_ : "*" ++ "errors.errorString" = "*errors.errorString" := by decide
theorem row_ (u : TypeId) (h : Tryz.prog.typeName? 3 u = some "*errors.errorString") : u = 296 :=
  typeName_ptr_named (nm := "errors.errorString") (by rw [star_]; kernel_rfl) (by kernel_rfl) (by decide) u (by rw [star_]; exact h)
theorem errv {W : World} (h : laidMetH Tryz.prog Rows.topLateRow.laid W) : zb (In W) W := by
  obtain ⟨a0,s0,hv,_⟩:=laid_sentinel (g:=3) (ti:=183) (tp:=296) (te:=298) (ts:=9) (laidMet.tail (laidMet.tail (laidMet.tail h))) (by kernel_rfl) (by kernel_rfl) Tryz.underlying183 row_ Tryz.underlying296 Tryz.underlying298 rfl rfl Tryz.underlying9 (by kernel_rfl) (by kernel_rfl)
  refine ⟨fun g hg=>?_,_,_,hv⟩
  have h3:=hv
  unfold World.var? at h3
  rw [hg] at h3
  simp only [Option.bind_some] at h3
  split at h3
  · rename_i hc; exact (Array.getElem?_eq_some_iff.1 hc).1
  · cases h3
set_option maxRecDepth 100000 in
theorem contract (H : Type) (enc : TypeId × Value → H) (W : World) (base : Nat) (args : Array Value) (ds gs : List (DataW H)) (before : List MemPlace)
    (hval0:∀ (j:Nat) t v,Tryz.f8.params[j]?=some t→args[j]?=some v→Value.okWide Tryz.prog W .any base t v)
    (hW:DataW.Whole enc Tryz.prog Tryz.f8.params.toList Rows.topLateSpec.vars false W args.toList ds gs before) (hL:laidMetH Tryz.prog Rows.topLateRow.laid W) :
    Calls Tryz.prog 8 args W fun e W'=>∃ v,e=.returned v∧Rows.topLateSpec.post enc Tryz.prog Tryz.f8 false true false false W args v W':=by
  have hW':=hW
  obtain ⟨p,q,hA0,hV,rfl,hfz,hnd⟩:=hW
  have hA:DataW.TrodAll enc Tryz.prog W 0 (fun _=>true) true Tryz.f8.params.toList args.toList ds p:=hA0
  have hval:=hval0
  rw [Tryz.params8] at hA hval
  obtain ⟨v0,vs0,d0,ds0,p0,q0,hargs,rfl,rfl,h0,r0⟩:=trodAll_cons hA
  obtain ⟨v1,vs1,d1,ds1,p1,q1,rfl,rfl,rfl,h1,r1⟩:=trodAll_cons r0
  obtain ⟨v2,vs2,d2,ds2,p2,q2,rfl,rfl,rfl,h2,r2⟩:=trodAll_cons r1
  obtain ⟨rfl,rfl,rfl⟩:=trodAll_nil r2
  obtain rfl:args=#[v0,v1,v2]:=by cases args; simp_all
  obtain ⟨x0,rfl,rfl,rfl,w0⟩:=open_int Tryz.underlying3 (hval 0 3 v0 rfl rfl) h0
  have o0:=ok64_wf w0
  obtain ⟨x1,rfl,rfl,rfl,w1⟩:=open_int Tryz.underlying3 (hval 1 3 v1 rfl rfl) h1
  have o1:=ok64_wf w1
  obtain ⟨x2,rfl,rfl,rfl,w2⟩:=open_int Tryz.underlying3 (hval 2 3 v2 rfl rfl) h2
  have o2:=ok64_wf w2
  refine (law_TopLate x0 x1 x2 (In W) W (fun _ h=>h) (errv hL)).mono fun e W' ⟨he,hf⟩=>?_
  subst he
  exact ⟨_, rfl, post_true Ex.Tryz.laid_ (by rw [Tryz.params8]; intro t ht; simp only [List.mem_cons, List.not_mem_nil, or_false] at ht; rcases ht with rfl | rfl | rfl <;> exact ⟨by kernel_rfl, of_decide_eq_true (by kernel_rfl)⟩) rfl Tryz.underlying4 rfl hW' (fun ds hd => by
    rw [Tryz.params8] at hd
    match ds,hd with
    | [_,_,_],_=>exact ⟨rfl,rfl,rfl⟩) hf⟩
def put (cs : Array Value) : Obj → Obj
  | .cells _ t fr=>.cells cs t fr
  | o=>o
noncomputable def low_:Nat:=(World.holding Tryz.prog default ⟨#[],#[],[]⟩).heap.size
noncomputable def laidWorld (os : Os) : World :=
  { (World.holding Tryz.prog os ⟨#[.cells #[.string ⟨#[118,97,108,117,101,32,111,117,116,32,111,102,32,114,97,110,103,101]⟩] 298,.cells #[.string ⟨#[105,110,118,97,108,105,100,32,115,121,110,116,97,120]⟩] 298],#[],[]⟩) with heap:=((((((World.holding Tryz.prog os ⟨#[.cells #[.string ⟨#[118,97,108,117,101,32,111,117,116,32,111,102,32,114,97,110,103,101]⟩] 298,.cells #[.string ⟨#[105,110,118,97,108,105,100,32,115,121,110,116,97,120]⟩] 298],#[],[]⟩).heap.modify 4 (put #[.int .u8 0,.int .u8 1,.int .u8 28,.int .u8 2,.int .u8 29,.int .u8 14,.int .u8 24,.int .u8 3,.int .u8 30,.int .u8 22,.int .u8 20,.int .u8 15,.int .u8 25,.int .u8 17,.int .u8 4,.int .u8 8,.int .u8 31,.int .u8 27,.int .u8 13,.int .u8 23,.int .u8 21,.int .u8 19,.int .u8 16,.int .u8 7,.int .u8 26,.int .u8 12,.int .u8 18,.int .u8 6,.int .u8 11,.int .u8 5,.int .u8 10,.int .u8 9])).modify 5 (put #[.int .u8 0,.int .u8 1,.int .u8 56,.int .u8 2,.int .u8 57,.int .u8 49,.int .u8 28,.int .u8 3,.int .u8 61,.int .u8 58,.int .u8 42,.int .u8 50,.int .u8 38,.int .u8 29,.int .u8 17,.int .u8 4,.int .u8 62,.int .u8 47,.int .u8 59,.int .u8 36,.int .u8 45,.int .u8 43,.int .u8 51,.int .u8 22,.int .u8 53,.int .u8 39,.int .u8 33,.int .u8 30,.int .u8 24,.int .u8 18,.int .u8 12,.int .u8 5,.int .u8 63,.int .u8 55,.int .u8 48,.int .u8 27,.int .u8 60,.int .u8 41,.int .u8 37,.int .u8 16,.int .u8 46,.int .u8 35,.int .u8 44,.int .u8 21,.int .u8 52,.int .u8 32,.int .u8 23,.int .u8 11,.int .u8 54,.int .u8 26,.int .u8 40,.int .u8 15,.int .u8 34,.int .u8 20,.int .u8 31,.int .u8 10,.int .u8 25,.int .u8 14,.int .u8 19,.int .u8 9,.int .u8 13,.int .u8 8,.int .u8 7,.int .u8 6])).modify 0 (put #[.int .u64 1,.int .u64 10,.int .u64 100,.int .u64 1000,.int .u64 10000,.int .u64 100000,.int .u64 1000000,.int .u64 10000000,.int .u64 100000000,.int .u64 1000000000,.int .u64 10000000000,.int .u64 100000000000,.int .u64 1000000000000,.int .u64 10000000000000,.int .u64 100000000000000,.int .u64 1000000000000000,.int .u64 10000000000000000,.int .u64 100000000000000000,.int .u64 1000000000000000000,.int .u64 10000000000000000000])).modify 3 (put #[.iface 296 (.pointer (some ⟨low_ + 0,0,none⟩))])).modify 2 (put #[.iface 296 (.pointer (some ⟨low_ + 1,0,none⟩))])) }
theorem laid_met (os : Os) : laidMet Tryz.prog Rows.topLateRow.laid ((laidWorld os).forCall (fun _ _ => 0) ⟨#[], #[.int .i64 0, .int .i64 0, .int .i64 0], []⟩).memory :=
  laidMet_of_run' 8 (by kernel_rfl) (by kernel_rfl)
theorem reads (os : Os) {H : Type} (enc : TypeId × Value → H) : ∃ places, DataW.whole enc Tryz.prog ((laidWorld os).forCall (fun _ _ => 0) ⟨#[], #[.int .i64 0, .int .i64 0, .int .i64 0], []⟩).memory Tryz.f8.params.toList Rows.topLateSpec.vars false #[.int .i64 0, .int .i64 0, .int .i64 0].toList 8 = some ([.lit (.int .i64 0), .lit (.int .i64 0), .lit (.int .i64 0)], [], places) :=
  ⟨[],by kernel_rfl⟩
set_option maxRecDepth 100000 in
theorem lifted (os : Os) (started : os.Started) (H : Type) (enc : TypeId × Value → H) (F : Stop.Interp) :
    ReturnsInHanded {} Tryz.checked os 8 .any ((OpenSpec.ofChange Rows.topLateSpec).preRow enc Tryz.prog Tryz.f8 Rows.topLateRow.domain false Rows.topLateRow.laid) (((OpenSpec.ofChange Rows.topLateSpec).at F).post enc Tryz.prog Tryz.f8 false true false false):=by
  obtain ⟨places,hx⟩:=reads os enc
  refine returnsInHanded_of_row (C := Tryz.checked) (s := (OpenSpec.ofChange Rows.topLateSpec)) Ex.Tryz.own_ started (by kernel_rfl) Tryz.func8
    (witness_row_at (enc := enc) (C := Tryz.checked) false (laidWorld os) #[.int .i64 0, .int .i64 0, .int .i64 0] rfl (by kernel_rfl) (by kernel_rfl) (by kernel_rfl)
      (OpenSpec.preRow_of_cond 8 hx (by kernel_rfl) (fun k hk=>by cases hk) (by kernel_rfl) (laid_met os))) ?_
  intro W base args ds gs before hval hW _ hcond _ hL _ _
  exact contract H enc W base args ds gs before hval hW hL
theorem laid_:laidOutB Tryz.pinned.checked.prog=true:=by kernel_rfl
theorem rowed_:mapsRowed Tryz.pinned.checked.prog=true:=by kernel_rfl
theorem place_:(Rows.topLateRow.inPlace == Tryz.pinned.checked.prog.inPlace 8)=true:=by kernel_rfl
theorem unfol_:(Rows.topLateRow.unfollowed == Tryz.pinned.checked.prog.unfollowed 8)=true:=by kernel_rfl
theorem recur_:(Rows.topLateRow.recurses == Tryz.pinned.checked.prog.recurses 8)=true:=by kernel_rfl
theorem named_:(Rows.topLateRow.named == Tryz.pinned.checked.prog.varsNamed 8)=true:=by kernel_rfl
set_option maxRecDepth 100000 in
theorem joined_:joinedFacts Tryz.pinned.checked.prog 8 Tryz.f8 (OpenSpec.ofChange Rows.topLateSpec).bare Rows.topLateRow=true:=by
 unfold joinedFacts
 rw [laid_,rowed_,place_,unfol_,recur_,named_]
 kernel_rfl
theorem said : Rows.TopLateSaid :=
  OpenClaim.holds_of_cond 8 Tryz.f8 rfl rfl rfl rfl rfl rfl rfl ⟨rfl, rfl, rfl, rfl, rfl⟩ rfl rfl rfl rfl rfl (by kernel_rfl) Tryz.func8 joined_
    (of_decide_eq_true (by kernel_rfl)) (by unfold Func.isWrapper; first | (rw [if_pos (by decide +kernel)]; kernel_rfl) | (rw [if_neg (by decide +kernel)]; exact ⟨rfl,rfl⟩))
    (fun os started H enc _ F=>by rw [OpenClaim.pre_eq_preRow]; exact lifted os started H enc F)
theorem plain (f : FuncId) (fn : Func) (hf : Tryz.pinned.checked.prog.funcNamed "grainstore/graintop.TopLate" = some f) (hfn : Tryz.pinned.checked.prog.funcs[f]? = some fn) :
    true=Tryz.pinned.checked.prog.looks []∧∀ (j:Nat) t,fn.params[j]?=some t→Tryz.pinned.checked.prog.wantsStandIn t=false:=by
  obtain rfl : f = 8 := Option.some.inj ((show Tryz.prog.funcNamed "grainstore/graintop.TopLate" = some 8 by kernel_rfl).symm.trans hf) |>.symm
  obtain rfl:fn=Tryz.f8:=(Option.some.inj (Tryz.func8.symm.trans hfn)).symm
  refine ⟨by kernel_rfl,fun j t ht=>?_⟩
  rw [Tryz.params8] at ht
  have hm:=Array.mem_of_getElem? ht
  simp only [List.mem_toArray,List.mem_cons,List.not_mem_nil,or_false] at hm
  rcases hm with rfl | rfl | rfl <;> first | exact (show Tryz.prog.wantsStandIn 3=false by kernel_rfl)
theorem holds : Rows.TopLateCardSaid :=
  Claim7.holds_tied_plain_at .later [] _ _ _ _ said (fun _ h=>by cases h) (by kernel_rfl) (fun _ h=>by cases h) topLate_row_tie rfl ⟨rfl,rfl⟩ (by kernel_rfl) rfl plain (by kernel_rfl)
end topLateP
end
end Go.Proofs.YtgojhpocpajmlaaGreatDoor
