/- Laws and walks for the proof of TopWords, packed by program; each theorem bears its own conditions. -/
import Derived.Test.YtgojhpocpajmlaaGreatDoorRows
import Derived.Carry
import Derived.Deep.Slices
import Derived.Test.YtgojhpocpajmlaaGreatDoorKWrd5
namespace Go.Proofs.YtgojhpocpajmlaaGreatDoor
section
open _root_.Go.Proofs.Tryz
open Ex
attribute [local irreducible] WC WL WQ WE WS
set_option linter.unusedVariables false
set_option linter.unusedSimpArgs false
set_option maxHeartbeats 1000000 in
theorem c_play (lv:Value) (l:List zm) (P0:Nat→Prop) (w:World) (hP0:∀ b,P0 b→b < w.heap.size) (hl:zD P0 7 y5 lv l w) (hla:∀ x ∈ l,zm.Ok P0 x w) (hE:zN P0 w)  :
    Calls prog 14 #[lv] w (RetE w P0 (fun z:yB × SlX zn=>.tuple #[.agg (baseXE z.1).toArray,.slice z.2.A z.2.l.length z.2.c,iV (Bs.play (l.map zm.e)).2.2]) (fun z=>(z.1.e,z.2.l.map zn.e)=((Bs.play (l.map zm.e)).1,(Bs.play (l.map zm.e)).2.1)) (fun z S w=>yB.Ok S z.1 w∧AnssX.Ok S z.2 w)):=by
 have hwl:∀ x ∈ l,zm.Wf x:=fun x hx=>(hla x hx).wf
 obtain ⟨lA,lc,rfl,hlc,hlm,hlA⟩:=hl.form
 refine zq (N:=33) func14 (Mem.ofDatsP hP0 (dc (dlp hl) (dc (dp (all_loc zm.Ok.loc _) hla) (dc (dp zN.loc hE) dn)))) ?_
 refine (go 2) (zw fun b2=>?_)
 refine (go 12) (zW (fun h1=>?_) fun h1=>?_)
 ·refine (go 10) (jC results14 fun w1 hM=>?_)
  have hb9:=play_many h1
  exact hM.vD ((⟨⟨none,0,[]⟩,0⟩,⟨none,0,[]⟩):yB × SlX zn) (by rw [hb9]; rfl) (by rw [hb9]; rfl) fun Pb pp=>⟨⟨zD.zu _ _ _ _,fun c hc=>(by cases hc)⟩,⟨zD.zu _ _ _ _,fun c hc=>(by cases hc)⟩⟩
 refine (go 5) (yu fun b13=>?_)
 refine (go 5) ?_
 refine yD (vJ:zn→List Value) 34 4 (zc (fun _ h=>h.all0 zn.Ok.loc) ?_)
 refine (go 12) ?_
 refine un (fun _ h=>h.vW zC 50 9 zY) (ux (fun _ h=>h.all0 zC.Ok.loc) (vO (fun (k:Nat) (x:yB) (zs:List zn) (ov:Value)=>[(0,.slice lA l.length lc),(2,.pointer (some ⟨b2,0,none⟩)),(5,.pointer (some ⟨b13,0,none⟩)),(6,ov),(15,iV l.length),(16,iV k)]) (fun (k:Nat) (x:yB) (zs:List zn) (ov:Value)=>[allP zC.Ok x.zA.l,Row (.slice x.zA.A x.zA.l.length x.zA.c) 50 9 zY x.zA.l,allP zn.Ok zs,Row ov 34 4 vJ zs,.blk b13 [.slice x.zA.A x.zA.l.length x.zA.c,iV x.zM] 93,.blk b2 [Zs,iV 0] 25,slP 7 y5 (.slice lA l.length lc) l,allP zm.Ok l,.pub zN]) (fun (k:Nat) (x:yB) (zs:List zn) (ov:Value)=>k≤l.length∧(∀ y ∈ zs,zn.Wf y)∧Bs.run Bs.zero ((l.take k).map zm.e)=(x.e,zs.map zn.e)∧zs.length=k) (fun (k:Nat) (x:yB) (zs:List zn) (ov:Value)=>l.length - k) 0 (⟨⟨none,0,[]⟩,0⟩:yB) [] (Zs) (sc rfl (sc rfl (sc rfl (sc rfl (sc rfl (sc (ji qO) sn)))))) (fun _ h=>h) ?_ (fun k x zs ov hI1=>?_)))
 ·exact ⟨Nat.zero_le _,fun x hx=>(by cases hx),rfl,rfl⟩
 have hwz:=hI1.2.1
 have hzl:=hI1.2.2.2
 refine yW 3 (l:=zs) rfl fun A1 cp1 hv1 hc1 hm1 hA1=>?_
 subst hv1
 refine (go 6) (zW (fun h2=>?_) fun h2=>?_)
 ·refine (go 15) ?_
  obtain ⟨ad1,s1,hd1,hs1⟩:=elx hlA k
  refine (go 1) ?_
  have hiv1:Bs.Inv x.e 120:=inv_at hI1.2.2.1 qO
  refine zc (fun _ h=>h.celAt 6 rfl hd1 hs1) ?_
  have hw1:=hwl _ (List.mem_of_getElem? hs1)
  refine zc (fun _ h=>h.one 8 zm.Ok.loc rfl hs1) (zc (fun _ h=>h.dup 10 rfl rfl) (zg (α:=yB × zn) [.blk b13 [.slice x.zA.A x.zA.l.length x.zA.c,iV x.zM] 93,Row (.slice x.zA.A x.zA.l.length x.zA.c) 50 9 zY x.zA.l,allP zC.Ok x.zA.l,celP (Addr.add ad1 (k * 7)) [iV s1.kind,iV s1.tier,iV s1.to,.slice s1.sr.A s1.sr.l.length s1.sr.c,iV s1.zO.time,iV s1.zO.value,.string s1.text],okP zm.Ok s1,.pub zN] [allP zn.Ok zs,Row (.slice A1 zs.length cp1) 34 4 vJ zs,.blk b2 [Zs,iV 0] 25,slP 7 y5 (.slice lA l.length lc) l,allP zm.Ok l,.pub zN] (fun z:yB × zn=>.agg (vJ z.2).toArray) (fun z1=>(z1.1.e,z1.2.e)=Bs.one x.e s1.e) (fun z1=>[okP zn.Ok z1.2,.blk b13 [.slice z1.1.zA.A z1.1.zA.l.length z1.1.zA.c,iV z1.1.zM] 93,Row (.slice z1.1.zA.A z1.1.zA.l.length z1.1.zA.c) 50 9 zY z1.1.zA.l,allP zC.Ok z1.1.zA.l,celP (Addr.add ad1 (k * 7)) [iV s1.kind,iV s1.tier,iV s1.to,.slice s1.sr.A s1.sr.l.length s1.sr.c,iV s1.zO.time,iV s1.zO.value,.string s1.text],okP zm.Ok s1,.pub zN]) _ (fun _=>rfl) (S9 [7,4,3,2,1,0,5,6,8,9,10,11]) (fun _=>rfl) wn rfl rfl call37 rfl (fun w1 Pb hG=>c_bdo b13 x (Addr.add ad1 (k * 7)) s1 Pb w1 hG hiv1) fun z1 hz1=>yn 0 rfl (fun S w h=>zn.Ok.wf h) fun hw2=>zy vJ ([z1.2]:List zn) wn underlying26 inf34 rfl rfl rfl rfl qD qD rfl fun b25=>yH 9 zs ([z1.2]:List zn) encAnsX wn rfl rfl rfl (fun _ hM=>(RowSl encAnsX hM 0 rfl)) underlying26 inf34 rfl rfl (by simp only [qL]; omega) rfl fun A2 cp2 hc2 hm2 hA2=>zc (fun _ h=>h.allSnoc 8 1 zn.Ok.loc rfl rfl) ?_))
  have hw3:∀ x ∈ (zs++([z1.2]:List zn)),zn.Wf x:=fun x hx=>(List.mem_append.1 hx).elim (hwz x) fun h=>by rw [List.mem_singleton.1 h]; exact hw2
  refine (go 7) ?_
  refine zT (yb (k + 1) z1.1 (zs++([z1.2]:List zn)) (.slice A2 ((zs++([z1.2]:List zn)).length) cp2) (sc rfl (sc rfl (sc rfl (sc rfl (sc rfl (sc (ji qO) sn)))))) (S9 [5,4,0,10,3,11,12,13,8]) ?_ ?_)
  ·exact ⟨by omega,hw3,play_next hs1 hI1.2.2.1 hz1,by rw [List.length_append,List.length_singleton]; omega⟩
  omega
 refine (go 18) (jC results14 fun w1 hM=>?_)
 have hb9:=play_end hI1.2.2.1 qO qO
 have hM:=hM.zo encShelfX (i:=1) rfl rfl
 have hM:=hM.zo encAnsX (i:=3) rfl rfl
 exact hM.vD ((x,⟨A1,cp1,zs⟩):yB × SlX zn) (by rw [hb9]; first | done | rfl) (by rw [hb9]) fun Pb pp=>⟨⟨pp.sl 1 rfl,pp.at_ 0 _ rfl⟩,⟨pp.sl 3 rfl,pp.at_ 2 _ rfl⟩⟩
end
section
open _root_.Go.Proofs.Tryz
open Ex
attribute [local irreducible] WC WL WQ WE WS
set_option linter.unusedVariables false
set_option linter.unusedSimpArgs false
theorem c_tadd (h:ByteArray) (t:Int) (v:Int) (P0:Nat→Prop) (w:World) (hP0:∀ b,P0 b→b < w.heap.size)  :
    Calls prog 27 #[.string h,iV t,iV v] w (RetE w P0 (fun z:zm=>.agg (y5 z).toArray) (fun z=>z.e=Bs.addD h t v) (fun z S=>zm.Ok S z)):=by
 refine zq (N:=14) func27 (Mem.ofDatsP hP0 dn) ?_
 refine (go 2) (zw fun b6=>?_)
 refine (go 6) ?_
 refine zy zS ([(⟨⟨#[104,111,115,116]⟩,h⟩:Label)]:List Label) wn underlying39 inf74 rfl rfl rfl rfl qD qD rfl fun b9=>?_
 refine (go 8) (zX results27 fun w1 hM=>?_)
 have hM:=hM.zo encLabel (i:=0) rfl rfl
 exact hM.vD (zm.mk 1 0 0 ⟨(some ⟨b9,0,none⟩),1,([(⟨⟨#[104,111,115,116]⟩,h⟩:Label)]:List Label)⟩ ⟨t,v⟩ ⟨#[]⟩) rfl rfl fun Pb pp=>⟨pp.sl 0 rfl⟩
theorem c_troll (t:Int) (P0:Nat→Prop) (w:World) (hP0:∀ b,P0 b→b < w.heap.size)  :
    Calls prog 28 #[iV t] w (RetE w P0 (fun z:zm=>.agg (y5 z).toArray) (fun z=>z.e=Bs.rollD t) (fun z S=>zm.Ok S z)):=by
 refine zq (N:=5) func28 (Mem.ofDatsP hP0 dn) ?_
 refine (go 2) (zw fun b2=>?_)
 refine (go 10) (zX results28 fun w1 hM=>?_)
 exact hM.vD (zm.mk 2 0 t ⟨none,0,[]⟩ ⟨0,0⟩ ⟨#[]⟩) rfl rfl fun Pb pp=>⟨zD.zu _ _ _ _⟩
theorem c_task (s:ByteArray) (t:Int) (P0:Nat→Prop) (w:World) (hP0:∀ b,P0 b→b < w.heap.size)  :
    Calls prog 31 #[.string s,iV t] w (RetE w P0 (fun z:zm=>.agg (y5 z).toArray) (fun z=>z.e=Bs.askD s t) (fun z S=>zm.Ok S z)):=by
 refine zq (N:=8) func31 (Mem.ofDatsP hP0 dn) ?_
 refine (go 2) (zw fun b4=>?_)
 refine (go 11) (zX results31 fun w1 hM=>?_)
 exact hM.vD (zm.mk 4 0 t ⟨none,0,[]⟩ ⟨0,0⟩ s) rfl rfl fun Pb pp=>⟨zD.zu _ _ _ _⟩
theorem c_last (lv:Value) (l:List zm) (P0:Nat→Prop) (w:World) (hP0:∀ b,P0 b→b < w.heap.size) (hl:zD P0 7 y5 lv l w) (hla:∀ x ∈ l,zm.Ok P0 x w) (hE:zN P0 w)  :
    Calls prog 26 #[lv] w (RetE w P0 (fun z:zn=>.agg (vJ z).toArray) (fun z=>z.e=Bs.last (l.map zm.e)) (fun z S=>zn.Ok S z)):=by
 have hwl:∀ x ∈ l,zm.Wf x:=fun x hx=>(hla x hx).wf
 obtain ⟨lA,lc,rfl,hlc,hlm,hlA⟩:=hl.form
 refine zq (N:=26) func26 (Mem.ofDatsP hP0 (dc (dlp hl) (dc (dp (all_loc zm.Ok.loc _) hla) (dc (dp zN.loc hE) dn)))) ?_
 refine (go 2) (zw fun b2=>?_)
 refine (go 5) ?_
 refine yY (β:=yB × SlX zn) (fun z=>.tuple #[.agg (baseXE z.1).toArray,.slice z.2.A z.2.l.length z.2.c,iV (Bs.play (l.map zm.e)).2.2]) (fun z=>(z.1.e,z.2.l.map zn.e)=((Bs.play (l.map zm.e)).1,(Bs.play (l.map zm.e)).2.1)) (fun z S w=>PlayOk z S w) (fun z=>PlayOk.loc z) wn rfl call14 rfl (fun w1 Pb hM pp=>c_play _ l Pb w1 pp.lt (pp.sl 1 rfl) (pp.at_ 2 _ rfl) (pp.at_ 3 _ rfl)) fun z1 hz1=>yn 0 rfl (fun S w h=>PlayOk.wf h) fun hw1=>zc (fun _ h=>h.playX 0 rfl) ?_
 obtain ⟨hc1,hm1,hA1⟩:=hw1.2.sl
 refine (go 4) (zw fun b3=>?_)
 refine (go 11) (yO 14 (fun h1=>?_) fun h1=>?_)
 ·refine (go 15) (zX results26 fun w1 hM=>?_)
  exact hM.vD (noX 1) rfl (Bs.last_no hz1 (.inl h1)) fun Pb pp=>noX_ok _ _ _
 refine (go 6) (zW (fun h2=>?_) fun h2=>?_)
 ·refine (go 8) (zX results26 fun w1 hM=>?_)
  exact hM.vD (noX 1) rfl (Bs.last_no hz1 (.inr h2)) fun Pb pp=>noX_ok _ _ _
 refine (go 8) ?_
 obtain ⟨ad1,s1,hd1,hs1⟩:=elx hA1 (z1.2.l.length - 1)
 refine za (yz (i:=(z1.2.l.length - 1)) rfl hd1 rfl qO qI underlying26 inf34) ?_
 refine (go 1) ?_
 have hw2:=hw1.2.all _ (List.mem_of_getElem? hs1)
 refine zc (fun _ h=>h.one 2 zn.Ok.loc rfl hs1) ?_
 refine (go 4) (zX results26 fun w1 hM=>?_)
 exact hM.vD s1 rfl (Bs.last_of hz1 h1 hs1) fun Pb pp=>pp.at_ 0 _ rfl
end
section
open _root_.Go.Proofs.Tryz
open Ex
attribute [local irreducible] WC WL WQ WE WS
set_option linter.unusedVariables false
set_option linter.unusedSimpArgs false
theorem c_talive (P0:Nat→Prop) (w:World) (hP0:∀ b,P0 b→b < w.heap.size) (hE:zN P0 w)  :
    Calls prog 25 #[] w (Ret w (.bool true)):=by
 refine zq (N:=24) func25 (Mem.ofDatsP hP0 (dc (dp zN.loc hE) dn)) ?_
 refine (go 7) ?_
 refine yY (β:=zm) (fun z=>.agg (y5 z).toArray) (fun z=>z.e=Bs.addD ⟨#[97]⟩ 5 7) (fun z S=>zm.Ok S z) (fun z=>zm.Ok.loc z) wn rfl call27 rfl (fun w1 Pb hM pp=>c_tadd ⟨#[97]⟩ 5 7 Pb w1 pp.lt) fun z1 hz1=>yn 0 rfl (fun S w h=>zm.Ok.wf h) fun hw1=>yY (β:=zm) (fun z=>.agg (y5 z).toArray) (fun z=>z.e=Bs.rollD 60) (fun z S=>zm.Ok S z) (fun z=>zm.Ok.loc z) wn rfl call28 rfl (fun w1 Pb hM pp=>c_troll 60 Pb w1 pp.lt) fun z2 hz2=>yn 0 rfl (fun S w h=>zm.Ok.wf h) fun hw2=>yY (β:=zm) (fun z=>.agg (y5 z).toArray) (fun z=>z.e=Bs.askD ⟨#[115,117,109,40,123,125,91,54,48,93,41]⟩ 60) (fun z S=>zm.Ok S z) (fun z=>zm.Ok.loc z) wn rfl call31 rfl (fun w1 Pb hM pp=>c_task ⟨#[115,117,109,40,123,125,91,54,48,93,41]⟩ 60 Pb w1 pp.lt) fun z3 hz3=>yn 0 rfl (fun S w h=>zm.Ok.wf h) fun hw3=>zy y5 ([z1,z2,z3]:List zm) wn underlying22 inf43 rfl rfl rfl rfl qD qD rfl fun b5=>zc (fun _ h=>h.all0 zm.Ok.loc) (zc (fun _ h=>h.allSnoc 0 4 zm.Ok.loc rfl rfl) (zc (fun _ h=>h.allSnoc 0 4 zm.Ok.loc rfl rfl) (zc (fun _ h=>h.allSnoc 0 4 zm.Ok.loc rfl rfl) (jP 4 encDoX rfl rfl ?_))))
 refine yY (β:=zn) (fun z=>.agg (vJ z).toArray) (fun z=>z.e=Bs.last (([z1,z2,z3]:List zm).map zm.e)) (fun z S=>zn.Ok S z) (fun z=>zn.Ok.loc z) wn rfl call26 rfl (fun w1 Pb hM pp=>c_last _ ([z1,z2,z3]:List zm) Pb w1 pp.lt (pp.sl 4 rfl) (pp.at_ 0 _ rfl) (pp.at_ 8 _ rfl)) fun z4 hz4=>yn 0 rfl (fun S w h=>zn.Ok.wf h) fun hw4=>?_
 have hal:=Bs.alive_x (hz4.trans (congrArg Bs.last (show [zm.e z1,zm.e z2,zm.e z3]=Bs.topL from by rw [hz1,hz2,hz3]; rfl)))
 refine zw fun b1=>?_
 refine (go 9) ?_
 refine l_litt (t:=10) rfl hal.1 ?_
 refine (go 6) ?_
 refine l_litt (t:=16) rfl (by have:=congrArg List.length hal.2; simp only [List.length_map,List.length_cons,List.length_nil] at this; omega) ?_
 refine (go 2) ?_
 refine zc (fun _ h=>h.ansX 1 rfl) ?_
 obtain ⟨hc1,hm1,hA1⟩:=hw4.cells
 obtain ⟨ad1,hd1⟩:=hA1 (ne_nil (i:=0) (by have:=congrArg List.length hal.2; simp only [List.length_map,List.length_cons,List.length_nil] at this; omega))
 refine y6 (yz (i:=0) rfl hd1 rfl qO (by have:=congrArg List.length hal.2; simp only [List.length_map,List.length_cons,List.length_nil] at this; omega) underlying32 inf81) ?_
 refine (go 1) ?_
 obtain ⟨s1,hs1⟩:∃ x,z4.cells.l[0]?=some x:=⟨_,List.getElem?_eq_getElem (by have:=congrArg List.length hal.2; simp only [List.length_map,List.length_cons,List.length_nil] at this; omega)⟩
 refine (go 7) (zX results25 fun w1 hM=>?_)
 exact zP (by simp [hal.1,Bs.val_x hal.2 hs1]) hM
end
section
open _root_.Go.Proofs.Tryz
open Ex
attribute [local irreducible] WC WL WQ WE WS
set_option linter.unusedVariables false
set_option linter.unusedSimpArgs false
theorem c_told (lv:Value) (l:List Sample) (P0:Nat→Prop) (w:World) (hP0:∀ b,P0 b→b < w.heap.size) (hl:zD P0 2 zQ lv l w) (hl6:l.length≤60) :
    Calls prog 30 #[lv] w (RetA w [] P0 (fun z:SlX zm=>.slice z.A z.l.length z.c) (fun z=>z.l.map zm.e=Bs.tL l) (fun z=>[Row (.slice z.A z.l.length z.c) 43 7 y5 z.l,allP zm.Ok z.l])):=by
 obtain ⟨lA,lc,rfl,hlc,hlm,hlA⟩:=hl.form
 refine zq (N:=22) func30 (Mem.ofDatsP hP0 (dc (dlp hl) dn)) ?_
 refine (go 7) ?_
 refine yD (y5:zm→List Value) 43 7 (zc (fun _ h=>h.all0 zm.Ok.loc) ?_)
 refine (go 12) ?_
 refine vb (fun (k:Nat) (gs:List zm) (gv:Value)=>[(3,gv),(6,.slice lA l.length lc),(7,iV l.length),(8,iV k)]) (fun (k:Nat) (gs:List zm) (gv:Value)=>[allP zm.Ok gs,Row gv 43 7 y5 gs,slP 2 zQ (.slice lA l.length lc) l]) (fun (k:Nat) (gs:List zm) (gv:Value)=>k≤l.length∧(∀ y ∈ gs,zm.Wf y)∧gs.map zm.e=Bs.tL (l.take k)∧gs.length≤k) (fun (k:Nat) (gs:List zm) (gv:Value)=>l.length - k) 0 [] (Zs) (sc rfl (sc rfl (sc rfl (sc (ji qO) sn)))) (fun _ h=>h) ?_ (fun k gs gv hI1=>?_)
 ·exact ⟨Nat.zero_le _,fun x hx=>(by cases hx),rfl,Nat.le_refl _⟩
 have hwg:=hI1.2.1
 have hgl:=hI1.2.2.2
 refine yW 1 (l:=gs) rfl fun A1 cp1 hv1 hc1 hm1 hA1=>?_
 subst hv1
 refine (go 6) (zW (fun h1=>?_) fun h1=>?_)
 ·refine (go 6) ?_
  obtain ⟨ad1,s1,hd1,hs1⟩:=elx hlA k
  refine (go 2) (zw fun b5=>?_)
  refine (go 9) ?_
  refine yY (β:=zm) (fun z=>.agg (y5 z).toArray) (fun z=>z.e=Bs.addD ⟨#[97]⟩ s1.time s1.value) (fun z S=>zm.Ok S z) (fun z=>zm.Ok.loc z) wn rfl call27 rfl (fun w1 Pb hM pp=>c_tadd ⟨#[97]⟩ s1.time s1.value Pb w1 pp.lt) fun z1 hz1=>yn 0 rfl (fun S w h=>zm.Ok.wf h) fun hw1=>zy y5 ([z1]:List zm) wn underlying22 inf43 rfl rfl rfl rfl qD qD rfl fun b18=>yH 4 gs ([z1]:List zm) encDoX wn rfl rfl rfl (fun _ hM=>(RowSl encDoX hM 0 rfl)) underlying22 inf43 rfl rfl (by simp only [qL]; omega) rfl fun A2 cp2 hc2 hm2 hA2=>zc (fun _ h=>h.allSnoc 3 1 zm.Ok.loc rfl rfl) ?_
  have hw2:∀ x ∈ (gs++([z1]:List zm)),zm.Wf x:=fun x hx=>(List.mem_append.1 hx).elim (hwg x) fun h=>by rw [List.mem_singleton.1 h]; exact hw1
  refine (go 7) ?_
  refine zT (yG (k + 1) (gs++([z1]:List zm)) (.slice A2 ((gs++([z1]:List zm)).length) cp2) (sc rfl (sc rfl (sc rfl (sc (ji qO) sn)))) (S9 [0,5,6]) ?_ ?_)
  ·exact ⟨by omega,hw2,Bs.tL_at hs1 hI1.2.2.1 hz1,by rw [List.length_append,List.length_singleton]; omega⟩
  omega
 refine (go 12) (zX results30 fun w1 hM=>?_)
 exact hM.retR (⟨A1,cp1,gs⟩:SlX zm) rfl (Bs.tL_all hI1.2.2.1 qO) (fun h=>h.sel [1,0] qD rfl)
theorem c_small (lv:Value) (l:List Sample) (w:World) (hl:zD (In w) 2 zQ lv l w)  :
    Calls prog 29 #[lv] w (Ret w (.bool (decide (Bs.smallB l=true)))):=by
 obtain ⟨lA,lc,rfl,hlc,hlm,hlA⟩:=hl.form
 refine zq (N:=27) func29 (Mem.ofDats (dc (dl hl) dn)) ?_
 refine (go 8) ?_
 refine yF call43 wn rfl (fun w1 hM=>vS _ l w1 (hM.sl 0 rfl)) (za (r_fieldv rfl fld61_0 fty61_0 flat27 rfl) ?_)
 refine (go 2) (yO 7 (fun h1=>?_) fun h1=>?_)
 ·refine (go 5) (yO 12 (fun h2=>?_) fun h2=>?_)
  ·refine (go 4) (yO 16 (fun h3=>?_) fun h3=>?_)
   ·refine (go 14) (zX results29 fun w1 hM=>?_)
    have e9:l=[]:=List.eq_nil_of_length_eq_zero qO
    exact zP (congrArg Value.bool (by rw [Bool.decide_eq_true]; unfold Bs.smallB; subst e9; simp [h1,h2])) hM
   refine (go 4) ?_
   obtain ⟨ad1,s1,hd1,hs1⟩:=elx hlA (l.length - 1)
   refine y6 (yz (i:=(l.length - 1)) rfl hd1 rfl qO qI underlying47 inf41) ?_
   refine (go 9) (zX results29 fun w1 hM=>?_)
   exact zP (congrArg Value.bool (by rw [Bool.decide_eq_true]; unfold Bs.smallB; rw [hs1]; simp [h1,h2,h3]; try omega)) hM
  refine (go 18) (zX results29 fun w1 hM=>?_)
  exact zP (congrArg Value.bool (by rw [Bool.decide_eq_true]; unfold Bs.smallB; simp [h1,h2]; try omega)) hM
 refine (go 23) (zX results29 fun w1 hM=>?_)
 exact zP (congrArg Value.bool (by rw [Bool.decide_eq_true]; unfold Bs.smallB; simp [h1]; try omega)) hM
end
section
open _root_.Go.Proofs.Tryz
open Ex
attribute [local irreducible] WC WL WQ WE WS
set_option linter.unusedVariables false
set_option linter.unusedSimpArgs false
set_option maxHeartbeats 1000000 in
theorem law_TopWords (lv:Value) (l:List Sample) (a:Int) (b:Int) (P0:Nat→Prop) (w:World) (hP0:∀ b,P0 b→b < w.heap.size) (hl:zD P0 2 zQ lv l w) (hE:zN P0 w) (hT:Tab P0 w)  :
    Calls prog 13 #[lv,iV a,iV b] w (Ret w (.bool true)):=by
 obtain ⟨lA,lc,rfl,hlc,hlm,hlA⟩:=hl.form
 refine zq (N:=130) func13 (Mem.ofDatsP hP0 (dc (dlp hl) (dc (dp zN.loc hE) (dc (dp Tab.loc hT) dn)))) ?_
 refine (go 8) ?_
 refine yF call25 wn rfl (fun w1 hM=>c_talive (In w1) w1 (fun _ h=>h) (hM.yS (i:=1) rfl)) (za (yE rfl) ?_)
 refine (go 9) ?_
 refine yF call29 wn rfl (fun w1 hM=>c_small _ l w1 (hM.slp 0 rfl)) ?_
 refine (go 2) (yO 26 (fun h1=>?_) fun h1=>?_)
 ·refine (go 22) (zX results13 fun w1 hM=>?_)
  exact zP rfl hM
 have hs9:=Bs.small_of (by simpa using h1)
 have hs6:=hs9.1.2
 refine (go 4) (yO 30 (fun h2=>?_) fun h2=>?_)
 ·refine (go 18) (zX results13 fun w1 hM=>?_)
  exact zP rfl hM
 refine (go 5) (yO 35 (fun h3=>?_) fun h3=>?_)
 ·refine (go 13) (zX results13 fun w1 hM=>?_)
  exact zP rfl hM
 refine (go 5) (zW (fun h4=>?_) fun h4=>?_)
 ·refine (go 7) (zX results13 fun w1 hM=>?_)
  exact zP rfl hM
 refine (go 14) ?_
 refine yD (zQ:Sample→List Value) 41 2 ?_
 refine (go 12) ?_
 refine vb (fun (k:Nat) (ins:List Sample) (iv:Value)=>[(0,.slice lA l.length lc),(7,iV (a * 60)),(8,iV (b * 60)),(9,iv),(43,.slice lA l.length lc),(44,iV l.length),(45,iV k)]) (fun (k:Nat) (ins:List Sample) (iv:Value)=>[Row iv 41 2 zQ ins,slP 2 zQ (.slice lA l.length lc) l,.pub zN,.pub Tab]) (fun (k:Nat) (ins:List Sample) (iv:Value)=>k≤l.length∧ins=Roll.inT (l.take k) (a * 60) (b * 60)∧ins.length≤k) (fun (k:Nat) (ins:List Sample) (iv:Value)=>l.length - k) 0 [] (Zs) (sc rfl (sc rfl (sc rfl (sc rfl (sc rfl (sc rfl (sc (ji qO) sn))))))) (fun _ h=>h) ?_ (fun k ins iv hI1=>?_)
 ·exact ⟨Nat.zero_le _,rfl,Nat.le_refl _⟩
 have hil:=hI1.2.2
 refine yW 0 (l:=ins) rfl fun A1 cp1 hv1 hc1 hm1 hA1=>?_
 subst hv1
 refine (go 6) (zW (fun h5=>?_) fun h5=>?_)
 ·refine (go 6) ?_
  obtain ⟨ad1,hd1⟩:=hlA (ne_nil (i:=k) (by first | omega | (simp <;> omega) | (have:=(hv9 (by assumption)).1; omega)))
  refine za (yz (i:=k) rfl hd1 rfl qO (by first | omega | (simp <;> omega) | (have:=(hv9 (by assumption)).1; omega)) underlying47 inf41) ?_
  obtain ⟨s1,hs1⟩:∃ x,l[k]?=some x:=⟨_,List.getElem?_eq_getElem (by first | omega | (simp <;> omega) | (have:=(hv9 (by assumption)).1; omega))⟩
  refine (go 1) (zw fun b11=>?_)
  refine (go 10) (yO 53 (fun h6=>?_) fun h6=>?_)
  ·refine (go 7) (zW (fun h7=>?_) fun h7=>?_)
   ·refine (go 3) ?_
    refine zy zQ ([s1]:List Sample) wn underlying47 inf41 rfl rfl rfl rfl qD qD rfl fun b61=>yH 2 ins ([s1]:List Sample) encSample wn rfl rfl rfl (fun _ hM=>(RowSl encSample hM 0 rfl)) underlying47 inf41 rfl rfl (by simp only [qL]; omega) rfl fun A2 cp2 hc2 hm2 hA2=>?_
    refine (go 7) ?_
    refine zT (yG (k + 1) (ins++([s1]:List Sample)) (.slice A2 ((ins++([s1]:List Sample)).length) cp2) (sc rfl (sc rfl (sc rfl (sc rfl (sc rfl (sc rfl (sc (ji qO) sn))))))) (S9 [2,3,4,5]) ?_ ?_)
    ·exact ⟨by omega,by rw [hI1.2.1]; exact Bs.inT_next hs1 qO,by rw [List.length_append,List.length_singleton]; omega⟩
    omega
   refine (go 6) ?_
   refine zT (yG (k + 1) ins (.slice A1 ins.length cp1) (sc rfl (sc rfl (sc rfl (sc rfl (sc rfl (sc rfl (sc (ji qO) sn))))))) (S9 [1,2,3,4]) ?_ ?_)
   ·exact ⟨by omega,hI1.2.1.trans (Bs.inT_skip hs1 qO),by omega⟩
   omega
  refine (go 14) ?_
  refine zT (yG (k + 1) ins (.slice A1 ins.length cp1) (sc rfl (sc rfl (sc rfl (sc rfl (sc rfl (sc rfl (sc (ji qO) sn))))))) (S9 [1,2,3,4]) ?_ ?_)
  ·exact ⟨by omega,hI1.2.1.trans (Bs.inT_skip hs1 qO),by omega⟩
  omega
 refine (go 8) ?_
 refine l_callRA (fun z:SlX zm=>.slice z.A z.l.length z.c) (fun z=>z.l.map zm.e=Bs.tL l) (fun z=>[Row (.slice z.A z.l.length z.c) 43 7 y5 z.l,allP zm.Ok z.l]) (fun _=>rfl) wn rfl call30 rfl (fun w1 Pb hM pp=>c_told _ l Pb w1 pp.lt (pp.sl 1 rfl) hs9.1.2) fun z1 hz1=>l_rowz 0 rfl fun hw1=>?_
 obtain ⟨hc3,hm3,hA3⟩:=hw1
 have hz9:z1.l.length=l.length:=by have:=congrArg List.length hz1; simpa [Bs.tL] using this
 refine yn 1 rfl (fun S w h x hx=>zm.Ok.wf (h x hx)) fun hw2=>yY (β:=zm) (fun z=>.agg (y5 z).toArray) (fun z=>z.e=Bs.rollD 6000) (fun z S=>zm.Ok S z) (fun z=>zm.Ok.loc z) wn rfl call28 rfl (fun w1 Pb hM pp=>c_troll 6000 Pb w1 pp.lt) fun z2 hz2=>yn 0 rfl (fun S w h=>zm.Ok.wf h) fun hw3=>?_
 refine (go 1) ?_
 refine zy y5 ([z2,(zm.mk 3 0 6000 ⟨none,0,[]⟩ ⟨0,0⟩ ⟨#[]⟩)]:List zm) wn underlying22 inf43 rfl rfl rfl rfl qD qD rfl fun b68=>yH 2 z1.l ([z2,(zm.mk 3 0 6000 ⟨none,0,[]⟩ ⟨0,0⟩ ⟨#[]⟩)]:List zm) encDoX wn rfl rfl rfl (fun _ hM=>(RowSl encDoX hM 0 rfl)) underlying22 inf43 rfl rfl (by simp only [qL]; omega) rfl fun A3 cp3 hc4 hm4 hA4=>zc (fun _ h=>h.all0 zm.Ok.loc) (zc (fun _ h=>h.allSnoc 0 2 zm.Ok.loc rfl rfl) (zc (fun _ h=>h.yX (zm.Ok.loc (zm.mk 3 0 6000 ⟨none,0,[]⟩ ⟨0,0⟩ ⟨#[]⟩)) fun Pb pp=>⟨zD.zu _ _ _ _⟩) (yn 0 rfl (fun S w h=>zm.Ok.wf h) fun hw4=>zc (fun _ h=>h.allSnoc 1 0 zm.Ok.loc rfl rfl) (zc (fun _ h=>h.allApp 7 0 zm.Ok.loc rfl rfl) ?_))))
 have hw6:∀ x ∈ ([z2,(zm.mk 3 0 6000 ⟨none,0,[]⟩ ⟨0,0⟩ ⟨#[]⟩)]:List zm),zm.Wf x:=(fun x hx=>by simp only [List.mem_cons,List.not_mem_nil,or_false] at hx; rcases hx with rfl | rfl <;> first | exact hw3 | exact hw4)
 have hw5:∀ x ∈ (z1.l++([z2,(zm.mk 3 0 6000 ⟨none,0,[]⟩ ⟨0,0⟩ ⟨#[]⟩)]:List zm)),zm.Wf x:=fun x hx=>(List.mem_append.1 hx).elim (hw2 x) (hw6 x)
 refine (go 6) ?_
 refine vP Agg.words wn rfl call33 rfl (fun w1 hM=>jD  w1) fun A4 cp4 hc5 hm5 hA5=>?_
 refine (go 5) ?_
 refine yJ (fun (q:Nat)=>[(7,iV (a * 60)),(8,iV (b * 60)),(9,.slice A1 ins.length cp1),(12,.slice A3 ((z1.l++([z2,(zm.mk 3 0 6000 ⟨none,0,[]⟩ ⟨0,0⟩ ⟨#[]⟩)]:List zm)).length) cp3),(70,.slice A4 Agg.words.length cp4),(71,iV Agg.words.length),(72,iV q)]) (fun (q:Nat)=>[Row (.slice A4 Agg.words.length cp4) 9 1 strE Agg.words,allP zm.Ok (z1.l++([z2,(zm.mk 3 0 6000 ⟨none,0,[]⟩ ⟨0,0⟩ ⟨#[]⟩)]:List zm)),allP zm.Ok ([z2,(zm.mk 3 0 6000 ⟨none,0,[]⟩ ⟨0,0⟩ ⟨#[]⟩)]:List zm),okP zm.Ok (zm.mk 3 0 6000 ⟨none,0,[]⟩ ⟨0,0⟩ ⟨#[]⟩),allP zm.Ok (([]:List zm)++[z2]),allP zm.Ok ([]:List zm),Row (.slice (some ⟨b68,0,none⟩) 2 2) 43 7 y5 ([z2,(zm.mk 3 0 6000 ⟨none,0,[]⟩ ⟨0,0⟩ ⟨#[]⟩)]:List zm),okP zm.Ok z2,Row (.slice A3 ((z1.l++([z2,(zm.mk 3 0 6000 ⟨none,0,[]⟩ ⟨0,0⟩ ⟨#[]⟩)]:List zm)).length) cp3) 43 7 y5 (z1.l++([z2,(zm.mk 3 0 6000 ⟨none,0,[]⟩ ⟨0,0⟩ ⟨#[]⟩)]:List zm)),allP zm.Ok z1.l,Row (.slice A1 ins.length cp1) 41 2 zQ ins,slP 2 zQ (.slice lA l.length lc) l,.pub zN,.pub Tab]) (fun (q:Nat)=>q≤Agg.words.length) (fun (q:Nat)=>Agg.words.length - q) 0 (sc rfl (sc rfl (sc rfl (sc rfl (sc rfl (sc rfl (sc (ji qO) sn))))))) (fun _ h=>h) ?_ (fun q hI2=>?_)
 ·exact Nat.zero_le _
 refine (go 6) (zW (fun h8=>?_) fun h8=>?_)
 ·refine (go 6) ?_
  obtain ⟨ad2,hd2⟩:=hA5 (ne_nil (i:=q) (by first | omega | (simp <;> omega) | (have:=(hv9 (by assumption)).1; omega)))
  refine za (yz (i:=q) rfl hd2 rfl qO (by first | omega | (simp <;> omega) | (have:=(hv9 (by assumption)).1; omega)) underlying56 inf9) ?_
  obtain ⟨s2,hs2⟩:∃ x,Agg.words[q]?=some x:=⟨_,List.getElem?_eq_getElem (by first | omega | (simp <;> omega) | (have:=(hv9 (by assumption)).1; omega))⟩
  have hz9:=Bs.word_size (List.mem_of_getElem? hs2)
  refine za (uE 0 encString rfl rfl hd2 hs2 rfl flat9) ?_
  refine (go 10) (zw fun b15=>?_)
  refine (go 6) ?_
  refine zc (fun _ h=>h.okAny (ok:=zB.Ok) (x:=(zB.mk 2 0 ((b * 60) - (a * 60)) s2 ⟨none,0,[]⟩ ⟨none,0,[]⟩ ⟨none,0,[]⟩)) zB.Ok.loc (litX_ok 2 0 ((b * 60) - (a * 60)) (by first | decide | omega | assumption))) (yn 0 rfl (fun S w h=>zB.Ok.wf h) fun hw7=>yF call34 wn rfl (fun w1 hM=>c_print (zB.mk 2 0 ((b * 60) - (a * 60)) s2 ⟨none,0,[]⟩ ⟨none,0,[]⟩ ⟨none,0,[]⟩) (In w1) w1 (fun _ h=>h) (hM.yS (i:=0) rfl) (hM.yS (i:=15) rfl)) ?_)
  refine (go 9) ?_
  refine u6 y5 wn underlying22 inf43 rfl fun b86=>?_
  refine (go 1) ?_
  refine yH 0 ([]:List zm) (z1.l++([z2,(zm.mk 3 0 6000 ⟨none,0,[]⟩ ⟨0,0⟩ ⟨#[]⟩)]:List zm)) encDoX wn rfl rfl rfl (fun _ hM=>(RowSl encDoX hM 11 rfl)) underlying22 inf43 rfl rfl (by simp only [qL]; omega) rfl fun A5 cp5 hc6 hm6 hA6=>zc (fun _ h=>h.allApp 8 4 zm.Ok.loc rfl rfl) ?_
  have hw9:∀ x ∈ (z1.l++([z2,(zm.mk 3 0 6000 ⟨none,0,[]⟩ ⟨0,0⟩ ⟨#[]⟩)]:List zm)),zm.Wf x:=hw5
  have hw8:∀ x ∈ (([]:List zm)++(z1.l++([z2,(zm.mk 3 0 6000 ⟨none,0,[]⟩ ⟨0,0⟩ ⟨#[]⟩)]:List zm))),zm.Wf x:=fun x hx=>(List.mem_append.1 hx).elim ((fun x hx=>by cases hx) x) (hw9 x)
  refine (go 2) ?_
  refine yY (β:=zm) (fun z=>.agg (y5 z).toArray) (fun z=>z.e=Bs.askD (⟨(Lg.print (zB.mk 2 0 ((b * 60) - (a * 60)) s2 ⟨none,0,[]⟩ ⟨none,0,[]⟩ ⟨none,0,[]⟩).e).1.toArray⟩:ByteArray) (b * 60)) (fun z S=>zm.Ok S z) (fun z=>zm.Ok.loc z) wn rfl call31 rfl (fun w1 Pb hM pp=>c_task (⟨(Lg.print (zB.mk 2 0 ((b * 60) - (a * 60)) s2 ⟨none,0,[]⟩ ⟨none,0,[]⟩ ⟨none,0,[]⟩).e).1.toArray⟩:ByteArray) (b * 60) Pb w1 pp.lt) fun z3 hz3=>yn 0 rfl (fun S w h=>zm.Ok.wf h) fun hw10=>zy y5 ([z3]:List zm) wn underlying22 inf43 rfl rfl rfl rfl qD qD rfl fun b92=>yH 3 (([]:List zm)++(z1.l++([z2,(zm.mk 3 0 6000 ⟨none,0,[]⟩ ⟨0,0⟩ ⟨#[]⟩)]:List zm))) ([z3]:List zm) encDoX wn rfl rfl rfl (fun _ hM=>(RowSl encDoX hM 0 rfl)) underlying22 inf43 rfl rfl (by simp only [qL]; omega) rfl fun A6 cp6 hc7 hm7 hA7=>zc (fun _ h=>h.allSnoc 2 1 zm.Ok.loc rfl rfl) ?_
  have hw11:∀ x ∈ ((([]:List zm)++(z1.l++([z2,(zm.mk 3 0 6000 ⟨none,0,[]⟩ ⟨0,0⟩ ⟨#[]⟩)]:List zm)))++([z3]:List zm)),zm.Wf x:=fun x hx=>(List.mem_append.1 hx).elim (hw8 x) fun h=>by rw [List.mem_singleton.1 h]; exact hw10
  refine jP 4 encDoX rfl rfl (yY (β:=zn) (fun z=>.agg (vJ z).toArray) (fun z=>z.e=Bs.last (((([]:List zm)++(z1.l++([z2,(zm.mk 3 0 6000 ⟨none,0,[]⟩ ⟨0,0⟩ ⟨#[]⟩)]:List zm)))++([z3]:List zm)).map zm.e)) (fun z S=>zn.Ok S z) (fun z=>zn.Ok.loc z) wn rfl call26 rfl (fun w1 Pb hM pp=>c_last _ ((([]:List zm)++(z1.l++([z2,(zm.mk 3 0 6000 ⟨none,0,[]⟩ ⟨0,0⟩ ⟨#[]⟩)]:List zm)))++([z3]:List zm)) Pb w1 pp.lt (pp.sl 4 rfl) (pp.at_ 0 _ rfl) (pp.at_ 19 _ rfl)) fun z4 hz4=>yn 0 rfl (fun S w h=>zn.Ok.wf h) fun hw12=>?_)
  have hx9:z4.e=Bs.last (Bs.tL l++([Bs.rollD 6000,Bs.forgetD 0 6000]++[Bs.askD (Bs.winT s2 (b * 60 - a * 60)) (b * 60)])):=hz4.trans (congrArg Bs.last (by simp only [List.map_append,List.map_cons,List.map_nil,List.nil_append,List.append_assoc,hz1,hz2,hz3]; rfl))
  have hi9:ins=Roll.inT l (a * 60) (b * 60):=by have h9:=hI1.2.1; rwa [List.take_of_length_le qO] at h9
  have hm9:=List.mem_of_getElem? hs2
  have hp9:=(Bs.words_is (l:=l) (a:=a) (b:=b) hm9 hs9.1 qO qO qO).1
  obtain ⟨he9,hv9,hw9⟩:=Bs.words_x (l:=l) (a:=a) (b:=b) hm9 hs9.1 qO qO qO hx9
  rw [← hi9] at hv9 hw9
  refine zw fun b18=>?_
  refine (go 7) ?_
  refine yF call36 wn rfl (fun w1 hM=>c_Of _ ins w1 (RowSl encSample hM 19 rfl)) (yF call35 wn rfl (fun w1 hM=>c_Value s2 (Agg.of ins) w1) ?_)
  refine (go 12) ?_
  refine jN (t:=104) rfl (fun g=>g hp9) ?_
  refine (go 5) ?_
  refine jN (t:=109) rfl (fun g=>g he9) ?_
  refine (go 5) ?_
  refine y6 (r_bneq rfl rfl flat4 underlying4) ?_
  refine (go 2) ?_
  refine jN (t:=117) rfl (fun g=>g (by (by_cases hv:(Agg.value s2 (Agg.of ins)).2=true; (simp [hv,(hv9 hv).1]); (simp [hv,hw9 hv])))) ?_
  refine (go 2) (jB 119 (fun h9=>?_) fun h9=>?_)
  ·refine (go 2) ?_
   refine zc (fun _ h=>h.ansX 1 rfl) ?_
   obtain ⟨hc8,hm8,hA8⟩:=hw12.cells
   obtain ⟨ad3,hd3⟩:=hA8 (ne_nil (i:=0) (by first | omega | (simp <;> omega) | (have:=(hv9 (by assumption)).1; omega)))
   refine y6 (yz (i:=0) rfl hd3 rfl qO (by first | omega | (simp <;> omega) | (have:=(hv9 (by assumption)).1; omega)) underlying32 inf81) ?_
   refine (go 1) ?_
   obtain ⟨s3,hs3⟩:∃ x,z4.cells.l[0]?=some x:=⟨_,List.getElem?_eq_getElem (by first | omega | (simp <;> omega) | (have:=(hv9 (by assumption)).1; omega))⟩
   refine (go 7) ?_
   refine yU rfl (decide_eq_false (fun g=>g ((hv9 h9).2 _ hs3))) ?_
   refine (go 6) ?_
   refine zT (zj (q + 1) (sc rfl (sc rfl (sc rfl (sc rfl (sc rfl (sc rfl (sc (ji qO) sn))))))) (S9 [11,12,13,14,15,16,17,18,19,20,21,22,23,24]) ?_ ?_)
   ·omega
   omega
  refine (go 18) ?_
  refine zT (zj (q + 1) (sc rfl (sc rfl (sc rfl (sc rfl (sc rfl (sc rfl (sc (ji qO) sn))))))) (S9 [9,10,11,12,13,14,15,16,17,18,19,20,21,22]) ?_ ?_)
  ·omega
  omega
 refine (go 11) (zX results13 fun w1 hM=>?_)
 exact zP rfl hM
end
section
open Go.ChangeShapes Go.WideShapes Go.ChangeAt Go.RowKit
namespace Ex
theorem Tryz.own_:ownKnob Tryz.prog.godebug=none:=by kernel_rfl
theorem Tryz.laid_:laidOutB Tryz.prog=true:=by kernel_rfl
section
variable {H:Type} {enc:TypeId × Value→H} {P:Program}
theorem trodAll_stays (hl:laidOutB P=true) {W W':World} {sp':Nat→Bool} (hsame:Fr no W W'):∀ {ts:List TypeId} {vs:List Value} {ds:List (DataW H)} {ps:List MemPlace},(∀ t ∈ ts,P.readableRec t=true∧t < P.types.size) →
    DataW.TrodAll enc P W 0 (fun _=>true) true ts vs ds ps→(∀ p ∈ ps,p.block < W.heap.size)→(∀ p ∈ ps,sp' p.block=true)→DataW.TrodAll enc P W' 0 sp' true ts vs ds ps
  | [],[],[],_,_,h,_,_=>h
  | t :: ts, v :: vs, d :: ds, _, hr, ⟨p, q, h1, h2, e⟩, hlt, hs =>
    ⟨p,q,WideElems.Trod_stays hl (hr t (List.mem_cons_self ..)).1 (hr t (List.mem_cons_self ..)).2 h1 (fun x hx=>(Fr.below hsame).same (hlt x (by rw [e]; exact List.mem_append_left _ hx))) (fun x hx=>hs x (by rw [e]; exact List.mem_append_left _ hx)),
      trodAll_stays hl hsame (fun t ht=>hr t (List.mem_cons_of_mem _ ht)) h2 (fun x hx=>hlt x (by rw [e]; exact List.mem_append_right _ hx)) (fun x hx=>hs x (by rw [e]; exact List.mem_append_right _ hx)),e⟩
theorem post_true {f:Func} {s:ChangeSpec} {W W':World} {args:Array Value} {ds gs:List (DataW H)} {before:List MemPlace} {bt:TypeId} (hl:laidOutB P=true) (hr:∀ t ∈ f.params.toList,P.readableRec t=true∧t < P.types.size)
    (hres:f.resultTypes=#[bt]) (hb:P.underlying bt=some .bool) (hvars:s.vars=[]) (hW:DataW.Whole enc P f.params.toList s.vars false W args.toList ds gs before)
    (hs:∀ ds:List (DataW H),ds.length=f.params.size→(s.fn H ds).results=[.lit (.bool true)]∧(s.fn H ds).args=ds∧(s.fn H ds).vars=[]) (hf:Fr no W W') :
    s.post enc P f false true false false W args (.bool true) W':=by
  have hlt:=hW.lt
  have hW0:=hW
  obtain ⟨p,q,hA,hV,rfl,hfz,hnd⟩:=hW
  rw [hvars] at hV
  obtain ⟨rfl,rfl⟩:=trodVars_none hV
  have hlen:∀ {ts:List TypeId} {vs:List Value} {ds:List (DataW H)} {ps:List MemPlace},DataW.TrodAll enc P W 0 (fun _=>true) true ts vs ds ps→ds.length=ts.length:=by
    intro ts
    induction ts with
    | nil=>intro vs ds ps h; cases vs <;> cases ds <;> simp_all [DataW.TrodAll]
    | cons t ts ih =>
      intro vs ds ps h
      cases vs <;> cases ds <;> try (simp [DataW.TrodAll] at h; done)
      obtain ⟨_,_,_,h2,_⟩:=h
      simp [ih h2]
  obtain ⟨e1,e2,e3⟩:=hs ds (by rw [hlen hA]; simp)
  refine ⟨ds,[],_,[],p,[],hW0,?_,?_,?_,?_,fun h=>by cases h⟩
  · rw [List.append_nil,e1,hres]
    exact trodAll_mk1 (shut_bool hb true)
  · rw [List.append_nil,e2]
    exact trodAll_stays hl hf hr hA (fun x hx=>hlt x (by simpa using hx)) (fun x hx=>by simpa using hlt x (by simpa using hx))
  · rw [List.append_nil,e3,hvars]
    exact rfl
  · exact (Fr.below hf).frame _
end
def ok64 (n:Int):Prop:=-9223372036854775808≤n∧n≤9223372036854775807
theorem ok64_wf {n:Int} (h:(Lit.int .i64 n).wf=true):ok64 n:=by
  simpa [Lit.wf,IntKind.min,IntKind.max,IntKind.signed,IntKind.bits,ok64] using h
def RdF (P:Program) (t:TypeId) {α:Type} (e:α→List Value) (ok:α→Prop):Prop :=
  ∀ {H:Type} (enc:TypeId × Value→H) (w:World) (base:Nat) (sp:Nat→Bool) (held:Bool) (fuel:Nat) (cs:List Value) (x:DataW H × List MemPlace),
    DataW.trod enc P w base sp held fuel t cs=some x→∃ a,cs=e a∧ok a
theorem rd_int {P:Program} {t:TypeId} (h:P.underlying t=some (.int .i64)):RdF P t intE ok64:=fun _ _ _ _ _ _ _ _ hx=>by
  obtain ⟨n,e,_,hw⟩:=DataW.trod_int h hx
  exact ⟨n,e,ok64_wf hw⟩
theorem st_fld {H:Type} {enc:TypeId × Value→H} {P:Program} {w:World} {base:Nat} {sp:Nat→Bool} {held:Bool} {fuel:Nat} {t:TypeId} {cs:List Value} {x:DataW H × List MemPlace} {fs:Array Field} (ht:P.underlying t=some (.struct fs))
    (h:DataW.trod enc P w base sp held fuel t cs=some x):cs.length=P.cellsOf t∧∃ n,∀ (j:Nat) (f:Field),fs[j]?=some f→∃ y,DataW.trod enc P w base sp held n f.type ((cs.drop f.offset).take (P.cellsOf f.type))=some y:=by
  obtain ⟨xs,n,_,_,hl,hlen,hg⟩:=DataW.trod_struct ht h
  refine ⟨hl,n,fun j f hj=>?_⟩
  have hjl:j < xs.length:=by rw [hlen]; exact (Array.getElem?_eq_some_iff.1 hj).1
  exact ⟨xs[j],(hg j f hj).trans (List.getElem?_eq_getElem hjl)⟩
theorem rd_slice {H:Type} {enc:TypeId × Value→H} {P:Program} {t et:TypeId} {α:Type} {e:α→List Value} {ok:α→Prop} {k:Nat} (hr:RdF P et e ok) (ht:P.underlying t=some (.slice et)) (hk:P.cellsOf et=k) (hk0:0 < k) (he:∀ a,(e a).length=k) {W:World} {sp:Nat→Bool} {held:Bool} {v:Value} {d:DataW H} {p:List MemPlace}
    (hv:∃ A n c,v=.slice A n c) (h:DataW.Trod enc P W 0 sp held t v d p):∃ l:List α,zD (In W) k e v l W∧(∀ a ∈ l,ok a)∧((d=.nil∧l=[])∨∃ es sp,d=.slice es sp∧es.length=l.length):=by
  obtain ⟨fuel,hf⟩:=h
  obtain ⟨A,n,c,rfl⟩:=hv
  have hf':DataW.trod enc P W 0 sp held fuel t [.slice A n c]=some (d,p):=hf
  rcases Go.Deep.open_slice ht hf' with ⟨h0,hd0⟩ | ⟨a,len,cap,m,q,Dd,Pl,hcs,_,hl,hm,hmm,hdp,hi⟩
  · simp only [List.cons.injEq,Value.slice.injEq,and_true] at h0
    obtain ⟨rfl,rfl,rfl⟩:=h0
    simp only [Prod.mk.injEq] at hd0
    exact ⟨[],zD.zu _ _ _ _,by simp,.inl ⟨hd0.1,rfl⟩⟩
  · simp only [List.cons.injEq,Value.slice.injEq,and_true] at hcs
    obtain ⟨rfl,rfl,rfl⟩:=hcs
    have hlm:n≤m:=by rw [hmm]; split <;> omega
    have hex:∀ i,i < n→∃ x:α,ok x∧∀ (j:Nat) (u:Value),(e x)[j]?=some u→W.cell? ((a.add (i * k)).add j)=some u:=by
      intro i hin
      obtain ⟨cs',hc,ht'⟩:=hi i qO
      rw [hk] at hc
      obtain ⟨x,ex,ox⟩:=hr _ _ _ _ _ _ _ _ ht'
      obtain ⟨_,hcl,hat⟩:=World.cells?_some hc
      refine ⟨x,ox,fun j u hu=>?_⟩
      rw [ex] at hat
      have hj:j < k:=by rw [← he x]; exact (List.getElem?_eq_some_iff.1 hu).1
      exact (hat j hj).trans hu
    obtain ⟨l,hlen,hl'⟩:∃ l:List α,l.length=n∧∀ i x,l[i]?=some x→ok x∧∀ (j:Nat) (u:Value),(e x)[j]?=some u→W.cell? ((a.add (i * k)).add j)=some u:=by
      clear hi hf hf' hmm hm hl hlm hdp
      induction n with
      | zero=>exact ⟨[],rfl,by simp⟩
      | succ n ih =>
        obtain ⟨l,h1,h2⟩:=ih (fun i hin=>hex i qO)
        obtain ⟨x,hx⟩:=hex n qO
        refine ⟨l++[x],by simp [h1],fun i y hy=>?_⟩
        rw [List.getElem?_append] at hy
        split at hy
        · exact h2 i y hy
        · rename_i hge
          have hin:i=n:=by
            have:i - l.length < [x].length:=(List.getElem?_eq_some_iff.1 hy).1
            simp at this; omega
          subst hin
          simp [h1] at hy
          subst hy
          exact hx
    subst hlen
    simp only [Prod.mk.injEq] at hdp
    refine ⟨l,⟨some a,c,rfl,hl,hm,fun hne=>⟨a,rfl,?_,fun i x hx=>(hl' i x hx).2⟩⟩,fun y hy=>?_,.inr ⟨_,_,hdp.1,by simp⟩⟩
    · obtain ⟨y,hy⟩:=List.exists_mem_of_ne_nil l hne
      obtain ⟨i,hi',rfl⟩:=List.getElem_of_mem hy
      have h1:=(hl' i l[i] (List.getElem?_eq_getElem hi')).2 0 ((e l[i])[0]'(by rw [he]; exact hk0)) (List.getElem?_eq_getElem _)
      have:=block_lt_of_cell h1
      rwa [add_block,add_block] at this
    · obtain ⟨i,hi',rfl⟩:=List.getElem_of_mem hy
      exact (hl' i _ (List.getElem?_eq_getElem hi')).1
end Ex
end
section
open Go.ChangeShapes Go.WideShapes Go.ChangeAt Go.RowKit
namespace Ex
set_option linter.unusedSimpArgs false
theorem list2 {l:List Value} (h:l.length=2):∃ c0 c1,l=[c0,c1]:=by
  match l,h with
  | [c0,c1],_=>exact ⟨_,_,rfl⟩
def okSample (s:Sample):Prop:=ok64 s.time∧ok64 s.value
theorem rdSample:RdF Tryz.prog 41 zQ okSample:=fun {H} en w base sp held fuel cs x hx=>by
  obtain ⟨hl,n,hf⟩:=st_fld Tryz.underlying41 hx
  rw [show Tryz.prog.cellsOf 41=2 from by kernel_rfl] at hl
  obtain ⟨c0,c1,rfl⟩:=list2 hl
  obtain ⟨y0,hy0⟩:=hf 0 _ rfl
  replace hy0:DataW.trod en Tryz.prog w base sp held n 3 (List.take (Tryz.prog.cellsOf 3) (List.drop 0 _))=some y0:=hy0
  rw [show Tryz.prog.cellsOf 3=1 from by kernel_rfl] at hy0
  obtain ⟨a0,e0,o0⟩:=rd_int Tryz.underlying3 en w base sp held n _ _ hy0
  have e0':[c0]=intE a0:=e0
  simp only [strE,intE,List.cons.injEq,and_true] at e0'
  subst e0'
  obtain ⟨y1,hy1⟩:=hf 1 _ rfl
  replace hy1:DataW.trod en Tryz.prog w base sp held n 3 (List.take (Tryz.prog.cellsOf 3) (List.drop 1 _))=some y1:=hy1
  rw [show Tryz.prog.cellsOf 3=1 from by kernel_rfl] at hy1
  obtain ⟨a1,e1,o1⟩:=rd_int Tryz.underlying3 en w base sp held n _ _ hy1
  have e1':[c1]=intE a1:=e1
  simp only [strE,intE,List.cons.injEq,and_true] at e1'
  subst e1'
  exact ⟨⟨a0,a1⟩,rfl,⟨o0,o1⟩⟩
end Ex
end
section
open Go.ChangeShapes Go.WideShapes Go.ChangeAt Go.RowKit
namespace Ex
def LenX {H:Type} (d:DataW H) (n:Nat):Prop:=(d=.nil∧n=0)∨∃ es sp,d=.slice es sp∧es.length=n
def AllX {H:Type} {α:Type} (ok:α→DataW H→Prop) (d:DataW H) (l:List α):Prop:=∃ ds:List (DataW H),((d=.nil∧ds=[])∨∃ sp,d=.slice ds sp)∧ds.length=l.length∧∀ (i:Nat) (a:α) (e:DataW H),l[i]?=some a→ds[i]?=some e→ok a e
theorem AllX.len {H:Type} {α:Type} {ok:α→DataW H→Prop} {d:DataW H} {l:List α} (h:AllX ok d l):LenX d l.length:=by
  obtain ⟨ds,h1,h2,_⟩:=h
  rcases h1 with ⟨h1,rfl⟩ | ⟨sp,h1⟩
  · exact .inl ⟨h1,h2.symm⟩
  · exact .inr ⟨_,_,h1,h2⟩
theorem AllX.all {H:Type} {α:Type} {ok:α→DataW H→Prop} {d:DataW H} {l:List α} (h:AllX ok d l):∀ a ∈ l,∃ e,ok a e∧∃ ds sp,d=.slice ds sp∧e ∈ ds:=fun a ha=>by
  obtain ⟨ds,h1,h2,h3⟩:=h
  obtain ⟨i,hi⟩:=List.mem_iff_getElem?.1 ha
  have hlt:=(List.getElem?_eq_some_iff.1 hi).1
  have hd:ds[i]?=some (ds[i]'qO):=List.getElem?_eq_getElem _
  refine ⟨_,h3 i a _ hi hd,ds,?_⟩
  rcases h1 with ⟨_,rfl⟩ | ⟨sp,h1⟩
  · exfalso; have h2:0=l.length:=h2; omega
  · exact ⟨sp,h1,List.mem_of_getElem? hd⟩
def RdX (P:Program) (t:TypeId) {α:Type} (e:α→List Value) (ok:α→World→Prop):Prop :=
  ∀ {H:Type} (enc:TypeId × Value→H) (W:World) (sp:Nat→Bool) (held:Bool) (fuel:Nat) (cs:List Value) (x:DataW H × List MemPlace),DataW.trod enc P W 0 sp held fuel t cs=some x→∃ a,cs=e a∧ok a W
theorem RdF.x {P:Program} {t:TypeId} {α:Type} {e:α→List Value} {ok:α→Prop} (h:RdF P t e ok):RdX P t e (fun a _=>ok a):=fun enc W sp held fuel cs x hx=>h enc W 0 sp held fuel cs x hx
end Ex
end
end Go.Proofs.YtgojhpocpajmlaaGreatDoor
