/- Laws and walks for the proof of BaseRolled, packed by program; each theorem bears its own conditions. -/
import Derived.Shelf.Strings.Builder1
import Derived.Shelf.Strings.Builder2
import Derived.Shelf.Strings.OnBuilder
import Derived.Shelf.Strconv.Atoi
import Derived.Shelf.Strconv.Itoa0
import Derived.Shelf.Strconv.Itoa1
import Derived.Shelf.LaysM
import Derived.Shelf.Strconv.Itoa2
import Derived.Shelf.Strconv.Itoa3
import Derived.Shelf.Strconv.AtoiErrFast
import Derived.Shelf.Strconv.ParseIntEmpty
import Derived.Shelf.Strconv.AtoiFail
import Derived.Shelf.Strconv.Clone
import Derived.Shelf.Strconv.SyntaxError
import Derived.Shelf.LaysC
import Derived.Shelf.Strconv.ToError
import Derived.Shelf.Strconv.AtoiErr
import Derived.Shelf.Strconv.ErrVar
import Derived.Shelf.Strconv.Lower
import Derived.Shelf.Strconv.ParseUint10
import Derived.Shelf.Strconv.ParseUint10Empty
import Derived.Shelf.Strconv.ParseUint10Any
import Derived.Shelf.Strconv.ParseInt10
import Derived.Shelf.Strconv.AtoiLong
import Derived.Shelf.Strconv.AtoiInnerAll
import Derived.Shelf.Strconv.RangeError
import Derived.Shelf.Strconv.ToErrorRange
import Derived.Shelf.Strconv.AtoiAll
import Derived.Shelf.Strconv.ErrVarAll
import Derived.Shelf.Strings.Prefix
import Derived.Shelf.Slices.Turned
import Derived.Test.YtgojhpocpajmlaaGreatDoorProg
import Derived.Test.YtgojhpocpajmlaaGreatDoorKRolA3
namespace Go.Proofs.YtgojhpocpajmlaaGreatDoor
section
open Tryz
open Ex
attribute [local irreducible] WC WL WQ WE WS
set_option linter.unusedVariables false
set_option linter.unusedSimpArgs false
theorem c_span (zp:Nat) (z0:Value) (z1:Value) (z2:Value) (z3:Value) (z:Shelf) (tier:Int) (w:World) (hzp:w.heap[zp]?=some (.cells [z0,z1,z2,z3,iV z.zS,iV z.zL,iV z.zF,iV z.zH,iV z.zG].toArray 50 (0,0)))  :
    Calls prog 202 #[.pointer (some ⟨zp,0,none⟩),iV tier] w (Ret w (.tuple #[iV (Sh.spanFrom z tier),iV (Sh.spanTo z tier)])):=by
 refine zr (N:=31) func202 (Mem.ofDats (dc (ddb hzp) dn)) ?_
 refine (go 19) (zX (fun h1=>?_) fun h1=>?_)
 ·refine (go 17) (yL results202 fun w1 hM=>?_)
  exact zP (by simp [Sh.spanFrom,Sh.spanTo,h1]) hM
 refine (go 6) (zX (fun h2=>?_) fun h2=>?_)
 ·refine (go 17) (yL results202 fun w1 hM=>?_)
  exact zP (by simp [Sh.spanFrom,Sh.spanTo,h1,h2]) hM
 refine (go 14) (yL results202 fun w1 hM=>?_)
 exact zP (by simp [Sh.spanFrom,Sh.spanTo,h1,h2]) hM
theorem jd (zp:Nat) (z0:Value) (z1:Value) (z2:Value) (z3:Value) (z:Shelf) (p:Part) (w:World) (hzp:w.heap[zp]?=some (.cells [z0,z1,z2,z3,iV z.zS,iV z.zL,iV z.zF,iV z.zH,iV z.zG].toArray 50 (0,0)))  :
    Calls prog 163 #[.pointer (some ⟨zp,0,none⟩),.agg (yd p).toArray] w (Ret w (.bool (decide (Sh.may z p)))):=by
 refine zr (N:=58) func163 (Mem.ofDats (dc (ddb hzp) dn)) ?_
 refine (go 2) (yu fun b3=>?_)
 refine (go 4) ?_
 refine ym [(0,.pointer (some ⟨zp,0,none⟩)),(3,.pointer (some ⟨b3,0,none⟩)),(22,.bool (decide ((p.tier < 0)∨((2 < p.tier)∨(p.to≤p.frm)))))] (Mem w no [.blk b3 [iV p.tier,iV p.frm,iV p.to] 217,datB zp [z0,z1,z2,z3,iV z.zS,iV z.zL,iV z.zF,iV z.zH,iV z.zG] 50]) (fun _ hK3=>?_) ?_
 ·refine (go 5) (yN 11 (fun h1=>?_) fun h1=>?_)
  ·refine (go 11) ?_
   refine zU (zm hK3 (sc rfl (sc rfl (sc (jt (Or.inl h1)) sn))) (fun _ h=>h))
  have hst:=Sh.stepOf_pos p.tier
  refine (go 5) (yN 16 (fun h2=>?_) fun h2=>?_)
  ·refine (go 6) ?_
   refine zU (zm hK3 (sc rfl (sc rfl (sc (jt (Or.inr (Or.inl h2))) sn))) (fun _ h=>h))
  refine (go 6) ?_
  refine zU (zm hK3 (sc rfl (sc rfl (sc (jp (iff_or_right h1 (iff_or_right h2 Iff.rfl))) sn))) (fun _ h=>h))
 refine zX (fun h3=>?_) fun h3=>?_
 ·refine (go 7) (zY results163 fun w1 hM=>?_)
  exact zP (congrArg Value.bool (decide_eq_false (fun g=>g.1 h3)).symm) hM
 have hst:=Sh.stepOf_pos p.tier
 refine (go 7) ?_
 refine yH call202 wn rfl (fun w1 hM=>c_span zp _ _ _ _ z p.tier w1 (hM.datb (i:=1) rfl)) ?_
 refine (go 11) ?_
 refine yH call93 wn rfl (fun w1 hM=>uW p.tier w1) (zb (jI (show _=Sh.stepOf p.tier from rfl) (ua rfl rfl)) ?_)
 refine (go 10) (yN 38 (fun h4=>?_) fun h4=>?_)
 ·refine (go 6) (yN 44 (fun h5=>?_) fun h5=>?_)
  ·refine (go 3) ?_
   refine y9 (jD rfl rfl qO) ?_
   refine (go 3) (yN 51 (fun h6=>?_) fun h6=>?_)
   ·refine (go 3) ?_
    refine y9 (jD rfl rfl qO) ?_
    refine (go 6) (zY results163 fun w1 hM=>?_)
    exact zP (congrArg Value.bool (decide_eq_decide.2 ⟨fun g=>⟨h3,h4,h5,h6,g⟩,fun g=>g.2.2.2.2⟩)) hM
   refine (go 10) (zY results163 fun w1 hM=>?_)
   exact zP (congrArg Value.bool (decide_eq_false (fun g=>h6 g.2.2.2.1)).symm) hM
  refine (go 17) (zY results163 fun w1 hM=>?_)
  exact zP (congrArg Value.bool (decide_eq_false (fun g=>h5 g.2.2.1)).symm) hM
 refine (go 23) (zY results163 fun w1 hM=>?_)
 exact zP (congrArg Value.bool (decide_eq_false (fun g=>h4 g.2.1)).symm) hM
theorem ug (lv:Value) (l:List Bucket) (p:Part) (w:World) (hl:zD (In w) 8 zJ lv l w) (hl1:l.length≤1048576) :
    Calls prog 165 #[lv,.agg (yd p).toArray] w (Ret w (iV ((Sh.bIn l p.frm p.to).length:Int))):=by
 obtain ⟨lA,lc,rfl,hlc,hlm,hlA⟩:=hl.form
 refine zr (N:=30) func165 (Mem.ofDats (dc (dl hl) dn)) ?_
 refine (go 2) (yu fun b3=>?_)
 refine (go 17) ?_
 refine yE (fun (k:Nat)=>[(3,.pointer (some ⟨b3,0,none⟩)),(5,iV ((Sh.bIn (l.take k) p.frm p.to).length:Int)),(8,.slice lA l.length lc),(9,iV l.length),(10,iV k)]) (fun (k:Nat)=>[.blk b3 [iV p.tier,iV p.frm,iV p.to] 217,slO (In w) 8 zJ (.slice lA l.length lc) l]) (fun (k:Nat)=>k≤l.length) (fun (k:Nat)=>l.length - k) 0 (sc rfl (sc (ji (by first | omega | rfl | (rw [hst]; simp) | (rw [hst]))) (sc rfl (sc rfl (sc (ji (by first | omega | rfl | (rw [hst]; simp) | (rw [hst]))) sn))))) (fun _ h=>h) ?_ (fun k hI1=>?_)
 ·omega
 have hlen:=Nat.le_trans (Sh.bIn_len (l.take k) p.frm p.to) (List.length_take_le k l)
 refine (go 6) (zX (fun h1=>?_) fun h1=>?_)
 ·refine (go 6) ?_
  obtain ⟨ad1,s1,hd1,hs1⟩:=elx hlA k
  refine (go 2) (zz fun b7=>?_)
  refine (go 11) (yN 19 (fun h2=>?_) fun h2=>?_)
  ·refine (go 8) (zX (fun h3=>?_) fun h3=>?_)
   ·refine (go 10) ?_
    have hst:=(Sh.bIn_succ (a:=p.frm) (b:=p.to) hs1).trans (if_pos qO)
    refine zU (zh (k + 1) (sc rfl (sc (ji (by first | omega | rfl | (rw [hst]; simp) | (rw [hst]))) (sc rfl (sc rfl (sc (ji (by first | omega | rfl | (rw [hst]; simp) | (rw [hst]))) sn))))) (S9 [1,2]) ?_ ?_)
    ·omega
    omega
   refine (go 6) ?_
   have hst:=(Sh.bIn_succ (a:=p.frm) (b:=p.to) hs1).trans (if_neg qO)
   refine zU (zh (k + 1) (sc rfl (sc (ji (by first | omega | rfl | (rw [hst]; simp) | (rw [hst]))) (sc rfl (sc rfl (sc (ji (by first | omega | rfl | (rw [hst]; simp) | (rw [hst]))) sn))))) (S9 [1,2]) ?_ ?_)
   ·omega
   omega
  refine (go 15) ?_
  have hst:=(Sh.bIn_succ (a:=p.frm) (b:=p.to) hs1).trans (if_neg qO)
  refine zU (zh (k + 1) (sc rfl (sc (ji (by first | omega | rfl | (rw [hst]; simp) | (rw [hst]))) (sc rfl (sc rfl (sc (ji (by first | omega | rfl | (rw [hst]; simp) | (rw [hst]))) sn))))) (S9 [1,2]) ?_ ?_)
  ·omega
  omega
 refine (go 12) (zY results165 fun w1 hM=>?_)
 exact zP (congrArg (Value.int .i64) (by rw [List.take_of_length_le qO])) hM
set_option maxHeartbeats 4000000 in
theorem c_choose (z0:Value) (z1:Value) (z2:Value) (z3:Value) (z:Shelf) (f:Int) (t:Int) (P0:Nat→Prop) (w:World) (hP0:∀ b,P0 b→b < w.heap.size) (hz0:zD P0 2 zQ z0 z.zK w) (hz1:zD P0 2 zT z1 z.raw w) (hz2:zD P0 8 zJ z2 z.fine w) (hz3:zD P0 8 zJ z3 z.coarse w)  :
    Calls prog 117 #[.agg (List.toArray [z0,z1,z2,z3,iV z.zS,iV z.zL,iV z.zF,iV z.zH,iV z.zG]),iV f,iV t] w (RetLT w 217 3 yd (Sh.choose z f t).1 (fun r=>.tuple [r,iV (Sh.choose z f t).2].toArray)):=by
 obtain ⟨z0A,z0c,rfl,hz0c,hz0m,hz0A⟩:=hz0.form
 obtain ⟨z1A,z1c,rfl,hz1c,hz1m,hz1A⟩:=hz1.form
 obtain ⟨z2A,z2c,rfl,hz2c,hz2m,hz2A⟩:=hz2.form
 obtain ⟨z3A,z3c,rfl,hz3c,hz3m,hz3A⟩:=hz3.form
 refine zr (N:=99) func117 (Mem.ofDatsP hP0 (dc (dlp hz0) (dc (dlp hz1) (dc (dlp hz2) (dc (dlp hz3) dn))))) ?_
 refine (go 2) (yu fun b3=>?_)
 refine yD (yd:Part→List Value) 217 3 ?_
 refine (go 8) ?_
 refine yH call21 wn rfl (fun w1 hM=>vf _ _ _ _ z (In w1) w1 (fun _ h=>h) (hM.slp 2 rfl) (hM.slp 3 rfl) (hM.slp 4 rfl) (hM.slp 5 rfl)) ?_
 refine (go 9) (zX (fun h1=>?_) fun h1=>?_)
 ·refine (go 3) ?_
  refine yD (yd:Part→List Value) 217 3 ?_
  refine (go 6) (yL results117 fun w1 hM=>?_)
  have he:Sh.choose z f t=(([]:List Part),(Sh.wrong z)):=Sh.choose_wrong h1
  exact hM.jb 0 rfl (by rw [he]) (by rw [he])
 have hs2:Roll.step 2=60:=rfl
 have hs1_:Roll.step 1=10:=rfl
 have hs0:Roll.step 0=0:=rfl
 refine (go 3) ?_
 refine ym [(1,iV f),(2,iV t),(3,.pointer (some ⟨b3,0,none⟩)),(31,.bool (decide ((f < 0)∨((t < f)∨(1000000 < t)))))] (Mem w ⟨no,P0⟩ [Row (Zs) 217 3 yd ([]:List Part),.blk b3 [.slice z0A z.zK.length z0c,.slice z1A z.raw.length z1c,.slice z2A z.fine.length z2c,.slice z3A z.coarse.length z3c,iV z.zS,iV z.zL,iV z.zF,iV z.zH,iV z.zG] 50,slP 2 zQ (.slice z0A z.zK.length z0c) z.zK,slP 2 zT (.slice z1A z.raw.length z1c) z.raw,slP 8 zJ (.slice z2A z.fine.length z2c) z.fine,slP 8 zJ (.slice z3A z.coarse.length z3c) z.coarse]) (fun _ hK7=>?_) ?_
 ·refine (go 4) (yN 23 (fun h2=>?_) fun h2=>?_)
  ·refine (go 8) ?_
   refine zU (zm hK7 (sc rfl (sc rfl (sc rfl (sc (jt (Or.inl h2)) sn)))) (fun _ h=>h))
  refine (go 5) (yN 28 (fun h3=>?_) fun h3=>?_)
  ·refine (go 3) ?_
   refine zU (zm hK7 (sc rfl (sc rfl (sc rfl (sc (jt (Or.inr (Or.inl h3))) sn)))) (fun _ h=>h))
  refine (go 3) ?_
  refine zU (zm hK7 (sc rfl (sc rfl (sc rfl (sc (jp (iff_or_right h2 (iff_or_right h3 Iff.rfl))) sn)))) (fun _ h=>h))
 refine zX (fun h4=>?_) fun h4=>?_
 ·refine (go 2) ?_
  refine yD (yd:Part→List Value) 217 3 ?_
  refine (go 6) (yL results117 fun w1 hM=>?_)
  have he:Sh.choose z f t=(([]:List Part),3):=Sh.choose_range h1 qO
  exact hM.jb 0 rfl (by rw [he]) (by rw [he])
 refine (go 4) ?_
 refine yD (yd:Part→List Value) 217 3 ?_
 refine (go 5) ?_
 refine uL (fun (g:Int) (out:List Part) (vr:Value)=>[(1,iV g),(2,iV t),(3,.pointer (some ⟨b3,0,none⟩)),(9,vr)]) (fun (g:Int) (out:List Part) (vr:Value)=>[Row vr 217 3 yd out,Row (Zs) 217 3 yd ([]:List Part),.blk b3 [.slice z0A z.zK.length z0c,.slice z1A z.raw.length z1c,.slice z2A z.fine.length z2c,.slice z3A z.coarse.length z3c,iV z.zS,iV z.zL,iV z.zF,iV z.zH,iV z.zG] 50,slP 2 zQ (.slice z0A z.zK.length z0c) z.zK,slP 2 zT (.slice z1A z.raw.length z1c) z.raw,slP 8 zJ (.slice z2A z.fine.length z2c) z.fine,slP 8 zJ (.slice z3A z.coarse.length z3c) z.coarse]) (fun (g:Int) (out:List Part) (vr:Value)=>(Sh.chooseL z f t []=Sh.chooseL z g t out)∧0≤g∧g≤t∧(out.length:Int)≤g) (fun (g:Int) (out:List Part) (vr:Value)=>(t - g).toNat) f [] (Zs) (sc rfl (sc rfl (sc rfl (sc rfl sn)))) (fun _ h=>h) ?_ (fun g out vr hI1=>?_)
 ·exact ⟨rfl,by omega,by omega,by simp; omega⟩
 refine yU 0 (l:=out) rfl fun A1 cp1 hv1 hc1 hm1 hA1=>?_
 subst hv1
 refine (go 8) (zX (fun h5=>?_) fun h5=>?_)
 ·refine (go 6) (zz fun b10=>?_)
  refine (go 6) ?_
  refine zy intE ([2,1,0]:List Int) wn underlying37 inf3 rfl rfl rfl rfl qD qD rfl fun b36=>?_
  refine (go 5) ?_
  refine c_enter (ue fun _ hK16=>?_)
  refine (go 6) ?_
  refine y8 rfl (decide_eq_true qD) ?_
  refine (go 6) ?_
  refine zb (yx (i:=0) rfl rfl rfl qO (by first | omega | decide) underlying37 inf3) (zb (uB 0 encInt rfl rfl rfl (show ([2,1,0]:List Int)[0]?=some 2 from rfl) rfl flat3) ?_)
  refine (go 7) ?_
  refine yH call93 wn rfl (fun w1 hM=>uW 2 w1) ?_
  refine (go 11) ?_
  refine yc rfl (decide_eq_false qD) ?_
  refine (go 8) (zz fun b14=>?_)
  refine (go 3) ?_
  refine ym [(1,iV g),(2,iV t),(3,.pointer (some ⟨b3,0,none⟩)),(9,.slice A1 out.length cp1),(10,.pointer (some ⟨b10,0,none⟩)),(14,.pointer (some ⟨b14,0,none⟩)),(36,.slice (some ⟨b36,0,none⟩) 3 3),(37,iV 3),(38,iV 0),(65,.bool (decide (((g + (Roll.step 2))≤t)∧(Sh.may z (⟨2,g,(g + (Roll.step 2))⟩:Part)))))] (Mem w ⟨no,P0⟩ [.blk b14 [iV 2,iV g,iV (g + (Roll.step 2))] 217,Row (.slice (some ⟨b36,0,none⟩) 3 3) 3 1 intE ([2,1,0]:List Int),.blk b10 [iV (-1),iV 0,iV 0] 217,Row (.slice A1 out.length cp1) 217 3 yd out,Row (Zs) 217 3 yd ([]:List Part),.blk b3 [.slice z0A z.zK.length z0c,.slice z1A z.raw.length z1c,.slice z2A z.fine.length z2c,.slice z3A z.coarse.length z3c,iV z.zS,iV z.zL,iV z.zF,iV z.zH,iV z.zG] 50,slP 2 zQ (.slice z0A z.zK.length z0c) z.zK,slP 2 zT (.slice z1A z.raw.length z1c) z.raw,slP 8 zJ (.slice z2A z.fine.length z2c) z.fine,slP 8 zJ (.slice z3A z.coarse.length z3c) z.coarse]) (fun _ hK25=>?_) ?_
  ·refine (go 5) (yN 62 (fun h6=>?_) fun h6=>?_)
   ·refine (go 1) ?_
    refine yH call163 (wg rfl rfl rfl) rfl (fun w1 hM=>jd b3 _ _ _ _ z (⟨2,g,(g + (Roll.step 2))⟩:Part) w1 (hM.blk (i:=5) rfl)) ?_
    refine (go 1) ?_
    refine zU (zm hK25 (sc rfl (sc rfl (sc rfl (sc rfl (sc rfl (sc rfl (sc rfl (sc rfl (sc rfl (sc (jp (iff_and_right h6 Iff.rfl)) sn)))))))))) (fun _ h=>h))
   refine (go 3) ?_
   refine zU (zm hK25 (sc rfl (sc rfl (sc rfl (sc rfl (sc rfl (sc rfl (sc rfl (sc rfl (sc rfl (sc (jf (fun g=>h6 g.1)) sn)))))))))) (fun _ h=>h))
  refine zX (fun h7=>?_) fun h7=>?_
  ·refine (go 20) ?_
   refine yc rfl (decide_eq_false qD) ?_
   refine (go 16) (va 76 (fun h8=>?_) fun h8=>?_)
   ·refine (go 2) ?_
    obtain ⟨ad1,hd1⟩:=hA1 (ne_nil (i:=(out.length - 1)) (by first | omega | decide))
    refine vd (yx (i:=(out.length - 1)) rfl hd1 rfl qO (by first | omega | decide) underlying152 inf217) ?_
    refine (go 1) ?_
    obtain ⟨s1,hs1⟩:∃ x,out[(out.length - 1)]?=some x:=⟨_,List.getElem?_eq_getElem (by first | omega | decide)⟩
    refine vd (uB 3 encPart rfl rfl hd1 hs1 rfl flat3) ?_
    refine (go 6) (zX (fun h9=>?_) fun h9=>?_)
    ·refine (go 5) ?_
     refine zb (yx (i:=(out.length - 1)) rfl hd1 rfl qO (by first | omega | decide) underlying152 inf217) ?_
     refine (go 1) ?_
     refine uC 3 (vs:=[iV (g + (Roll.step 2))]) (⟨s1.tier,s1.frm,(g + (Roll.step 2))⟩:Part) encPart wn rfl rfl rfl rfl hd1 hs1 inf3 rfl rfl rfl rfl ?_
     refine (go 6) ?_
     refine zU (yG (yO (g + (Roll.step 2)) (out.set (out.length - 1) (⟨s1.tier,s1.frm,(g + (Roll.step 2))⟩:Part)) (.slice A1 out.length cp1) (sc rfl (sc rfl (sc rfl (sc rfl sn)))) (S9 [3,4,5,6,7,8,9]) ?_ ?_))
     ·have hp:Sh.pick z g t=(⟨2,g,(g + (Roll.step 2))⟩:Part):=Sh.pick_2 (z:=z) (f:=g) (t:=t) h7.1 h7.2
      have hpt:¬ (Sh.pick z g t).tier < 0:=by rw [hp]; dsimp only; omega
      have hto:=Sh.pick_to hpt
      have hnx:=hI1.1.trans (Sh.chooseL_next (out:=out) qO hpt)
      have hpl:=Sh.push_len out (Sh.pick z g t)
      rw [hp] at hto hnx hpl
      have hpu:Sh.push out _=_:=Sh.push_last (p:=(⟨2,g,(g + (Roll.step 2))⟩:Part)) hs1 h9
      rw [hpu] at hnx hpl
      try dsimp only at hto
      try dsimp only at hnx
      try dsimp only at hpl
      exact ⟨hnx,by omega,by omega,by omega⟩
     have hp:Sh.pick z g t=(⟨2,g,(g + (Roll.step 2))⟩:Part):=Sh.pick_2 (z:=z) (f:=g) (t:=t) h7.1 h7.2
     have hpt:¬ (Sh.pick z g t).tier < 0:=by rw [hp]; dsimp only; omega
     have hto:=Sh.pick_to hpt
     rw [hp] at hto
     try dsimp only at hto
     omega
    refine (go 3) ?_
    refine zy yd ([(⟨2,g,(g + (Roll.step 2))⟩:Part)]:List Part) wn underlying152 inf217 rfl rfl rfl rfl qD qD rfl fun b94=>yI 4 out ([(⟨2,g,(g + (Roll.step 2))⟩:Part)]:List Part) encPart wn rfl rfl rfl (fun _ hM=>(RowSl encPart hM 0 rfl)) underlying152 inf217 rfl rfl (by first | omega | (simp only [qL]; omega)) rfl fun A2 cp2 hc2 hm2 hA2=>?_
    refine (go 7) ?_
    refine zU (yG (yO (g + (Roll.step 2)) (out++([(⟨2,g,(g + (Roll.step 2))⟩:Part)]:List Part)) (.slice A2 ((out++([(⟨2,g,(g + (Roll.step 2))⟩:Part)]:List Part)).length) cp2) (sc rfl (sc rfl (sc rfl (sc rfl sn)))) (S9 [4,5,6,7,8,9,10]) ?_ ?_))
    ·have hp:Sh.pick z g t=(⟨2,g,(g + (Roll.step 2))⟩:Part):=Sh.pick_2 (z:=z) (f:=g) (t:=t) h7.1 h7.2
     have hpt:¬ (Sh.pick z g t).tier < 0:=by rw [hp]; dsimp only; omega
     have hto:=Sh.pick_to hpt
     have hnx:=hI1.1.trans (Sh.chooseL_next (out:=out) qO hpt)
     have hpl:=Sh.push_len out (Sh.pick z g t)
     rw [hp] at hto hnx hpl
     have hpu:Sh.push out _=_:=Sh.push_new (p:=(⟨2,g,(g + (Roll.step 2))⟩:Part)) hs1 h9
     rw [hpu] at hnx hpl
     try dsimp only at hto
     try dsimp only at hnx
     try dsimp only at hpl
     exact ⟨hnx,by omega,by omega,by omega⟩
    have hp:Sh.pick z g t=(⟨2,g,(g + (Roll.step 2))⟩:Part):=Sh.pick_2 (z:=z) (f:=g) (t:=t) h7.1 h7.2
    have hpt:¬ (Sh.pick z g t).tier < 0:=by rw [hp]; dsimp only; omega
    have hto:=Sh.pick_to hpt
    rw [hp] at hto
    try dsimp only at hto
    omega
   refine (go 15) ?_
   refine zy yd ([(⟨2,g,(g + (Roll.step 2))⟩:Part)]:List Part) wn underlying152 inf217 rfl rfl rfl rfl qD qD rfl fun b94=>yI 4 out ([(⟨2,g,(g + (Roll.step 2))⟩:Part)]:List Part) encPart wn rfl rfl rfl (fun _ hM=>(RowSl encPart hM 0 rfl)) underlying152 inf217 rfl rfl (by first | omega | (simp only [qL]; omega)) rfl fun A3 cp3 hc3 hm3 hA3=>?_
   refine (go 7) ?_
   refine zU (yG (yO (g + (Roll.step 2)) (out++([(⟨2,g,(g + (Roll.step 2))⟩:Part)]:List Part)) (.slice A3 ((out++([(⟨2,g,(g + (Roll.step 2))⟩:Part)]:List Part)).length) cp3) (sc rfl (sc rfl (sc rfl (sc rfl sn)))) (S9 [4,5,6,7,8,9,10]) ?_ ?_))
   ·have hp:Sh.pick z g t=(⟨2,g,(g + (Roll.step 2))⟩:Part):=Sh.pick_2 (z:=z) (f:=g) (t:=t) h7.1 h7.2
    have hpt:¬ (Sh.pick z g t).tier < 0:=by rw [hp]; dsimp only; omega
    have hto:=Sh.pick_to hpt
    have hnx:=hI1.1.trans (Sh.chooseL_next (out:=out) qO hpt)
    have hpl:=Sh.push_len out (Sh.pick z g t)
    rw [hp] at hto hnx hpl
    have hpu:Sh.push out _=_:=Sh.push_nil (p:=(⟨2,g,(g + (Roll.step 2))⟩:Part)) qO
    rw [hpu] at hnx hpl
    try dsimp only at hto
    try dsimp only at hnx
    try dsimp only at hpl
    exact ⟨hnx,by omega,by omega,by omega⟩
   have hp:Sh.pick z g t=(⟨2,g,(g + (Roll.step 2))⟩:Part):=Sh.pick_2 (z:=z) (f:=g) (t:=t) h7.1 h7.2
   have hpt:¬ (Sh.pick z g t).tier < 0:=by rw [hp]; dsimp only; omega
   have hto:=Sh.pick_to hpt
   rw [hp] at hto
   try dsimp only at hto
   omega
  refine (go 7) ?_
  refine jr hK16 (ue fun _ hK32=>?_)
  refine (go 6) ?_
  refine y8 rfl (decide_eq_true qD) ?_
  refine (go 6) ?_
  refine zb (yx (i:=1) rfl rfl rfl qO (by first | omega | decide) underlying37 inf3) (zb (uB 1 encInt rfl rfl rfl (show ([2,1,0]:List Int)[1]?=some 1 from rfl) rfl flat3) ?_)
  refine (go 7) ?_
  refine yH call93 wn rfl (fun w1 hM=>uW 1 w1) ?_
  refine (go 11) ?_
  refine yc rfl (decide_eq_false qD) ?_
  refine (go 8) (zz fun b14_1=>?_)
  refine (go 3) ?_
  refine ym [(1,iV g),(2,iV t),(3,.pointer (some ⟨b3,0,none⟩)),(9,.slice A1 out.length cp1),(10,.pointer (some ⟨b10,0,none⟩)),(14,.pointer (some ⟨b14_1,0,none⟩)),(36,.slice (some ⟨b36,0,none⟩) 3 3),(37,iV 3),(38,iV 1),(65,.bool (decide (((g + (Roll.step 1))≤t)∧(Sh.may z (⟨1,g,(g + (Roll.step 1))⟩:Part)))))] (Mem w ⟨no,P0⟩ [.blk b14_1 [iV 1,iV g,iV (g + (Roll.step 1))] 217,.blk b14 [iV 2,iV g,iV (g + (Roll.step 2))] 217,Row (.slice (some ⟨b36,0,none⟩) 3 3) 3 1 intE ([2,1,0]:List Int),.blk b10 [iV (-1),iV 0,iV 0] 217,Row (.slice A1 out.length cp1) 217 3 yd out,Row (Zs) 217 3 yd ([]:List Part),.blk b3 [.slice z0A z.zK.length z0c,.slice z1A z.raw.length z1c,.slice z2A z.fine.length z2c,.slice z3A z.coarse.length z3c,iV z.zS,iV z.zL,iV z.zF,iV z.zH,iV z.zG] 50,slP 2 zQ (.slice z0A z.zK.length z0c) z.zK,slP 2 zT (.slice z1A z.raw.length z1c) z.raw,slP 8 zJ (.slice z2A z.fine.length z2c) z.fine,slP 8 zJ (.slice z3A z.coarse.length z3c) z.coarse]) (fun _ hK41=>?_) ?_
  ·refine (go 5) (yN 62 (fun h10=>?_) fun h10=>?_)
   ·refine (go 1) ?_
    refine yH call163 (wg rfl rfl rfl) rfl (fun w1 hM=>jd b3 _ _ _ _ z (⟨1,g,(g + (Roll.step 1))⟩:Part) w1 (hM.blk (i:=6) rfl)) ?_
    refine (go 1) ?_
    refine zU (zm hK41 (sc rfl (sc rfl (sc rfl (sc rfl (sc rfl (sc rfl (sc rfl (sc rfl (sc rfl (sc (jp (iff_and_right h10 Iff.rfl)) sn)))))))))) (fun _ h=>h))
   refine (go 3) ?_
   refine zU (zm hK41 (sc rfl (sc rfl (sc rfl (sc rfl (sc rfl (sc rfl (sc rfl (sc rfl (sc rfl (sc (jf (fun g=>h10 g.1)) sn)))))))))) (fun _ h=>h))
  refine zX (fun h11=>?_) fun h11=>?_
  ·refine (go 20) ?_
   refine yc rfl (decide_eq_false qD) ?_
   refine (go 16) (va 76 (fun h12=>?_) fun h12=>?_)
   ·refine (go 2) ?_
    obtain ⟨ad2,hd2⟩:=hA1 (ne_nil (i:=(out.length - 1)) (by first | omega | decide))
    refine vd (yx (i:=(out.length - 1)) rfl hd2 rfl qO (by first | omega | decide) underlying152 inf217) ?_
    refine (go 1) ?_
    obtain ⟨s2,hs2⟩:∃ x,out[(out.length - 1)]?=some x:=⟨_,List.getElem?_eq_getElem (by first | omega | decide)⟩
    refine vd (uB 4 encPart rfl rfl hd2 hs2 rfl flat3) ?_
    refine (go 6) (zX (fun h13=>?_) fun h13=>?_)
    ·refine (go 5) ?_
     refine zb (yx (i:=(out.length - 1)) rfl hd2 rfl qO (by first | omega | decide) underlying152 inf217) ?_
     refine (go 1) ?_
     refine uC 4 (vs:=[iV (g + (Roll.step 1))]) (⟨s2.tier,s2.frm,(g + (Roll.step 1))⟩:Part) encPart wn rfl rfl rfl rfl hd2 hs2 inf3 rfl rfl rfl rfl ?_
     refine (go 6) ?_
     refine zU (yG (yO (g + (Roll.step 1)) (out.set (out.length - 1) (⟨s2.tier,s2.frm,(g + (Roll.step 1))⟩:Part)) (.slice A1 out.length cp1) (sc rfl (sc rfl (sc rfl (sc rfl sn)))) (S9 [4,5,6,7,8,9,10]) ?_ ?_))
     ·have hp:Sh.pick z g t=(⟨1,g,(g + (Roll.step 1))⟩:Part):=Sh.pick_1 (z:=z) (f:=g) (t:=t) h7 h11.1 h11.2
      have hpt:¬ (Sh.pick z g t).tier < 0:=by rw [hp]; dsimp only; omega
      have hto:=Sh.pick_to hpt
      have hnx:=hI1.1.trans (Sh.chooseL_next (out:=out) qO hpt)
      have hpl:=Sh.push_len out (Sh.pick z g t)
      rw [hp] at hto hnx hpl
      have hpu:Sh.push out _=_:=Sh.push_last (p:=(⟨1,g,(g + (Roll.step 1))⟩:Part)) hs2 h13
      rw [hpu] at hnx hpl
      try dsimp only at hto
      try dsimp only at hnx
      try dsimp only at hpl
      exact ⟨hnx,by omega,by omega,by omega⟩
     have hp:Sh.pick z g t=(⟨1,g,(g + (Roll.step 1))⟩:Part):=Sh.pick_1 (z:=z) (f:=g) (t:=t) h7 h11.1 h11.2
     have hpt:¬ (Sh.pick z g t).tier < 0:=by rw [hp]; dsimp only; omega
     have hto:=Sh.pick_to hpt
     rw [hp] at hto
     try dsimp only at hto
     omega
    refine (go 3) ?_
    refine zy yd ([(⟨1,g,(g + (Roll.step 1))⟩:Part)]:List Part) wn underlying152 inf217 rfl rfl rfl rfl qD qD rfl fun b94=>yI 5 out ([(⟨1,g,(g + (Roll.step 1))⟩:Part)]:List Part) encPart wn rfl rfl rfl (fun _ hM=>(RowSl encPart hM 0 rfl)) underlying152 inf217 rfl rfl (by first | omega | (simp only [qL]; omega)) rfl fun A4 cp4 hc4 hm4 hA4=>?_
    refine (go 7) ?_
    refine zU (yG (yO (g + (Roll.step 1)) (out++([(⟨1,g,(g + (Roll.step 1))⟩:Part)]:List Part)) (.slice A4 ((out++([(⟨1,g,(g + (Roll.step 1))⟩:Part)]:List Part)).length) cp4) (sc rfl (sc rfl (sc rfl (sc rfl sn)))) (S9 [5,6,7,8,9,10,11]) ?_ ?_))
    ·have hp:Sh.pick z g t=(⟨1,g,(g + (Roll.step 1))⟩:Part):=Sh.pick_1 (z:=z) (f:=g) (t:=t) h7 h11.1 h11.2
     have hpt:¬ (Sh.pick z g t).tier < 0:=by rw [hp]; dsimp only; omega
     have hto:=Sh.pick_to hpt
     have hnx:=hI1.1.trans (Sh.chooseL_next (out:=out) qO hpt)
     have hpl:=Sh.push_len out (Sh.pick z g t)
     rw [hp] at hto hnx hpl
     have hpu:Sh.push out _=_:=Sh.push_new (p:=(⟨1,g,(g + (Roll.step 1))⟩:Part)) hs2 h13
     rw [hpu] at hnx hpl
     try dsimp only at hto
     try dsimp only at hnx
     try dsimp only at hpl
     exact ⟨hnx,by omega,by omega,by omega⟩
    have hp:Sh.pick z g t=(⟨1,g,(g + (Roll.step 1))⟩:Part):=Sh.pick_1 (z:=z) (f:=g) (t:=t) h7 h11.1 h11.2
    have hpt:¬ (Sh.pick z g t).tier < 0:=by rw [hp]; dsimp only; omega
    have hto:=Sh.pick_to hpt
    rw [hp] at hto
    try dsimp only at hto
    omega
   refine (go 15) ?_
   refine zy yd ([(⟨1,g,(g + (Roll.step 1))⟩:Part)]:List Part) wn underlying152 inf217 rfl rfl rfl rfl qD qD rfl fun b94=>yI 5 out ([(⟨1,g,(g + (Roll.step 1))⟩:Part)]:List Part) encPart wn rfl rfl rfl (fun _ hM=>(RowSl encPart hM 0 rfl)) underlying152 inf217 rfl rfl (by first | omega | (simp only [qL]; omega)) rfl fun A5 cp5 hc5 hm5 hA5=>?_
   refine (go 7) ?_
   refine zU (yG (yO (g + (Roll.step 1)) (out++([(⟨1,g,(g + (Roll.step 1))⟩:Part)]:List Part)) (.slice A5 ((out++([(⟨1,g,(g + (Roll.step 1))⟩:Part)]:List Part)).length) cp5) (sc rfl (sc rfl (sc rfl (sc rfl sn)))) (S9 [5,6,7,8,9,10,11]) ?_ ?_))
   ·have hp:Sh.pick z g t=(⟨1,g,(g + (Roll.step 1))⟩:Part):=Sh.pick_1 (z:=z) (f:=g) (t:=t) h7 h11.1 h11.2
    have hpt:¬ (Sh.pick z g t).tier < 0:=by rw [hp]; dsimp only; omega
    have hto:=Sh.pick_to hpt
    have hnx:=hI1.1.trans (Sh.chooseL_next (out:=out) qO hpt)
    have hpl:=Sh.push_len out (Sh.pick z g t)
    rw [hp] at hto hnx hpl
    have hpu:Sh.push out _=_:=Sh.push_nil (p:=(⟨1,g,(g + (Roll.step 1))⟩:Part)) qO
    rw [hpu] at hnx hpl
    try dsimp only at hto
    try dsimp only at hnx
    try dsimp only at hpl
    exact ⟨hnx,by omega,by omega,by omega⟩
   have hp:Sh.pick z g t=(⟨1,g,(g + (Roll.step 1))⟩:Part):=Sh.pick_1 (z:=z) (f:=g) (t:=t) h7 h11.1 h11.2
   have hpt:¬ (Sh.pick z g t).tier < 0:=by rw [hp]; dsimp only; omega
   have hto:=Sh.pick_to hpt
   rw [hp] at hto
   try dsimp only at hto
   omega
  refine (go 7) ?_
  refine jr hK32 (ue fun _ hK48=>?_)
  refine (go 6) ?_
  refine y8 rfl (decide_eq_true qD) ?_
  refine (go 6) ?_
  refine zb (yx (i:=2) rfl rfl rfl qO (by first | omega | decide) underlying37 inf3) (zb (uB 2 encInt rfl rfl rfl (show ([2,1,0]:List Int)[2]?=some 0 from rfl) rfl flat3) ?_)
  refine (go 7) ?_
  refine yH call93 wn rfl (fun w1 hM=>uW 0 w1) ?_
  refine (go 11) ?_
  refine y8 rfl (decide_eq_true qD) ?_
  refine (go 7) ?_
  refine zb (jI (show _=(Sh.mn (g - g % 10 + 10) t) from rfl) (r_min rfl rfl)) ?_
  refine (go 9) (zz fun b14_2=>?_)
  refine (go 3) ?_
  refine ym [(1,iV g),(2,iV t),(3,.pointer (some ⟨b3,0,none⟩)),(9,.slice A1 out.length cp1),(10,.pointer (some ⟨b10,0,none⟩)),(14,.pointer (some ⟨b14_2,0,none⟩)),(36,.slice (some ⟨b36,0,none⟩) 3 3),(37,iV 3),(38,iV 2),(65,.bool (decide (((Sh.mn (g - g % 10 + 10) t)≤t)∧(Sh.may z (⟨0,g,(Sh.mn (g - g % 10 + 10) t)⟩:Part)))))] (Mem w ⟨no,P0⟩ [.blk b14_2 [iV 0,iV g,iV (Sh.mn (g - g % 10 + 10) t)] 217,.blk b14_1 [iV 1,iV g,iV (g + (Roll.step 1))] 217,.blk b14 [iV 2,iV g,iV (g + (Roll.step 2))] 217,Row (.slice (some ⟨b36,0,none⟩) 3 3) 3 1 intE ([2,1,0]:List Int),.blk b10 [iV (-1),iV 0,iV 0] 217,Row (.slice A1 out.length cp1) 217 3 yd out,Row (Zs) 217 3 yd ([]:List Part),.blk b3 [.slice z0A z.zK.length z0c,.slice z1A z.raw.length z1c,.slice z2A z.fine.length z2c,.slice z3A z.coarse.length z3c,iV z.zS,iV z.zL,iV z.zF,iV z.zH,iV z.zG] 50,slP 2 zQ (.slice z0A z.zK.length z0c) z.zK,slP 2 zT (.slice z1A z.raw.length z1c) z.raw,slP 8 zJ (.slice z2A z.fine.length z2c) z.fine,slP 8 zJ (.slice z3A z.coarse.length z3c) z.coarse]) (fun _ hK57=>?_) ?_
  ·refine (go 5) (yN 62 (fun h14=>?_) fun h14=>?_)
   ·refine (go 1) ?_
    refine yH call163 (wg rfl rfl rfl) rfl (fun w1 hM=>jd b3 _ _ _ _ z (⟨0,g,(Sh.mn (g - g % 10 + 10) t)⟩:Part) w1 (hM.blk (i:=7) rfl)) ?_
    refine (go 1) ?_
    refine zU (zm hK57 (sc rfl (sc rfl (sc rfl (sc rfl (sc rfl (sc rfl (sc rfl (sc rfl (sc rfl (sc (jp (iff_and_right h14 Iff.rfl)) sn)))))))))) (fun _ h=>h))
   refine (go 3) ?_
   refine zU (zm hK57 (sc rfl (sc rfl (sc rfl (sc rfl (sc rfl (sc rfl (sc rfl (sc rfl (sc rfl (sc (jf (fun g=>h14 g.1)) sn)))))))))) (fun _ h=>h))
  refine zX (fun h15=>?_) fun h15=>?_
  ·refine (go 20) ?_
   refine yc rfl (decide_eq_false qD) ?_
   refine (go 16) (va 76 (fun h16=>?_) fun h16=>?_)
   ·refine (go 2) ?_
    obtain ⟨ad3,hd3⟩:=hA1 (ne_nil (i:=(out.length - 1)) (by first | omega | decide))
    refine vd (yx (i:=(out.length - 1)) rfl hd3 rfl qO (by first | omega | decide) underlying152 inf217) ?_
    refine (go 1) ?_
    obtain ⟨s3,hs3⟩:∃ x,out[(out.length - 1)]?=some x:=⟨_,List.getElem?_eq_getElem (by first | omega | decide)⟩
    refine vd (uB 5 encPart rfl rfl hd3 hs3 rfl flat3) ?_
    refine (go 6) (zX (fun h17=>?_) fun h17=>?_)
    ·refine (go 5) ?_
     refine zb (yx (i:=(out.length - 1)) rfl hd3 rfl qO (by first | omega | decide) underlying152 inf217) ?_
     refine (go 1) ?_
     refine uC 5 (vs:=[iV (Sh.mn (g - g % 10 + 10) t)]) (⟨s3.tier,s3.frm,(Sh.mn (g - g % 10 + 10) t)⟩:Part) encPart wn rfl rfl rfl rfl hd3 hs3 inf3 rfl rfl rfl rfl ?_
     refine (go 6) ?_
     refine zU (yG (yO (Sh.mn (g - g % 10 + 10) t) (out.set (out.length - 1) (⟨s3.tier,s3.frm,(Sh.mn (g - g % 10 + 10) t)⟩:Part)) (.slice A1 out.length cp1) (sc rfl (sc rfl (sc rfl (sc rfl sn)))) (S9 [5,6,7,8,9,10,11]) ?_ ?_))
     ·have hp:=Sh.pick_0 (z:=z) (f:=g) (t:=t) h7 h11 h15.1 h15.2
      have hpt:¬ (Sh.pick z g t).tier < 0:=by rw [hp]; dsimp only; omega
      have hto:=Sh.pick_to hpt
      have hnx:=hI1.1.trans (Sh.chooseL_next (out:=out) qO hpt)
      have hpl:=Sh.push_len out (Sh.pick z g t)
      rw [hp] at hto hnx hpl
      have hpu:Sh.push out _=_:=Sh.push_last (p:=(⟨0,g,(Sh.mn (g - g % 10 + 10) t)⟩:Part)) hs3 h17
      rw [hpu] at hnx hpl
      try dsimp only at hto
      try dsimp only at hnx
      try dsimp only at hpl
      exact ⟨hnx,by omega,by omega,by omega⟩
     have hp:=Sh.pick_0 (z:=z) (f:=g) (t:=t) h7 h11 h15.1 h15.2
     have hpt:¬ (Sh.pick z g t).tier < 0:=by rw [hp]; dsimp only; omega
     have hto:=Sh.pick_to hpt
     rw [hp] at hto
     try dsimp only at hto
     omega
    refine (go 3) ?_
    refine zy yd ([(⟨0,g,(Sh.mn (g - g % 10 + 10) t)⟩:Part)]:List Part) wn underlying152 inf217 rfl rfl rfl rfl qD qD rfl fun b94=>yI 6 out ([(⟨0,g,(Sh.mn (g - g % 10 + 10) t)⟩:Part)]:List Part) encPart wn rfl rfl rfl (fun _ hM=>(RowSl encPart hM 0 rfl)) underlying152 inf217 rfl rfl (by first | omega | (simp only [qL]; omega)) rfl fun A6 cp6 hc6 hm6 hA6=>?_
    refine (go 7) ?_
    refine zU (yG (yO (Sh.mn (g - g % 10 + 10) t) (out++([(⟨0,g,(Sh.mn (g - g % 10 + 10) t)⟩:Part)]:List Part)) (.slice A6 ((out++([(⟨0,g,(Sh.mn (g - g % 10 + 10) t)⟩:Part)]:List Part)).length) cp6) (sc rfl (sc rfl (sc rfl (sc rfl sn)))) (S9 [6,7,8,9,10,11,12]) ?_ ?_))
    ·have hp:=Sh.pick_0 (z:=z) (f:=g) (t:=t) h7 h11 h15.1 h15.2
     have hpt:¬ (Sh.pick z g t).tier < 0:=by rw [hp]; dsimp only; omega
     have hto:=Sh.pick_to hpt
     have hnx:=hI1.1.trans (Sh.chooseL_next (out:=out) qO hpt)
     have hpl:=Sh.push_len out (Sh.pick z g t)
     rw [hp] at hto hnx hpl
     have hpu:Sh.push out _=_:=Sh.push_new (p:=(⟨0,g,(Sh.mn (g - g % 10 + 10) t)⟩:Part)) hs3 h17
     rw [hpu] at hnx hpl
     try dsimp only at hto
     try dsimp only at hnx
     try dsimp only at hpl
     exact ⟨hnx,by omega,by omega,by omega⟩
    have hp:=Sh.pick_0 (z:=z) (f:=g) (t:=t) h7 h11 h15.1 h15.2
    have hpt:¬ (Sh.pick z g t).tier < 0:=by rw [hp]; dsimp only; omega
    have hto:=Sh.pick_to hpt
    rw [hp] at hto
    try dsimp only at hto
    omega
   refine (go 15) ?_
   refine zy yd ([(⟨0,g,(Sh.mn (g - g % 10 + 10) t)⟩:Part)]:List Part) wn underlying152 inf217 rfl rfl rfl rfl qD qD rfl fun b94=>yI 6 out ([(⟨0,g,(Sh.mn (g - g % 10 + 10) t)⟩:Part)]:List Part) encPart wn rfl rfl rfl (fun _ hM=>(RowSl encPart hM 0 rfl)) underlying152 inf217 rfl rfl (by first | omega | (simp only [qL]; omega)) rfl fun A7 cp7 hc7 hm7 hA7=>?_
   refine (go 7) ?_
   refine zU (yG (yO (Sh.mn (g - g % 10 + 10) t) (out++([(⟨0,g,(Sh.mn (g - g % 10 + 10) t)⟩:Part)]:List Part)) (.slice A7 ((out++([(⟨0,g,(Sh.mn (g - g % 10 + 10) t)⟩:Part)]:List Part)).length) cp7) (sc rfl (sc rfl (sc rfl (sc rfl sn)))) (S9 [6,7,8,9,10,11,12]) ?_ ?_))
   ·have hp:=Sh.pick_0 (z:=z) (f:=g) (t:=t) h7 h11 h15.1 h15.2
    have hpt:¬ (Sh.pick z g t).tier < 0:=by rw [hp]; dsimp only; omega
    have hto:=Sh.pick_to hpt
    have hnx:=hI1.1.trans (Sh.chooseL_next (out:=out) qO hpt)
    have hpl:=Sh.push_len out (Sh.pick z g t)
    rw [hp] at hto hnx hpl
    have hpu:Sh.push out _=_:=Sh.push_nil (p:=(⟨0,g,(Sh.mn (g - g % 10 + 10) t)⟩:Part)) qO
    rw [hpu] at hnx hpl
    try dsimp only at hto
    try dsimp only at hnx
    try dsimp only at hpl
    exact ⟨hnx,by omega,by omega,by omega⟩
   have hp:=Sh.pick_0 (z:=z) (f:=g) (t:=t) h7 h11 h15.1 h15.2
   have hpt:¬ (Sh.pick z g t).tier < 0:=by rw [hp]; dsimp only; omega
   have hto:=Sh.pick_to hpt
   rw [hp] at hto
   try dsimp only at hto
   omega
  refine (go 7) ?_
  refine jr hK48 (ue fun _ hK64=>?_)
  refine (go 6) ?_
  refine yc rfl (decide_eq_false qD) ?_
  refine (go 13) ?_
  refine y8 rfl (decide_eq_true qD) ?_
  refine (go 2) ?_
  refine yD (yd:Part→List Value) 217 3 ?_
  refine (go 10) (yL results117 fun w1 hM=>?_)
  have hp:=Sh.pick_no (z:=z) (f:=g) (t:=t) h7 h11 h15
  have he:Sh.choose z f t=(([]:List Part),10):=Sh.choose_gone h1 qO hI1.1 qO (by rw [hp]; decide)
  exact hM.jb 0 rfl (by rw [he]) (by rw [he])
 refine (go 13) (yL results117 fun w1 hM=>?_)
 have he:Sh.choose z f t=(out,0):=Sh.choose_end h1 qO hI1.1 qO
 exact hM.jb 0 rfl (by rw [he]) (by rw [he])
set_option maxHeartbeats 4000000 in
theorem c_read (z0:Value) (z1:Value) (z2:Value) (z3:Value) (z:Shelf) (lv:Value) (l:List Part) (P0:Nat→Prop) (w:World) (hP0:∀ b,P0 b→b < w.heap.size) (hz0:zD P0 2 zQ z0 z.zK w) (hz1:zD P0 2 zT z1 z.raw w) (hz2:zD P0 8 zJ z2 z.fine w) (hz3:zD P0 8 zJ z3 z.coarse w) (hl:zD P0 3 yd lv l w) (hl1:l.length≤1048576) :
    Calls prog 118 #[.agg (List.toArray [z0,z1,z2,z3,iV z.zS,iV z.zL,iV z.zF,iV z.zH,iV z.zG]),lv] w (Ret w (.tuple #[.agg (sumE (Sh.read z l).1).toArray,iV (Sh.read z l).2.1,iV (Sh.read z l).2.2])):=by
 obtain ⟨z0A,z0c,rfl,hz0c,hz0m,hz0A⟩:=hz0.form
 obtain ⟨z1A,z1c,rfl,hz1c,hz1m,hz1A⟩:=hz1.form
 obtain ⟨z2A,z2c,rfl,hz2c,hz2m,hz2A⟩:=hz2.form
 obtain ⟨z3A,z3c,rfl,hz3c,hz3m,hz3A⟩:=hz3.form
 obtain ⟨lA,lc,rfl,hlc,hlm,hlA⟩:=hl.form
 refine zr (N:=112) func118 (Mem.ofDatsP hP0 (dc (dlp hz0) (dc (dlp hz1) (dc (dlp hz2) (dc (dlp hz3) (dc (dlp hl) dn)))))) ?_
 refine (go 2) (yu fun b2=>zz fun b4=>?_)
 refine (go 8) ?_
 refine yH call21 wn rfl (fun w1 hM=>vf _ _ _ _ z (In w1) w1 (fun _ h=>h) (hM.slp 2 rfl) (hM.slp 3 rfl) (hM.slp 4 rfl) (hM.slp 5 rfl)) ?_
 refine (go 9) (zX (fun h1=>?_) fun h1=>?_)
 ·refine (go 11) (u7 results118 fun w1 hM=>?_)
  have he:Sh.read z l=(Sum.zero,0,(Sh.wrong z)):=Sh.read_wrong h1
  rw [he]
  exact zP rfl hM
 obtain ⟨l1,l2,l3,l4⟩:=(Sh.ok_of h1).lens
 refine (go 4) (zz fun b8=>?_)
 refine (go 16) ?_
 refine uL (fun (k:Nat) (u:Sum) (c:Int)=>[(1,.slice lA l.length lc),(2,.pointer (some ⟨b2,0,none⟩)),(4,.pointer (some ⟨b4,0,none⟩)),(8,.pointer (some ⟨b8,0,none⟩)),(9,iV c),(21,.slice lA l.length lc),(22,iV l.length),(23,iV k)]) (fun (k:Nat) (u:Sum) (c:Int)=>[.blk b8 [iV u.count,iV u.total,iV u.min,iV u.max,iV u.first,iV u.last,iV u.rise] 89,.blk b4 [iV 0,iV 0,iV 0,iV 0,iV 0,iV 0,iV 0] 89,.blk b2 [.slice z0A z.zK.length z0c,.slice z1A z.raw.length z1c,.slice z2A z.fine.length z2c,.slice z3A z.coarse.length z3c,iV z.zS,iV z.zL,iV z.zF,iV z.zH,iV z.zG] 50,slP 2 zQ (.slice z0A z.zK.length z0c) z.zK,slP 2 zT (.slice z1A z.raw.length z1c) z.raw,slP 8 zJ (.slice z2A z.fine.length z2c) z.fine,slP 8 zJ (.slice z3A z.coarse.length z3c) z.coarse,slP 3 yd (.slice lA l.length lc) l]) (fun (k:Nat) (u:Sum) (c:Int)=>k≤l.length∧Sh.readN z none l Sum.zero 0=Sh.readN z (Sh.prevP l k) (l.drop k) u c∧(0≤c∧c≤500 * (k:Int))∧Sh.good u (30000 * (k:Int))) (fun (k:Nat) (u:Sum) (c:Int)=>l.length - k) 0 Sum.zero 0 (sc rfl (sc rfl (sc rfl (sc rfl (sc rfl (sc rfl (sc rfl (sc (ji (by first | omega | (simp [Roll.inT,Sh.bIn]; done) | (rw [hst2,List.length_append]; simp only [List.length_cons,List.length_nil]; omega) | (rw [hst2]; done) | (rw [hst2]; omega))) sn)))))))) (fun _ h=>h) ?_ (fun k u c hI1=>?_)
 ·exact ⟨by omega,rfl,by omega,by simpa using Sh.good_zero⟩
 refine (go 6) (zX (fun h2=>?_) fun h2=>?_)
 ·refine (go 7) ?_
  obtain ⟨ad1,s1,hd1,hs1⟩:=elx hlA k
  refine (go 1) ?_
  have hc91:=Sh.bIn_len z.fine s1.frm s1.to
  have hc92:=Sh.bIn_len z.coarse s1.frm s1.to
  have hc93:=Roll.inT_len z.raw s1.frm s1.to
  refine (go 1) (zz fun b11=>?_)
  refine (go 8) ?_
  refine yP wn rfl call163 rfl (fun w1 hM=>jd b2 _ _ _ _ z s1 w1 (hM.blk (i:=3) rfl)) ?_
  refine (go 2) (va 31 (fun h3=>?_) fun h3=>?_)
  ·refine (go 32) (u7 results118 fun w1 hM=>?_)
   have he:Sh.read z l=(Sum.zero,0,8):=Sh.read_bad h1 hI1.2.1 hs1 (.inl h3)
   rw [he]
   exact zP rfl hM
  refine (go 3) (va 34 (fun h4=>?_) fun h4=>?_)
  ·refine (go 3) ?_
   refine vd (yx (i:=(k - 1)) rfl hd1 rfl qO qI underlying152 inf217) ?_
   refine (go 1) ?_
   obtain ⟨s2,hs2⟩:=gx l ((k - 1))
   refine (go 8) (zX (fun h5=>?_) fun h5=>?_)
   ·refine (go 15) (u7 results118 fun w1 hM=>?_)
    have he:Sh.read z l=(Sum.zero,0,8):=Sh.read_bad h1 hI1.2.1 hs1 (.inr ((Sh.apart_pos qO hs2).2 h5))
    rw [he]
    exact zP rfl hM
   refine (go 4) (zz fun b12=>?_)
   refine (go 16) (zX (fun h6=>?_) fun h6=>?_)
   ·refine (go 8) ?_
    refine yH call164 wn rfl (fun w1 hM=>uO _ z.fine s1.frm s1.to w1 (hM.slp 7 rfl)) ?_
    refine (go 8) ?_
    refine yH call165 wn rfl (fun w1 hM=>ug _ z.fine s1 w1 (hM.slp 7 rfl) qO) ?_
    refine (go 8) ?_
    refine yH call66 wn rfl (fun w1 hM=>vb u (Roll.of z.fine s1.frm s1.to) w1) ?_
    refine (go 7) ?_
    refine zU (yO (k + 1) (Agg.join u (Roll.of z.fine s1.frm s1.to)) (c + ((Sh.bIn z.fine s1.frm s1.to).length:Int)) (sc rfl (sc rfl (sc rfl (sc rfl (sc rfl (sc rfl (sc rfl (sc (ji (by first | omega | (simp [Roll.inT,Sh.bIn]; done) | (rw [hst2,List.length_append]; simp only [List.length_cons,List.length_nil]; omega) | (rw [hst2]; done) | (rw [hst2]; omega))) sn)))))))) (S9 [2,3,4,5,6,7,8,9]) ?_ ?_)
    ·have hps:=Sh.partSum_1 (z:=z) h6
     have hgd:=Sh.partSum_good (Sh.ok_of h1) (Classical.not_not.1 h3)
     have hcr:=Sh.partCost_rng (Sh.ok_of h1) s1
     rw [hps.1] at hgd
     rw [hps.2] at hcr
     exact ⟨by omega,Sh.read_next hI1.2.1 hs1 (Classical.not_not.1 h3) (fun q=>h5 ((Sh.apart_pos qO hs2).1 q)) hps.1 hps.2,by omega,(hI1.2.2.2.join hgd qO).mono qO⟩
    omega
   refine (go 6) (zX (fun h7=>?_) fun h7=>?_)
   ·refine (go 8) ?_
    refine yH call164 wn rfl (fun w1 hM=>uO _ z.coarse s1.frm s1.to w1 (hM.slp 8 rfl)) ?_
    refine (go 8) ?_
    refine yH call165 wn rfl (fun w1 hM=>ug _ z.coarse s1 w1 (hM.slp 8 rfl) qO) ?_
    refine (go 8) ?_
    refine yH call66 wn rfl (fun w1 hM=>vb u (Roll.of z.coarse s1.frm s1.to) w1) ?_
    refine (go 7) ?_
    refine zU (yO (k + 1) (Agg.join u (Roll.of z.coarse s1.frm s1.to)) (c + ((Sh.bIn z.coarse s1.frm s1.to).length:Int)) (sc rfl (sc rfl (sc rfl (sc rfl (sc rfl (sc rfl (sc rfl (sc (ji (by first | omega | (simp [Roll.inT,Sh.bIn]; done) | (rw [hst2,List.length_append]; simp only [List.length_cons,List.length_nil]; omega) | (rw [hst2]; done) | (rw [hst2]; omega))) sn)))))))) (S9 [2,3,4,5,6,7,8,9]) ?_ ?_)
    ·have hps:=Sh.partSum_2 (z:=z) h6 h7
     have hgd:=Sh.partSum_good (Sh.ok_of h1) (Classical.not_not.1 h3)
     have hcr:=Sh.partCost_rng (Sh.ok_of h1) s1
     rw [hps.1] at hgd
     rw [hps.2] at hcr
     exact ⟨by omega,Sh.read_next hI1.2.1 hs1 (Classical.not_not.1 h3) (fun q=>h5 ((Sh.apart_pos qO hs2).1 q)) hps.1 hps.2,by omega,(hI1.2.2.2.join hgd qO).mono qO⟩
    omega
   refine (go 9) ?_
   refine yE (fun (j:Nat)=>[(1,.slice lA l.length lc),(2,.pointer (some ⟨b2,0,none⟩)),(4,.pointer (some ⟨b4,0,none⟩)),(8,.pointer (some ⟨b8,0,none⟩)),(9,iV (c + ((Roll.inT (z.raw.take j) s1.frm s1.to).length:Int))),(11,.pointer (some ⟨b11,0,none⟩)),(12,.pointer (some ⟨b12,0,none⟩)),(21,.slice lA l.length lc),(22,iV l.length),(23,iV k),(50,.slice z1A z.raw.length z1c),(51,iV z.raw.length),(52,iV j)]) (fun (j:Nat)=>[.blk b12 [iV ((Agg.of (Roll.inT (z.raw.take j) s1.frm s1.to)).count),iV ((Agg.of (Roll.inT (z.raw.take j) s1.frm s1.to)).total),iV ((Agg.of (Roll.inT (z.raw.take j) s1.frm s1.to)).min),iV ((Agg.of (Roll.inT (z.raw.take j) s1.frm s1.to)).max),iV ((Agg.of (Roll.inT (z.raw.take j) s1.frm s1.to)).first),iV ((Agg.of (Roll.inT (z.raw.take j) s1.frm s1.to)).last),iV ((Agg.of (Roll.inT (z.raw.take j) s1.frm s1.to)).rise)] 89,.blk b11 [iV s1.tier,iV s1.frm,iV s1.to] 217,.blk b8 [iV u.count,iV u.total,iV u.min,iV u.max,iV u.first,iV u.last,iV u.rise] 89,.blk b4 [iV 0,iV 0,iV 0,iV 0,iV 0,iV 0,iV 0] 89,.blk b2 [.slice z0A z.zK.length z0c,.slice z1A z.raw.length z1c,.slice z2A z.fine.length z2c,.slice z3A z.coarse.length z3c,iV z.zS,iV z.zL,iV z.zF,iV z.zH,iV z.zG] 50,slP 2 zQ (.slice z0A z.zK.length z0c) z.zK,slP 2 zT (.slice z1A z.raw.length z1c) z.raw,slP 8 zJ (.slice z2A z.fine.length z2c) z.fine,slP 8 zJ (.slice z3A z.coarse.length z3c) z.coarse,slP 3 yd (.slice lA l.length lc) l]) (fun (j:Nat)=>j≤z.raw.length) (fun (j:Nat)=>z.raw.length - j) 0 (sc rfl (sc rfl (sc rfl (sc rfl (sc (ji (by first | omega | (simp [Roll.inT,Sh.bIn]; done) | (rw [hst2,List.length_append]; simp only [List.length_cons,List.length_nil]; omega) | (rw [hst2]; done) | (rw [hst2]; omega))) (sc rfl (sc rfl (sc rfl (sc rfl (sc rfl (sc rfl (sc rfl (sc (ji (by first | omega | (simp [Roll.inT,Sh.bIn]; done) | (rw [hst2,List.length_append]; simp only [List.length_cons,List.length_nil]; omega) | (rw [hst2]; done) | (rw [hst2]; omega))) sn))))))))))))) (fun _ h=>h) ?_ (fun j hI2=>?_)
   ·omega
   have hlj:=Nat.le_trans (Roll.inT_len (z.raw.take j) s1.frm s1.to) (List.length_take_le' j z.raw)
   refine (go 6) (zX (fun h8=>?_) fun h8=>?_)
   ·refine (go 6) ?_
    obtain ⟨ad2,s3,hd2,hs3⟩:=elx hz1A j
    refine (go 2) (zz fun b14=>?_)
    refine (go 11) (yN 61 (fun h9=>?_) fun h9=>?_)
    ·refine (go 8) (zX (fun h10=>?_) fun h10=>?_)
     ·refine (go 1) (uH 5 ?_)
      refine (go 3) ?_
      refine yP wn rfl call67 rfl (fun w1 hM=>js s3.value w1) (yP wn rfl call66 rfl (fun w1 hM=>vb (Agg.of (Roll.inT (z.raw.take j) s1.frm s1.to)) (Agg.one s3.value) w1) ?_)
      refine (go 14) ?_
      have hst:=(Sh.inT_of_succ (a:=s1.frm) (b:=s1.to) hs3).trans (if_pos qO)
      have hst2:=(Roll.inT_succ (a:=s1.frm) (b:=s1.to) hs3).trans (if_pos qO)
      refine zU (zh (j + 1) (sc rfl (sc rfl (sc rfl (sc rfl (sc (ji (by first | omega | (simp [Roll.inT,Sh.bIn]; done) | (rw [hst2,List.length_append]; simp only [List.length_cons,List.length_nil]; omega) | (rw [hst2]; done) | (rw [hst2]; omega))) (sc rfl (sc rfl (sc rfl (sc rfl (sc rfl (sc rfl (sc rfl (sc (ji (by first | omega | (simp [Roll.inT,Sh.bIn]; done) | (rw [hst2,List.length_append]; simp only [List.length_cons,List.length_nil]; omega) | (rw [hst2]; done) | (rw [hst2]; omega))) sn))))))))))))) (fun _ h=>by rw [hst]; exact (h.sel [1,2,3,4,5,6,7,8,9,10] qD rfl)) ?_ ?_)
      ·omega
      omega
     refine (go 6) ?_
     have hst:=(Sh.inT_of_succ (a:=s1.frm) (b:=s1.to) hs3).trans (if_neg qO)
     have hst2:=(Roll.inT_succ (a:=s1.frm) (b:=s1.to) hs3).trans (if_neg qO)
     refine zU (zh (j + 1) (sc rfl (sc rfl (sc rfl (sc rfl (sc (ji (by first | omega | (simp [Roll.inT,Sh.bIn]; done) | (rw [hst2,List.length_append]; simp only [List.length_cons,List.length_nil]; omega) | (rw [hst2]; done) | (rw [hst2]; omega))) (sc rfl (sc rfl (sc rfl (sc rfl (sc rfl (sc rfl (sc rfl (sc (ji (by first | omega | (simp [Roll.inT,Sh.bIn]; done) | (rw [hst2,List.length_append]; simp only [List.length_cons,List.length_nil]; omega) | (rw [hst2]; done) | (rw [hst2]; omega))) sn))))))))))))) (fun _ h=>by rw [hst]; exact (h.sel [1,2,3,4,5,6,7,8,9,10] qD rfl)) ?_ ?_)
     ·omega
     omega
    refine (go 15) ?_
    have hst:=(Sh.inT_of_succ (a:=s1.frm) (b:=s1.to) hs3).trans (if_neg qO)
    have hst2:=(Roll.inT_succ (a:=s1.frm) (b:=s1.to) hs3).trans (if_neg qO)
    refine zU (zh (j + 1) (sc rfl (sc rfl (sc rfl (sc rfl (sc (ji (by first | omega | (simp [Roll.inT,Sh.bIn]; done) | (rw [hst2,List.length_append]; simp only [List.length_cons,List.length_nil]; omega) | (rw [hst2]; done) | (rw [hst2]; omega))) (sc rfl (sc rfl (sc rfl (sc rfl (sc rfl (sc rfl (sc rfl (sc (ji (by first | omega | (simp [Roll.inT,Sh.bIn]; done) | (rw [hst2,List.length_append]; simp only [List.length_cons,List.length_nil]; omega) | (rw [hst2]; done) | (rw [hst2]; omega))) sn))))))))))))) (fun _ h=>by rw [hst]; exact (h.sel [1,2,3,4,5,6,7,8,9,10] qD rfl)) ?_ ?_)
    ·omega
    omega
   have hk1:z.raw.take j=z.raw:=List.take_of_length_le qO
   rw [hk1]
   refine (go 9) ?_
   refine yH call66 wn rfl (fun w1 hM=>vb u (Agg.of (Roll.inT z.raw s1.frm s1.to)) w1) ?_
   refine (go 7) ?_
   refine zU (yO (k + 1) (Agg.join u (Agg.of (Roll.inT z.raw s1.frm s1.to))) (c + ((Roll.inT z.raw s1.frm s1.to).length:Int)) (sc rfl (sc rfl (sc rfl (sc rfl (sc rfl (sc rfl (sc rfl (sc (ji (by first | omega | (simp [Roll.inT,Sh.bIn]; done) | (rw [hst2,List.length_append]; simp only [List.length_cons,List.length_nil]; omega) | (rw [hst2]; done) | (rw [hst2]; omega))) sn)))))))) (S9 [2,3,4,5,6,7,8,9]) ?_ ?_)
   ·have hps:=Sh.partSum_0 (z:=z) h6 h7
    have hgd:=Sh.partSum_good (Sh.ok_of h1) (Classical.not_not.1 h3)
    have hcr:=Sh.partCost_rng (Sh.ok_of h1) s1
    rw [hps.1] at hgd
    rw [hps.2] at hcr
    exact ⟨by omega,Sh.read_next hI1.2.1 hs1 (Classical.not_not.1 h3) (fun q=>h5 ((Sh.apart_pos qO hs2).1 q)) hps.1 hps.2,by omega,(hI1.2.2.2.join hgd qO).mono qO⟩
   omega
  refine (go 18) (zz fun b12=>?_)
  refine (go 16) (zX (fun h11=>?_) fun h11=>?_)
  ·refine (go 8) ?_
   refine yH call164 wn rfl (fun w1 hM=>uO _ z.fine s1.frm s1.to w1 (hM.slp 7 rfl)) ?_
   refine (go 8) ?_
   refine yH call165 wn rfl (fun w1 hM=>ug _ z.fine s1 w1 (hM.slp 7 rfl) qO) ?_
   refine (go 8) ?_
   refine yH call66 wn rfl (fun w1 hM=>vb u (Roll.of z.fine s1.frm s1.to) w1) ?_
   refine (go 7) ?_
   refine zU (yO (k + 1) (Agg.join u (Roll.of z.fine s1.frm s1.to)) (c + ((Sh.bIn z.fine s1.frm s1.to).length:Int)) (sc rfl (sc rfl (sc rfl (sc rfl (sc rfl (sc rfl (sc rfl (sc (ji (by first | omega | (simp [Roll.inT,Sh.bIn]; done) | (rw [hst2,List.length_append]; simp only [List.length_cons,List.length_nil]; omega) | (rw [hst2]; done) | (rw [hst2]; omega))) sn)))))))) (S9 [2,3,4,5,6,7,8,9]) ?_ ?_)
   ·have hps:=Sh.partSum_1 (z:=z) h11
    have hgd:=Sh.partSum_good (Sh.ok_of h1) (Classical.not_not.1 h3)
    have hcr:=Sh.partCost_rng (Sh.ok_of h1) s1
    rw [hps.1] at hgd
    rw [hps.2] at hcr
    exact ⟨by omega,Sh.read_next hI1.2.1 hs1 (Classical.not_not.1 h3) (Sh.apart_zero qO) hps.1 hps.2,by omega,(hI1.2.2.2.join hgd qO).mono qO⟩
   omega
  refine (go 6) (zX (fun h12=>?_) fun h12=>?_)
  ·refine (go 8) ?_
   refine yH call164 wn rfl (fun w1 hM=>uO _ z.coarse s1.frm s1.to w1 (hM.slp 8 rfl)) ?_
   refine (go 8) ?_
   refine yH call165 wn rfl (fun w1 hM=>ug _ z.coarse s1 w1 (hM.slp 8 rfl) qO) ?_
   refine (go 8) ?_
   refine yH call66 wn rfl (fun w1 hM=>vb u (Roll.of z.coarse s1.frm s1.to) w1) ?_
   refine (go 7) ?_
   refine zU (yO (k + 1) (Agg.join u (Roll.of z.coarse s1.frm s1.to)) (c + ((Sh.bIn z.coarse s1.frm s1.to).length:Int)) (sc rfl (sc rfl (sc rfl (sc rfl (sc rfl (sc rfl (sc rfl (sc (ji (by first | omega | (simp [Roll.inT,Sh.bIn]; done) | (rw [hst2,List.length_append]; simp only [List.length_cons,List.length_nil]; omega) | (rw [hst2]; done) | (rw [hst2]; omega))) sn)))))))) (S9 [2,3,4,5,6,7,8,9]) ?_ ?_)
   ·have hps:=Sh.partSum_2 (z:=z) h11 h12
    have hgd:=Sh.partSum_good (Sh.ok_of h1) (Classical.not_not.1 h3)
    have hcr:=Sh.partCost_rng (Sh.ok_of h1) s1
    rw [hps.1] at hgd
    rw [hps.2] at hcr
    exact ⟨by omega,Sh.read_next hI1.2.1 hs1 (Classical.not_not.1 h3) (Sh.apart_zero qO) hps.1 hps.2,by omega,(hI1.2.2.2.join hgd qO).mono qO⟩
   omega
  refine (go 9) ?_
  refine yE (fun (j:Nat)=>[(1,.slice lA l.length lc),(2,.pointer (some ⟨b2,0,none⟩)),(4,.pointer (some ⟨b4,0,none⟩)),(8,.pointer (some ⟨b8,0,none⟩)),(9,iV (c + ((Roll.inT (z.raw.take j) s1.frm s1.to).length:Int))),(11,.pointer (some ⟨b11,0,none⟩)),(12,.pointer (some ⟨b12,0,none⟩)),(21,.slice lA l.length lc),(22,iV l.length),(23,iV k),(50,.slice z1A z.raw.length z1c),(51,iV z.raw.length),(52,iV j)]) (fun (j:Nat)=>[.blk b12 [iV ((Agg.of (Roll.inT (z.raw.take j) s1.frm s1.to)).count),iV ((Agg.of (Roll.inT (z.raw.take j) s1.frm s1.to)).total),iV ((Agg.of (Roll.inT (z.raw.take j) s1.frm s1.to)).min),iV ((Agg.of (Roll.inT (z.raw.take j) s1.frm s1.to)).max),iV ((Agg.of (Roll.inT (z.raw.take j) s1.frm s1.to)).first),iV ((Agg.of (Roll.inT (z.raw.take j) s1.frm s1.to)).last),iV ((Agg.of (Roll.inT (z.raw.take j) s1.frm s1.to)).rise)] 89,.blk b11 [iV s1.tier,iV s1.frm,iV s1.to] 217,.blk b8 [iV u.count,iV u.total,iV u.min,iV u.max,iV u.first,iV u.last,iV u.rise] 89,.blk b4 [iV 0,iV 0,iV 0,iV 0,iV 0,iV 0,iV 0] 89,.blk b2 [.slice z0A z.zK.length z0c,.slice z1A z.raw.length z1c,.slice z2A z.fine.length z2c,.slice z3A z.coarse.length z3c,iV z.zS,iV z.zL,iV z.zF,iV z.zH,iV z.zG] 50,slP 2 zQ (.slice z0A z.zK.length z0c) z.zK,slP 2 zT (.slice z1A z.raw.length z1c) z.raw,slP 8 zJ (.slice z2A z.fine.length z2c) z.fine,slP 8 zJ (.slice z3A z.coarse.length z3c) z.coarse,slP 3 yd (.slice lA l.length lc) l]) (fun (j:Nat)=>j≤z.raw.length) (fun (j:Nat)=>z.raw.length - j) 0 (sc rfl (sc rfl (sc rfl (sc rfl (sc (ji (by first | omega | (simp [Roll.inT,Sh.bIn]; done) | (rw [hst2,List.length_append]; simp only [List.length_cons,List.length_nil]; omega) | (rw [hst2]; done) | (rw [hst2]; omega))) (sc rfl (sc rfl (sc rfl (sc rfl (sc rfl (sc rfl (sc rfl (sc (ji (by first | omega | (simp [Roll.inT,Sh.bIn]; done) | (rw [hst2,List.length_append]; simp only [List.length_cons,List.length_nil]; omega) | (rw [hst2]; done) | (rw [hst2]; omega))) sn))))))))))))) (fun _ h=>h) ?_ (fun j hI3=>?_)
  ·omega
  have hlj:=Nat.le_trans (Roll.inT_len (z.raw.take j) s1.frm s1.to) (List.length_take_le' j z.raw)
  refine (go 6) (zX (fun h13=>?_) fun h13=>?_)
  ·refine (go 6) ?_
   obtain ⟨ad3,s4,hd3,hs4⟩:=elx hz1A j
   refine (go 2) (zz fun b14=>?_)
   refine (go 11) (yN 61 (fun h14=>?_) fun h14=>?_)
   ·refine (go 8) (zX (fun h15=>?_) fun h15=>?_)
    ·refine (go 1) (uH 5 ?_)
     refine (go 3) ?_
     refine yP wn rfl call67 rfl (fun w1 hM=>js s4.value w1) (yP wn rfl call66 rfl (fun w1 hM=>vb (Agg.of (Roll.inT (z.raw.take j) s1.frm s1.to)) (Agg.one s4.value) w1) ?_)
     refine (go 14) ?_
     have hst:=(Sh.inT_of_succ (a:=s1.frm) (b:=s1.to) hs4).trans (if_pos qO)
     have hst2:=(Roll.inT_succ (a:=s1.frm) (b:=s1.to) hs4).trans (if_pos qO)
     refine zU (zh (j + 1) (sc rfl (sc rfl (sc rfl (sc rfl (sc (ji (by first | omega | (simp [Roll.inT,Sh.bIn]; done) | (rw [hst2,List.length_append]; simp only [List.length_cons,List.length_nil]; omega) | (rw [hst2]; done) | (rw [hst2]; omega))) (sc rfl (sc rfl (sc rfl (sc rfl (sc rfl (sc rfl (sc rfl (sc (ji (by first | omega | (simp [Roll.inT,Sh.bIn]; done) | (rw [hst2,List.length_append]; simp only [List.length_cons,List.length_nil]; omega) | (rw [hst2]; done) | (rw [hst2]; omega))) sn))))))))))))) (fun _ h=>by rw [hst]; exact (h.sel [1,2,3,4,5,6,7,8,9,10] qD rfl)) ?_ ?_)
     ·omega
     omega
    refine (go 6) ?_
    have hst:=(Sh.inT_of_succ (a:=s1.frm) (b:=s1.to) hs4).trans (if_neg qO)
    have hst2:=(Roll.inT_succ (a:=s1.frm) (b:=s1.to) hs4).trans (if_neg qO)
    refine zU (zh (j + 1) (sc rfl (sc rfl (sc rfl (sc rfl (sc (ji (by first | omega | (simp [Roll.inT,Sh.bIn]; done) | (rw [hst2,List.length_append]; simp only [List.length_cons,List.length_nil]; omega) | (rw [hst2]; done) | (rw [hst2]; omega))) (sc rfl (sc rfl (sc rfl (sc rfl (sc rfl (sc rfl (sc rfl (sc (ji (by first | omega | (simp [Roll.inT,Sh.bIn]; done) | (rw [hst2,List.length_append]; simp only [List.length_cons,List.length_nil]; omega) | (rw [hst2]; done) | (rw [hst2]; omega))) sn))))))))))))) (fun _ h=>by rw [hst]; exact (h.sel [1,2,3,4,5,6,7,8,9,10] qD rfl)) ?_ ?_)
    ·omega
    omega
   refine (go 15) ?_
   have hst:=(Sh.inT_of_succ (a:=s1.frm) (b:=s1.to) hs4).trans (if_neg qO)
   have hst2:=(Roll.inT_succ (a:=s1.frm) (b:=s1.to) hs4).trans (if_neg qO)
   refine zU (zh (j + 1) (sc rfl (sc rfl (sc rfl (sc rfl (sc (ji (by first | omega | (simp [Roll.inT,Sh.bIn]; done) | (rw [hst2,List.length_append]; simp only [List.length_cons,List.length_nil]; omega) | (rw [hst2]; done) | (rw [hst2]; omega))) (sc rfl (sc rfl (sc rfl (sc rfl (sc rfl (sc rfl (sc rfl (sc (ji (by first | omega | (simp [Roll.inT,Sh.bIn]; done) | (rw [hst2,List.length_append]; simp only [List.length_cons,List.length_nil]; omega) | (rw [hst2]; done) | (rw [hst2]; omega))) sn))))))))))))) (fun _ h=>by rw [hst]; exact (h.sel [1,2,3,4,5,6,7,8,9,10] qD rfl)) ?_ ?_)
   ·omega
   omega
  have hk2:z.raw.take j=z.raw:=List.take_of_length_le qO
  rw [hk2]
  refine (go 9) ?_
  refine yH call66 wn rfl (fun w1 hM=>vb u (Agg.of (Roll.inT z.raw s1.frm s1.to)) w1) ?_
  refine (go 7) ?_
  refine zU (yO (k + 1) (Agg.join u (Agg.of (Roll.inT z.raw s1.frm s1.to))) (c + ((Roll.inT z.raw s1.frm s1.to).length:Int)) (sc rfl (sc rfl (sc rfl (sc rfl (sc rfl (sc rfl (sc rfl (sc (ji (by first | omega | (simp [Roll.inT,Sh.bIn]; done) | (rw [hst2,List.length_append]; simp only [List.length_cons,List.length_nil]; omega) | (rw [hst2]; done) | (rw [hst2]; omega))) sn)))))))) (S9 [2,3,4,5,6,7,8,9]) ?_ ?_)
  ·have hps:=Sh.partSum_0 (z:=z) h11 h12
   have hgd:=Sh.partSum_good (Sh.ok_of h1) (Classical.not_not.1 h3)
   have hcr:=Sh.partCost_rng (Sh.ok_of h1) s1
   rw [hps.1] at hgd
   rw [hps.2] at hcr
   exact ⟨by omega,Sh.read_next hI1.2.1 hs1 (Classical.not_not.1 h3) (Sh.apart_zero qO) hps.1 hps.2,by omega,(hI1.2.2.2.join hgd qO).mono qO⟩
  omega
 refine (go 15) (u7 results118 fun w1 hM=>?_)
 have he:Sh.read z l=(u,c,0):=Sh.read_ok h1 hI1.2.1 qO
 rw [he]
 exact zP rfl hM
end
section
open Tryz
open Ex
attribute [local irreducible] WC WL WQ WE WS
set_option linter.unusedVariables false
set_option linter.unusedSimpArgs false
theorem c_idxX (lv:Value) (l:List zB) (f:Nat) (fcap:Array Value) (fp:zB→Bool) (P0:Nat→Prop) (w:World) (hP0:∀ b,P0 b→b < w.heap.size) (hl:zD P0 7 zu lv l w) (hla:∀ x ∈ l,zB.Ok P0 x w) (fc:∀ vs w,(callFunc f vs).run prog w=.ok (.enter f vs) w) (fh:∀ x:zB,x ∈ l→∀ w1:World,Fr no w w1→Calls prog f (#[.agg (zu x).toArray]++fcap) w1 (Ret w1 (.bool (fp x))))  :
    Calls prog 214 #[lv,.func (.func f) #[] fcap] w (Ret w (iV (Sh.idx fp l))):=by
 have hwl:∀ x ∈ l,zB.Wf x:=fun x hx=>(hla x hx).wf
 obtain ⟨lA,lc,rfl,hlc,hlm,hlA⟩:=hl.form
 refine zr (N:=19) func214 (Mem.ofDatsP hP0 (dc (dlp hl) (dc (dp (all_loc zB.Ok.loc _) hla) dn))) ?_
 refine (go 14) ?_
 refine yE (fun (k:Nat)=>[(0,.slice lA l.length lc),(1,.func (.func f) #[] fcap),(7,iV l.length),(8,iV k)]) (fun (k:Nat)=>[slP 7 zu (.slice lA l.length lc) l,allP zB.Ok l]) (fun (k:Nat)=>k≤l.length∧∀ y ∈ l.take k,fp y=false) (fun (k:Nat)=>l.length - k) 0 (sc rfl (sc rfl (sc rfl (sc (ji qO) sn)))) (fun _ h=>h) ?_ (fun k hI1=>?_)
 ·simp
 refine (go 6) (zX (fun h1=>?_) fun h1=>?_)
 ·refine (go 15) ?_
  obtain ⟨ad1,s1,hd1,hs1⟩:=elx hlA k
  refine (go 2) ?_
  refine vJ wn rfl rfl fc rfl (fun w1 hM=>fh s1 (List.mem_of_getElem? hs1) w1 hM.fr) ?_
  refine (go 2) (yb (fun h2=>?_) fun h2=>?_)
  ·refine (go 12) (zY results214 fun w1 hM=>?_)
   exact zP (by rw [Sh.idx_at hI1.2 hs1 h2]) hM
  refine (go 6) ?_
  refine zU (zh (k + 1) (sc rfl (sc rfl (sc rfl (sc (ji qO) sn)))) (fun _ h=>h) ?_ ?_)
  ·exact ⟨by omega,Sh.none_step hI1.2 hs1 h2⟩
  omega
 refine (go 11) (zY results214 fun w1 hM=>?_)
 exact zP (by rw [Sh.idx_none hI1.2 qO]) hM
theorem c_contX (lv:Value) (l:List zB) (f:Nat) (fcap:Array Value) (fp:zB→Bool) (P0:Nat→Prop) (w:World) (hP0:∀ b,P0 b→b < w.heap.size) (hl:zD P0 7 zu lv l w) (hla:∀ x ∈ l,zB.Ok P0 x w) (fc:∀ vs w,(callFunc f vs).run prog w=.ok (.enter f vs) w) (fh:∀ x:zB,x ∈ l→∀ w1:World,Fr no w w1→Calls prog f (#[.agg (zu x).toArray]++fcap) w1 (Ret w1 (.bool (fp x))))  :
    Calls prog 187 #[lv,.func (.func f) #[] fcap] w (Ret w (.bool (l.any fp))):=by
 have hwl:∀ x ∈ l,zB.Wf x:=fun x hx=>(hla x hx).wf
 obtain ⟨lA,lc,rfl,hlc,hlm,hlA⟩:=hl.form
 refine zr (N:=9) func187 (Mem.ofDatsP hP0 (dc (dlp hl) (dc (dp (all_loc zB.Ok.loc _) hla) dn))) ?_
 refine (go 9) ?_
 refine yH call214 wn rfl (fun w1 hM=>c_idxX _ l f fcap fp (In w1) w1 (fun _ h=>h) (hM.slp 0 rfl) (hM.yR (i:=1) rfl) fc (fun x hx w2 hf=>fh x hx w2 (hM.fr.trans hf (fun _ _ h=>h)))) ?_
 refine (go 5) (zY results187 fun w1 hM=>?_)
 exact zP (congrArg Value.bool (by rw [Bool.eq_iff_iff,decide_eq_true_iff]; exact Sh.idx_any)) hM
def uI (e:zB):Prop:=∀ (P0:Nat→Prop) (w:World) (hP0:∀ b,P0 b→b < w.heap.size) (he:zB.Ok P0 e w) ,
    Calls prog 154 #[.agg (zu e).toArray] w (Ret w (.bool (Lg.vector e.e)))
theorem c_vector_step (e:zB) (ih:∀ k:zB,SizeOf.sizeOf k < SizeOf.sizeOf e→uI k):uI e:=by
  intro P0 w hP0 he
  have hwe:=he.wf
  refine fstart (N:=11) (vals:=[.agg (zu e).toArray]) (S:=Mem w ⟨no,P0⟩ [okP zB.Ok e]) func154 rfl rfl rfl (Mem.ofDatsP hP0 (dc (dp (zB.Ok.loc _) he) dn)) (yQ fun K1 hK1=>zl (jn wn rfl rfl fun b1=>vY rfl (yv hK1 (yQ fun K2 hK2=>yQ fun K3 hK3=>zl (zb (ud rfl fld59_0) (zb (uG 0 rfl rfl rfl flat3) (yv hK3 ?_)))))))
  refine vU (ym [(1,.pointer (some ⟨b1,0,none⟩)),(5,.bool (decide (((e.kind=2)∧(e.kind=2))∨(¬ (e.kind=2)∧(e.kind=3)))))] (Mem w ⟨no,P0⟩ [.blk b1 [iV e.kind,iV e.n,iV e.range,.string e.word,.slice e.ms.A e.ms.l.length e.ms.c,.slice e.by_.A e.by_.l.length e.by_.c,.slice e.kids.A e.kids.l.length e.kids.c] 59,okP zB.Ok e]) (fun K4 hK4=>?_) ?_)
  ·
    refine yQ fun K5 hK5=>zl (zb (jE rfl rfl) (vY rfl (yv hK5 (vG rfl (fun h1=>?_) (fun h1=>?_)))))
    ·
      refine uE (zm hK4 (sc rfl (sc (jp (iff_ite_l h1 Iff.rfl)) sn)) (fun _ h=>h))
    ·
      refine zl (zb (jE rfl rfl) (vY rfl ?_))
      refine zU (zm hK4 (sc rfl (sc (jp (iff_ite_r h1 Iff.rfl)) sn)) (fun _ h=>h))
  ·
    refine vG rfl (fun h2=>?_) (fun h2=>?_)
    ·
      refine yQ fun K6 hK6=>zl (vY rfl (yv hK6 (vm (uR (yt (vI (.inl rfl) results154 (vH rfl) fun w1 hM=>?_))))))
      exact zP (congrArg Value.bool (Lg.vector_yes (by have:=h2; omega)).symm) hM
    ·
      refine uE (yG (uw hK2 (yQ fun K7 hK7=>zl (zb (ud rfl fld59_6) (zb (uG 0 rfl rfl rfl flat57) (ze (fun _ h=>h.exprX 1 rfl) ?_))))))
      obtain ⟨hc1,hm1,hA1⟩:=hwe.ms
      obtain ⟨hc2,hm2,hA2⟩:=hwe.by_
      obtain ⟨hc3,hm3,hA3⟩:=hwe.kids
      refine uJ wn rfl call187 rfl (fun w1 hM=>c_contX _ e.kids.l 154 #[] (fun k=>Lg.vector k.e) (In w1) w1 (fun _ h=>h) (hM.slp 2 rfl) (hM.yR (i:=3) rfl) call154 (fun k hk w2 hf=>by simpa using ih k (zB.kid_lt hk) (In w2) w2 (fun _ h=>h) (zB.Ok.loc k (In w1) (In w2) w1 w2 (fun b hb=>Nat.lt_of_lt_of_le hb hf.size) (fun b hb=>hf.block b hb id) (hM.yR (i:=3) rfl k hk)))) (vY rfl (yv hK7 (vm (vI (.inl rfl) results154 (vH rfl) fun w1 hM=>?_))))
      exact zP (congrArg Value.bool (Lg.vector_no (by have:=h2; omega)).symm) hM
theorem c_vector (e:zB):uI e:=recX c_vector_step e
def uY (e:zB):Prop:=∀ (P0:Nat→Prop) (w:World) (hP0:∀ b,P0 b→b < w.heap.size) (he:zB.Ok P0 e w) ,
    Calls prog 102 #[.agg (zu e).toArray] w (Ret w (iV (Lg.typed e.e)))
theorem c_typed_step (e:zB) (ih:∀ k:zB,SizeOf.sizeOf k < SizeOf.sizeOf e→uY k):uY e:=by
  intro P0 w hP0 he
  have hwe:=he.wf
  refine fstart (N:=36) (vals:=[.agg (zu e).toArray]) (S:=Mem w ⟨no,P0⟩ [okP zB.Ok e]) func102 rfl rfl rfl (Mem.ofDatsP hP0 (dc (dp (zB.Ok.loc _) he) dn)) (yQ fun K1 hK1=>zl (jn wn rfl rfl fun b1=>vY rfl (yv hK1 (yQ fun K2 hK2=>ym [(1,.pointer (some ⟨b1,0,none⟩)),(22,.bool (decide ((e.kind=3)∧(((e.kids.l.length:Int)=1)∧((!(e.kids.l.any fun k=>Lg.vector k.e))=true)))))] (Mem w ⟨no,P0⟩ [.blk b1 [iV e.kind,iV e.n,iV e.range,.string e.word,.slice e.ms.A e.ms.l.length e.ms.c,.slice e.by_.A e.by_.l.length e.by_.c,.slice e.kids.A e.kids.l.length e.kids.c] 59,okP zB.Ok e]) (fun K3 hK3=>?_) ?_))))
  ·
    refine zl (zb (ud rfl fld59_0) (zb (uG 0 rfl rfl rfl flat3) (zb (jE rfl rfl) (vE rfl (uh (t:=9) rfl (fun h1=>?_) (fun h1=>?_))))))
    ·
      refine y9 (ud rfl fld59_6) (y9 (uG 0 rfl rfl rfl flat57) (y9 (jG rfl underlying57) (y9 (jE rfl rfl) (zb (vX rfl rfl) (vE rfl (uh (t:=15) rfl (fun h2=>?_) (fun h2=>?_)))))))
      ·
        refine y9 (ud rfl fld59_6) (y9 (uG 0 rfl rfl rfl flat57) (ze (fun _ h=>h.exprX 1 rfl) ?_))
        obtain ⟨hc1,hm1,hA1⟩:=hwe.ms
        obtain ⟨hc2,hm2,hA2⟩:=hwe.by_
        obtain ⟨hc3,hm3,hA3⟩:=hwe.kids
        obtain ⟨ad1,hd1⟩:=hA3 (ne_nil (i:=0) qI)
        refine y9 (yx (i:=0) rfl hd1 rfl qO qI underlying57 inf59) ?_
        obtain ⟨s1,hs1⟩:∃ x,e.kids.l[0]?=some x:=⟨_,List.getElem?_eq_getElem qI⟩
        refine y9 (ja 2 [iV s1.kind,iV s1.n,iV s1.range,.string s1.word,.slice s1.ms.A s1.ms.l.length s1.ms.c,.slice s1.by_.A s1.by_.l.length s1.by_.c,.slice s1.kids.A s1.kids.l.length s1.kids.c] rfl rfl hd1 hs1 rfl rfl agg59 inf59) ?_
        have hw1:=hwe.all _ (List.mem_of_getElem? hs1)
        refine ze (fun _ h=>h.one 3 zB.Ok.loc rfl hs1) (uJ (wg rfl rfl rfl) rfl call154 rfl (fun w1 hM=>c_vector s1 (In w1) w1 (fun _ h=>h) (hM.yR (i:=0) rfl)) (y9 (rv_b (show _=(!(e.kids.l.any fun k=>Lg.vector k.e)) from congrArg Bool.not (Lg.any_one qO hs1).symm) (yC rfl)) (zb (vX rfl rfl) ?_)))
        refine zU (zm hK3 (sc rfl (sc (jpb (iff_and_right h1 (iff_and_right h2 Iff.rfl))) sn)) (S9 [5,6]))
      ·
        refine vM (vM (vM (vM (vM (vM (zb (vX rfl rfl) ?_))))))
        refine zU (zm hK3 (sc rfl (sc (jf (fun g=>(fun g=>h2 g.1) g.2)) sn)) (fun _ h=>h))
    ·
      refine vM (vM (vM (vM (zb (vX rfl rfl) (vE rfl (vM (vM (vM (vM (vM (vM ?_)))))))))))
      refine zb (vX rfl rfl) ?_
      refine zU (zm hK3 (sc rfl (sc (jf (fun g=>h1 g.1)) sn)) (fun _ h=>h))
  ·
    refine vG rfl (fun h3=>?_) (fun h3=>?_)
    ·
      refine yQ fun K4 hK4=>zl (vY rfl (yv hK4 (vm (yt (vI (.inl rfl) results102 (vH rfl) fun w1 hM=>?_)))))
      exact zP (congrArg (Value.int .i64) (Lg.typed_8 h3).symm) hM
    ·
      refine jM hK2 (yQ fun K5 hK5=>yQ fun K6 hK6=>zl (zb (ud rfl fld59_6) (zb (uG 0 rfl rfl rfl flat57) (zb (jG rfl underlying57) (vE rfl (yv hK6 (vU (yE (fun (k:Nat)=>[(24,.slice e.kids.A e.kids.l.length e.kids.c),(25,iV e.kids.l.length),(26,iV k)]) (fun (k:Nat)=>[.blk b1 [iV e.kind,iV e.n,iV e.range,.string e.word,.slice e.ms.A e.ms.l.length e.ms.c,.slice e.by_.A e.by_.l.length e.by_.c,.slice e.kids.A e.kids.l.length e.kids.c] 59,okP zB.Ok e]) (fun (k:Nat)=>k≤e.kids.l.length∧Lg.typeds ((e.kids.l.take k).map zB.e)=0) (fun (k:Nat)=>e.kids.l.length - k) 0 (sc rfl (sc rfl (sc (ji qO) sn))) (fun _ h=>h) ?_ (fun k hI1=>?_)))))))))
      · exact ⟨by omega,rfl⟩
      ·
        refine yQ fun K7 hK7=>zl (zb (jW rfl rfl) (yv hK7 (yQ fun K8 hK8=>vG rfl (fun h4=>?_) (fun h4=>?_))))
        ·
          refine jM hK8 (yQ fun K9 hK9=>vU (yQ fun K10 hK10=>zl (ze (fun _ h=>h.exprX 1 rfl) ?_)))
          obtain ⟨hc4,hm4,hA4⟩:=hwe.ms
          obtain ⟨hc5,hm5,hA5⟩:=hwe.by_
          obtain ⟨hc6,hm6,hA6⟩:=hwe.kids
          obtain ⟨ad2,hd2⟩:=hA6 (ne_nil (i:=k) qI)
          refine zb (yx (i:=k) rfl hd2 rfl qO qI underlying57 inf59) ?_
          obtain ⟨s2,hs2⟩:∃ x,e.kids.l[k]?=some x:=⟨_,List.getElem?_eq_getElem qI⟩
          refine zb (ja 2 [iV s2.kind,iV s2.n,iV s2.range,.string s2.word,.slice s2.ms.A s2.ms.l.length s2.ms.c,.slice s2.by_.A s2.by_.l.length s2.by_.c,.slice s2.kids.A s2.kids.l.length s2.kids.c] rfl rfl hd2 hs2 rfl rfl agg59 inf59) (uz wn inf59 rfl fun b4=>ut 0 wn rfl rfl rfl inf59 rfl rfl rfl (yv hK10 (yQ fun K11 hK11=>zl (zb (jY 0 [iV s2.kind,iV s2.n,iV s2.range,.string s2.word,.slice s2.ms.A s2.ms.l.length s2.ms.c,.slice s2.by_.A s2.by_.l.length s2.by_.c,.slice s2.kids.A s2.kids.l.length s2.kids.c] rfl rfl rfl rfl agg59 inf59) ?_))))
          have hw2:=hwe.all _ (List.mem_of_getElem? hs2)
          refine ze (fun _ h=>h.one 4 zB.Ok.loc rfl hs2) (uJ wn rfl call102 rfl (fun w1 hM=>ih s2 (zB.kid_lt (List.mem_of_getElem? hs2)) (In w1) w1 (fun _ h=>h) (hM.yR (i:=0) rfl)) (vY rfl (yv hK11 (yQ fun K12 hK12=>zl (vE rfl (zb (jF rfl rfl) (yv hK12 (vG rfl (fun h5=>?_) (fun h5=>?_)))))))))
          ·
            refine yQ fun K13 hK13=>zl (vE rfl (vY rfl (yv hK13 (vm (uR (yt (e_loop1_r (uR (yt (vI (.inl rfl) results102 (vH rfl) fun w1 hM=>?_))))))))))
            exact zP (congrArg (Value.int .i64) (((Lg.typed_rest h3).trans ((Lg.typeds_next hI1.2 hs2).2 h5)).symm)) hM
          ·
            refine uE (yG (uw hK9 (zl (zb (uF rfl rfl qO) (vE rfl (zU (zh (k + 1) (sc rfl (sc rfl (sc (ji qO) sn))) (S9 [6,7]) ?_ ?_)))))))
            · exact ⟨by omega,(Lg.typeds_next hI1.2 hs2).1.trans (Classical.not_not.1 h5)⟩
            · omega
        ·
          refine vp (vC (vO (vD (uw hK5 (yQ fun K14 hK14=>zl (vY rfl (yv hK14 (vm (vI (.inl rfl) results102 (vH rfl) fun w1 hM=>?_)))))))))
          exact zP (congrArg (Value.int .i64) (((Lg.typed_rest h3).trans (by rw [← hI1.2,List.take_of_length_le qO])).symm)) hM
theorem c_typed (e:zB):uY e:=recX c_typed_step e
theorem c_idxStr (lv:Value) (l:List ByteArray) (f:Nat) (fcap:Array Value) (fp:ByteArray→Bool) (w:World) (hl:zD (In w) 1 strE lv l w) (fc:∀ vs w,(callFunc f vs).run prog w=.ok (.enter f vs) w) (fh:∀ (x:ByteArray) (w1:World),Fr no w w1→Calls prog f (#[.string x]++fcap) w1 (Ret w1 (.bool (fp x))))  :
    Calls prog 186 #[lv,.func (.func f) #[] fcap] w (Ret w (iV (Sh.idx fp l))):=by
 obtain ⟨lA,lc,rfl,hlc,hlm,hlA⟩:=hl.form
 refine zr (N:=19) func186 (Mem.ofDats (dc (dl hl) dn)) ?_
 refine (go 14) ?_
 refine yE (fun (k:Nat)=>[(0,.slice lA l.length lc),(1,.func (.func f) #[] fcap),(7,iV l.length),(8,iV k)]) (fun (k:Nat)=>[slO (In w) 1 strE (.slice lA l.length lc) l]) (fun (k:Nat)=>k≤l.length∧∀ y ∈ l.take k,fp y=false) (fun (k:Nat)=>l.length - k) 0 (sc rfl (sc rfl (sc rfl (sc (ji qO) sn)))) (fun _ h=>h) ?_ (fun k hI1=>?_)
 ·simp
 refine (go 6) (zX (fun h1=>?_) fun h1=>?_)
 ·refine (go 15) ?_
  obtain ⟨ad1,s1,hd1,hs1⟩:=elx hlA k
  refine (go 2) ?_
  refine vJ wn rfl rfl fc rfl (fun w1 hM=>fh s1 w1 hM.fr) ?_
  refine (go 2) (yb (fun h2=>?_) fun h2=>?_)
  ·refine (go 12) (zY results186 fun w1 hM=>?_)
   exact zP (by rw [Sh.idx_at hI1.2 hs1 h2]) hM
  refine (go 6) ?_
  refine zU (zh (k + 1) (sc rfl (sc rfl (sc rfl (sc (ji qO) sn)))) (fun _ h=>h) ?_ ?_)
  ·exact ⟨by omega,Sh.none_step hI1.2 hs1 h2⟩
  omega
 refine (go 11) (zY results186 fun w1 hM=>?_)
 exact zP (by rw [Sh.idx_none hI1.2 qO]) hM
theorem c_contStr (lv:Value) (l:List ByteArray) (f:Nat) (fcap:Array Value) (fp:ByteArray→Bool) (w:World) (hl:zD (In w) 1 strE lv l w) (fc:∀ vs w,(callFunc f vs).run prog w=.ok (.enter f vs) w) (fh:∀ (x:ByteArray) (w1:World),Fr no w w1→Calls prog f (#[.string x]++fcap) w1 (Ret w1 (.bool (fp x))))  :
    Calls prog 152 #[lv,.func (.func f) #[] fcap] w (Ret w (.bool (l.any fp))):=by
 obtain ⟨lA,lc,rfl,hlc,hlm,hlA⟩:=hl.form
 refine zr (N:=9) func152 (Mem.ofDats (dc (dl hl) dn)) ?_
 refine (go 9) ?_
 refine yH call186 wn rfl (fun w1 hM=>c_idxStr _ l f fcap fp w1 (hM.sl 0 rfl) fc (fun x w2 h2=>fh x w2 (hM.fr.trans h2 (fun _ _ h=>h)))) ?_
 refine (go 5) (zY results152 fun w1 hM=>?_)
 exact zP (congrArg Value.bool (by rw [Bool.eq_iff_iff,decide_eq_true_iff]; exact Sh.idx_any)) hM
theorem c_own1 (k:ByteArray) (w:World)   :
    Calls prog 153 #[.string k] w (Ret w (.bool (!zI.named k))):=by
 refine zr (N:=6) func153 (Mem.ofDats dn) ?_
 refine (go 8) ?_
 refine yH call92 wn rfl (fun w1 hM=>v7 k w1) (zb (yC rfl) ?_)
 refine (go 4) (zY results153 fun w1 hM=>?_)
 exact zP rfl hM
theorem c_Totals  (w:World)   :
    Calls prog 151 #[] w (RetL w 9 1 strE Lg.totals):=by
 refine zr (N:=2) func151 (Mem.ofDats dn) ?_
 refine (go 7) ?_
 refine zy strE ([⟨#[99,111,117,110,116]⟩,⟨#[109,97,120]⟩,⟨#[109,105,110]⟩,⟨#[115,117,109]⟩]:List ByteArray) wn underlying56 inf9 rfl rfl rfl rfl qD qD rfl fun b1=>?_
 refine (go 4) (zY results151 fun w1 hM=>?_)
 exact hM.vn 0 rfl rfl
theorem c_kids (kind:Int) (w:World)  (h1_:1≤kind) (h2_:kind≤4) :
    Calls prog 100 #[iV kind] w (Ret w (iV (Lg.arity kind))):=by
 refine zr (N:=7) func100 (Mem.ofDats dn) ?_
 refine (go 7) ?_
 refine zy intE ([0,0,0,1,2]:List Int) wn underlying37 inf3 rfl rfl rfl rfl qD qD rfl fun b3=>?_
 refine (go 1) ?_
 refine zb (yx (i:=kind.toNat) rfl rfl rfl qO qI underlying37 inf3) ?_
 obtain ⟨s1,hs1⟩:=gx ([0,0,0,1,2]:List Int) kind.toNat
 refine zb (uB 0 encInt rfl rfl rfl hs1 rfl flat3) ?_
 refine (go 4) (zY results100 fun w1 hM=>?_)
 exact zP (congrArg (Value.int .i64) (Lg.arity_at h1_ h2_ hs1)) hM
set_option maxHeartbeats 1000000 in
theorem c_shWindow (h:Value) (ead:Addr) (e:zB) (P0:Nat→Prop) (w:World) (hP0:∀ b,P0 b→b < w.heap.size) (hec:ya P0 ead (zu e) w) (he:zB.Ok P0 e w)  :
    Calls prog 149 #[h,.pointer (some ead)] w (Ret w (iV (Lg.windowW e.word e.ms.l e.range))):=by
 have hwe:=he.wf
 refine zr (N:=70) (vals:=[h,.pointer (some ((Addr.add ead 0).add 0))]) func149 (Mem.ofDatsP hP0 (dc (dp (ya.loc _ _) hec) (dc (dp (zB.Ok.loc _) he) dn))) ?_
 refine (go 7) ?_
 refine yK (Mem w ⟨no,P0⟩ [celP ead [iV e.kind,iV e.n,iV e.range,.string e.word,.slice e.ms.A e.ms.l.length e.ms.c,.slice e.by_.A e.by_.l.length e.by_.c,.slice e.kids.A e.kids.l.length e.kids.c],okP zB.Ok e]) mix (fun _ h=>h.drew) rfl (uD (f:=3) [1,2,3,4] rfl rfl (by kernel_rfl) (by kernel_rfl) (fun _ h=>h) fun KS hKS=>?_)
 refine (go 4) ?_
 refine zi hKS (zf 2 0 (zg (i:=0) rfl fun KN hKN=>vW Agg.words wn rfl call33 rfl (fun w1 hM=>c_Words  w1) fun A1 cp1 hc1 hm1 hA1=>?_))
 refine (go 1) ?_
 refine hKN _ _ (S9 [1,2]) (zf 1 5 (zg (i:=5) rfl fun KN hKN=>yH call150 wn rfl (fun w1 hM=>vR _ Agg.words e.word w1 (RowSl encString hM 0 rfl)) ?_))
 refine (go 1) ?_
 refine hKN _ _ (S9 [1,2]) (yJ 0 [6] [1,2] rfl fun KS hKS=>?_)
 refine (go 1) ?_
 refine zi hKS ?_
 refine zw (by kernel_rfl) ((go 1) (zX (fun h1=>?_) fun h1=>?_))
 ·refine (go 7) (zY results149 fun w1 hM=>?_)
  exact zP (congrArg (Value.int .i64) (by unfold Lg.windowW; grind)) hM
 refine (go 13) (zX (fun h2=>?_) fun h2=>?_)
 ·refine (go 7) (zY results149 fun w1 hM=>?_)
  exact zP (congrArg (Value.int .i64) (by unfold Lg.windowW; grind)) hM
 refine (go 14) ?_
 refine yE (fun (k:Nat)=>[(1,.pointer (some ((Addr.add ead 0).add 0))),(23,.slice e.ms.A e.ms.l.length e.ms.c),(24,iV e.ms.l.length),(25,iV k)]) (fun (k:Nat)=>[Row (.slice A1 Agg.words.length cp1) 9 1 strE Agg.words,celP ead [iV e.kind,iV e.n,iV e.range,.string e.word,.slice e.ms.A e.ms.l.length e.ms.c,.slice e.by_.A e.by_.l.length e.by_.c,.slice e.kids.A e.kids.l.length e.kids.c],okP zB.Ok e]) (fun (k:Nat)=>k≤e.ms.l.length∧Lg.matchesW e.ms.l=Lg.matchesW (e.ms.l.drop k)) (fun (k:Nat)=>e.ms.l.length - k) 0 (sc rfl (sc rfl (sc rfl (sc (ji qO) sn)))) (fun _ h=>h) ?_ (fun k hI1=>?_)
 ·simp
 refine (go 6) (zX (fun h3=>?_) fun h3=>?_)
 ·refine (go 6) ?_
  refine ze (fun _ h=>h.exprX 2 rfl) ?_
  obtain ⟨hc2,hm2,hA2⟩:=hwe.ms
  obtain ⟨hc3,hm3,hA3⟩:=hwe.by_
  obtain ⟨hc4,hm4,hA4⟩:=hwe.kids
  obtain ⟨ad1,s1,hd1,hs1⟩:=elx hA2 k
  refine (go 2) (zz fun b6=>?_)
  refine (go 4) ?_
  refine ym [(1,.pointer (some ((Addr.add ead 0).add 0))),(6,.pointer (some ⟨b6,0,none⟩)),(23,.slice e.ms.A e.ms.l.length e.ms.c),(24,iV e.ms.l.length),(25,iV k),(36,.bool (decide ((s1.kind < 1)∨(4 < s1.kind))))] (Mem w ⟨no,P0⟩ [.blk b6 [iV s1.kind,.string s1.key,.string s1.val] 179,slP 3 yA (.slice e.ms.A e.ms.l.length e.ms.c) e.ms.l,slP 1 strE (.slice e.by_.A e.by_.l.length e.by_.c) e.by_.l,slP 7 zu (.slice e.kids.A e.kids.l.length e.kids.c) e.kids.l,allP zB.Ok e.kids.l,Row (.slice A1 Agg.words.length cp1) 9 1 strE Agg.words,celP ead [iV e.kind,iV e.n,iV e.range,.string e.word,.slice e.ms.A e.ms.l.length e.ms.c,.slice e.by_.A e.by_.l.length e.by_.c,.slice e.kids.A e.kids.l.length e.kids.c],okP zB.Ok e]) (fun _ hK15=>?_) ?_
  ·refine (go 5) (yN 32 (fun h4=>?_) fun h4=>?_)
   ·refine (go 4) ?_
    refine zU (zm hK15 (sc rfl (sc rfl (sc rfl (sc rfl (sc rfl (sc (jt (Or.inl h4)) sn)))))) (fun _ h=>h))
   refine (go 4) ?_
   refine zU (zm hK15 (sc rfl (sc rfl (sc rfl (sc rfl (sc rfl (sc (jp (iff_or_right h4 Iff.rfl)) sn)))))) (fun _ h=>h))
  refine zX (fun h5=>?_) fun h5=>?_
  ·refine (go 12) (zY results149 fun w1 hM=>?_)
   exact zP (congrArg (Value.int .i64) (by have hx:=Lg.matchesW_step hs1; unfold Lg.matchW at hx; unfold Lg.windowW; grind)) hM
  refine (go 2) ?_
  refine ym [(1,.pointer (some ((Addr.add ead 0).add 0))),(23,.slice e.ms.A e.ms.l.length e.ms.c),(24,iV e.ms.l.length),(25,iV k),(56,.bool (decide (((!(zI.named s1.key))=true)∨(((s1.kind=1)∧((!(zI.named s1.val))=true))∨(¬ (s1.kind=1)∧((s1.kind=2)∧((!(zI.named s1.val))=true)))))))] (Mem w ⟨no,P0⟩ [.blk b6 [iV s1.kind,.string s1.key,.string s1.val] 179,slP 3 yA (.slice e.ms.A e.ms.l.length e.ms.c) e.ms.l,slP 1 strE (.slice e.by_.A e.by_.l.length e.by_.c) e.by_.l,slP 7 zu (.slice e.kids.A e.kids.l.length e.kids.c) e.kids.l,allP zB.Ok e.kids.l,Row (.slice A1 Agg.words.length cp1) 9 1 strE Agg.words,celP ead [iV e.kind,iV e.n,iV e.range,.string e.word,.slice e.ms.A e.ms.l.length e.ms.c,.slice e.by_.A e.by_.l.length e.by_.c,.slice e.kids.A e.kids.l.length e.kids.c],okP zB.Ok e]) (fun _ hK17=>?_) ?_
  ·refine (go 3) ?_
   refine yH call92 wn rfl (fun w1 hM=>v7 s1.key w1) (zb (yC rfl) ?_)
   refine (go 1) (jJ 41 (fun h6=>?_) fun h6=>?_)
   ·refine (go 15) ?_
    refine zU (zm hK17 (sc rfl (sc rfl (sc rfl (sc rfl (sc (jt (Or.inl h6)) sn))))) (fun _ h=>h))
   refine (go 4) (yN 45 (fun h7=>?_) fun h7=>?_)
   ·refine (go 7) ?_
    refine yH call92 (wg rfl rfl rfl) rfl (fun w1 hM=>v7 s1.val w1) (y9 (yC rfl) ?_)
    refine (go 2) ?_
    refine zU (zm hK17 (sc rfl (sc rfl (sc rfl (sc rfl (sc (jpb (iff_or_right h6 (iff_ite_l h7 Iff.rfl))) sn))))) (fun _ h=>h))
   refine (go 5) (yN 50 (fun h8=>?_) fun h8=>?_)
   ·refine (go 2) ?_
    refine yH call92 (wg rfl rfl rfl) rfl (fun w1 hM=>v7 s1.val w1) (y9 (yC rfl) ?_)
    refine (go 2) ?_
    refine zU (zm hK17 (sc rfl (sc rfl (sc rfl (sc rfl (sc (jpb (iff_or_right h6 (iff_ite_r h7 (iff_and_right h8 Iff.rfl)))) sn))))) (fun _ h=>h))
   refine (go 6) ?_
   refine zU (zm hK17 (sc rfl (sc rfl (sc rfl (sc rfl (sc (jf (fun g=>g.elim h6 (fun g=>g.elim (fun k=>h7 k.1) (fun k=>(fun g=>h8 g.1) k.2)))) sn))))) (fun _ h=>h))
  refine zX (fun h9=>?_) fun h9=>?_
  ·refine (go 11) (zY results149 fun w1 hM=>?_)
   exact zP (congrArg (Value.int .i64) (by have hx:=Lg.matchesW_step hs1; unfold Lg.matchW at hx; unfold Lg.windowW; grind)) hM
  refine (go 6) ?_
  refine zU (zh (k + 1) (sc rfl (sc rfl (sc rfl (sc (ji qO) sn)))) (S9 [5,6,7]) ?_ ?_)
  ·exact ⟨by omega,by rw [hI1.2,Lg.matchesW_step hs1]; unfold Lg.matchW; grind⟩
  omega
 refine (go 6) ?_
 refine ym [(69,.bool (decide ((e.range < 1)∨(100000 < e.range))))] (Mem w ⟨no,P0⟩ [Row (.slice A1 Agg.words.length cp1) 9 1 strE Agg.words,celP ead [iV e.kind,iV e.n,iV e.range,.string e.word,.slice e.ms.A e.ms.l.length e.ms.c,.slice e.by_.A e.by_.l.length e.by_.c,.slice e.kids.A e.kids.l.length e.kids.c],okP zB.Ok e]) (fun _ hK20=>?_) ?_
 ·refine (go 7) (yN 63 (fun h10=>?_) fun h10=>?_)
  ·refine (go 6) ?_
   refine zU (zm hK20 (sc (jt (Or.inl h10)) sn) (fun _ h=>h))
  refine (go 6) ?_
  refine zU (zm hK20 (sc (jp (iff_or_right h10 Iff.rfl)) sn) (fun _ h=>h))
 refine zX (fun h11=>?_) fun h11=>?_
 ·refine (go 7) (zY results149 fun w1 hM=>?_)
  exact zP (congrArg (Value.int .i64) (by have hx:=Lg.matchesW_end (l:=e.ms.l) (k:=k) qO; unfold Lg.windowW; grind)) hM
 refine (go 8) (zY results149 fun w1 hM=>?_)
 exact zP (congrArg (Value.int .i64) (by have hx:=Lg.matchesW_end (l:=e.ms.l) (k:=k) qO; unfold Lg.windowW; grind)) hM
set_option maxHeartbeats 1000000 in
theorem c_shOwn (h:Value) (ead:Addr) (e:zB) (P0:Nat→Prop) (w:World) (hP0:∀ b,P0 b→b < w.heap.size) (hec:ya P0 ead (zu e) w) (he:zB.Ok P0 e w)  :
    Calls prog 101 #[h,.pointer (some ead)] w (Ret w (iV (Lg.ownW e.kind e.n e.range e.word e.ms.l e.by_.l))):=by
 have hwe:=he.wf
 refine zr (N:=67) (vals:=[h,.pointer (some ((Addr.add ead 0).add 0))]) func101 (Mem.ofDatsP hP0 (dc (dp (ya.loc _ _) hec) (dc (dp (zB.Ok.loc _) he) dn))) ?_
 refine (go 21) (zX (fun h1=>?_) fun h1=>?_)
 ·refine ym [(41,.bool (decide ((e.n < 0)∨(1000000 < e.n))))] (Mem w ⟨no,P0⟩ [celP ead [iV e.kind,iV e.n,iV e.range,.string e.word,.slice e.ms.A e.ms.l.length e.ms.c,.slice e.by_.A e.by_.l.length e.by_.c,.slice e.kids.A e.kids.l.length e.kids.c],okP zB.Ok e]) (fun _ hK5=>?_) ?_
  ·refine (go 7) (yN 35 (fun h2=>?_) fun h2=>?_)
   ·refine (go 6) ?_
    refine zU (zm hK5 (sc (jt (Or.inl h2)) sn) (fun _ h=>h))
   refine (go 6) ?_
   refine zU (zm hK5 (sc (jp (iff_or_right h2 Iff.rfl)) sn) (fun _ h=>h))
  refine zX (fun h3=>?_) fun h3=>?_
  ·refine (go 8) (zY results101 fun w1 hM=>?_)
   exact zP (congrArg (Value.int .i64) (by have hx:=Lg.signs_iff e.word; unfold Lg.ownW; grind)) hM
  refine (go 9) (zY results101 fun w1 hM=>?_)
  exact zP (congrArg (Value.int .i64) (by have hx:=Lg.signs_iff e.word; unfold Lg.ownW; grind)) hM
 refine (go 6) (zX (fun h4=>?_) fun h4=>?_)
 ·refine (go 4) ?_
  refine yH call149 wn rfl (fun w1 hM=>c_shWindow h ead e (In w1) w1 (fun _ h=>h) (hM.yR (i:=0) rfl) (hM.yR (i:=1) rfl)) ?_
  refine (go 6) (zY results101 fun w1 hM=>?_)
  exact zP (congrArg (Value.int .i64) (by have hx:=Lg.signs_iff e.word; unfold Lg.ownW; grind)) hM
 refine (go 6) (zX (fun h5=>?_) fun h5=>?_)
 ·refine (go 2) ?_
  refine yK (Mem w ⟨no,P0⟩ [celP ead [iV e.kind,iV e.n,iV e.range,.string e.word,.slice e.ms.A e.ms.l.length e.ms.c,.slice e.by_.A e.by_.l.length e.by_.c,.slice e.kids.A e.kids.l.length e.kids.c],okP zB.Ok e]) mix (fun _ h=>h.drew) rfl (uD (f:=3) [1,2,3,4] rfl rfl (by kernel_rfl) (by kernel_rfl) (fun _ h=>h) fun KS hKS=>?_)
  refine (go 4) ?_
  refine zi hKS (zf 2 0 (zg (i:=0) rfl fun KN hKN=>vW Lg.totals wn rfl call151 rfl (fun w1 hM=>c_Totals  w1) fun A1 cp1 hc1 hm1 hA1=>?_))
  refine (go 1) ?_
  refine hKN _ _ (S9 [1,2]) (zf 1 5 (zg (i:=5) rfl fun KN hKN=>yH call150 wn rfl (fun w1 hM=>vR _ Lg.totals e.word w1 (RowSl encString hM 0 rfl)) ?_))
  refine (go 1) ?_
  refine hKN _ _ (S9 [1,2]) (yJ 0 [6] [1,2] rfl fun KS hKS=>?_)
  refine (go 1) ?_
  refine zi hKS ?_
  refine zw (by kernel_rfl) ((go 1) (zX (fun h6=>?_) fun h6=>?_))
  ·refine (go 9) (zY results101 fun w1 hM=>?_)
   exact zP (congrArg (Value.int .i64) (by have hx:=Lg.signs_iff e.word; unfold Lg.ownW; grind)) hM
  refine (go 13) (zX (fun h7=>?_) fun h7=>?_)
  ·refine (go 9) (zY results101 fun w1 hM=>?_)
   exact zP (congrArg (Value.int .i64) (by have hx:=Lg.signs_iff e.word; unfold Lg.ownW; grind)) hM
  refine (go 8) ?_
  refine ze (fun _ h=>h.exprX 2 rfl) ?_
  obtain ⟨hc2,hm2,hA2⟩:=hwe.ms
  obtain ⟨hc3,hm3,hA3⟩:=hwe.by_
  obtain ⟨hc4,hm4,hA4⟩:=hwe.kids
  refine yH call152 wn rfl (fun w1 hM=>c_contStr _ e.by_.l 153 #[] (fun k=>!zI.named k) w1 (hM.slp 1 rfl) call153 (fun x w2 h2=>by simpa using c_own1 x w2)) ?_
  refine (go 2) (yb (fun h8=>?_) fun h8=>?_)
  ·refine (go 8) (zY results101 fun w1 hM=>?_)
   exact zP (congrArg (Value.int .i64) (by have hx:=Lg.signs_iff e.word; unfold Lg.ownW; grind)) hM
  refine (go 9) (zY results101 fun w1 hM=>?_)
  exact zP (congrArg (Value.int .i64) (by have hx:=Lg.signs_iff e.word; unfold Lg.ownW; grind)) hM
 refine ym [(27,.bool (decide ((e.word≠⟨#[43]⟩)∧((e.word≠⟨#[45]⟩)∧(e.word≠⟨#[42]⟩)))))] (Mem w ⟨no,P0⟩ [celP ead [iV e.kind,iV e.n,iV e.range,.string e.word,.slice e.ms.A e.ms.l.length e.ms.c,.slice e.by_.A e.by_.l.length e.by_.c,.slice e.kids.A e.kids.l.length e.kids.c],okP zB.Ok e]) (fun _ hK20=>?_) ?_
 ·refine (go 7) (yN 14 (fun h9=>?_) fun h9=>?_)
  ·refine (go 7) (yN 21 (fun h10=>?_) fun h10=>?_)
   ·refine (go 6) ?_
    refine zU (zm hK20 (sc (jp (iff_and_right h9 (iff_and_right h10 Iff.rfl))) sn) (fun _ h=>h))
   refine (go 6) ?_
   refine zU (zm hK20 (sc (jf (fun g=>(fun g=>h10 g.1) g.2)) sn) (fun _ h=>h))
  refine (go 13) ?_
  refine zU (zm hK20 (sc (jf (fun g=>h9 g.1)) sn) (fun _ h=>h))
 refine zX (fun h11=>?_) fun h11=>?_
 ·refine (go 8) (zY results101 fun w1 hM=>?_)
  exact zP (congrArg (Value.int .i64) (by have hx:=Lg.signs_iff e.word; unfold Lg.ownW; grind)) hM
 refine (go 9) (zY results101 fun w1 hM=>?_)
 exact zP (congrArg (Value.int .i64) (by have hx:=Lg.signs_iff e.word; unfold Lg.ownW; grind)) hM
def uZ (e:zB):Prop:=∀ (hp:Nat) (cn:Int) (ead:Addr) (deep:Int) (P0:Nat→Prop) (w:World) (hhp:w.heap[hp]?=some (.cells [iV cn].toArray 119 (0,0))) (hP0:∀ b,P0 b→b < w.heap.size∧b≠hp) (hec:ya P0 ead (zu e) w) (he:zB.Ok P0 e w) (hc0:0≤cn) (hc1:cn≤100) (hd0:0≤deep),
    Calls prog 55 #[.pointer (some ⟨hp,0,none⟩),.pointer (some ead),iV deep] w (RetM w hp 119 (iV (Lg.shape e.e deep cn).1) [iV (Lg.shape e.e deep cn).2])
set_option maxHeartbeats 2000000 in
theorem c_shape_step (e:zB) (ih:∀ k:zB,SizeOf.sizeOf k < SizeOf.sizeOf e→uZ k):uZ e:=by
  intro hp cn ead deep P0 w hhp hP0 hec he hc0 hc1 hd0
  have hwe:=he.wf
  refine fstart (N:=77) (vals:=[.pointer (some ⟨hp,0,none⟩),.pointer (some ((Addr.add ead 0).add 0)),iV deep]) (S:=Mem w ⟨(·=hp),P0⟩ [.blk hp [iV cn] 119,celP ead [iV e.kind,iV e.n,iV e.range,.string e.word,.slice e.ms.A e.ms.l.length e.ms.c,.slice e.by_.A e.by_.l.length e.by_.c,.slice e.kids.A e.kids.l.length e.kids.c],okP zB.Ok e]) func55 rfl rfl rfl (Mem.ptrDats hhp hP0 (dc (dp (ya.loc _ _) hec) (dc (dp (zB.Ok.loc _) he) dn))) (yQ fun K1 hK1=>zl (vY rfl (yv hK1 (yQ fun K2 hK2=>yQ fun K3 hK3=>zl (vE rfl (zb (ye rfl) (zb (ud rfl fld119_0) (zb (uG 0 rfl rfl rfl flat3) ?_))))))))
  refine zb (uF rfl rfl qO) (zb (ye rfl) (zb (ud rfl fld119_0) (jo 0 wn rfl rfl rfl rfl inf3 rfl rfl (yv hK3 (ym [(0,.pointer (some ⟨hp,0,none⟩)),(1,.pointer (some ((Addr.add ead 0).add 0))),(2,iV deep),(25,.bool (decide ((100 < (cn + 1))∨(20 < deep))))] (Mem w ⟨(·=hp),P0⟩ [.blk hp [iV (cn + 1)] 119,celP ead [iV e.kind,iV e.n,iV e.range,.string e.word,.slice e.ms.A e.ms.l.length e.ms.c,.slice e.by_.A e.by_.l.length e.by_.c,.slice e.kids.A e.kids.l.length e.kids.c],okP zB.Ok e]) (fun K4 hK4=>?_) ?_)))))
  ·
    refine zl (vE rfl (zb (ye rfl) (zb (ud rfl fld119_0) (zb (uG 0 rfl rfl rfl flat3) (zb (jX rfl rfl) (vE rfl (uh (t:=22) rfl (fun h1=>?_) (fun h1=>?_))))))))
    ·
      refine vM (vM (zb (vX rfl rfl) ?_))
      refine zU (zm hK4 (sc rfl (sc rfl (sc rfl (sc (jt (Or.inl h1)) sn)))) (fun _ h=>h))
    ·
      refine y9 (ui rfl) (y9 (jX rfl rfl) (zb (vX rfl rfl) ?_))
      refine zU (zm hK4 (sc rfl (sc rfl (sc rfl (sc (jp (iff_or_right h1 Iff.rfl)) sn)))) (fun _ h=>h))
  ·
    refine vG rfl (fun h2=>?_) (fun h2=>?_)
    ·
      refine yQ fun K5 hK5=>zl (vY rfl (yv hK5 (vm (yt (vI (.inl rfl) results55 (vH rfl) fun w1 hM=>?_)))))
      have hq:Lg.shape e.e deep cn=(4,(cn + 1)):=by rw [Lg.shape_e]; grind
      exact hM.jh 0 rfl (by rw [hq] <;> rfl) (by rw [hq] <;> rfl)
    ·
      refine jM hK2 (yQ fun K6 hK6=>ym [(0,.pointer (some ⟨hp,0,none⟩)),(1,.pointer (some ((Addr.add ead 0).add 0))),(2,iV deep),(37,.bool (decide ((e.kind < 1)∨(4 < e.kind))))] (Mem w ⟨(·=hp),P0⟩ [.blk hp [iV (cn + 1)] 119,celP ead [iV e.kind,iV e.n,iV e.range,.string e.word,.slice e.ms.A e.ms.l.length e.ms.c,.slice e.by_.A e.by_.l.length e.by_.c,.slice e.kids.A e.kids.l.length e.kids.c],okP zB.Ok e]) (fun K7 hK7=>?_) ?_)
      ·
        refine zl (vE rfl (zb (ye rfl) (zb (ux rfl fld59_0) (zb (uc 1 rfl rfl rfl flat3) (zb (jW rfl rfl) (vE rfl (uh (t:=31) rfl (fun h3=>?_) (fun h3=>?_))))))))
        ·
          refine vM (vM (vM (vM (vM (zb (vX rfl rfl) ?_)))))
          refine zU (zm hK7 (sc rfl (sc rfl (sc rfl (sc (jt (Or.inl h3)) sn)))) (fun _ h=>h))
        ·
          refine y9 (ui rfl) (y9 (ye rfl) (y9 (ux rfl fld59_0) (y9 (uc 1 rfl rfl rfl flat3) (y9 (jX rfl rfl) (zb (vX rfl rfl) ?_)))))
          refine zU (zm hK7 (sc rfl (sc rfl (sc rfl (sc (jp (iff_or_right h3 Iff.rfl)) sn)))) (fun _ h=>h))
      ·
        refine vG rfl (fun h4=>?_) (fun h4=>?_)
        ·
          refine yQ fun K8 hK8=>zl (vY rfl (yv hK8 (vm (yt (vI (.inl rfl) results55 (vH rfl) fun w1 hM=>?_)))))
          have hq:Lg.shape e.e deep cn=(1,(cn + 1)):=by rw [Lg.shape_e]; grind
          exact hM.jh 0 rfl (by rw [hq] <;> rfl) (by rw [hq] <;> rfl)
        ·
          refine jM hK6 (yQ fun K9 hK9=>yQ fun K10 hK10=>c_quiet mix (by kernel_rfl) (fun _ h=>h.drew) (q_mv rfl (yk (ye rfl) (yk (ux rfl fld59_6) (yk (uc 1 rfl rfl rfl flat57) (yk (jG rfl underlying57) (q_mv rfl (yk (ye rfl) (yk (ux rfl fld59_0) ?_)))))))))
          refine yk (uc 1 rfl rfl rfl flat3) (yP wn rfl call100 rfl (fun w1 hM=>c_kids e.kind w1 qO qO) (yk (jF rfl rfl) (q_end (uw hK10 (vG rfl (fun h5=>?_) (fun h5=>?_))))))
          ·
            refine yQ fun K11 hK11=>zl (vY rfl (yv hK11 (vm (yt (vI (.inl rfl) results55 (vH rfl) fun w1 hM=>?_)))))
            have hq:Lg.shape e.e deep cn=(5,(cn + 1)):=by rw [Lg.shape_e]; grind
            exact hM.jh 0 rfl (by rw [hq] <;> rfl) (by rw [hq] <;> rfl)
          ·
            refine jM hK9 (yQ fun K12 hK12=>yQ fun K13 hK13=>zl (vE rfl (vE rfl (uJ wn rfl call101 rfl (fun w1 hM=>c_shOwn (.pointer (some ⟨hp,0,none⟩)) ead e (In w1) w1 (fun _ h=>h) (hM.yR (i:=1) rfl) (hM.yR (i:=2) rfl)) (vY rfl (yv hK13 (yQ fun K14 hK14=>zl (vE rfl ?_))))))))
            refine zb (jF rfl rfl) (yv hK14 (vG rfl (fun h6=>?_) (fun h6=>?_)))
            ·
              refine yQ fun K15 hK15=>zl (vE rfl (vY rfl (yv hK15 (vm (yt (vI (.inl rfl) results55 (vH rfl) fun w1 hM=>?_))))))
              have hq:Lg.shape e.e deep cn=((Lg.ownW e.kind e.n e.range e.word e.ms.l e.by_.l),(cn + 1)):=by rw [Lg.shape_e]; grind
              exact hM.jh 0 rfl (by rw [hq] <;> rfl) (by rw [hq] <;> rfl)
            ·
              refine jM hK12 (yQ fun K16 hK16=>yQ fun K17 hK17=>zl (vE rfl (zb (ye rfl) (zb (ux rfl fld59_6) (zb (uc 1 rfl rfl rfl flat57) (zb (jG rfl underlying57) (vE rfl (yv hK17 (vU ?_)))))))))
              refine vV (fun (k:Nat) (m:Int)=>[(0,.pointer (some ⟨hp,0,none⟩)),(1,.pointer (some ((Addr.add ead 0).add 0))),(2,iV deep),(59,iV e.kids.l.length),(60,iV k)]) (fun (k:Nat) (m:Int)=>[.blk hp [iV m] 119,celP ead [iV e.kind,iV e.n,iV e.range,.string e.word,.slice e.ms.A e.ms.l.length e.ms.c,.slice e.by_.A e.by_.l.length e.by_.c,.slice e.kids.A e.kids.l.length e.kids.c],okP zB.Ok e]) (fun (k:Nat) (m:Int)=>k≤e.kids.l.length∧(0≤m∧m≤100)∧Lg.shapes ((e.kids.l.take k).map zB.e) (deep + 1) (cn + 1)=(0,m)) (fun (k:Nat) (m:Int)=>e.kids.l.length - k) 0 (cn + 1) (sc rfl (sc rfl (sc rfl (sc rfl (sc (ji qO) sn))))) (fun _ h=>h) ?_ (fun k m hI1=>?_)
              · exact ⟨by omega,⟨by omega,by omega⟩,rfl⟩
              ·
                have hq0:=hI1.2.1.1
                have hq1:=hI1.2.1.2
                refine yQ fun K18 hK18=>zl (zb (jW rfl rfl) (yv hK18 (yQ fun K19 hK19=>vG rfl (fun h7=>?_) (fun h7=>?_))))
                ·
                  refine jM hK19 (yQ fun K20 hK20=>vU (yQ fun K21 hK21=>zl (vE rfl (vY rfl (yv hK21 (yQ fun K22 hK22=>zl (vE rfl (vE rfl ?_))))))))
                  refine zb (ye rfl) (zb (ux rfl fld59_6) (zb (uc 1 rfl rfl rfl flat57) (vE rfl (ze (fun _ h=>h.exprX 2 rfl) ?_))))
                  obtain ⟨hc1,hm1,hA1⟩:=hwe.ms
                  obtain ⟨hc2,hm2,hA2⟩:=hwe.by_
                  obtain ⟨hc3,hm3,hA3⟩:=hwe.kids
                  obtain ⟨ad1,hd1⟩:=hA3 (ne_nil (i:=k) qI)
                  refine zb (yx (i:=k) rfl hd1 rfl qO qI underlying57 inf59) (vE rfl (zb (uF rfl rfl qO) ?_))
                  obtain ⟨s1,hs1⟩:∃ x,e.kids.l[k]?=some x:=⟨_,List.getElem?_eq_getElem qI⟩
                  have hw1:=hwe.all _ (List.mem_of_getElem? hs1)
                  refine ze (fun _ h=>h.one 3 zB.Ok.loc rfl hs1) (u6 5 (v:=iV ((Lg.shape s1.e (deep + 1) m).1)) (cs':=[iV ((Lg.shape s1.e (deep + 1) m).2)]) wn rfl rfl call55 rfl (fun w1 Pb hM pp=>ih s1 (zB.kid_lt (List.mem_of_getElem? hs1)) hp m (Addr.add ad1 (k * 7)) (deep + 1) Pb w1 (hM.blk (i:=5) rfl) (pp.sub' (i:=5) rfl) (cel_of (pp.sl 3 rfl) hd1 hs1) (pp.at_ 0 _ rfl) qO qO qO) (vY rfl (yv hK22 (yQ fun K23 hK23=>zl (vE rfl (zb (jF rfl rfl) (yv hK23 (vG rfl (fun h8=>?_) (fun h8=>?_)))))))))
                  ·
                    refine yQ fun K24 hK24=>zl (vE rfl (vY rfl (yv hK24 (vm (uR (yt (e_loop2_r (uR (yt (vI (.inl rfl) results55 (vH rfl) fun w1 hM=>?_))))))))))
                    have hq:Lg.shape e.e deep cn=((Lg.shape s1.e (deep + 1) m).1,(Lg.shape s1.e (deep + 1) m).2):=(show _=Lg.shapes (e.kids.l.map zB.e) (deep + 1) (cn + 1) from by rw [Lg.shape_e]; grind).trans (((Lg.shapes_next hI1.2.2 hs1).2 h8).trans rfl)
                    exact hM.jh 5 rfl (by rw [hq] <;> rfl) (by rw [hq] <;> rfl)
                  ·
                    refine uE (yG (uw hK20 (zl (zb (uF rfl rfl qO) (vE rfl (zU (yZ (k + 1) ((Lg.shape s1.e (deep + 1) m).2) (sc rfl (sc rfl (sc rfl (sc rfl (sc (ji qO) sn))))) (S9 [5,6,7]) ?_ ?_)))))))
                    · exact ⟨by omega,Lg.shape_le _ _ _ hq0 hq1 (Classical.not_not.1 h8),(Lg.shapes_next hI1.2.2 hs1).1 (Classical.not_not.1 h8)⟩
                    · omega
                ·
                  refine vp (vC (e_loop2_x (vD (uw hK16 (yQ fun K25 hK25=>zl (vY rfl (yv hK25 (vm (vI (.inl rfl) results55 (vH rfl) fun w1 hM=>?_)))))))))
                  have hq:Lg.shape e.e deep cn=(0,m):=(show _=Lg.shapes (e.kids.l.map zB.e) (deep + 1) (cn + 1) from by rw [Lg.shape_e]; grind).trans (by rw [← hI1.2.2,List.take_of_length_le qO])
                  exact hM.jh 0 rfl (by rw [hq] <;> rfl) (by rw [hq] <;> rfl)
theorem c_shape (e:zB):uZ e:=recX c_shape_step e
theorem c_langWrong (e:zB) (P0:Nat→Prop) (w:World) (hP0:∀ b,P0 b→b < w.heap.size) (he:zB.Ok P0 e w)  :
    Calls prog 62 #[.agg (zu e).toArray] w (Ret w (iV (Lg.wrong e.e))):=by
 have hwe:=he.wf
 refine zr (N:=6) func62 (Mem.ofDatsP hP0 (dc (dp (zB.Ok.loc _) he) dn)) ?_
 refine (go 2) (yu fun b1=>?_)
 refine (go 6) (yu fun b4=>?_)
 refine l_sealB 1 rfl rfl (u6 0 (v:=iV ((Lg.shape e.e 1 0).1)) (cs':=[iV ((Lg.shape e.e 1 0).2)]) wn rfl rfl call55 rfl (fun w1 Pb hM pp=>c_shape e b4 0 ⟨b1,0,none⟩ 1 Pb w1 (hM.blk (i:=0) rfl) (pp.sub' (i:=0) rfl) (pp.at_ 1 _ rfl) (pp.at_ 2 _ rfl) qO qO qO) ?_)
 refine (go 4) (zY results62 fun w1 hM=>?_)
 exact zP rfl hM
end
section
open Tryz
open Ex
attribute [local irreducible] WC WL WQ WE WS
set_option linter.unusedVariables false
set_option linter.unusedSimpArgs false
theorem c_check (e:zB) (time:Int) (P0:Nat→Prop) (w:World) (hP0:∀ b,P0 b→b < w.heap.size) (he:zB.Ok P0 e w)  :
    Calls prog 57 #[.agg (zu e).toArray,iV time] w (Ret w (iV (Mn.check e.e time))):=by
 have hwe:=he.wf
 refine zr (N:=23) func57 (Mem.ofDatsP hP0 (dc (dp (zB.Ok.loc _) he) dn)) ?_
 refine (go 2) (yu fun b2=>?_)
 refine (go 7) ?_
 refine yH call62 wn rfl (fun w1 hM=>c_langWrong e (In w1) w1 (fun _ h=>h) (hM.yR (i:=1) rfl)) ?_
 refine (go 9) (zX (fun h1=>?_) fun h1=>?_)
 ·refine (go 8) (zY results57 fun w1 hM=>?_)
  exact zP (congrArg (Value.int .i64) (by unfold Mn.check; grind)) hM
 refine (go 6) ?_
 refine yH call102 wn rfl (fun w1 hM=>c_typed e (In w1) w1 (fun _ h=>h) (hM.yR (i:=1) rfl)) ?_
 refine (go 9) (zX (fun h2=>?_) fun h2=>?_)
 ·refine (go 8) (zY results57 fun w1 hM=>?_)
  exact zP (congrArg (Value.int .i64) (by unfold Mn.check; grind)) hM
 refine (go 3) ?_
 refine ym [(22,.bool (decide ((time < 0)∨(1000000 < time))))] (Mem w ⟨no,P0⟩ [.blk b2 [iV e.kind,iV e.n,iV e.range,.string e.word,.slice e.ms.A e.ms.l.length e.ms.c,.slice e.by_.A e.by_.l.length e.by_.c,.slice e.kids.A e.kids.l.length e.kids.c] 59,okP zB.Ok e]) (fun _ hK11=>?_) ?_
 ·refine (go 4) (yN 19 (fun h3=>?_) fun h3=>?_)
  ·refine (go 3) ?_
   refine zU (zm hK11 (sc (jt (Or.inl h3)) sn) (fun _ h=>h))
  refine (go 3) ?_
  refine zU (zm hK11 (sc (jp (iff_or_right h3 Iff.rfl)) sn) (fun _ h=>h))
 refine zX (fun h4=>?_) fun h4=>?_
 ·refine (go 7) (zY results57 fun w1 hM=>?_)
  exact zP (congrArg (Value.int .i64) (by unfold Mn.check; grind)) hM
 refine (go 8) (zY results57 fun w1 hM=>?_)
 exact zP (congrArg (Value.int .i64) (by unfold Mn.check; grind)) hM
set_option maxHeartbeats 1000000 in
theorem c_sameCells (av:Value) (a:List zE) (bv:Value) (b:List zE) (P0:Nat→Prop) (w:World) (hP0:∀ b,P0 b→b < w.heap.size) (ha:zD P0 2 zo av a w) (haa:∀ x ∈ a,zE.Ok P0 x w) (hb:zD P0 2 zo bv b w) (hba:∀ x ∈ b,zE.Ok P0 x w)  :
    Calls prog 19 #[av,bv] w (Ret w (.bool (decide (a.map zE.e=b.map zE.e)))):=by
 have hwa:∀ x ∈ a,zE.Wf x:=fun x hx=>(haa x hx).wf
 obtain ⟨aA,ac,rfl,hac,ham,haA⟩:=ha.form
 have hwb:∀ x ∈ b,zE.Wf x:=fun x hx=>(hba x hx).wf
 obtain ⟨bA,bc,rfl,hbc,hbm,hbA⟩:=hb.form
 refine zr (N:=42) func19 (Mem.ofDatsP hP0 (dc (dlp ha) (dc (dp (all_loc zE.Ok.loc _) haa) (dc (dlp hb) (dc (dp (all_loc zE.Ok.loc _) hba) dn))))) ?_
 refine (go 15) (zX (fun h1=>?_) fun h1=>?_)
 ·refine (go 7) (zY results19 fun w1 hM=>?_)
  exact zP (congrArg Value.bool (decide_eq_false (fun h=>by have:=congrArg List.length h; simp at this; omega)).symm) hM
 refine (go 11) ?_
 refine yE (fun (k:Nat)=>[(0,.slice aA a.length ac),(1,.slice bA b.length bc),(12,iV a.length),(13,iV k)]) (fun (k:Nat)=>[slP 2 zo (.slice aA a.length ac) a,allP zE.Ok a,slP 2 zo (.slice bA b.length bc) b,allP zE.Ok b]) (fun (k:Nat)=>k≤a.length∧a.length=b.length∧(a.take k).map zE.e=(b.take k).map zE.e) (fun (k:Nat)=>a.length - k) 0 (sc rfl (sc rfl (sc rfl (sc (ji qO) sn)))) (fun _ h=>h) ?_ (fun k hI1=>?_)
 ·exact ⟨by omega,by omega,rfl⟩
 have hlen:=hI1.2.1
 refine (go 6) (zX (fun h2=>?_) fun h2=>?_)
 ·refine (go 14) ?_
  obtain ⟨ad1,s1,hd1,hs1⟩:=elx haA k
  refine (go 5) ?_
  obtain ⟨ad2,s2,hd2,hs2⟩:=elx hbA k
  refine (go 5) (va 27 (fun h3=>?_) fun h3=>?_)
  ·refine (go 27) (zY results19 fun w1 hM=>?_)
   exact zP (congrArg Value.bool (decide_eq_false (Mn.same_no hs1 hs2 (by grind))).symm) hM
  refine (go 10) ?_
  have hw1:=hwa _ (List.mem_of_getElem? hs1)
  refine ub (fun _ h=>h.one 1 zE.Ok.loc rfl hs1) (fun _ h=>h.drop1) (ub (fun _ h=>h.cellX 0 rfl) (fun _ h=>h.drop1) ?_)
  obtain ⟨hc1,hm1,hA1⟩:=hw1.sr
  have hw2:=hwb _ (List.mem_of_getElem? hs2)
  refine ub (fun _ h=>h.one 5 zE.Ok.loc rfl hs2) (fun _ h=>h.drop1) (ub (fun _ h=>h.cellX 0 rfl) (fun _ h=>h.drop1) ?_)
  obtain ⟨hc2,hm2,hA2⟩:=hw2.sr
  refine yP (wg rfl rfl rfl) rfl call41 rfl (fun w1 hM=>c_SameSeries _ s1.sr.l _ s2.sr.l w1 (hM.slp 2 rfl) (hM.slp 0 rfl)) ?_
  refine (go 4) (zX (fun h4=>?_) fun h4=>?_)
  ·refine (go 11) (zY results19 fun w1 hM=>?_)
   exact zP (congrArg Value.bool (decide_eq_false (Mn.same_no hs1 hs2 (by grind))).symm) hM
  refine (go 6) ?_
  refine zU (zh (k + 1) (sc rfl (sc rfl (sc rfl (sc (ji qO) sn)))) (S9 [4,5,6,7]) ?_ ?_)
  ·exact ⟨by omega,by omega,Mn.same_at hI1.2.2 hs1 hs2 (by grind) (by grind)⟩
  omega
 refine (go 11) (zY results19 fun w1 hM=>?_)
 exact zP (congrArg Value.bool (decide_eq_true (by have h:=hI1.2.2; rw [List.take_of_length_le qO,List.take_of_length_le qO] at h; exact h)).symm) hM
theorem uq (n:Int) (w:World)   :
    Calls prog 192 #[iV n] w (Ret w (.bool (Mn.fits n))):=by
 refine zr (N:=9) func192 (Mem.ofDats dn) ?_
 refine (go 10) (yN 5 (fun h1=>?_) fun h1=>?_)
 ·refine (go 7) (zY results192 fun w1 hM=>?_)
  exact zP (congrArg Value.bool (by unfold Mn.fits; grind)) hM
 refine (go 7) (zY results192 fun w1 hM=>?_)
 exact zP (congrArg Value.bool (by unfold Mn.fits; grind)) hM
theorem c_abs (n:Int) (w:World)  (hn:-9223372036854775807≤n∧n≤9223372036854775807) :
    Calls prog 217 #[iV n] w (Ret w (iV (Mn.abs n))):=by
 refine zr (N:=7) func217 (Mem.ofDats dn) ?_
 refine (go 9) ?_
 refine zb (r_neg rfl qO) ?_
 refine (go 5) (zY results217 fun w1 hM=>?_)
 exact zP (congrArg (Value.int .i64) (by unfold Mn.abs; grind)) hM
theorem c_op (v:ByteArray) (a:Int) (b:Int) (w:World)  (hab:-1125899906842624≤a∧a≤1125899906842624) (hbb:-1125899906842624≤b∧b≤1125899906842624) :
    Calls prog 194 #[.string v,iV a,iV b] w (Ret w (.tuple #[iV (Mn.op v a b).1,.bool (Mn.op v a b).2])):=by
 have ha3:=Mn.abs_all a
 have hb3:=Mn.abs_all b
 have hd3:0≤1125899906842624 / Mn.abs b:=Int.ediv_nonneg qO hb3.1
 refine zr (N:=44) func194 (Mem.ofDats dn) ?_
 refine (go 19) (zX (fun h1=>?_) fun h1=>?_)
 ·refine (go 4) ?_
  refine zb (uF rfl rfl (by first | omega | (have:=Mn.mul_rng (a:=a) (b:=b) (by unfold Mn.tooBig; grind); omega))) ?_
  refine (go 2) ?_
  refine zb (uF rfl rfl (by first | omega | (have:=Mn.mul_rng (a:=a) (b:=b) (by unfold Mn.tooBig; grind); omega))) (yH call192 wn rfl (fun w1 hM=>uq (a + b) w1) ?_)
  refine (go 7) (yL results194 fun w1 hM=>?_)
  exact zP (by rw [show Mn.op v a b=((a + b),(Mn.fits (a + b))) from by unfold Mn.op Mn.tooBig; grind]) hM
 refine (go 6) (zX (fun h2=>?_) fun h2=>?_)
 ·refine (go 4) ?_
  refine zb (jK rfl rfl (by first | omega | (have:=Mn.mul_rng (a:=a) (b:=b) (by unfold Mn.tooBig; grind); omega))) ?_
  refine (go 2) ?_
  refine zb (jK rfl rfl (by first | omega | (have:=Mn.mul_rng (a:=a) (b:=b) (by unfold Mn.tooBig; grind); omega))) (yH call192 wn rfl (fun w1 hM=>uq (a - b) w1) ?_)
  refine (go 7) (yL results194 fun w1 hM=>?_)
  exact zP (by rw [show Mn.op v a b=((a - b),(Mn.fits (a - b))) from by unfold Mn.op Mn.tooBig; grind]) hM
 refine (go 4) ?_
 refine ym [(1,iV a),(2,iV b),(40,.bool (decide ((a≠0)∧((b≠0)∧((1125899906842624 / (Mn.abs b)) < (Mn.abs a))))))] (Mem w no []) (fun _ hK9=>?_) ?_
 ·refine (go 4) (yN 29 (fun h3=>?_) fun h3=>?_)
  ·refine (go 4) (yN 33 (fun h4=>?_) fun h4=>?_)
   ·refine (go 1) ?_
    refine yH call217 (wg rfl rfl rfl) rfl (fun w1 hM=>c_abs a w1 qO) ?_
    refine (go 1) ?_
    refine yH call217 (wg rfl rfl rfl) rfl (fun w1 hM=>c_abs b w1 qO) ?_
    refine (go 3) ?_
    refine zU (zm hK9 (sc rfl (sc rfl (sc (jp (iff_and_right h3 (iff_and_right h4 Iff.rfl))) sn))) (fun _ h=>h))
   refine (go 7) ?_
   refine zU (zm hK9 (sc rfl (sc rfl (sc (jf (fun g=>(fun g=>h4 g.1) g.2)) sn))) (fun _ h=>h))
  refine (go 11) ?_
  refine zU (zm hK9 (sc rfl (sc rfl (sc (jf (fun g=>h3 g.1)) sn))) (fun _ h=>h))
 refine zX (fun h5=>?_) fun h5=>?_
 ·refine (go 8) (yL results194 fun w1 hM=>?_)
  exact zP (by rw [show Mn.op v a b=(0,false) from by unfold Mn.op Mn.tooBig; grind]) hM
 refine (go 6) ?_
 refine zb (r_muln rfl rfl (by first | omega | (have:=Mn.mul_rng (a:=a) (b:=b) (by unfold Mn.tooBig; grind); omega))) ?_
 refine (go 5) (yL results194 fun w1 hM=>?_)
 exact zP (by rw [show Mn.op v a b=((a * b),true) from by unfold Mn.op Mn.tooBig; grind]) hM
theorem c_equalL (av:Value) (a:List Label) (bv:Value) (b:List Label) (w:World) (ha:zD (In w) 2 zQ av a w) (hb:zD (In w) 2 zQ bv b w)  :
    Calls prog 197 #[av,bv] w (Ret w (.bool (decide (a=b)))):=by
 obtain ⟨aA,ac,rfl,hac,ham,haA⟩:=ha.form
 obtain ⟨bA,bc,rfl,hbc,hbm,hbA⟩:=hb.form
 refine zr (N:=26) func197 (Mem.ofDats (dc (dl ha) (dc (dl hb) dn))) ?_
 refine (go 15) (zX (fun h1=>?_) fun h1=>?_)
 ·refine (go 7) (zY results197 fun w1 hM=>?_)
  exact zP (by rw [decide_eq_false (fun e=>h1 (by rw [e]))]) hM
 refine (go 11) ?_
 refine yE (fun (k:Nat)=>[(0,.slice aA a.length ac),(1,.slice bA b.length bc),(12,iV a.length),(13,iV k)]) (fun (k:Nat)=>[slO (In w) 2 zQ (.slice aA a.length ac) a,slO (In w) 2 zQ (.slice bA b.length bc) b]) (fun (k:Nat)=>k≤a.length∧a.take k=b.take k) (fun (k:Nat)=>a.length - k) 0 (sc rfl (sc rfl (sc rfl (sc (ji qO) sn)))) (fun _ h=>h) ?_ (fun k hI1=>?_)
 ·simp
 refine (go 6) (zX (fun h2=>?_) fun h2=>?_)
 ·refine (go 14) ?_
  obtain ⟨ad1,s1,hd1,hs1⟩:=elx haA k
  refine (go 4) ?_
  obtain ⟨ad2,s2,hd2,hs2⟩:=elx hbA k
  refine (go 2) ?_
  refine yk (r_neqS (a:=s1) (b:=s2) rfl rfl eqv74) ?_
  refine (go 2) (zX (fun h3=>?_) fun h3=>?_)
  ·refine (go 11) (zY results197 fun w1 hM=>?_)
   exact zP (by rw [decide_eq_false (fun e=>h3 (Option.some.inj (hs1.symm.trans (by rw [e]; exact hs2))))]) hM
  refine (go 6) ?_
  refine zU (zh (k + 1) (sc rfl (sc rfl (sc rfl (sc (ji qO) sn)))) (fun _ h=>h) ?_ ?_)
  ·exact ⟨by omega,same_step hI1.2 hs1 hs2 (Classical.not_not.1 h3)⟩
  omega
 refine (go 11) (zY results197 fun w1 hM=>?_)
 exact zP (by rw [decide_eq_true (same_done qO qO hI1.2)]) hM
theorem c_idxC (lv:Value) (l:List zE) (f:Nat) (fcap:Array Value) (fp:zE→Bool) (P0:Nat→Prop) (w:World) (hP0:∀ b,P0 b→b < w.heap.size) (hl:zD P0 2 zo lv l w) (hla:∀ x ∈ l,zE.Ok P0 x w) (fc:∀ vs w,(callFunc f vs).run prog w=.ok (.enter f vs) w) (fh:∀ x:zE,x ∈ l→∀ w1:World,Fr no w w1→Calls prog f (#[.agg (zo x).toArray]++fcap) w1 (Ret w1 (.bool (fp x))))  :
    Calls prog 195 #[lv,.func (.func f) #[] fcap] w (Ret w (iV (Sh.idx fp l))):=by
 have hwl:∀ x ∈ l,zE.Wf x:=fun x hx=>(hla x hx).wf
 obtain ⟨lA,lc,rfl,hlc,hlm,hlA⟩:=hl.form
 refine zr (N:=19) func195 (Mem.ofDatsP hP0 (dc (dlp hl) (dc (dp (all_loc zE.Ok.loc _) hla) dn))) ?_
 refine (go 14) ?_
 refine yE (fun (k:Nat)=>[(0,.slice lA l.length lc),(1,.func (.func f) #[] fcap),(7,iV l.length),(8,iV k)]) (fun (k:Nat)=>[slP 2 zo (.slice lA l.length lc) l,allP zE.Ok l]) (fun (k:Nat)=>k≤l.length∧∀ y ∈ l.take k,fp y=false) (fun (k:Nat)=>l.length - k) 0 (sc rfl (sc rfl (sc rfl (sc (ji qO) sn)))) (fun _ h=>h) ?_ (fun k hI1=>?_)
 ·simp
 refine (go 6) (zX (fun h1=>?_) fun h1=>?_)
 ·refine (go 15) ?_
  obtain ⟨ad1,s1,hd1,hs1⟩:=elx hlA k
  refine (go 2) ?_
  refine vJ wn rfl rfl fc rfl (fun w1 hM=>fh s1 (List.mem_of_getElem? hs1) w1 hM.fr) ?_
  refine (go 2) (yb (fun h2=>?_) fun h2=>?_)
  ·refine (go 12) (zY results195 fun w1 hM=>?_)
   exact zP (by rw [Sh.idx_at hI1.2 hs1 h2]) hM
  refine (go 6) ?_
  refine zU (zh (k + 1) (sc rfl (sc rfl (sc rfl (sc (ji qO) sn)))) (fun _ h=>h) ?_ ?_)
  ·exact ⟨by omega,Sh.none_step hI1.2 hs1 h2⟩
  omega
 refine (go 11) (zY results195 fun w1 hM=>?_)
 exact zP (by rw [Sh.idx_none hI1.2 qO]) hM
theorem c_bin2 (d:zE) (cad:Addr) (c:zE) (P0:Nat→Prop) (w:World) (hP0:∀ b,P0 b→b < w.heap.size) (hd:zE.Ok P0 d w) (hcc:ya P0 cad (zo c) w) (hc:zE.Ok P0 c w)  :
    Calls prog 196 #[.agg (zo d).toArray,.pointer (some cad)] w (Ret w (.bool (decide (c.sr.l=d.sr.l)))):=by
 have hwd:=hd.wf
 have hwc:=hc.wf
 refine zr (N:=9) (vals:=[.agg (zo d).toArray,.pointer (some ((Addr.add cad 0).add 0))]) func196 (Mem.ofDatsP hP0 (dc (dp (zE.Ok.loc _) hd) (dc (dp (ya.loc _ _) hcc) (dc (dp (zE.Ok.loc _) hc) dn)))) ?_
 refine (go 2) (yu fun b2=>?_)
 refine (go 9) ?_
 refine ze (fun _ h=>h.cellX 3 rfl) ?_
 obtain ⟨hc1,hm1,hA1⟩:=hwc.sr
 refine ze (fun _ h=>h.cellX 2 rfl) ?_
 obtain ⟨hc2,hm2,hA2⟩:=hwd.sr
 refine yH call197 wn rfl (fun w1 hM=>c_equalL _ c.sr.l _ d.sr.l w1 (hM.slp 1 rfl) (hM.slp 0 rfl)) ?_
 refine (go 4) (zY results196 fun w1 hM=>?_)
 exact zP rfl hM
theorem ju (word:ByteArray) (vec:Bool) (n:Int) (v:Value) (l:List zE) (z:SlX Label) (a b:Int) (wp op:Nat) (Pb:Nat→Prop) (w:World) (hG:Mem w ⟨fpOf [.blk wp [.string word] 9,.blk op [.bool vec,iV n,v] 172,Row v 81 2 zo l,allP zE.Ok l,slP 2 zQ (.slice z.A z.l.length z.c) z.l],Pb⟩ [.blk wp [.string word] 9,.blk op [.bool vec,iV n,v] 172,Row v 81 2 zo l,allP zE.Ok l,slP 2 zQ (.slice z.A z.l.length z.c) z.l] w) (hab:-1125899906842624≤a∧a≤1125899906842624) (hbb:-1125899906842624≤b∧b≤1125899906842624) (hl1:l.length≤1048576) :
    Calls prog 193 #[.slice z.A z.l.length z.c,iV a,iV b,.pointer (some ⟨wp,0,none⟩),.pointer (some ⟨op,0,none⟩)] w (RetA w [.blk wp [.string word] 9,.blk op [.bool vec,iV n,v] 172,Row v 81 2 zo l,allP zE.Ok l,slP 2 zQ (.slice z.A z.l.length z.c) z.l] Pb (fun _:Value=>.bool (Mn.op word a b).2) (fun _=>True) (fun v=>[.blk wp [.string word] 9,.blk op [.bool vec,iV n,v] 172,Row v 81 2 zo (l++[zE.mk z (Mn.op word a b).1]),allP zE.Ok (l++[zE.mk z (Mn.op word a b).1]),slP 2 zQ (.slice z.A z.l.length z.c) z.l])):=by
 obtain ⟨rA,rc,rfl,hrc,hrm,hrA⟩:=row_form' (hG.row (i:=2) rfl)
 obtain ⟨hzc,hzm,hzA⟩:=zD.wf (hG.yR (i:=4) rfl)
 have hwl:∀ x ∈ l,zE.Wf x:=fun x hx=>(hG.yR (i:=3) rfl x hx).wf
 refine zr (N:=27) func193 hG ?_
 refine (go 10) ?_
 refine yH call194 wn rfl (fun w1 hM=>c_op word a b w1 (by first | assumption | omega) (by first | assumption | omega)) ?_
 refine (go 14) ?_
 refine zy zo ([(zE.mk ⟨z.A,z.c,z.l⟩ ((Mn.op word a b).1))]:List zE) wn underlying32 inf81 rfl rfl rfl rfl qD qD rfl fun b23=>yI 3 l ([(zE.mk ⟨z.A,z.c,z.l⟩ ((Mn.op word a b).1))]:List zE) encCellX wn rfl rfl rfl (fun _ hM=>(RowSl encCellX hM 0 rfl)) underlying32 inf81 rfl rfl (by simp only [qL]; omega) rfl fun A1 cp1 hc1 hm1 hA1=>ze (fun _ h=>h.allCell (n:=(Mn.op word a b).1) 4 5 rfl rfl) ?_
 have hw1:∀ x ∈ (l++([(zE.mk ⟨z.A,z.c,z.l⟩ ((Mn.op word a b).1))]:List zE)),zE.Wf x:=fun x hx=>(List.mem_append.1 hx).elim (hwl x) fun h=>by rw [List.mem_singleton.1 h]; exact ⟨⟨by omega,by omega,hzA⟩⟩
 refine (go 11) (zY results193 fun w1 hM=>?_)
 exact hM.yV (.slice A1 ((l++([(zE.mk ⟨z.A,z.c,z.l⟩ ((Mn.op word a b).1))]:List zE)).length) cp1) rfl trivial (fun h=>h.sel [2,3,4,0,6] qD rfl)
end
section
open Tryz
open Ex
attribute [local irreducible] WC WL WQ WE WS
set_option linter.unusedVariables false
set_option linter.unusedSimpArgs false
set_option maxHeartbeats 2000000 in
theorem c_bask1 (box bp cost:Nat) (x:zq) (S:Nat→Prop) (ms:SlX Match) (a b n:Int) (Pb:Nat→Prop) (w:World) (hG:Mem w ⟨fpOf [.blk cost [iV n] 3,.dat S (Lent 91 93 S box bp x),slP 3 yA (.slice ms.A ms.l.length ms.c) ms.l],Pb⟩ [.blk cost [iV n] 3,.dat S (Lent 91 93 S box bp x),slP 3 yA (.slice ms.A ms.l.length ms.c) ms.l] w) (hok:∀ s ∈ x.zA.l,s.sr.l.length≤1048576) (hlen:x.zA.l.length≤8) :
    Calls prog 116 #[.slice ms.A ms.l.length ms.c,iV a,iV b,.pointer (some ⟨box,0,none⟩),.pointer (some ⟨cost,0,none⟩)] w (RetA w [.blk cost [iV n] 3,.dat S (Lent 91 93 S box bp x),slP 3 yA (.slice ms.A ms.l.length ms.c) ms.l] Pb (winV (Bs.look (x.zA.l.map zC.e) ms.l a b).2) (fun z=>yr.is z (Bs.look (x.zA.l.map zC.e) ms.l a b).1) (fun z=>[.pub (fun S=>yr.Ok S z),.blk cost [iV (Bs.cost (x.zA.l.map zC.e) ms.l a b n)] 3])):=by
 obtain ⟨hwf,hsc,hsm,hsA⟩:=hG.lentWf 1 rfl
 obtain ⟨hmc,hmm,hmA⟩:=zD.wf (hG.slp 2 rfl)
 have hG:=hG.lent 1 rfl
 refine zr (N:=68) func116 hG ?_
 refine (go 2) ?_
 refine yD (serE:yF→List Value) 39 1 (ze (fun _ h=>h.all0 yF.Ok.loc) ?_)
 refine (go 1) ?_
 refine yD (sumE:Sum→List Value) 89 7 ?_
 refine (go 17) ?_
 refine c_loop7 (fun (k:Nat) (ss:List yF) (us:List Sum) (acc:List (List Label × Sum)) (c:Int) (sv:Value) (uv:Value)=>[(0,.slice ms.A ms.l.length ms.c),(1,iV a),(2,iV b),(4,.pointer (some ⟨cost,0,none⟩)),(8,sv),(9,uv),(21,.slice x.zA.A x.zA.l.length x.zA.c),(22,iV x.zA.l.length),(23,iV k)]) (fun (k:Nat) (ss:List yF) (us:List Sum) (acc:List (List Label × Sum)) (c:Int) (sv:Value) (uv:Value)=>[Row uv 89 7 sumE us,allP yF.Ok ss,Row sv 39 1 serE ss,datB box [.pointer (some ⟨bp,0,none⟩)] 91,datB bp [.slice x.zA.A x.zA.l.length x.zA.c,iV x.zO] 93,slO S 9 zW (.slice x.zA.A x.zA.l.length x.zA.c) x.zA.l,.blk cost [iV c] 3,.dat S (Lent 91 93 S box bp x),slP 3 yA (.slice ms.A ms.l.length ms.c) ms.l]) (fun (k:Nat) (ss:List yF) (us:List Sum) (acc:List (List Label × Sum)) (c:Int) (sv:Value) (uv:Value)=>k≤x.zA.l.length∧(∀ y ∈ ss,yF.Wf y)∧ss.map (fun y=>y.sr.l)=acc.map (·.1)∧us=acc.map (·.2)∧Bs.look (x.zA.l.map zC.e) ms.l a b=Bs.pre acc (Bs.look ((x.zA.l.map zC.e).drop k) ms.l a b)∧Bs.cost (x.zA.l.map zC.e) ms.l a b n=Bs.cost ((x.zA.l.map zC.e).drop k) ms.l a b c∧(ss.length≤k∧us.length≤k)) (fun (k:Nat) (ss:List yF) (us:List Sum) (acc:List (List Label × Sum)) (c:Int) (sv:Value) (uv:Value)=>x.zA.l.length - k) 0 [] [] [] n (Zs) (Zs) (sc rfl (sc rfl (sc rfl (sc rfl (sc rfl (sc rfl (sc rfl (sc rfl (sc (ji qO) sn))))))))) (fun _ h=>h) ?_ (fun k ss us acc c sv uv hI1=>?_)
 ·exact ⟨Nat.zero_le _,fun x hx=>(by cases hx),rfl,rfl,Bs.pre_0 _ _ _,rfl,Nat.le_refl _,Nat.le_refl _⟩
 have hwl:=hI1.2.1
 have hll:=hI1.2.2.2.2.2.2
 refine yU 2 (l:=ss) rfl fun A1 cp1 hv1 hc1 hm1 hA1=>?_
 subst hv1
 refine yU 0 (l:=us) rfl fun A2 cp2 hv2 hc2 hm2 hA2=>?_
 subst hv2
 refine (go 6) (zX (fun h1=>?_) fun h1=>?_)
 ·refine (go 6) ?_
  obtain ⟨ad1,s1,hd1,hs1⟩:=elx hsA k
  refine (go 1) ?_
  refine ze (fun _ h=>h.lentAt 7 rfl hs1) ?_
  have hw1:=hwf _ (List.mem_of_getElem? hs1)
  have hs4:=hok _ (List.mem_of_getElem? hs1)
  obtain ⟨hc3,hm3,hA3⟩:=hw1.sr
  obtain ⟨hc4,hm4,hA4⟩:=hw1.raw
  obtain ⟨hc5,hm5,hA5⟩:=hw1.fine
  obtain ⟨hc6,hm6,hA6⟩:=hw1.coarse
  refine (go 1) (zz fun b12=>?_)
  refine (go 9) ?_
  refine yH call60 wn rfl (fun w1 hM=>c_matches _ s1.sr.l _ ms.l w1 (hM.sl 1 rfl) (hM.slp 13 rfl)) (zb (yC rfl) ?_)
  refine (go 2) (yb (fun h2=>?_) fun h2=>?_)
  ·refine (go 7) ?_
   refine zU (vq (k + 1) ss us acc c (.slice A1 ss.length cp1) (.slice A2 us.length cp2) (sc rfl (sc rfl (sc rfl (sc rfl (sc rfl (sc rfl (sc rfl (sc rfl (sc (ji qO) sn))))))))) (S9 [5,6,7,8,9,10,11,12,13]) ?_ ?_)
   ·have hm9:¬ zI.yB (zC.e s1).zK ms.l=true:=by simpa [zC.e] using h2
    exact ⟨by omega,hwl,hI1.2.2.1,hI1.2.2.2.1,Bs.look_skip (by rw [List.getElem?_map,hs1]; rfl) hI1.2.2.2.2.1 hm9,Bs.cost_skip (by rw [List.getElem?_map,hs1]; rfl) hI1.2.2.2.2.2.1 hm9,by omega⟩
   omega
  refine (go 7) ?_
  refine l_callLT ((Sh.choose (zC.e s1) a b).1) (fun r=>.tuple (List.toArray [r,iV ((Sh.choose (zC.e s1) a b).2)])) wn rfl rfl call117 rfl (fun w1 hM=>c_choose _ _ _ _ (zC.e s1) a b (In w1) w1 (fun _ h=>h) (hM.sl 1 rfl) (hM.sl 2 rfl) (hM.sl 3 rfl) (hM.sl 4 rfl)) fun A3 cp3 hc7 hm7 hA7=>?_
  refine (go 14) (zX (fun h3=>?_) fun h3=>?_)
  ·refine (go 3) ?_
   refine yD (serE:yF→List Value) 39 1 (ze (fun _ h=>h.all0 yF.Ok.loc) ?_)
   refine (go 1) ?_
   refine yD (sumE:Sum→List Value) 89 7 ?_
   refine (go 11) (u7 results116 fun w1 hM=>?_)
   have hm9:zI.yB (zC.e s1).zK ms.l=true:=by simpa [zC.e] using h2
   have h9:=Bs.look_bad1 (by rw [List.getElem?_map,hs1]; rfl) hI1.2.2.2.2.1 hm9 h3
   have h8:=Bs.cost_bad1 (by rw [List.getElem?_map,hs1]; rfl) hI1.2.2.2.2.2.1 hm9 h3
   have hM:=hM.yT (yr.Ok.loc (⟨⟨none,0,[]⟩,⟨none,0,[]⟩⟩:yr)) fun Pb pp=>⟨zD.zt _ _ _ _,fun c hc=>(by cases hc),zD.zt _ _ _ _⟩
   exact hM.yV (⟨⟨none,0,[]⟩,⟨none,0,[]⟩⟩:yr) (by rw [h9]; rfl) ⟨by rw [h9]; rfl,by rw [h9]; rfl⟩ (fun h=>by rw [h8]; exact h.sel [0,16] qD rfl)
  refine (go 6) ?_
  refine yH call118 wn rfl (fun w1 hM=>c_read _ _ _ _ (zC.e s1) _ ((Sh.choose (zC.e s1) a b).1) (In w1) w1 (fun _ h=>h) (hM.sl 2 rfl) (hM.sl 3 rfl) (hM.sl 4 rfl) (hM.sl 5 rfl) (RowSl encPart hM 0 rfl) (by first | omega | assumption | exact Sh.choose_len _ _ _ | simp)) ?_
  refine (go 4) (zz fun b15=>?_)
  refine (go 12) (zX (fun h4=>?_) fun h4=>?_)
  ·refine (go 3) ?_
   refine yD (serE:yF→List Value) 39 1 (ze (fun _ h=>h.all0 yF.Ok.loc) ?_)
   refine (go 1) ?_
   refine yD (sumE:Sum→List Value) 89 7 ?_
   refine (go 11) (u7 results116 fun w1 hM=>?_)
   have hm9:zI.yB (zC.e s1).zK ms.l=true:=by simpa [zC.e] using h2
   have h9:=Bs.look_bad2 (by rw [List.getElem?_map,hs1]; rfl) hI1.2.2.2.2.1 hm9 h3 h4
   have h8:=Bs.cost_bad2 (by rw [List.getElem?_map,hs1]; rfl) hI1.2.2.2.2.2.1 hm9 h3 h4
   have hM:=hM.yT (yr.Ok.loc (⟨⟨none,0,[]⟩,⟨none,0,[]⟩⟩:yr)) fun Pb pp=>⟨zD.zt _ _ _ _,fun c hc=>(by cases hc),zD.zt _ _ _ _⟩
   exact hM.yV (⟨⟨none,0,[]⟩,⟨none,0,[]⟩⟩:yr) (by rw [h9]; rfl) ⟨by rw [h9]; rfl,by rw [h9]; rfl⟩ (fun h=>by rw [h8]; exact h.sel [0,17] qD rfl)
  refine (go 6) ?_
  refine zb (ur rfl rfl) ?_
  refine (go 3) ?_
  refine yK (Mem w ⟨fpOf [.blk cost [iV n] 3,.dat S (Lent 91 93 S box bp x),slP 3 yA (.slice ms.A ms.l.length ms.c) ms.l],Pb⟩ [.blk b15 [iV (((Sh.read (zC.e s1) ((Sh.choose (zC.e s1) a b).1)).1).count),iV (((Sh.read (zC.e s1) ((Sh.choose (zC.e s1) a b).1)).1).total),iV (((Sh.read (zC.e s1) ((Sh.choose (zC.e s1) a b).1)).1).min),iV (((Sh.read (zC.e s1) ((Sh.choose (zC.e s1) a b).1)).1).max),iV (((Sh.read (zC.e s1) ((Sh.choose (zC.e s1) a b).1)).1).first),iV (((Sh.read (zC.e s1) ((Sh.choose (zC.e s1) a b).1)).1).last),iV (((Sh.read (zC.e s1) ((Sh.choose (zC.e s1) a b).1)).1).rise)] 89,Row (.slice A3 (((Sh.choose (zC.e s1) a b).1).length) cp3) 217 3 yd ((Sh.choose (zC.e s1) a b).1),.blk b12 [.slice s1.sr.A s1.sr.l.length s1.sr.c,.slice s1.raw.A s1.raw.l.length s1.raw.c,.slice s1.fine.A s1.fine.l.length s1.fine.c,.slice s1.coarse.A s1.coarse.l.length s1.coarse.c,iV s1.zS,iV s1.zL,iV s1.zF,iV s1.zH,iV s1.zG] 50,slO S 2 zQ (.slice s1.sr.A s1.sr.l.length s1.sr.c) s1.sr.l,slO S 2 zT (.slice s1.raw.A s1.raw.l.length s1.raw.c) s1.raw.l,slO S 8 zJ (.slice s1.fine.A s1.fine.l.length s1.fine.c) s1.fine.l,slO S 8 zJ (.slice s1.coarse.A s1.coarse.l.length s1.coarse.c) s1.coarse.l,datB box [.pointer (some ⟨bp,0,none⟩)] 91,datB bp [.slice x.zA.A x.zA.l.length x.zA.c,iV x.zO] 93,slO S 9 zW (.slice x.zA.A x.zA.l.length x.zA.c) x.zA.l,.blk cost [iV (IntKind.wrap .i64 (c + (Sh.read (zC.e s1) ((Sh.choose (zC.e s1) a b).1)).2.1))] 3,.dat S (Lent 91 93 S box bp x),slP 3 yA (.slice ms.A ms.l.length ms.c) ms.l]) mix (fun _ h=>h.drew) rfl (yJ 7 [0,1,2,6,7] [0,1,2,3,4,5,6,10,11,12,13,14,15] rfl fun KS hKS=>?_)
  refine (go 5) ?_
  refine zi hKS (yX (f:=6) (i:=3) (j:=8) rfl (by kernel_rfl) ?_ ?_)
  ·refine zg (i:=3) rfl fun KN hKN=>vW s1.sr.l wn rfl call61 rfl (fun w1 hM=>vN _ s1.sr.l w1 (hM.sl 3 rfl) qO) fun A4 cp4 hc8 hm8 hA8=>?_
   refine (go 1) ?_
   refine hKN _ _ (S9 [1,2,3,4,5,6,7,11,12,13,14,15,16]) (yX (f:=5) (i:=4) (j:=8) rfl (by kernel_rfl) ?_ ?_)
   ·refine zg (i:=4) rfl fun KN hKN=>zy serE ([(yF.mk ⟨A4,cp4,s1.sr.l⟩)]:List yF) wn underlying125 inf39 rfl rfl rfl rfl qD qD rfl fun b59=>?_
    refine (go 1) ?_
    refine hKN _ _ (S9 [2,3,4,5,6,7,8,12,13,14,15,16,17]) (yX (f:=4) (i:=5) (j:=8) rfl (by kernel_rfl) ?_ ?_)
    ·refine zg (i:=5) rfl fun KN hKN=>yI 11 ss ([(yF.mk ⟨A4,cp4,s1.sr.l⟩)]:List yF) encSerX wn rfl rfl rfl (fun _ hM=>(RowSl encSerX hM 0 rfl)) underlying125 inf39 rfl rfl (by simp only [qL]; omega) rfl fun A5 cp5 hc9 hm9 hA9=>uf 1 15 encLabel rfl rfl rfl onlyC (ze (fun _ h=>h.allSer 10 1 rfl rfl) ?_)
     have hw2:∀ x ∈ (ss++([(yF.mk ⟨A4,cp4,s1.sr.l⟩)]:List yF)),yF.Wf x:=fun x hx=>(List.mem_append.1 hx).elim (hwl x) fun h=>by rw [List.mem_singleton.1 h]; exact ⟨⟨by omega,by omega,hA8⟩⟩
     refine (go 1) ?_
     refine hKN _ _ (S9 [3,4,5,6,7,8,9,13,14,15,16,17,18]) (zf 3 8 (zg (i:=8) rfl fun KN hKN=>zy sumE ([((Sh.read (zC.e s1) ((Sh.choose (zC.e s1) a b).1)).1)]:List Sum) wn underlying126 inf89 rfl rfl rfl rfl qD qD rfl fun b63=>?_))
     refine (go 1) ?_
     refine hKN _ _ (S9 [4,5,6,7,8,9,10,14,15,16,17,18,19]) (zf 2 9 (zg (i:=9) rfl fun KN hKN=>yI 11 us ([((Sh.read (zC.e s1) ((Sh.choose (zC.e s1) a b).1)).1)]:List Sum) encSum wn rfl rfl rfl (fun _ hM=>(RowSl encSum hM 0 rfl)) underlying126 inf89 rfl rfl (by simp only [qL]; omega) rfl fun A6 cp6 hc10 hm10 hA10=>?_))
     refine (go 1) ?_
     refine hKN _ _ (S9 [4,5,6,7,8,9,10,14,15,16,17,18,19]) (yJ 0 [10,11] [4,5,6,7,8,9,10,14,15,16,17,18,19] rfl fun KS hKS=>?_)
     refine (go 2) ?_
     refine zi hKS ?_
     refine zw (by kernel_rfl) ((go 2) ?_)
     refine (go 3) ?_
     refine zU (vq (k + 1) (ss++([(yF.mk ⟨A4,cp4,s1.sr.l⟩)]:List yF)) (us++([((Sh.read (zC.e s1) ((Sh.choose (zC.e s1) a b).1)).1)]:List Sum)) (acc++[(s1.sr.l,(Sh.read (zC.e s1) (Sh.choose (zC.e s1) a b).1).1)]) (IntKind.wrap .i64 (c + (Sh.read (zC.e s1) ((Sh.choose (zC.e s1) a b).1)).2.1)) (.slice A5 ((ss++([(yF.mk ⟨A4,cp4,s1.sr.l⟩)]:List yF)).length) cp5) (.slice A6 ((us++([((Sh.read (zC.e s1) ((Sh.choose (zC.e s1) a b).1)).1)]:List Sum)).length) cp6) (sc rfl (sc rfl (sc rfl (sc rfl (sc rfl (sc rfl (sc rfl (sc rfl (sc (ji qO) sn))))))))) (S9 [11,1,13,14,15,16,17,18,19]) ?_ ?_)
     ·have hm9:zI.yB (zC.e s1).zK ms.l=true:=by simpa [zC.e] using h2
      exact ⟨by omega,hw2,by rw [List.map_append,List.map_append,← hI1.2.2.1]; rfl,by rw [List.map_append,← hI1.2.2.2.1]; rfl,Bs.look_more (by rw [List.getElem?_map,hs1]; rfl) hI1.2.2.2.2.1 hm9 h3 h4,Bs.cost_more (by rw [List.getElem?_map,hs1]; rfl) hI1.2.2.2.2.2.1 hm9 h3 h4,by simp only [qL]; omega⟩
     omega
    refine zg (i:=8) rfl fun KN hKN=>zy sumE ([((Sh.read (zC.e s1) ((Sh.choose (zC.e s1) a b).1)).1)]:List Sum) wn underlying126 inf89 rfl rfl rfl rfl qD qD rfl fun b63=>?_
    refine (go 1) ?_
    refine hKN _ _ (S9 [3,4,5,6,7,8,9,13,14,15,16,17,18]) (zf 3 5 (zg (i:=5) rfl fun KN hKN=>yI 12 ss ([(yF.mk ⟨A4,cp4,s1.sr.l⟩)]:List yF) encSerX wn rfl rfl rfl (fun _ hM=>(RowSl encSerX hM 1 rfl)) underlying125 inf39 rfl rfl (by simp only [qL]; omega) rfl fun A7 cp7 hc11 hm11 hA11=>uf 2 16 encLabel rfl rfl rfl onlyC (ze (fun _ h=>h.allSer 11 2 rfl rfl) ?_)))
    have hw3:∀ x ∈ (ss++([(yF.mk ⟨A4,cp4,s1.sr.l⟩)]:List yF)),yF.Wf x:=fun x hx=>(List.mem_append.1 hx).elim (hwl x) fun h=>by rw [List.mem_singleton.1 h]; exact ⟨⟨by omega,by omega,hA8⟩⟩
    refine (go 1) ?_
    refine hKN _ _ (S9 [4,5,6,7,8,9,10,14,15,16,17,18,19]) (zf 2 9 (zg (i:=9) rfl fun KN hKN=>yI 11 us ([((Sh.read (zC.e s1) ((Sh.choose (zC.e s1) a b).1)).1)]:List Sum) encSum wn rfl rfl rfl (fun _ hM=>(RowSl encSum hM 1 rfl)) underlying126 inf89 rfl rfl (by simp only [qL]; omega) rfl fun A8 cp8 hc12 hm12 hA12=>?_))
    refine (go 1) ?_
    refine hKN _ _ (S9 [4,5,6,7,8,9,10,14,15,16,17,18,19]) (yJ 0 [10,11] [4,5,6,7,8,9,10,14,15,16,17,18,19] rfl fun KS hKS=>?_)
    refine (go 2) ?_
    refine zi hKS ?_
    refine zw (by kernel_rfl) ((go 2) ?_)
    refine (go 3) ?_
    refine zU (vq (k + 1) (ss++([(yF.mk ⟨A4,cp4,s1.sr.l⟩)]:List yF)) (us++([((Sh.read (zC.e s1) ((Sh.choose (zC.e s1) a b).1)).1)]:List Sum)) (acc++[(s1.sr.l,(Sh.read (zC.e s1) (Sh.choose (zC.e s1) a b).1).1)]) (IntKind.wrap .i64 (c + (Sh.read (zC.e s1) ((Sh.choose (zC.e s1) a b).1)).2.1)) (.slice A7 ((ss++([(yF.mk ⟨A4,cp4,s1.sr.l⟩)]:List yF)).length) cp7) (.slice A8 ((us++([((Sh.read (zC.e s1) ((Sh.choose (zC.e s1) a b).1)).1)]:List Sum)).length) cp8) (sc rfl (sc rfl (sc rfl (sc rfl (sc rfl (sc rfl (sc rfl (sc rfl (sc (ji qO) sn))))))))) (S9 [11,0,13,14,15,16,17,18,19]) ?_ ?_)
    ·have hm9:zI.yB (zC.e s1).zK ms.l=true:=by simpa [zC.e] using h2
     exact ⟨by omega,hw3,by rw [List.map_append,List.map_append,← hI1.2.2.1]; rfl,by rw [List.map_append,← hI1.2.2.2.1]; rfl,Bs.look_more (by rw [List.getElem?_map,hs1]; rfl) hI1.2.2.2.2.1 hm9 h3 h4,Bs.cost_more (by rw [List.getElem?_map,hs1]; rfl) hI1.2.2.2.2.2.1 hm9 h3 h4,by simp only [qL]; omega⟩
    omega
   refine zg (i:=8) rfl fun KN hKN=>zy sumE ([((Sh.read (zC.e s1) ((Sh.choose (zC.e s1) a b).1)).1)]:List Sum) wn underlying126 inf89 rfl rfl rfl rfl qD qD rfl fun b63=>?_
   refine (go 1) ?_
   refine hKN _ _ (S9 [2,3,4,5,6,7,8,12,13,14,15,16,17]) (zf 4 4 (zg (i:=4) rfl fun KN hKN=>zy serE ([(yF.mk ⟨A4,cp4,s1.sr.l⟩)]:List yF) wn underlying125 inf39 rfl rfl rfl rfl qD qD rfl fun b59=>?_))
   refine (go 1) ?_
   refine hKN _ _ (S9 [3,4,5,6,7,8,9,13,14,15,16,17,18]) (zf 3 5 (zg (i:=5) rfl fun KN hKN=>yI 12 ss ([(yF.mk ⟨A4,cp4,s1.sr.l⟩)]:List yF) encSerX wn rfl rfl rfl (fun _ hM=>(RowSl encSerX hM 0 rfl)) underlying125 inf39 rfl rfl (by simp only [qL]; omega) rfl fun A9 cp9 hc13 hm13 hA13=>uf 2 16 encLabel rfl rfl rfl onlyC (ze (fun _ h=>h.allSer 11 2 rfl rfl) ?_)))
   have hw4:∀ x ∈ (ss++([(yF.mk ⟨A4,cp4,s1.sr.l⟩)]:List yF)),yF.Wf x:=fun x hx=>(List.mem_append.1 hx).elim (hwl x) fun h=>by rw [List.mem_singleton.1 h]; exact ⟨⟨by omega,by omega,hA8⟩⟩
   refine (go 1) ?_
   refine hKN _ _ (S9 [4,5,6,7,8,9,10,14,15,16,17,18,19]) (zf 2 9 (zg (i:=9) rfl fun KN hKN=>yI 11 us ([((Sh.read (zC.e s1) ((Sh.choose (zC.e s1) a b).1)).1)]:List Sum) encSum wn rfl rfl rfl (fun _ hM=>(RowSl encSum hM 2 rfl)) underlying126 inf89 rfl rfl (by simp only [qL]; omega) rfl fun A10 cp10 hc14 hm14 hA14=>?_))
   refine (go 1) ?_
   refine hKN _ _ (S9 [4,5,6,7,8,9,10,14,15,16,17,18,19]) (yJ 0 [10,11] [4,5,6,7,8,9,10,14,15,16,17,18,19] rfl fun KS hKS=>?_)
   refine (go 2) ?_
   refine zi hKS ?_
   refine zw (by kernel_rfl) ((go 2) ?_)
   refine (go 3) ?_
   refine zU (vq (k + 1) (ss++([(yF.mk ⟨A4,cp4,s1.sr.l⟩)]:List yF)) (us++([((Sh.read (zC.e s1) ((Sh.choose (zC.e s1) a b).1)).1)]:List Sum)) (acc++[(s1.sr.l,(Sh.read (zC.e s1) (Sh.choose (zC.e s1) a b).1).1)]) (IntKind.wrap .i64 (c + (Sh.read (zC.e s1) ((Sh.choose (zC.e s1) a b).1)).2.1)) (.slice A9 ((ss++([(yF.mk ⟨A4,cp4,s1.sr.l⟩)]:List yF)).length) cp9) (.slice A10 ((us++([((Sh.read (zC.e s1) ((Sh.choose (zC.e s1) a b).1)).1)]:List Sum)).length) cp10) (sc rfl (sc rfl (sc rfl (sc rfl (sc rfl (sc rfl (sc rfl (sc rfl (sc (ji qO) sn))))))))) (S9 [11,0,13,14,15,16,17,18,19]) ?_ ?_)
   ·have hm9:zI.yB (zC.e s1).zK ms.l=true:=by simpa [zC.e] using h2
    exact ⟨by omega,hw4,by rw [List.map_append,List.map_append,← hI1.2.2.1]; rfl,by rw [List.map_append,← hI1.2.2.2.1]; rfl,Bs.look_more (by rw [List.getElem?_map,hs1]; rfl) hI1.2.2.2.2.1 hm9 h3 h4,Bs.cost_more (by rw [List.getElem?_map,hs1]; rfl) hI1.2.2.2.2.2.1 hm9 h3 h4,by simp only [qL]; omega⟩
   omega
  refine zg (i:=8) rfl fun KN hKN=>zy sumE ([((Sh.read (zC.e s1) ((Sh.choose (zC.e s1) a b).1)).1)]:List Sum) wn underlying126 inf89 rfl rfl rfl rfl qD qD rfl fun b63=>?_
  refine (go 1) ?_
  refine hKN _ _ (S9 [1,2,3,4,5,6,7,11,12,13,14,15,16]) (zf 5 3 (zg (i:=3) rfl fun KN hKN=>vW s1.sr.l wn rfl call61 rfl (fun w1 hM=>vN _ s1.sr.l w1 (hM.sl 4 rfl) qO) fun A11 cp11 hc15 hm15 hA15=>?_))
  refine (go 1) ?_
  refine hKN _ _ (S9 [2,3,4,5,6,7,8,12,13,14,15,16,17]) (zf 4 4 (zg (i:=4) rfl fun KN hKN=>zy serE ([(yF.mk ⟨A11,cp11,s1.sr.l⟩)]:List yF) wn underlying125 inf39 rfl rfl rfl rfl qD qD rfl fun b59=>?_))
  refine (go 1) ?_
  refine hKN _ _ (S9 [3,4,5,6,7,8,9,13,14,15,16,17,18]) (zf 3 5 (zg (i:=5) rfl fun KN hKN=>yI 12 ss ([(yF.mk ⟨A11,cp11,s1.sr.l⟩)]:List yF) encSerX wn rfl rfl rfl (fun _ hM=>(RowSl encSerX hM 0 rfl)) underlying125 inf39 rfl rfl (by simp only [qL]; omega) rfl fun A12 cp12 hc16 hm16 hA16=>uf 1 16 encLabel rfl rfl rfl onlyC (ze (fun _ h=>h.allSer 11 1 rfl rfl) ?_)))
  have hw5:∀ x ∈ (ss++([(yF.mk ⟨A11,cp11,s1.sr.l⟩)]:List yF)),yF.Wf x:=fun x hx=>(List.mem_append.1 hx).elim (hwl x) fun h=>by rw [List.mem_singleton.1 h]; exact ⟨⟨by omega,by omega,hA15⟩⟩
  refine (go 1) ?_
  refine hKN _ _ (S9 [4,5,6,7,8,9,10,14,15,16,17,18,19]) (zf 2 9 (zg (i:=9) rfl fun KN hKN=>yI 11 us ([((Sh.read (zC.e s1) ((Sh.choose (zC.e s1) a b).1)).1)]:List Sum) encSum wn rfl rfl rfl (fun _ hM=>(RowSl encSum hM 3 rfl)) underlying126 inf89 rfl rfl (by simp only [qL]; omega) rfl fun A13 cp13 hc17 hm17 hA17=>?_))
  refine (go 1) ?_
  refine hKN _ _ (S9 [4,5,6,7,8,9,10,14,15,16,17,18,19]) (yJ 0 [10,11] [4,5,6,7,8,9,10,14,15,16,17,18,19] rfl fun KS hKS=>?_)
  refine (go 2) ?_
  refine zi hKS ?_
  refine zw (by kernel_rfl) ((go 2) ?_)
  refine (go 3) ?_
  refine zU (vq (k + 1) (ss++([(yF.mk ⟨A11,cp11,s1.sr.l⟩)]:List yF)) (us++([((Sh.read (zC.e s1) ((Sh.choose (zC.e s1) a b).1)).1)]:List Sum)) (acc++[(s1.sr.l,(Sh.read (zC.e s1) (Sh.choose (zC.e s1) a b).1).1)]) (IntKind.wrap .i64 (c + (Sh.read (zC.e s1) ((Sh.choose (zC.e s1) a b).1)).2.1)) (.slice A12 ((ss++([(yF.mk ⟨A11,cp11,s1.sr.l⟩)]:List yF)).length) cp12) (.slice A13 ((us++([((Sh.read (zC.e s1) ((Sh.choose (zC.e s1) a b).1)).1)]:List Sum)).length) cp13) (sc rfl (sc rfl (sc rfl (sc rfl (sc rfl (sc rfl (sc rfl (sc rfl (sc (ji qO) sn))))))))) (S9 [11,0,13,14,15,16,17,18,19]) ?_ ?_)
  ·have hm9:zI.yB (zC.e s1).zK ms.l=true:=by simpa [zC.e] using h2
   exact ⟨by omega,hw5,by rw [List.map_append,List.map_append,← hI1.2.2.1]; rfl,by rw [List.map_append,← hI1.2.2.2.1]; rfl,Bs.look_more (by rw [List.getElem?_map,hs1]; rfl) hI1.2.2.2.2.1 hm9 h3 h4,Bs.cost_more (by rw [List.getElem?_map,hs1]; rfl) hI1.2.2.2.2.2.1 hm9 h3 h4,by simp only [qL]; omega⟩
  omega
 refine (go 15) (u7 results116 fun w1 hM=>?_)
 have hM:=hM.vu encSerX (i:=2) (j:=6) rfl rfl qD onlyC
 have hM:=hM.vu encSum (i:=0) (j:=6) rfl rfl qD onlyC
 have h9:=Bs.look_end hI1.2.2.2.2.1 (by rw [List.length_map]; omega)
 have h8:=Bs.cost_end hI1.2.2.2.2.2.1 (by rw [List.length_map]; omega)
 have hM:=hM.yT (yr.Ok.loc (⟨⟨A1,cp1,ss⟩,⟨A2,cp2,us⟩⟩:yr)) fun Pb pp=>⟨pp.sl 2 rfl,pp.at_ 1 _ rfl,pp.sl 0 rfl⟩
 exact hM.yV (⟨⟨A1,cp1,ss⟩,⟨A2,cp2,us⟩⟩:yr) (by rw [h9]) ⟨by rw [h9]; exact hI1.2.2.1,by rw [h9]; exact hI1.2.2.2.1⟩ (fun h=>by rw [h8]; exact h.sel [0,7] qD rfl)
end
section
open Tryz
open Ex
attribute [local irreducible] WC WL WQ WE WS
set_option linter.unusedVariables false
set_option linter.unusedSimpArgs false
set_option maxHeartbeats 2000000 in
theorem c_bin (wd:ByteArray) (a:zc) (b:zc) (P0:Nat→Prop) (w:World) (hP0:∀ b,P0 b→b < w.heap.size) (ha:zc.Ok P0 a w) (hb:zc.Ok P0 b w) (hba:Mn.Bnd a.e) (hbb:Mn.Bnd b.e) (hla:a.cells.l.length≤1048576) (hlb:b.cells.l.length≤1048576) :
    Calls prog 157 #[.string wd,.agg (vl a).toArray,.agg (vl b).toArray] w (RetE w P0 (fun z:zc=>.tuple #[.agg (vl z).toArray,iV (Mn.bin wd a.e b.e).2]) (fun z=>z.e=(Mn.bin wd a.e b.e).1) (fun z S=>zc.Ok S z)):=by
 have hwa:=ha.wf
 have hwb:=hb.wf
 have hna:=hba.1
 have hnb:=hbb.1
 have hna2:-1125899906842624≤a.n∧a.n≤1125899906842624:=hba.1
 have hnb2:-1125899906842624≤b.n∧b.n≤1125899906842624:=hbb.1
 refine zr (N:=119) func157 (Mem.ofDatsP hP0 (dc (dp (zc.Ok.loc _) ha) (dc (dp (zc.Ok.loc _) hb) dn))) ?_
 refine (go 2) (jj fun b3=>yu fun b4=>yu fun b5=>zz fun b6=>?_)
 refine (go 8) (jJ 20 (fun h1=>?_) fun h1=>?_)
 ·refine (go 4) (zz fun b8=>?_)
  refine (go 5) ?_
  refine zb (yf rfl rfl) ?_
  refine (go 14) ?_
  refine zb (yC rfl) ?_
  refine (go 8) ?_
  refine zb (yC rfl) ?_
  refine (go 3) (yb (fun h2=>?_) fun h2=>?_)
  ·refine (go 9) ?_
   refine um (fun _ h=>h.vQ zE 81 2 zo) (uu (fun _ h=>h.all0 zE.Ok.loc) (vK (fun (k:Nat) (cs:List zE) (ok:Bool) (ov:Value)=>[(5,.pointer (some ⟨b5,0,none⟩)),(6,.pointer (some ⟨b6,0,none⟩)),(8,.pointer (some ⟨b8,0,none⟩)),(9,.func (.func 193) #[] #[.pointer (some ⟨b3,0,none⟩),.pointer (some ⟨b8,0,none⟩)]),(10,.bool ok),(74,.slice a.cells.A a.cells.l.length a.cells.c),(75,iV a.cells.l.length),(76,iV k)]) (fun (k:Nat) (cs:List zE) (ok:Bool) (ov:Value)=>[allP zE.Ok cs,Row ov 81 2 zo cs,.blk b8 [.bool true,iV 0,ov] 172,.blk b6 [.bool false,iV 0,Zs] 172,.blk b5 [.bool b.vec,iV b.n,.slice b.cells.A b.cells.l.length b.cells.c] 172,.blk b4 [.bool a.vec,iV a.n,.slice a.cells.A a.cells.l.length a.cells.c] 172,.blk b3 [.string wd] 9,okP zc.Ok a,okP zc.Ok b]) (fun (k:Nat) (cs:List zE) (ok:Bool) (ov:Value)=>k≤a.cells.l.length∧(∀ x ∈ cs,zE.Wf x)∧cs.map zE.e=Mn.done wd (Mn.p1 a b k)∧ok=Mn.fine wd (Mn.p1 a b k)∧cs.length≤k) (fun (k:Nat) (cs:List zE) (ok:Bool) (ov:Value)=>a.cells.l.length - k) 0 [] true (Zs) (sc rfl (sc rfl (sc rfl (sc rfl (sc rfl (sc rfl (sc rfl (sc (ji qO) sn)))))))) (fun _ h=>h) ?_ (fun k cs ok ov hI1=>?_)))
   ·exact ⟨Nat.zero_le _,fun x hx=>(by cases hx),rfl,rfl,Nat.le_refl _⟩
   have hwf:=hI1.2.1
   have hlen:=hI1.2.2.2.2
   refine yU 1 (l:=cs) rfl fun A1 cp1 hv1 hc1 hm1 hA1=>?_
   subst hv1
   refine (go 6) (zX (fun h3=>?_) fun h3=>?_)
   ·refine (go 6) ?_
    refine ze (fun _ h=>h.valX 7 rfl) ?_
    obtain ⟨hc2,hm2,hA2⟩:=hwa.cells
    obtain ⟨ad1,s1,hd1,hs1⟩:=elx hA2 k
    refine (go 1) ?_
    have hb_s1:=Mn.Bnd.at_ hba hs1
    refine (go 1) (zz fun b12=>?_)
    refine (go 11) ?_
    have hw1:=hwa.all _ (List.mem_of_getElem? hs1)
    refine ze (fun _ h=>h.one 2 zE.Ok.loc rfl hs1) (ze (fun _ h=>h.cellX 0 rfl) ?_)
    obtain ⟨hc3,hm3,hA3⟩:=hw1.sr
    refine yM (α:=Value) [.blk b3 [.string wd] 9,.blk b8 [.bool true,iV 0,.slice A1 cs.length cp1] 172,Row (.slice A1 cs.length cp1) 81 2 zo cs,allP zE.Ok cs,slP 2 zQ (.slice s1.sr.A s1.sr.l.length s1.sr.c) s1.sr.l] [okP zE.Ok s1,.blk b12 [.slice s1.sr.A s1.sr.l.length s1.sr.c,iV s1.value] 81,slP 2 zo (.slice a.cells.A a.cells.l.length a.cells.c) a.cells.l,allP zE.Ok a.cells.l,.blk b6 [.bool false,iV 0,Zs] 172,.blk b5 [.bool b.vec,iV b.n,.slice b.cells.A b.cells.l.length b.cells.c] 172,.blk b4 [.bool a.vec,iV a.n,.slice a.cells.A a.cells.l.length a.cells.c] 172,okP zc.Ok a,okP zc.Ok b] (fun _=>.bool (Mn.op wd s1.value b.n).2) (fun z1=>True) (fun z1=>[.blk b3 [.string wd] 9,.blk b8 [.bool true,iV 0,z1] 172,Row z1 81 2 zo (cs++[zE.mk s1.sr (Mn.op wd s1.value b.n).1]),allP zE.Ok (cs++[zE.mk s1.sr (Mn.op wd s1.value b.n).1]),slP 2 zQ (.slice s1.sr.A s1.sr.l.length s1.sr.c) s1.sr.l]) _ (fun _=>rfl) (S9 [11,7,6,5,0,1,2,3,4,8,9,10,12,13]) (fun _=>rfl) wn rfl rfl call193 rfl (fun w1 Pb hG=>ju wd true 0 _ _ s1.sr s1.value b.n _ _ Pb w1 hG (by first | omega | assumption) (by first | omega | assumption) qO) fun z1 hz1=>uU 2 (l:=(cs++[zE.mk s1.sr (Mn.op wd s1.value b.n).1])) rfl fun A2 cp2 hv2 hc4 hm4 hA4=>?_
    subst hv2
    have hw2:∀ x ∈ (cs++[zE.mk s1.sr (Mn.op wd s1.value b.n).1]),zE.Wf x:=fun x hx=>(List.mem_append.1 hx).elim (hwf x) fun h=>by rw [List.mem_singleton.1 h]; exact ⟨hw1.sr⟩
    refine (go 1) (jJ 88 (fun h4=>?_) fun h4=>?_)
    ·refine (go 9) ?_
     refine zU (yY (k + 1) (cs++[zE.mk s1.sr (Mn.op wd s1.value b.n).1]) ok (.slice A2 ((cs++[zE.mk s1.sr (Mn.op wd s1.value b.n).1]).length) cp2) (sc rfl (sc rfl (sc rfl (sc rfl (sc rfl (sc rfl (sc rfl (sc (ji qO) sn)))))))) (S9 [3,2,1,9,10,11,0,12,13]) ?_ ?_)
     ·exact ⟨by omega,hw2,Mn.done_at hI1.2.2.1 (Mn.p1_at hs1),Mn.fine_t hI1.2.2.2.1 (Mn.p1_at hs1) h4,by simp only [qL]; omega⟩
     omega
    refine (go 9) ?_
    refine zU (yY (k + 1) (cs++[zE.mk s1.sr (Mn.op wd s1.value b.n).1]) false (.slice A2 ((cs++[zE.mk s1.sr (Mn.op wd s1.value b.n).1]).length) cp2) (sc rfl (sc rfl (sc rfl (sc rfl (sc rfl (sc rfl (sc rfl (sc (ji qO) sn)))))))) (S9 [3,2,1,9,10,11,0,12,13]) ?_ ?_)
    ·exact ⟨by omega,hw2,Mn.done_at hI1.2.2.1 (Mn.p1_at hs1),Mn.fine_f (Mn.p1_at hs1) h4,by simp only [qL]; omega⟩
    omega
   refine (go 10) ?_
   refine zb (yC rfl) ?_
   refine (go 2) (yb (fun h5=>?_) fun h5=>?_)
   ·refine (go 9) (yL results157 fun w1 hM=>?_)
    have hb9:=Mn.bin_vec (w:=wd) (.inl (by simpa using h1)) (Mn.p1_end (by simpa using h2) qO) hI1.2.2.1 hI1.2.2.2.1
    rw [if_neg (by simpa using h5)] at hb9
    exact hM.vT (⟨false,0,⟨none,0,[]⟩⟩:zc) (by first | (rw [hb9]; done) | (rw [hb9]; rfl)) (by first | (rw [hb9]; done) | (rw [hb9]; rfl) | (have e9:=h1; rw [hb9]; simp [zc.e] at e9 ⊢; exact e9) | (have e9:=h2; rw [hb9]; simp [zc.e] at e9 ⊢; exact e9)) fun Pb pp=>⟨zD.zt _ _ _ _,fun c hc=>by cases hc⟩
   refine (go 10) (yL results157 fun w1 hM=>?_)
   have hb9:=Mn.bin_vec (w:=wd) (.inl (by simpa using h1)) (Mn.p1_end (by simpa using h2) qO) hI1.2.2.1 hI1.2.2.2.1
   rw [if_pos (by simpa using h5)] at hb9
   have hM:=hM.zk encCellX (i:=1) rfl rfl
   exact hM.vT (⟨true,0,⟨A1,cp1,cs⟩⟩:zc) (by first | (rw [hb9]; done) | (rw [hb9]; rfl)) (by first | (rw [hb9]; done) | (rw [hb9]; rfl) | (have e9:=h1; rw [hb9]; simp [zc.e] at e9 ⊢; exact e9) | (have e9:=h2; rw [hb9]; simp [zc.e] at e9 ⊢; exact e9)) fun Pb pp=>⟨pp.sl 1 rfl,pp.at_ 0 _ rfl⟩
  refine (go 4) ?_
  refine zb (yC rfl) ?_
  refine (go 3) ?_
  refine yc rfl (by simpa using h1) ?_
  refine (go 9) ?_
  refine um (fun _ h=>h.vQ zE 81 2 zo) (uu (fun _ h=>h.all0 zE.Ok.loc) (vK (fun (k:Nat) (cs:List zE) (ok:Bool) (ov:Value)=>[(5,.pointer (some ⟨b5,0,none⟩)),(6,.pointer (some ⟨b6,0,none⟩)),(8,.pointer (some ⟨b8,0,none⟩)),(9,.func (.func 193) #[] #[.pointer (some ⟨b3,0,none⟩),.pointer (some ⟨b8,0,none⟩)]),(10,.bool ok),(27,.slice a.cells.A a.cells.l.length a.cells.c),(28,iV a.cells.l.length),(29,iV k)]) (fun (k:Nat) (cs:List zE) (ok:Bool) (ov:Value)=>[allP zE.Ok cs,Row ov 81 2 zo cs,.blk b8 [.bool true,iV 0,ov] 172,.blk b6 [.bool false,iV 0,Zs] 172,.blk b5 [.bool b.vec,iV b.n,.slice b.cells.A b.cells.l.length b.cells.c] 172,.blk b4 [.bool a.vec,iV a.n,.slice a.cells.A a.cells.l.length a.cells.c] 172,.blk b3 [.string wd] 9,okP zc.Ok a,okP zc.Ok b]) (fun (k:Nat) (cs:List zE) (ok:Bool) (ov:Value)=>k≤a.cells.l.length∧(∀ x ∈ cs,zE.Wf x)∧cs.map zE.e=Mn.done wd (Mn.p3 a b k)∧ok=Mn.fine wd (Mn.p3 a b k)∧cs.length≤k) (fun (k:Nat) (cs:List zE) (ok:Bool) (ov:Value)=>a.cells.l.length - k) 0 [] true (Zs) (sc rfl (sc rfl (sc rfl (sc rfl (sc rfl (sc rfl (sc rfl (sc (ji qO) sn)))))))) (fun _ h=>h) ?_ (fun k cs ok ov hI2=>?_)))
  ·exact ⟨Nat.zero_le _,fun x hx=>(by cases hx),rfl,rfl,Nat.le_refl _⟩
  have hwf:=hI2.2.1
  have hlen:=hI2.2.2.2.2
  refine yU 1 (l:=cs) rfl fun A3 cp3 hv3 hc5 hm5 hA5=>?_
  subst hv3
  refine (go 6) (zX (fun h6=>?_) fun h6=>?_)
  ·refine (go 6) ?_
   refine ze (fun _ h=>h.valX 7 rfl) ?_
   obtain ⟨hc6,hm6,hA6⟩:=hwa.cells
   obtain ⟨ad2,s2,hd2,hs2⟩:=elx hA6 k
   refine (go 1) ?_
   have hb_s2:=Mn.Bnd.at_ hba hs2
   refine (go 1) (zz fun b16=>?_)
   refine (go 7) ?_
   refine zb (yf rfl rfl) ?_
   have hw3:=hwa.all _ (List.mem_of_getElem? hs2)
   refine ze (fun _ h=>h.one 2 zE.Ok.loc rfl hs2) (l_sealB 1 rfl rfl (ze (fun _ h=>h.valX 12 rfl) ?_))
   obtain ⟨hc7,hm7,hA7⟩:=hwb.cells
   refine yH call195 wn rfl (fun w1 hM=>c_idxC _ b.cells.l 196 #[.pointer (some ⟨b16,0,none⟩)] (fun d:zE=>decide (s2.sr.l=d.sr.l)) (In w1) w1 (fun _ h=>h) (hM.slp 0 rfl) (hM.yR (i:=1) rfl) call196 (fun d hd w2 hf=>by simpa using c_bin2 d _ s2 (In w2) w2 (fun _ h=>h) (zE.Ok.loc d (In w1) (In w2) w1 w2 (fun b hb=>Nat.lt_of_lt_of_le hb hf.size) (fun b hb=>hf.block b hb id) (hM.yR (i:=1) rfl d hd)) (ya.loc _ _ (In w1) (In w2) w1 w2 (fun b hb=>Nat.lt_of_lt_of_le hb hf.size) (fun b hb=>hf.block b hb id) (hM.yR (i:=3) rfl)) (zE.Ok.loc s2 (In w1) (In w2) w1 w2 (fun b hb=>Nat.lt_of_lt_of_le hb hf.size) (fun b hb=>hf.block b hb id) (hM.yR (i:=2) rfl)))) ?_
   refine (go 9) (zX (fun h7=>?_) fun h7=>?_)
   ·obtain ⟨j,y,hj1,hy1,hpy1,hbe1⟩:=(Sh.idx_cases (fun d:zE=>decide (s2.sr.l=d.sr.l)) b.cells.l).resolve_left (fun h=>by have:=h.1; omega)
    have hjl:=(List.getElem?_eq_some_iff.1 hy1).1
    have hb_y:=Mn.Bnd.at_ hbb hy1
    refine uH 11 ?_
    refine (go 1) ?_
    refine yk (ux (ad:=⟨b16,0,none⟩) (i:=0) (o:=0) rfl fld81_0) ?_
    refine (go 1) ?_
    refine yk (ux (ad:=⟨b16,0,none⟩) (i:=0) (o:=0) rfl fld81_1) ?_
    refine (go 4) ?_
    obtain ⟨ad3,hd3⟩:=hA7 (ne_nil (i:=j) qI)
    refine yk (yx (i:=j) rfl hd3 rfl qO qI underlying32 inf81) ?_
    refine (go 3) ?_
    refine ze (fun _ h=>h.cellX 2 rfl) ?_
    obtain ⟨hc8,hm8,hA8⟩:=hw3.sr
    refine yM (α:=Value) [.blk b3 [.string wd] 9,.blk b8 [.bool true,iV 0,.slice A3 cs.length cp3] 172,Row (.slice A3 cs.length cp3) 81 2 zo cs,allP zE.Ok cs,slP 2 zQ (.slice s2.sr.A s2.sr.l.length s2.sr.c) s2.sr.l] [slP 2 zo (.slice b.cells.A b.cells.l.length b.cells.c) b.cells.l,allP zE.Ok b.cells.l,okP zE.Ok s2,celP ⟨b16,0,none⟩ [.slice s2.sr.A s2.sr.l.length s2.sr.c,iV s2.value],slP 2 zo (.slice a.cells.A a.cells.l.length a.cells.c) a.cells.l,allP zE.Ok a.cells.l,.blk b6 [.bool false,iV 0,Zs] 172,.blk b5 [.bool b.vec,iV b.n,.slice b.cells.A b.cells.l.length b.cells.c] 172,.blk b4 [.bool a.vec,iV a.n,.slice a.cells.A a.cells.l.length a.cells.c] 172,okP zc.Ok a,okP zc.Ok b] (fun _=>.bool (Mn.op wd s2.value y.value).2) (fun z2=>True) (fun z2=>[.blk b3 [.string wd] 9,.blk b8 [.bool true,iV 0,z2] 172,Row z2 81 2 zo (cs++[zE.mk s2.sr (Mn.op wd s2.value y.value).1]),allP zE.Ok (cs++[zE.mk s2.sr (Mn.op wd s2.value y.value).1]),slP 2 zQ (.slice s2.sr.A s2.sr.l.length s2.sr.c) s2.sr.l]) _ (fun _=>rfl) (S9 [13,9,8,7,0,1,2,3,4,5,6,10,11,12,14,15]) (fun _=>rfl) wn rfl rfl call193 rfl (fun w1 Pb hG=>ju wd true 0 _ _ s2.sr s2.value y.value _ _ Pb w1 hG (by first | omega | assumption) (by first | omega | assumption) qO) fun z2 hz2=>uU 2 (l:=(cs++[zE.mk s2.sr (Mn.op wd s2.value y.value).1])) rfl fun A4 cp4 hv4 hc9 hm9 hA9=>?_
    subst hv4
    have hw4:∀ x ∈ (cs++[zE.mk s2.sr (Mn.op wd s2.value y.value).1]),zE.Wf x:=fun x hx=>(List.mem_append.1 hx).elim (hwf x) fun h=>by rw [List.mem_singleton.1 h]; exact ⟨hw3.sr⟩
    refine (go 1) (jJ 51 (fun h8=>?_) fun h8=>?_)
    ·refine (go 9) ?_
     refine zU (yY (k + 1) (cs++[zE.mk s2.sr (Mn.op wd s2.value y.value).1]) ok (.slice A4 ((cs++[zE.mk s2.sr (Mn.op wd s2.value y.value).1]).length) cp4) (sc rfl (sc rfl (sc rfl (sc rfl (sc rfl (sc rfl (sc rfl (sc (ji qO) sn)))))))) (S9 [3,2,1,11,12,13,0,14,15]) ?_ ?_)
     ·exact ⟨by omega,hw4,Mn.done_at hI2.2.2.1 (Mn.p3_at hs2 hy1 hpy1 hbe1),Mn.fine_t hI2.2.2.2.1 (Mn.p3_at hs2 hy1 hpy1 hbe1) h8,by simp only [qL]; omega⟩
     omega
    refine (go 9) ?_
    refine zU (yY (k + 1) (cs++[zE.mk s2.sr (Mn.op wd s2.value y.value).1]) false (.slice A4 ((cs++[zE.mk s2.sr (Mn.op wd s2.value y.value).1]).length) cp4) (sc rfl (sc rfl (sc rfl (sc rfl (sc rfl (sc rfl (sc rfl (sc (ji qO) sn)))))))) (S9 [3,2,1,11,12,13,0,14,15]) ?_ ?_)
    ·exact ⟨by omega,hw4,Mn.done_at hI2.2.2.1 (Mn.p3_at hs2 hy1 hpy1 hbe1),Mn.fine_f (Mn.p3_at hs2 hy1 hpy1 hbe1) h8,by simp only [qL]; omega⟩
    omega
   have hno1:=((Sh.idx_cases (fun d:zE=>decide (s2.sr.l=d.sr.l)) b.cells.l).resolve_right (fun h=>by obtain ⟨j,y,hj,_⟩:=h; omega)).2
   refine (go 6) ?_
   refine zU (yY (k + 1) cs ok (.slice A3 cs.length cp3) (sc rfl (sc rfl (sc rfl (sc rfl (sc rfl (sc rfl (sc rfl (sc (ji qO) sn)))))))) (S9 [6,7,8,9,10,11,12,13,14]) ?_ ?_)
   ·exact ⟨by omega,hI2.2.1,by rw [Mn.p3_no hs2 hno1]; exact hI2.2.2.1,by rw [Mn.p3_no hs2 hno1]; exact hI2.2.2.2.1,by omega⟩
   omega
  refine (go 10) ?_
  refine zb (yC rfl) ?_
  refine (go 2) (yb (fun h9=>?_) fun h9=>?_)
  ·refine (go 9) (yL results157 fun w1 hM=>?_)
   have hb9:=Mn.bin_vec (w:=wd) (.inl (by simpa using h1)) (Mn.p3_end (by simpa using h2) (by simpa using h1) qO) hI2.2.2.1 hI2.2.2.2.1
   rw [if_neg (by simpa using h9)] at hb9
   exact hM.vT (⟨false,0,⟨none,0,[]⟩⟩:zc) (by first | (rw [hb9]; done) | (rw [hb9]; rfl)) (by first | (rw [hb9]; done) | (rw [hb9]; rfl) | (have e9:=h1; rw [hb9]; simp [zc.e] at e9 ⊢; exact e9) | (have e9:=h2; rw [hb9]; simp [zc.e] at e9 ⊢; exact e9)) fun Pb pp=>⟨zD.zt _ _ _ _,fun c hc=>by cases hc⟩
  refine (go 10) (yL results157 fun w1 hM=>?_)
  have hb9:=Mn.bin_vec (w:=wd) (.inl (by simpa using h1)) (Mn.p3_end (by simpa using h2) (by simpa using h1) qO) hI2.2.2.1 hI2.2.2.2.1
  rw [if_pos (by simpa using h9)] at hb9
  have hM:=hM.zk encCellX (i:=1) rfl rfl
  exact hM.vT (⟨true,0,⟨A3,cp3,cs⟩⟩:zc) (by first | (rw [hb9]; done) | (rw [hb9]; rfl)) (by first | (rw [hb9]; done) | (rw [hb9]; rfl) | (have e9:=h1; rw [hb9]; simp [zc.e] at e9 ⊢; exact e9) | (have e9:=h2; rw [hb9]; simp [zc.e] at e9 ⊢; exact e9)) fun Pb pp=>⟨pp.sl 1 rfl,pp.at_ 0 _ rfl⟩
 refine (go 4) (zz fun b8=>?_)
 refine (go 5) ?_
 refine zb (yf rfl rfl) ?_
 refine (go 14) ?_
 refine zb (yC rfl) ?_
 refine (go 3) (yb (fun h10=>?_) fun h10=>?_)
 ·refine (go 6) ?_
  refine yH call194 wn rfl (fun w1 hM=>c_op wd a.n b.n w1 (by first | assumption | omega) (by first | assumption | omega)) ?_
  refine (go 13) ?_
  refine zb (yC rfl) ?_
  refine (go 2) (yb (fun h11=>?_) fun h11=>?_)
  ·refine (go 9) (yL results157 fun w1 hM=>?_)
   have hb9:=Mn.bin_num (w:=wd) (a:=a) (b:=b) (by simpa using h1) (by simpa using h10)
   rw [if_neg (by simpa using h11)] at hb9
   exact hM.vT (⟨false,0,⟨none,0,[]⟩⟩:zc) (by first | (rw [hb9]; done) | (rw [hb9]; rfl)) (by first | (rw [hb9]; done) | (rw [hb9]; rfl) | (have e9:=h1; rw [hb9]; simp [zc.e] at e9 ⊢; exact e9) | (have e9:=h10; rw [hb9]; simp [zc.e] at e9 ⊢; exact e9)) fun Pb pp=>⟨zD.zt _ _ _ _,fun c hc=>by cases hc⟩
  refine (go 10) (yL results157 fun w1 hM=>?_)
  have hb9:=Mn.bin_num (w:=wd) (a:=a) (b:=b) (by simpa using h1) (by simpa using h10)
  rw [if_pos (by simpa using h11)] at hb9
  exact hM.vT (⟨b.vec,(Mn.op wd a.n b.n).1,⟨none,0,[]⟩⟩:zc) (by first | (rw [hb9]; done) | (rw [hb9]; rfl)) (by first | (rw [hb9]; done) | (rw [hb9]; rfl) | (have e9:=h1; rw [hb9]; simp [zc.e] at e9 ⊢; exact e9) | (have e9:=h10; rw [hb9]; simp [zc.e] at e9 ⊢; exact e9)) fun Pb pp=>⟨zD.zt _ _ _ _,fun c hc=>by cases hc⟩
 refine (go 4) ?_
 refine zb (yC rfl) ?_
 refine (go 3) ?_
 refine yc rfl (by simpa using h10) ?_
 refine (go 4) ?_
 refine zb (yC rfl) ?_
 refine (go 3) ?_
 refine y8 rfl (by simpa using h1) ?_
 refine (go 9) ?_
 refine um (fun _ h=>h.vQ zE 81 2 zo) (uu (fun _ h=>h.all0 zE.Ok.loc) (vK (fun (k:Nat) (cs:List zE) (ok:Bool) (ov:Value)=>[(4,.pointer (some ⟨b4,0,none⟩)),(6,.pointer (some ⟨b6,0,none⟩)),(8,.pointer (some ⟨b8,0,none⟩)),(9,.func (.func 193) #[] #[.pointer (some ⟨b3,0,none⟩),.pointer (some ⟨b8,0,none⟩)]),(10,.bool ok),(97,.slice b.cells.A b.cells.l.length b.cells.c),(98,iV b.cells.l.length),(99,iV k)]) (fun (k:Nat) (cs:List zE) (ok:Bool) (ov:Value)=>[allP zE.Ok cs,Row ov 81 2 zo cs,.blk b8 [.bool b.vec,iV 0,ov] 172,.blk b6 [.bool false,iV 0,Zs] 172,.blk b5 [.bool b.vec,iV b.n,.slice b.cells.A b.cells.l.length b.cells.c] 172,.blk b4 [.bool a.vec,iV a.n,.slice a.cells.A a.cells.l.length a.cells.c] 172,.blk b3 [.string wd] 9,okP zc.Ok a,okP zc.Ok b]) (fun (k:Nat) (cs:List zE) (ok:Bool) (ov:Value)=>k≤b.cells.l.length∧(∀ x ∈ cs,zE.Wf x)∧cs.map zE.e=Mn.done wd (Mn.p2 a b k)∧ok=Mn.fine wd (Mn.p2 a b k)∧cs.length≤k) (fun (k:Nat) (cs:List zE) (ok:Bool) (ov:Value)=>b.cells.l.length - k) 0 [] true (Zs) (sc rfl (sc rfl (sc rfl (sc rfl (sc rfl (sc rfl (sc rfl (sc (ji qO) sn)))))))) (fun _ h=>h) ?_ (fun k cs ok ov hI3=>?_)))
 ·exact ⟨Nat.zero_le _,fun x hx=>(by cases hx),rfl,rfl,Nat.le_refl _⟩
 have hwf:=hI3.2.1
 have hlen:=hI3.2.2.2.2
 refine yU 1 (l:=cs) rfl fun A5 cp5 hv5 hc10 hm10 hA10=>?_
 subst hv5
 refine (go 6) (zX (fun h12=>?_) fun h12=>?_)
 ·refine (go 6) ?_
  refine ze (fun _ h=>h.valX 8 rfl) ?_
  obtain ⟨hc11,hm11,hA11⟩:=hwb.cells
  obtain ⟨ad4,s3,hd4,hs3⟩:=elx hA11 k
  refine (go 1) ?_
  have hb_s3:=Mn.Bnd.at_ hbb hs3
  refine (go 1) (zz fun b14=>?_)
  refine (go 11) ?_
  have hw5:=hwb.all _ (List.mem_of_getElem? hs3)
  refine ze (fun _ h=>h.one 2 zE.Ok.loc rfl hs3) (ze (fun _ h=>h.cellX 0 rfl) ?_)
  obtain ⟨hc12,hm12,hA12⟩:=hw5.sr
  refine yM (α:=Value) [.blk b3 [.string wd] 9,.blk b8 [.bool b.vec,iV 0,.slice A5 cs.length cp5] 172,Row (.slice A5 cs.length cp5) 81 2 zo cs,allP zE.Ok cs,slP 2 zQ (.slice s3.sr.A s3.sr.l.length s3.sr.c) s3.sr.l] [okP zE.Ok s3,.blk b14 [.slice s3.sr.A s3.sr.l.length s3.sr.c,iV s3.value] 81,slP 2 zo (.slice b.cells.A b.cells.l.length b.cells.c) b.cells.l,allP zE.Ok b.cells.l,.blk b6 [.bool false,iV 0,Zs] 172,.blk b5 [.bool b.vec,iV b.n,.slice b.cells.A b.cells.l.length b.cells.c] 172,.blk b4 [.bool a.vec,iV a.n,.slice a.cells.A a.cells.l.length a.cells.c] 172,okP zc.Ok a,okP zc.Ok b] (fun _=>.bool (Mn.op wd a.n s3.value).2) (fun z3=>True) (fun z3=>[.blk b3 [.string wd] 9,.blk b8 [.bool b.vec,iV 0,z3] 172,Row z3 81 2 zo (cs++[zE.mk s3.sr (Mn.op wd a.n s3.value).1]),allP zE.Ok (cs++[zE.mk s3.sr (Mn.op wd a.n s3.value).1]),slP 2 zQ (.slice s3.sr.A s3.sr.l.length s3.sr.c) s3.sr.l]) _ (fun _=>rfl) (S9 [11,7,6,5,0,1,2,3,4,8,9,10,12,13]) (fun _=>rfl) wn rfl rfl call193 rfl (fun w1 Pb hG=>ju wd b.vec 0 _ _ s3.sr a.n s3.value _ _ Pb w1 hG (by first | omega | assumption) (by first | omega | assumption) qO) fun z3 hz3=>uU 2 (l:=(cs++[zE.mk s3.sr (Mn.op wd a.n s3.value).1])) rfl fun A6 cp6 hv6 hc13 hm13 hA13=>?_
  subst hv6
  have hw6:∀ x ∈ (cs++[zE.mk s3.sr (Mn.op wd a.n s3.value).1]),zE.Wf x:=fun x hx=>(List.mem_append.1 hx).elim (hwf x) fun h=>by rw [List.mem_singleton.1 h]; exact ⟨hw5.sr⟩
  refine (go 1) (jJ 111 (fun h13=>?_) fun h13=>?_)
  ·refine (go 9) ?_
   refine zU (yY (k + 1) (cs++[zE.mk s3.sr (Mn.op wd a.n s3.value).1]) ok (.slice A6 ((cs++[zE.mk s3.sr (Mn.op wd a.n s3.value).1]).length) cp6) (sc rfl (sc rfl (sc rfl (sc rfl (sc rfl (sc rfl (sc rfl (sc (ji qO) sn)))))))) (S9 [3,2,1,9,10,11,0,12,13]) ?_ ?_)
   ·exact ⟨by omega,hw6,Mn.done_at hI3.2.2.1 (Mn.p2_at hs3),Mn.fine_t hI3.2.2.2.1 (Mn.p2_at hs3) h13,by simp only [qL]; omega⟩
   omega
  refine (go 9) ?_
  refine zU (yY (k + 1) (cs++[zE.mk s3.sr (Mn.op wd a.n s3.value).1]) false (.slice A6 ((cs++[zE.mk s3.sr (Mn.op wd a.n s3.value).1]).length) cp6) (sc rfl (sc rfl (sc rfl (sc rfl (sc rfl (sc rfl (sc rfl (sc (ji qO) sn)))))))) (S9 [3,2,1,9,10,11,0,12,13]) ?_ ?_)
  ·exact ⟨by omega,hw6,Mn.done_at hI3.2.2.1 (Mn.p2_at hs3),Mn.fine_f (Mn.p2_at hs3) h13,by simp only [qL]; omega⟩
  omega
 refine (go 10) ?_
 refine zb (yC rfl) ?_
 refine (go 2) (yb (fun h14=>?_) fun h14=>?_)
 ·refine (go 9) (yL results157 fun w1 hM=>?_)
  have hb9:=Mn.bin_vec (w:=wd) (.inr (by simpa using h10)) (Mn.p2_end (by simpa using h10) (by simpa using h1) qO) hI3.2.2.1 hI3.2.2.2.1
  rw [if_neg (by simpa using h14)] at hb9
  exact hM.vT (⟨false,0,⟨none,0,[]⟩⟩:zc) (by first | (rw [hb9]; done) | (rw [hb9]; rfl)) (by first | (rw [hb9]; done) | (rw [hb9]; rfl) | (have e9:=h1; rw [hb9]; simp [zc.e] at e9 ⊢; exact e9) | (have e9:=h10; rw [hb9]; simp [zc.e] at e9 ⊢; exact e9)) fun Pb pp=>⟨zD.zt _ _ _ _,fun c hc=>by cases hc⟩
 refine (go 10) (yL results157 fun w1 hM=>?_)
 have hb9:=Mn.bin_vec (w:=wd) (.inr (by simpa using h10)) (Mn.p2_end (by simpa using h10) (by simpa using h1) qO) hI3.2.2.1 hI3.2.2.2.1
 rw [if_pos (by simpa using h14)] at hb9
 have hM:=hM.zk encCellX (i:=1) rfl rfl
 exact hM.vT (⟨b.vec,0,⟨A5,cp5,cs⟩⟩:zc) (by first | (rw [hb9]; done) | (rw [hb9]; rfl)) (by first | (rw [hb9]; done) | (rw [hb9]; rfl) | (have e9:=h1; rw [hb9]; simp [zc.e] at e9 ⊢; exact e9) | (have e9:=h10; rw [hb9]; simp [zc.e] at e9 ⊢; exact e9)) fun Pb pp=>⟨pp.sl 1 rfl,pp.at_ 0 _ rfl⟩
set_option maxHeartbeats 1000000 in
theorem c_insertC (sv vv:Value) (l:List zE) (x:zE) (i:Nat) (Pb:Nat→Prop) (w:World) (hG:Mem w ⟨fpOf [Row sv 81 2 zo l,Row vv 81 2 zo [x]],Pb⟩ [Row sv 81 2 zo l,Row vv 81 2 zo [x]] w) (hil:i≤l.length) (hl1:l.length≤1048576) :
    Calls prog 191 #[sv,iV i,vv] w (RetA w [Row sv 81 2 zo l,Row vv 81 2 zo [x]] Pb (fun z:Value=>z) (fun _=>True) (fun z=>[Row z 81 2 zo (l.take i++x::l.drop i)])):=by
 obtain ⟨sA,sc,rfl,hsc,hsm,hsA⟩:=row_form' (hG.row (i:=0) rfl)
 obtain ⟨vA,vc,hv0,hvc,hvm,hvA⟩:=row_form' (hG.row (i:=1) rfl)
 have hv0:vv=.slice vA 1 vc:=hv0
 have hvc:1≤vc:=hvc
 subst hv0
 refine zr (N:=95) func191 hG ?_
 refine (go 9) ?_
 refine zb (jH (lo:=i) (hi:=l.length) rfl (lo1 rfl qO) hi0 qI qI qI underlying32 inf81) ?_
 refine (go 16) ?_
 refine yc rfl (decide_eq_false qD) ?_
 refine (go 17) (zX (fun h1=>?_) fun h1=>?_)
 ·refine (go 4) ?_
  refine yI 0 l [x] encCellX wn rfl rfl rfl (fun _ hM=>(RowSl encCellX hM 1 rfl)) underlying32 inf81 rfl rfl (by simp only [qL]; omega) rfl fun A1 cp1 hc1 hm1 hA1=>?_
  refine (go 5) (zY results191 fun w1 hM=>?_)
  exact hM.yV (.slice A1 ((l++[x]).length) cp1) rfl trivial (fun h=>row_as (v:=.slice A1 ((l++[x]).length) cp1) (n:=(l++[x]).length) (by rw [ins_len hil,List.length_append]; rfl) (ins_end qO) (h.sel [0] qD rfl))
 refine (go 5) ?_
 obtain ⟨sad,hsd⟩:=hsA (ne_nil (i:=i) qO)
 obtain ⟨vad,hvd⟩:=hvA qS
 refine (go 4) ?_
 refine zb (r_cap rfl underlying32) ?_
 refine (go 3) (zX (fun h2=>?_) fun h2=>?_)
 ·refine (go 4) ?_
  refine zb (jw (by rw [subA_zero,Nat.sub_zero,Nat.sub_zero]) (yo (lo:=0) (hi:=i) rfl lo0 (hi1 rfl qO) qO qO underlying32 inf81)) ?_
  refine (go 5) ?_
  refine l_appZ (enc:=zo) (l.take i++List.replicate (l.length + 1 - i) (zE.mk ⟨none,0,[]⟩ 0)) (l.length + 1) (kk:=l.length + 1 - i) (olds:=(l.take i).flatMap zo) wn rfl rfl qO qO (by rw [flat_len encCellX.len,List.length_take]; omega) (fun h=>by rw [hsd] at h; cases h) (fun ad h=>by rw [hsd] at h; injection h with h; subst h; exact fun w hS p u hu=>rowCells 0 rfl hsd w hS p u (by have:=flat_pre (k:=2) hu; rwa [Nat.zero_mul,Nat.zero_add] at this)) qO qO rfl qD underlying32 underlying3 inf81 rfl (by rw [List.flatMap_append]; exact congrArg _ (zero_cells _)) qO rfl fun b1 C1 hc2 hm2=>?_
  refine (go 7) ?_
  refine zb (yo (lo:=i) (hi:=(l.length + 1)) rfl (lo1 rfl qO) hi0 qO qO underlying32 inf81) ?_
  refine (go 1) ?_
  refine vz 0 (j:=i) (l.take i++List.replicate (l.length + 1 - i) (zE.mk ⟨none,0,[]⟩ 0)) [x] encCellX wn rfl (subA_some rfl qO) rfl hvd rfl rfl underlying32 inf81 (by simp only [List.length_drop,List.length_cons,List.length_nil]; show _=min _ _; omega) (by simp only [List.length_append,List.length_take,List.length_drop,List.length_replicate,List.length_cons,List.length_nil]; omega) (by simp only [List.length_append,List.length_take,List.length_drop,List.length_replicate,List.length_cons,List.length_nil]; omega) (rowCells 2 rfl hvd) rfl ?_
  refine (go 3) (uH 8 ?_)
  refine (go 4) ?_
  refine yk (yo (lo:=(i + 1)) (hi:=(l.length + 1)) rfl (lo1 rfl qO) hi0 qO qO underlying32 inf81) ?_
  refine (go 2) ?_
  refine yk (yo (lo:=i) (hi:=l.length) rfl (lo1 rfl qO) hi0 qO qO underlying32 inf81) ?_
  refine (go 1) ?_
  refine vz 0 (j:=(i + 1)) ((l.take i++List.replicate (l.length + 1 - i) (zE.mk ⟨none,0,[]⟩ 0)).take i++[x]++(l.take i++List.replicate (l.length + 1 - i) (zE.mk ⟨none,0,[]⟩ 0)).drop (i + [x].length)) (l.drop i) encCellX wn rfl (subA_some rfl qO) rfl (subA_some hsd qO) rfl rfl underlying32 inf81 (by simp only [List.length_drop,List.length_cons,List.length_nil]; show _=min _ _; omega) (by simp only [List.length_append,List.length_take,List.length_drop,List.length_replicate,List.length_cons,List.length_nil]; omega) (by simp only [List.length_append,List.length_take,List.length_drop,List.length_replicate,List.length_cons,List.length_nil]; omega) (subCells (rowCells 1 rfl hsd) fun p u hu=>flat_suf encCellX.len qO hu) rfl ?_
  refine (go 10) (zY results191 fun w1 hM=>?_)
  exact hM.yV (.slice (some ⟨b1,0,none⟩) (l.length + 1) C1) rfl trivial (fun h=>row_as (ins_len qO) (ins_grow qO (List.length_replicate)) (h.sel [0] qD rfl))
 refine (go 8) ?_
 refine zb (jw (by rw [subA_zero,Nat.sub_zero,Nat.sub_zero]) (yo (lo:=0) (hi:=(l.length + 1)) rfl lo0 (hi1 rfl qO) qO qO underlying32 inf81)) (l_more 0 1 rfl hsd qO fun ys hys=>?_)
 refine (go 11) ?_
 refine zb (yo (lo:=(i + 1)) (hi:=(l.length + 1)) rfl (lo1 rfl qO) hi0 qO qO underlying32 inf81) (zb (r_ext rfl (over_apart (T':=4) (fn:=Tryz.f215) (qa:=1) (qb:=0) qD rfl rfl qO qO qD sad hsd (subA_some hsd qO) func215 (by kernel_rfl) (by kernel_rfl) (by kernel_rfl) (by kernel_rfl) underlying32 inf81)) (zb (yC rfl) ?_))
 refine (go 4) (uH 8 ?_)
 refine (go 4) ?_
 refine yk (yo (lo:=(i + 1)) (hi:=(l.length + 1)) rfl (lo1 rfl qO) hi0 qO qO underlying32 inf81) ?_
 refine (go 2) ?_
 refine yk (yo (lo:=i) (hi:=(l.length + 1)) rfl (lo1 rfl qO) hi0 qO qO underlying32 inf81) ?_
 refine (go 1) ?_
 refine jQ 0 (ad:=sad) (j:=i + 1) (cs:=(l.drop i).flatMap zo) _ wn rfl (subA_some hsd qO) rfl (subA_some hsd qO) rfl hsd underlying32 inf81 (by rw [flat_len encCellX.len,List.length_drop]; show _=min _ _ * 2; omega) (by rw [flat_len encCellX.len,List.length_drop]; omega) (subCells (rowCells 0 rfl hsd) fun p u hu=>by have:=flat_suf encCellX.len qO hu; rw [List.getElem?_append_left (List.getElem?_eq_some_iff.1 this).1]; exact this) (fun u hu=>by obtain ⟨a,_,ha⟩:=List.mem_flatMap.1 hu; exact encCellX.one a u ha) (ins_shift encCellX.len qO hys) rfl ?_
 refine (go 6) ?_
 refine zb (yo (lo:=i) (hi:=(l.length + 1)) rfl (lo1 rfl qO) hi0 qO qO underlying32 inf81) ?_
 refine (go 1) ?_
 refine vz 0 (j:=i) (l.take (i + 1)++l.drop i) [x] encCellX wn rfl (subA_some hsd qO) rfl hvd rfl hsd underlying32 inf81 (by simp only [List.length_drop,List.length_cons,List.length_nil]; show _=min _ _; omega) (by simp only [List.length_append,List.length_take,List.length_drop,List.length_replicate,List.length_cons,List.length_nil]; omega) (by simp only [List.length_append,List.length_take,List.length_drop,List.length_replicate,List.length_cons,List.length_nil]; omega) (rowCells 1 rfl hvd) rfl ?_
 refine (go 10) (zY results191 fun w1 hM=>?_)
 exact hM.yV (.slice sA (l.length + 1) sc) rfl trivial (fun h=>row_as (ins_len qO) (ins_place qO) (h.sel [0] qD rfl))
theorem c_all1 (d:zE) (tv:Value) (t:List Label) (P0:Nat→Prop) (w:World) (hP0:∀ b,P0 b→b < w.heap.size) (hd:zE.Ok P0 d w) (ht:zD P0 2 zQ tv t w)  :
    Calls prog 190 #[.agg (zo d).toArray,tv] w (Ret w (iV (zI.compare d.sr.l t))):=by
 have hwd:=hd.wf
 obtain ⟨tA,tc,rfl,htc,htm,htA⟩:=ht.form
 refine zr (N:=9) func190 (Mem.ofDatsP hP0 (dc (dp (zE.Ok.loc _) hd) (dc (dlp ht) dn))) ?_
 refine (go 2) (yu fun b2=>?_)
 refine (go 8) ?_
 refine ze (fun _ h=>h.cellX 1 rfl) ?_
 obtain ⟨hc1,hm1,hA1⟩:=hwd.sr
 refine yH call22 wn rfl (fun w1 hM=>c_compare _ d.sr.l _ t w1 (hM.slp 0 rfl) (hM.slp 3 rfl)) ?_
 refine (go 4) (zY results190 fun w1 hM=>?_)
 exact zP rfl hM
theorem c_bsC (clv:Value) (cl:List zE) (tv:Value) (t:List Label) (P0:Nat→Prop) (w:World) (hP0:∀ b,P0 b→b < w.heap.size) (hcl:zD P0 2 zo clv cl w) (hcla:∀ x ∈ cl,zE.Ok P0 x w) (ht:zD P0 2 zQ tv t w) (has:Mn.Asc (cl.map zE.e)) (hl1:cl.length≤1048576) :
    Calls prog 189 #[clv,tv,.func (.func 190) #[] #[]] w (Ret w (.tuple #[iV (Mn.pos (cl.map zE.e) t:Nat),.bool (Mn.has (cl.map zE.e) t)])):=by
 have hwcl:∀ x ∈ cl,zE.Wf x:=fun x hx=>(hcla x hx).wf
 obtain ⟨clA,clc,rfl,hclc,hclm,hclA⟩:=hcl.form
 obtain ⟨tA,tc,rfl,htc,htm,htA⟩:=ht.form
 refine zr (N:=49) func189 (Mem.ofDatsP hP0 (dc (dlp hcl) (dc (dp (all_loc zE.Ok.loc _) hcla) (dc (dlp ht) dn)))) ?_
 refine (go 22) ?_
 refine vV (fun (i:Nat) (j:Nat)=>[(0,.slice clA cl.length clc),(1,.slice tA t.length tc),(2,.func (.func 190) #[] #[]),(8,iV cl.length),(9,iV i),(10,iV j)]) (fun (i:Nat) (j:Nat)=>[slP 2 zo (.slice clA cl.length clc) cl,allP zE.Ok cl,slP 2 zQ (.slice tA t.length tc) t]) (fun (i:Nat) (j:Nat)=>i≤j∧j≤cl.length∧(∀ (q:Nat) (y:Cell),(cl.map zE.e)[q]?=some y→q < i→zI.compare y.sr t < 0)∧(∀ (q:Nat) (y:Cell),(cl.map zE.e)[q]?=some y→j≤q→¬ zI.compare y.sr t < 0)) (fun (i:Nat) (j:Nat)=>j - i) 0 cl.length (sc rfl (sc rfl (sc rfl (sc rfl (sc (ji qO) (sc rfl sn)))))) (fun _ h=>h) ?_ (fun i j hI1=>?_)
 ·exact ⟨Nat.zero_le _,Nat.le_refl _,fun q y _ h=>absurd h (Nat.not_lt_zero _),fun q y h h2=>by have:=(List.getElem?_eq_some_iff.1 h).1; simp only [List.length_map] at this; omega⟩
 refine (go 8) (zX (fun h1=>?_) fun h1=>?_)
 ·refine (go 8) ?_
  refine zb (r_natu64 (a:=(i + j)) rfl qO qO (by rw [underlying3]; rfl) underlying228) (zb (r_shr (u:=(i + j)) (j:=1) rfl rfl qO qO) (zb (r_int64 (a:=((i + j) / 2 ^ 1)) rfl qO (by rw [underlying228]; rfl) underlying3) ?_))
  refine (go 8) ?_
  obtain ⟨ad1,s1,hd1,hs1⟩:=elx hclA ((i + j) / 2 ^ 1)
  refine zb (yx (i:=((i + j) / 2 ^ 1)) rfl hd1 rfl qO qI underlying32 inf81) ?_
  refine (go 2) ?_
  have hw1:=hwcl _ (List.mem_of_getElem? hs1)
  refine ze (fun _ h=>h.one 1 zE.Ok.loc rfl hs1) (uK wn rfl rfl call190 rfl (fun w1 hM=>c_all1 s1 _ t (In w1) w1 (fun _ h=>h) (hM.yR (i:=0) rfl) (hM.slp 3 rfl)) ?_)
  refine (go 3) (zX (fun h2=>?_) fun h2=>?_)
  ·refine (go 4) ?_
   refine zU (yG (yZ (((i + j) / 2 ^ 1) + 1) j (sc rfl (sc rfl (sc rfl (sc rfl (sc (ji qO) (sc rfl sn)))))) (S9 [1,2,3]) ?_ ?_))
   ·exact ⟨by omega,by omega,Mn.asc_lt (x:=zE.e s1) has (by rw [List.getElem?_map,hs1]; rfl) h2,hI1.2.2.2⟩
   omega
  refine (go 3) ?_
  refine zU (yG (yZ i ((i + j) / 2 ^ 1) (sc rfl (sc rfl (sc rfl (sc rfl (sc rfl (sc (ji qO) sn)))))) (S9 [1,2,3]) ?_ ?_))
  ·exact ⟨by omega,by omega,hI1.2.2.1,Mn.asc_ge (x:=zE.e s1) has (by rw [List.getElem?_map,hs1]; rfl) h2⟩
  omega
 refine (go 12) (yN 39 (fun h3=>?_) fun h3=>?_)
 ·refine (go 3) ?_
  obtain ⟨ad2,s2,hd2,hs2⟩:=elx hclA i
  refine (go 3) ?_
  have hw2:=hwcl _ (List.mem_of_getElem? hs2)
  refine ze (fun _ h=>h.one 1 zE.Ok.loc rfl hs2) (uK (wg rfl rfl rfl) rfl rfl call190 rfl (fun w1 hM=>c_all1 s2 _ t (In w1) w1 (fun _ h=>h) (hM.yR (i:=0) rfl) (hM.slp 3 rfl)) ?_)
  refine (go 7) (yL results189 fun w1 hM=>?_)
  have hp9:Mn.pos (cl.map zE.e) t=i:=Mn.pos_eq (by simp only [List.length_map]; omega) hI1.2.2.1 (by have:i=j:=qO; rw [this]; exact hI1.2.2.2)
  have hh9:Mn.has (cl.map zE.e) t=decide (zI.compare s2.sr.l t=0):=Mn.bs_has (x:=zE.e s2) has (by rw [List.getElem?_map,hs2]; rfl) hI1.2.2.1 (by have:j=i:=qO; exact hI1.2.2.2 i _ (by rw [List.getElem?_map,hs2]; rfl) qO)
  exact zP (by rw [hp9,hh9]) hM
 refine (go 14) (yL results189 fun w1 hM=>?_)
 have hp9:Mn.pos (cl.map zE.e) t=i:=Mn.pos_eq (by simp only [List.length_map]; omega) hI1.2.2.1 (by have:i=j:=qO; rw [this]; exact hI1.2.2.2)
 have hh9:Mn.has (cl.map zE.e) t=false:=Mn.bs_no (i:=i) (by simp only [List.length_map]; omega) hI1.2.2.1
 exact zP (by rw [hp9,hh9]) hM
set_option maxHeartbeats 2000000 in
theorem c_mall (wd:ByteArray) (by_v:Value) (by_:List ByteArray) (lv:Value) (l:List zE) (P0:Nat→Prop) (w:World) (hP0:∀ b,P0 b→b < w.heap.size) (hby_:zD P0 1 strE by_v by_ w) (hl:zD P0 2 zo lv l w) (hla:∀ x ∈ l,zE.Ok P0 x w) (hbl:∀ c ∈ l,-1125899906842624≤c.value∧c.value≤1125899906842624) (hsm:∀ c ∈ l,c.sr.l.length≤1048576) (hll:l.length≤1048576) :
    Calls prog 156 #[.string wd,by_v,lv] w (RetE w P0 (fun z:zc=>.tuple #[.agg (vl z).toArray,iV (Mn.all wd by_ (l.map zE.e)).2]) (fun z=>z.e=(Mn.all wd by_ (l.map zE.e)).1) (fun z S=>zc.Ok S z)):=by
 obtain ⟨by_A,by_c,rfl,hby_c,hby_m,hby_A⟩:=hby_.form
 have hwl:∀ x ∈ l,zE.Wf x:=fun x hx=>(hla x hx).wf
 obtain ⟨lA,lc,rfl,hlc,hlm,hlA⟩:=hl.form
 refine zr (N:=93) func156 (Mem.ofDatsP hP0 (dc (dlp hby_) (dc (dlp hl) (dc (dp (all_loc zE.Ok.loc _) hla) dn)))) ?_
 refine (go 2) (zz fun b6=>?_)
 refine (go 6) (zz fun b8=>?_)
 refine (go 12) ?_
 refine um (fun _ h=>h.vQ zE 81 2 zo) (uu (fun _ h=>h.all0 zE.Ok.loc) (uL (fun (k:Nat) (cs:List zE) (ov:Value)=>[(0,.string wd),(1,.slice by_A by_.length by_c),(6,.pointer (some ⟨b6,0,none⟩)),(8,.pointer (some ⟨b8,0,none⟩)),(17,.slice lA l.length lc),(18,iV l.length),(19,iV k)]) (fun (k:Nat) (cs:List zE) (ov:Value)=>[allP zE.Ok cs,Row ov 81 2 zo cs,.blk b8 [.bool true,iV 0,ov] 172,.blk b6 [.bool false,iV 0,Zs] 172,slP 1 strE (.slice by_A by_.length by_c) by_,slP 2 zo (.slice lA l.length lc) l,allP zE.Ok l]) (fun (k:Nat) (cs:List zE) (ov:Value)=>k≤l.length∧(∀ x ∈ cs,zE.Wf x)∧Mn.allFrom wd by_ [] (l.map zE.e)=Mn.allFrom wd by_ (cs.map zE.e) ((l.drop k).map zE.e)∧Mn.Asc (cs.map zE.e)∧Mn.Fit (cs.map zE.e)∧cs.length≤k) (fun (k:Nat) (cs:List zE) (ov:Value)=>l.length - k) 0 [] (Zs) (sc rfl (sc rfl (sc rfl (sc rfl (sc rfl (sc rfl (sc (ji qO) sn))))))) (fun _ h=>h) ?_ (fun k cs ov hI1=>?_)))
 ·exact ⟨Nat.zero_le _,fun x hx=>(by cases hx),by rw [List.drop_zero]; rfl,List.Pairwise.nil,fun x hx=>(by cases hx),Nat.le_refl _⟩
 have hwf:=hI1.2.1
 have hasc:=hI1.2.2.2.1
 have hfit:=hI1.2.2.2.2.1
 have hlen:=hI1.2.2.2.2.2
 refine yU 1 (l:=cs) rfl fun A1 cp1 hv1 hc1 hm1 hA1=>?_
 subst hv1
 refine (go 6) (zX (fun h1=>?_) fun h1=>?_)
 ·refine (go 6) ?_
  obtain ⟨ad1,s1,hd1,hs1⟩:=elx hlA k
  refine (go 1) ?_
  have hb_s1:=hbl _ (List.mem_of_getElem? hs1)
  have hs_s1:=hsm _ (List.mem_of_getElem? hs1)
  refine (go 1) (zz fun b10=>?_)
  refine (go 8) ?_
  have hw1:=hwl _ (List.mem_of_getElem? hs1)
  refine ze (fun _ h=>h.one 7 zE.Ok.loc rfl hs1) (ze (fun _ h=>h.cellX 0 rfl) ?_)
  obtain ⟨hc2,hm2,hA2⟩:=hw1.sr
  refine vW (zI.only s1.sr.l by_) wn rfl call188 rfl (fun w1 hM=>c_only _ s1.sr.l _ by_ w1 (hM.slp 0 rfl) (hM.slp 7 rfl) (by first | assumption | omega)) fun A2 cp2 hc3 hm3 hA3=>?_
  refine (go 10) ?_
  refine ym [(0,.string wd),(1,.slice by_A by_.length by_c),(6,.pointer (some ⟨b6,0,none⟩)),(8,.pointer (some ⟨b8,0,none⟩)),(11,.slice A2 ((zI.only s1.sr.l by_).length) cp2),(12,iV (if wd=⟨#[99,111,117,110,116]⟩ then 1 else s1.value)),(17,.slice lA l.length lc),(18,iV l.length),(19,iV k)] (Mem w ⟨no,P0⟩ [Row (.slice A2 ((zI.only s1.sr.l by_).length) cp2) 74 2 zQ (zI.only s1.sr.l by_),slP 2 zQ (.slice s1.sr.A s1.sr.l.length s1.sr.c) s1.sr.l,okP zE.Ok s1,.blk b10 [.slice s1.sr.A s1.sr.l.length s1.sr.c,iV s1.value] 81,allP zE.Ok cs,Row (.slice A1 cs.length cp1) 81 2 zo cs,.blk b8 [.bool true,iV 0,.slice A1 cs.length cp1] 172,.blk b6 [.bool false,iV 0,Zs] 172,slP 1 strE (.slice by_A by_.length by_c) by_,slP 2 zo (.slice lA l.length lc) l,allP zE.Ok l]) (fun _ hK11=>?_) ?_
  ·refine (go 6) (zX (fun h2=>?_) fun h2=>?_)
   ·refine (go 2) ?_
    refine zU (zm hK11 (sc rfl (sc rfl (sc rfl (sc rfl (sc rfl (sc (by first | (simp only [if_pos h2]; done) | (simp only [if_pos h2]; rfl)) (sc rfl (sc rfl (sc rfl sn))))))))) (fun _ h=>h))
   refine uE (zm hK11 (sc rfl (sc rfl (sc rfl (sc rfl (sc rfl (sc (by first | (simp only [if_neg h2]; done) | (simp only [if_neg h2]; rfl)) (sc rfl (sc rfl (sc rfl sn))))))))) (fun _ h=>h))
  refine (go 2) ?_
  have hux:-1125899906842624≤(if wd=⟨#[99,111,117,110,116]⟩ then 1 else s1.value)∧(if wd=⟨#[99,111,117,110,116]⟩ then 1 else s1.value)≤1125899906842624:=Mn.unit_rng (w:=wd) hb_s1
  refine (go 3) ?_
  refine yH call189 wn rfl (fun w1 hM=>c_bsC _ cs _ (zI.only s1.sr.l by_) (In w1) w1 (fun _ h=>h) (RowSl encCellX hM 5 rfl) (hM.yR (i:=4) rfl) (RowSl encLabel hM 0 rfl) hasc qO) ?_
  refine (go 11) ?_
  refine zb (yC rfl) ?_
  refine (go 2) (yb (fun h3=>?_) fun h3=>?_)
  ·have hhas:Mn.has (cs.map zE.e) (zI.only s1.sr.l by_)=false:=by simpa using h3
   refine (go 8) ?_
   refine zy zo ([(zE.mk ⟨A2,cp2,(zI.only s1.sr.l by_)⟩ (if wd=⟨#[99,111,117,110,116]⟩ then 1 else s1.value))]:List zE) wn underlying32 inf81 rfl rfl rfl rfl qD qD rfl fun b46=>jN 1 encLabel rfl rfl (yM (α:=Value) [Row (.slice A1 cs.length cp1) 81 2 zo cs,Row (.slice (some ⟨b46,0,none⟩) 1 1) 81 2 zo ([(zE.mk ⟨A2,cp2,(zI.only s1.sr.l by_)⟩ (if wd=⟨#[99,111,117,110,116]⟩ then 1 else s1.value))]:List zE)] [slP 2 zQ (.slice A2 ((zI.only s1.sr.l by_).length) cp2) (zI.only s1.sr.l by_),slP 2 zQ (.slice s1.sr.A s1.sr.l.length s1.sr.c) s1.sr.l,okP zE.Ok s1,.blk b10 [.slice s1.sr.A s1.sr.l.length s1.sr.c,iV s1.value] 81,allP zE.Ok cs,.blk b8 [.bool true,iV 0,.slice A1 cs.length cp1] 172,.blk b6 [.bool false,iV 0,Zs] 172,slP 1 strE (.slice by_A by_.length by_c) by_,slP 2 zo (.slice lA l.length lc) l,allP zE.Ok l] (fun z=>z) (fun z1=>True) (fun z1=>[Row z1 81 2 zo (cs.take (Mn.pos (cs.map zE.e) (zI.only s1.sr.l by_))++(zE.mk ⟨A2,cp2,(zI.only s1.sr.l by_)⟩ (if wd=⟨#[99,111,117,110,116]⟩ then 1 else s1.value))::cs.drop (Mn.pos (cs.map zE.e) (zI.only s1.sr.l by_)))]) _ (fun _=>rfl) (S9 [6,0,1,2,3,4,5,7,8,9,10,11]) (fun _=>rfl) wn rfl rfl call191 rfl (fun w1 Pb hG=>c_insertC _ _ cs (zE.mk ⟨A2,cp2,(zI.only s1.sr.l by_)⟩ (if wd=⟨#[99,111,117,110,116]⟩ then 1 else s1.value)) (Mn.pos (cs.map zE.e) (zI.only s1.sr.l by_)) Pb w1 hG Mn.pos_le' qO) fun z1 hz1=>uU 0 (l:=(cs.take (Mn.pos (cs.map zE.e) (zI.only s1.sr.l by_))++(zE.mk ⟨A2,cp2,(zI.only s1.sr.l by_)⟩ (if wd=⟨#[99,111,117,110,116]⟩ then 1 else s1.value))::cs.drop (Mn.pos (cs.map zE.e) (zI.only s1.sr.l by_)))) rfl fun A3 cp3 hv2 hc4 hm4 hA4=>?_)
   subst hv2
   refine ze (fun _ h=>h.allIns (l':=(cs.take (Mn.pos (cs.map zE.e) (zI.only s1.sr.l by_))++(zE.mk ⟨A2,cp2,(zI.only s1.sr.l by_)⟩ (if wd=⟨#[99,111,117,110,116]⟩ then 1 else s1.value))::cs.drop (Mn.pos (cs.map zE.e) (zI.only s1.sr.l by_)))) 5 1 rfl rfl ins_of) ?_
   have hw2:∀ y ∈ (cs.take (Mn.pos (cs.map zE.e) (zI.only s1.sr.l by_))++(zE.mk ⟨A2,cp2,(zI.only s1.sr.l by_)⟩ (if wd=⟨#[99,111,117,110,116]⟩ then 1 else s1.value))::cs.drop (Mn.pos (cs.map zE.e) (zI.only s1.sr.l by_))),zE.Wf y:=fun y hy=>(ins_of y hy).elim (hwf y) fun e=>⟨by rw [e]; exact (show Ex.Wf ⟨A2,cp2,(zI.only s1.sr.l by_)⟩ from ⟨by omega,by omega,hA3⟩)⟩
   refine (go 11) ?_
   refine zU (yO (k + 1) (cs.take (Mn.pos (cs.map zE.e) (zI.only s1.sr.l by_))++(zE.mk ⟨A2,cp2,(zI.only s1.sr.l by_)⟩ (if wd=⟨#[99,111,117,110,116]⟩ then 1 else s1.value))::cs.drop (Mn.pos (cs.map zE.e) (zI.only s1.sr.l by_))) (.slice A3 ((cs.take (Mn.pos (cs.map zE.e) (zI.only s1.sr.l by_))++(zE.mk ⟨A2,cp2,(zI.only s1.sr.l by_)⟩ (if wd=⟨#[99,111,117,110,116]⟩ then 1 else s1.value))::cs.drop (Mn.pos (cs.map zE.e) (zI.only s1.sr.l by_))).length) cp3) (sc rfl (sc rfl (sc rfl (sc rfl (sc rfl (sc rfl (sc (ji qO) sn))))))) (S9 [0,1,7,8,9,10,11]) ?_ ?_)
   ·obtain ⟨g1,g2,g3⟩:=Mn.all_ins (w:=wd) (by_:=by_) (s:=zI.only s1.sr.l by_) (c:=zE.e s1) (r:=(l.drop (k + 1)).map zE.e) (x:=(if wd=⟨#[99,111,117,110,116]⟩ then 1 else s1.value)) (z:=(zE.mk ⟨A2,cp2,(zI.only s1.sr.l by_)⟩ (if wd=⟨#[99,111,117,110,116]⟩ then 1 else s1.value))) rfl rfl rfl hhas hfit hb_s1
    exact ⟨by omega,hw2,by rw [hI1.2.2.1,Mn.drop_map hs1,g3,← g1],by rw [g1]; exact Mn.put_asc hasc,by rw [g1]; exact g2,by rw [ins_len Mn.pos_le']; omega⟩
   omega
  have hhas:Mn.has (cs.map zE.e) (zI.only s1.sr.l by_)=true:=by simpa using h3
  have hpl:=Mn.pos_lt hasc hhas
  refine (go 7) ?_
  obtain ⟨ad2,hd2⟩:=hA1 (ne_nil (i:=(Mn.pos (cs.map zE.e) (zI.only s1.sr.l by_))) qI)
  refine zb (yx (i:=(Mn.pos (cs.map zE.e) (zI.only s1.sr.l by_))) rfl hd2 rfl qO qI underlying32 inf81) ?_
  refine (go 16) (zX (fun h4=>?_) fun h4=>?_)
  ·refine (go 5) ?_
   obtain ⟨s2,hs2⟩:=gx cs ((Mn.pos (cs.map zE.e) (zI.only s1.sr.l by_)))
   have hb_s2:=Mn.Fit.at_ hfit hs2
   refine zb (uB 5 encCellX rfl rfl hd2 hs2 rfl flat3) ?_
   refine (go 4) ?_
   refine uC 5 (vs:=[iV (if s2.value < (if wd=⟨#[99,111,117,110,116]⟩ then 1 else s1.value) then (if wd=⟨#[99,111,117,110,116]⟩ then 1 else s1.value) else s2.value)]) (zE.mk ⟨s2.sr.A,s2.sr.c,s2.sr.l⟩ (if s2.value < (if wd=⟨#[99,111,117,110,116]⟩ then 1 else s1.value) then (if wd=⟨#[99,111,117,110,116]⟩ then 1 else s1.value) else s2.value)) encCellX wn rfl rfl rfl rfl hd2 hs2 inf3 rfl rfl rfl rfl (ze (fun _ h=>h.allOf (l':=(cs.set (Mn.pos (cs.map zE.e) (zI.only s1.sr.l by_)) (zE.mk ⟨s2.sr.A,s2.sr.c,s2.sr.l⟩ (if s2.value < (if wd=⟨#[99,111,117,110,116]⟩ then 1 else s1.value) then (if wd=⟨#[99,111,117,110,116]⟩ then 1 else s1.value) else s2.value)))) 4 rfl (set_of hs2 rfl)) ?_)
   have hw3:∀ x ∈ (cs.set (Mn.pos (cs.map zE.e) (zI.only s1.sr.l by_)) (zE.mk ⟨s2.sr.A,s2.sr.c,s2.sr.l⟩ (if s2.value < (if wd=⟨#[99,111,117,110,116]⟩ then 1 else s1.value) then (if wd=⟨#[99,111,117,110,116]⟩ then 1 else s1.value) else s2.value))),zE.Wf x:=fun x hx=>by obtain ⟨y,hy,e⟩:=set_of (z:=(zE.mk ⟨s2.sr.A,s2.sr.c,s2.sr.l⟩ (if s2.value < (if wd=⟨#[99,111,117,110,116]⟩ then 1 else s1.value) then (if wd=⟨#[99,111,117,110,116]⟩ then 1 else s1.value) else s2.value))) hs2 rfl x hx; exact ⟨by rw [e]; exact (hwf y hy).sr⟩
   refine (go 8) ?_
   refine zb (uB 6 encCellX rfl rfl hd2 (set_at hs2) rfl flat3) (yH call192 wn rfl (fun w1 hM=>uq ((zE.mk ⟨s2.sr.A,s2.sr.c,s2.sr.l⟩ (if s2.value < (if wd=⟨#[99,111,117,110,116]⟩ then 1 else s1.value) then (if wd=⟨#[99,111,117,110,116]⟩ then 1 else s1.value) else s2.value)).value) w1) (zb (yC rfl) ?_))
   refine (go 2) (yb (fun h5=>?_) fun h5=>?_)
   ·refine (go 13) (yL results156 fun w1 hM=>?_)
    obtain ⟨g1,_,g2⟩:=Mn.all_set (w:=wd) (by_:=by_) (s:=zI.only s1.sr.l by_) (c:=zE.e s1) (r:=(l.drop (k + 1)).map zE.e) (x:=(if wd=⟨#[99,111,117,110,116]⟩ then 1 else s1.value)) (z:=(zE.mk ⟨s2.sr.A,s2.sr.c,s2.sr.l⟩ (if s2.value < (if wd=⟨#[99,111,117,110,116]⟩ then 1 else s1.value) then (if wd=⟨#[99,111,117,110,116]⟩ then 1 else s1.value) else s2.value))) rfl rfl hasc hhas hfit hs2 rfl (by show _=Mn.comb wd s2.value (if wd=⟨#[99,111,117,110,116]⟩ then 1 else s1.value); unfold Mn.comb; grind)
    have hb9:Mn.all wd by_ (l.map zE.e)=(Mn.zero,3):=by rw [Mn.all,hI1.2.2.1,Mn.drop_map hs1,g2 (by simpa using h5)]
    exact hM.vT (⟨false,0,⟨none,0,[]⟩⟩:zc) (by first | (rw [hb9]; done) | (rw [hb9]; rfl)) (by first | (rw [hb9]; done) | (rw [hb9]; rfl)) fun Pb pp=>⟨zD.zt _ _ _ _,fun c hc=>by cases hc⟩
   refine (go 6) ?_
   refine zU (yO (k + 1) (cs.set (Mn.pos (cs.map zE.e) (zI.only s1.sr.l by_)) (zE.mk ⟨s2.sr.A,s2.sr.c,s2.sr.l⟩ (if s2.value < (if wd=⟨#[99,111,117,110,116]⟩ then 1 else s1.value) then (if wd=⟨#[99,111,117,110,116]⟩ then 1 else s1.value) else s2.value))) (.slice A1 cs.length cp1) (sc rfl (sc rfl (sc rfl (sc rfl (sc rfl (sc rfl (sc (ji qO) sn))))))) (S9 [0,6,7,8,9,10,11]) ?_ ?_)
   ·obtain ⟨g1,g2,_⟩:=Mn.all_set (w:=wd) (by_:=by_) (s:=zI.only s1.sr.l by_) (c:=zE.e s1) (r:=(l.drop (k + 1)).map zE.e) (x:=(if wd=⟨#[99,111,117,110,116]⟩ then 1 else s1.value)) (z:=(zE.mk ⟨s2.sr.A,s2.sr.c,s2.sr.l⟩ (if s2.value < (if wd=⟨#[99,111,117,110,116]⟩ then 1 else s1.value) then (if wd=⟨#[99,111,117,110,116]⟩ then 1 else s1.value) else s2.value))) rfl rfl hasc hhas hfit hs2 rfl (by show _=Mn.comb wd s2.value (if wd=⟨#[99,111,117,110,116]⟩ then 1 else s1.value); unfold Mn.comb; grind)
    obtain ⟨g3,g4⟩:=g2 (by simpa using h5)
    exact ⟨by omega,hw3,by rw [hI1.2.2.1,Mn.drop_map hs1,g4,← g1],by rw [g1]; exact Mn.put_asc hasc,by rw [g1]; exact g3,by rw [List.length_set]; omega⟩
   omega
  refine (go 6) (zX (fun h6=>?_) fun h6=>?_)
  ·refine (go 5) ?_
   obtain ⟨s3,hs3⟩:=gx cs ((Mn.pos (cs.map zE.e) (zI.only s1.sr.l by_)))
   have hb_s3:=Mn.Fit.at_ hfit hs3
   refine zb (uB 5 encCellX rfl rfl hd2 hs3 rfl flat3) ?_
   refine (go 4) ?_
   refine uC 5 (vs:=[iV (if (if wd=⟨#[99,111,117,110,116]⟩ then 1 else s1.value) < s3.value then (if wd=⟨#[99,111,117,110,116]⟩ then 1 else s1.value) else s3.value)]) (zE.mk ⟨s3.sr.A,s3.sr.c,s3.sr.l⟩ (if (if wd=⟨#[99,111,117,110,116]⟩ then 1 else s1.value) < s3.value then (if wd=⟨#[99,111,117,110,116]⟩ then 1 else s1.value) else s3.value)) encCellX wn rfl rfl rfl rfl hd2 hs3 inf3 rfl rfl rfl rfl (ze (fun _ h=>h.allOf (l':=(cs.set (Mn.pos (cs.map zE.e) (zI.only s1.sr.l by_)) (zE.mk ⟨s3.sr.A,s3.sr.c,s3.sr.l⟩ (if (if wd=⟨#[99,111,117,110,116]⟩ then 1 else s1.value) < s3.value then (if wd=⟨#[99,111,117,110,116]⟩ then 1 else s1.value) else s3.value)))) 4 rfl (set_of hs3 rfl)) ?_)
   have hw4:∀ x ∈ (cs.set (Mn.pos (cs.map zE.e) (zI.only s1.sr.l by_)) (zE.mk ⟨s3.sr.A,s3.sr.c,s3.sr.l⟩ (if (if wd=⟨#[99,111,117,110,116]⟩ then 1 else s1.value) < s3.value then (if wd=⟨#[99,111,117,110,116]⟩ then 1 else s1.value) else s3.value))),zE.Wf x:=fun x hx=>by obtain ⟨y,hy,e⟩:=set_of (z:=(zE.mk ⟨s3.sr.A,s3.sr.c,s3.sr.l⟩ (if (if wd=⟨#[99,111,117,110,116]⟩ then 1 else s1.value) < s3.value then (if wd=⟨#[99,111,117,110,116]⟩ then 1 else s1.value) else s3.value))) hs3 rfl x hx; exact ⟨by rw [e]; exact (hwf y hy).sr⟩
   refine (go 8) ?_
   refine zb (uB 6 encCellX rfl rfl hd2 (set_at hs3) rfl flat3) (yH call192 wn rfl (fun w1 hM=>uq ((zE.mk ⟨s3.sr.A,s3.sr.c,s3.sr.l⟩ (if (if wd=⟨#[99,111,117,110,116]⟩ then 1 else s1.value) < s3.value then (if wd=⟨#[99,111,117,110,116]⟩ then 1 else s1.value) else s3.value)).value) w1) (zb (yC rfl) ?_))
   refine (go 2) (yb (fun h7=>?_) fun h7=>?_)
   ·refine (go 13) (yL results156 fun w1 hM=>?_)
    obtain ⟨g1,_,g2⟩:=Mn.all_set (w:=wd) (by_:=by_) (s:=zI.only s1.sr.l by_) (c:=zE.e s1) (r:=(l.drop (k + 1)).map zE.e) (x:=(if wd=⟨#[99,111,117,110,116]⟩ then 1 else s1.value)) (z:=(zE.mk ⟨s3.sr.A,s3.sr.c,s3.sr.l⟩ (if (if wd=⟨#[99,111,117,110,116]⟩ then 1 else s1.value) < s3.value then (if wd=⟨#[99,111,117,110,116]⟩ then 1 else s1.value) else s3.value))) rfl rfl hasc hhas hfit hs3 rfl (by show _=Mn.comb wd s3.value (if wd=⟨#[99,111,117,110,116]⟩ then 1 else s1.value); unfold Mn.comb; grind)
    have hb9:Mn.all wd by_ (l.map zE.e)=(Mn.zero,3):=by rw [Mn.all,hI1.2.2.1,Mn.drop_map hs1,g2 (by simpa using h7)]
    exact hM.vT (⟨false,0,⟨none,0,[]⟩⟩:zc) (by first | (rw [hb9]; done) | (rw [hb9]; rfl)) (by first | (rw [hb9]; done) | (rw [hb9]; rfl)) fun Pb pp=>⟨zD.zt _ _ _ _,fun c hc=>by cases hc⟩
   refine (go 6) ?_
   refine zU (yO (k + 1) (cs.set (Mn.pos (cs.map zE.e) (zI.only s1.sr.l by_)) (zE.mk ⟨s3.sr.A,s3.sr.c,s3.sr.l⟩ (if (if wd=⟨#[99,111,117,110,116]⟩ then 1 else s1.value) < s3.value then (if wd=⟨#[99,111,117,110,116]⟩ then 1 else s1.value) else s3.value))) (.slice A1 cs.length cp1) (sc rfl (sc rfl (sc rfl (sc rfl (sc rfl (sc rfl (sc (ji qO) sn))))))) (S9 [0,6,7,8,9,10,11]) ?_ ?_)
   ·obtain ⟨g1,g2,_⟩:=Mn.all_set (w:=wd) (by_:=by_) (s:=zI.only s1.sr.l by_) (c:=zE.e s1) (r:=(l.drop (k + 1)).map zE.e) (x:=(if wd=⟨#[99,111,117,110,116]⟩ then 1 else s1.value)) (z:=(zE.mk ⟨s3.sr.A,s3.sr.c,s3.sr.l⟩ (if (if wd=⟨#[99,111,117,110,116]⟩ then 1 else s1.value) < s3.value then (if wd=⟨#[99,111,117,110,116]⟩ then 1 else s1.value) else s3.value))) rfl rfl hasc hhas hfit hs3 rfl (by show _=Mn.comb wd s3.value (if wd=⟨#[99,111,117,110,116]⟩ then 1 else s1.value); unfold Mn.comb; grind)
    obtain ⟨g3,g4⟩:=g2 (by simpa using h7)
    exact ⟨by omega,hw4,by rw [hI1.2.2.1,Mn.drop_map hs1,g4,← g1],by rw [g1]; exact Mn.put_asc hasc,by rw [g1]; exact g3,by rw [List.length_set]; omega⟩
   omega
  refine (go 4) ?_
  obtain ⟨s4,hs4⟩:=gx cs ((Mn.pos (cs.map zE.e) (zI.only s1.sr.l by_)))
  have hb_s4:=Mn.Fit.at_ hfit hs4
  refine zb (uB 5 encCellX rfl rfl hd2 hs4 rfl flat3) ?_
  refine (go 4) ?_
  refine uC 5 (vs:=[iV (s4.value + (if wd=⟨#[99,111,117,110,116]⟩ then 1 else s1.value))]) (zE.mk ⟨s4.sr.A,s4.sr.c,s4.sr.l⟩ (s4.value + (if wd=⟨#[99,111,117,110,116]⟩ then 1 else s1.value))) encCellX wn rfl rfl rfl rfl hd2 hs4 inf3 rfl rfl rfl rfl (ze (fun _ h=>h.allOf (l':=(cs.set (Mn.pos (cs.map zE.e) (zI.only s1.sr.l by_)) (zE.mk ⟨s4.sr.A,s4.sr.c,s4.sr.l⟩ (s4.value + (if wd=⟨#[99,111,117,110,116]⟩ then 1 else s1.value))))) 4 rfl (set_of hs4 rfl)) ?_)
  have hw5:∀ x ∈ (cs.set (Mn.pos (cs.map zE.e) (zI.only s1.sr.l by_)) (zE.mk ⟨s4.sr.A,s4.sr.c,s4.sr.l⟩ (s4.value + (if wd=⟨#[99,111,117,110,116]⟩ then 1 else s1.value)))),zE.Wf x:=fun x hx=>by obtain ⟨y,hy,e⟩:=set_of (z:=(zE.mk ⟨s4.sr.A,s4.sr.c,s4.sr.l⟩ (s4.value + (if wd=⟨#[99,111,117,110,116]⟩ then 1 else s1.value)))) hs4 rfl x hx; exact ⟨by rw [e]; exact (hwf y hy).sr⟩
  refine (go 8) ?_
  refine zb (uB 6 encCellX rfl rfl hd2 (set_at hs4) rfl flat3) (yH call192 wn rfl (fun w1 hM=>uq ((zE.mk ⟨s4.sr.A,s4.sr.c,s4.sr.l⟩ (s4.value + (if wd=⟨#[99,111,117,110,116]⟩ then 1 else s1.value))).value) w1) (zb (yC rfl) ?_))
  refine (go 2) (yb (fun h8=>?_) fun h8=>?_)
  ·refine (go 13) (yL results156 fun w1 hM=>?_)
   obtain ⟨g1,_,g2⟩:=Mn.all_set (w:=wd) (by_:=by_) (s:=zI.only s1.sr.l by_) (c:=zE.e s1) (r:=(l.drop (k + 1)).map zE.e) (x:=(if wd=⟨#[99,111,117,110,116]⟩ then 1 else s1.value)) (z:=(zE.mk ⟨s4.sr.A,s4.sr.c,s4.sr.l⟩ (s4.value + (if wd=⟨#[99,111,117,110,116]⟩ then 1 else s1.value)))) rfl rfl hasc hhas hfit hs4 rfl (by show _=Mn.comb wd s4.value (if wd=⟨#[99,111,117,110,116]⟩ then 1 else s1.value); unfold Mn.comb; grind)
   have hb9:Mn.all wd by_ (l.map zE.e)=(Mn.zero,3):=by rw [Mn.all,hI1.2.2.1,Mn.drop_map hs1,g2 (by simpa using h8)]
   exact hM.vT (⟨false,0,⟨none,0,[]⟩⟩:zc) (by first | (rw [hb9]; done) | (rw [hb9]; rfl)) (by first | (rw [hb9]; done) | (rw [hb9]; rfl)) fun Pb pp=>⟨zD.zt _ _ _ _,fun c hc=>by cases hc⟩
  refine (go 6) ?_
  refine zU (yO (k + 1) (cs.set (Mn.pos (cs.map zE.e) (zI.only s1.sr.l by_)) (zE.mk ⟨s4.sr.A,s4.sr.c,s4.sr.l⟩ (s4.value + (if wd=⟨#[99,111,117,110,116]⟩ then 1 else s1.value)))) (.slice A1 cs.length cp1) (sc rfl (sc rfl (sc rfl (sc rfl (sc rfl (sc rfl (sc (ji qO) sn))))))) (S9 [0,6,7,8,9,10,11]) ?_ ?_)
  ·obtain ⟨g1,g2,_⟩:=Mn.all_set (w:=wd) (by_:=by_) (s:=zI.only s1.sr.l by_) (c:=zE.e s1) (r:=(l.drop (k + 1)).map zE.e) (x:=(if wd=⟨#[99,111,117,110,116]⟩ then 1 else s1.value)) (z:=(zE.mk ⟨s4.sr.A,s4.sr.c,s4.sr.l⟩ (s4.value + (if wd=⟨#[99,111,117,110,116]⟩ then 1 else s1.value)))) rfl rfl hasc hhas hfit hs4 rfl (by show _=Mn.comb wd s4.value (if wd=⟨#[99,111,117,110,116]⟩ then 1 else s1.value); unfold Mn.comb; grind)
   obtain ⟨g3,g4⟩:=g2 (by simpa using h8)
   exact ⟨by omega,hw5,by rw [hI1.2.2.1,Mn.drop_map hs1,g4,← g1],by rw [g1]; exact Mn.put_asc hasc,by rw [g1]; exact g3,by rw [List.length_set]; omega⟩
  omega
 refine (go 13) (yL results156 fun w1 hM=>?_)
 have hb9:Mn.all wd by_ (l.map zE.e)=(⟨true,0,cs.map zE.e⟩,0):=by rw [Mn.all,hI1.2.2.1,Mn.drop_end qO,Mn.allFrom]
 have hM:=hM.zk encCellX (i:=1) rfl rfl
 exact hM.vT (⟨true,0,⟨A1,cp1,cs⟩⟩:zc) (by first | (rw [hb9]; done) | (rw [hb9]; rfl)) (by first | (rw [hb9]; done) | (rw [hb9]; rfl)) fun Pb pp=>⟨pp.sl 1 rfl,pp.at_ 0 _ rfl⟩
end
section
open Tryz
open Ex
attribute [local irreducible] WC WL WQ WE WS
set_option linter.unusedVariables false
set_option linter.unusedSimpArgs false
set_option maxHeartbeats 1000000 in
theorem c_gwindow (vad ead:Addr) (time n:Int) (f:Nat) (fcap:Array Value) (o:Int→Own) (S:Nat→Prop) (C:World→Prop) (lk:Look) (sk:Sk) (e:zB) (Pb:Nat→Prop) (w:World) (hG:Mem w ⟨fpOf [(o n),.dat S C,celP vad [iV time,.func (.func f) #[] fcap],celP ead [iV e.kind,iV e.n,iV e.range,.string e.word,.slice e.ms.A e.ms.l.length e.ms.c,.slice e.by_.A e.by_.l.length e.by_.c,.slice e.kids.A e.kids.l.length e.kids.c],okP zB.Ok e],Pb⟩ [(o n),.dat S C,celP vad [iV time,.func (.func f) #[] fcap],celP ead [iV e.kind,iV e.n,iV e.range,.string e.word,.slice e.ms.A e.ms.l.length e.ms.c,.slice e.by_.A e.by_.l.length e.by_.c,.slice e.kids.A e.kids.l.length e.kids.c],okP zB.Ok e] w) (hf:WinG prog f fcap o S C lk sk) (hg:Mn.GoodLook lk) (ht:0≤time∧time≤1000000) (hr:1≤e.range∧e.range≤100000) :
    Calls prog 155 #[.pointer (some ((Addr.add vad 0).add 0)),.pointer (some ((Addr.add ead 0).add 0))] w (RetA w [(o n),.dat S C,celP vad [iV time,.func (.func f) #[] fcap],celP ead [iV e.kind,iV e.n,iV e.range,.string e.word,.slice e.ms.A e.ms.l.length e.ms.c,.slice e.by_.A e.by_.l.length e.by_.c,.slice e.kids.A e.kids.l.length e.kids.c],okP zB.Ok e] Pb (fun z:zc=>.tuple #[.agg (vl z).toArray,iV (Mn.window lk time e.word e.ms.l e.range).2]) (fun z=>z.e=(Mn.window lk time e.word e.ms.l e.range).1) (fun z=>[okP zc.Ok z,o (sk e.ms.l (Mn.frm time e.range) time n),celP vad [iV time,.func (.func f) #[] fcap],celP ead (zu e),okP zB.Ok e])):=by
 have hwe:=(hG.yR (i:=4) rfl).wf
 refine zr (N:=76) (vals:=[.pointer (some ((Addr.add vad 0).add 0)),.pointer (some ((Addr.add ead 0).add 0))]) func155 hG ?_
 refine (go 2) (zz fun b4=>?_)
 refine (go 4) ?_
 refine yK (Mem w ⟨fpOf [(o n),.dat S C,celP vad [iV time,.func (.func f) #[] fcap],celP ead [iV e.kind,iV e.n,iV e.range,.string e.word,.slice e.ms.A e.ms.l.length e.ms.c,.slice e.by_.A e.by_.l.length e.by_.c,.slice e.kids.A e.kids.l.length e.kids.c],okP zB.Ok e],Pb⟩ [.blk b4 [.bool false,iV 0,Zs] 172,.dat S C,celP vad [iV time,.func (.func f) #[] fcap],celP ead [iV e.kind,iV e.n,iV e.range,.string e.word,.slice e.ms.A e.ms.l.length e.ms.c,.slice e.by_.A e.by_.l.length e.by_.c,.slice e.kids.A e.kids.l.length e.kids.c],okP zB.Ok e]) mix (fun _ h=>h.drew) rfl (yJ 8 [0,1,2,3,4,5,6,7,8,9,10,11,12,13,14,15,16,17,18,19,20,21] [0,2,3,4,5] rfl fun KS hKS=>?_)
 refine (go 22) ?_
 refine zi hKS (zf 7 22 (zg (i:=22) rfl fun KN hKN=>ze (fun _ h=>h.exprX 5 rfl) ?_))
 obtain ⟨hc1,hm1,hA1⟩:=hwe.ms
 obtain ⟨hc2,hm2,hA2⟩:=hwe.by_
 obtain ⟨hc3,hm3,hA3⟩:=hwe.kids
 refine ze (fun _ h=>(h.dup 6 rfl rfl).dup 1 rfl rfl) (l_callA [(o n),.dat S C,slP 3 yA (.slice e.ms.A e.ms.l.length e.ms.c) e.ms.l] [slP 3 yA (.slice e.ms.A e.ms.l.length e.ms.c) e.ms.l,slP 1 strE (.slice e.by_.A e.by_.l.length e.by_.c) e.by_.l,slP 7 zu (.slice e.kids.A e.kids.l.length e.kids.c) e.kids.l,allP zB.Ok e.kids.l,.blk b4 [.bool false,iV 0,Zs] 172,.dat S C,celP vad [iV time,.func (.func f) #[] fcap],celP ead [iV e.kind,iV e.n,iV e.range,.string e.word,.slice e.ms.A e.ms.l.length e.ms.c,.slice e.by_.A e.by_.l.length e.by_.c,.slice e.kids.A e.kids.l.length e.kids.c],okP zB.Ok e] (winV (lk e.ms.l (Mn.frm time e.range) time).2) (fun z=>yr.is z (lk e.ms.l (Mn.frm time e.range) time).1) (fun z=>[.pub (fun S=>yr.Ok S z),o (sk e.ms.l (Mn.frm time e.range) time n)]) (S9 [7,1,0,2,3,4,5,6,8,9,10,11]) (fun _=>hq2 (hf.ok _)) wn rfl rfl hf.call rfl (fun w1 Pb hG=>hf.run ⟨e.ms.A,e.ms.c,e.ms.l⟩ (Mn.frm time e.range) time n w1 Pb hG (Mn.frm_nn _ _) ht.2) fun z1 hz1=>yw 0 rfl (fun S w h=>yr.Ok.wf h) fun hw1=>ze (fun _ h=>h.winX 0 rfl) ?_)
 obtain ⟨hc4,hm4,hA4⟩:=hw1.sr
 obtain ⟨hc5,hm5,hA5⟩:=hw1.sm
 refine (go 1) ?_
 refine hKN _ _ (S9 [9,10,11,12,13]) (yJ 0 [23,24,25,26,27,28,29] [9,10,11,12,13] rfl fun KS hKS=>?_)
 refine (go 7) ?_
 refine zi hKS ?_
 refine zw (by kernel_rfl) ((go 1) ?_)
 refine (go 7) (zX (fun h1=>?_) fun h1=>?_)
 ·refine (go 10) (yL results155 fun w1 hM=>?_)
  have hb9:Mn.window lk time e.word e.ms.l e.range=(Mn.zero,(lk e.ms.l (Mn.frm time e.range) time).2):=by rw [Mn.window,if_pos (by simpa using h1)]
  have hn9:(sk e.ms.l (Mn.frm time e.range) time n)=sk e.ms.l (Mn.frm time e.range) time n:=rfl
  have hM:=hM.yT (zc.Ok.loc (⟨false,0,⟨none,0,[]⟩⟩:zc)) fun Pb pp=>⟨zD.zt _ _ _ _,fun c hc=>by cases hc⟩
  exact hM.yV (⟨false,0,⟨none,0,[]⟩⟩:zc) (by first | (rw [hb9]; done) | (rw [hb9]; rfl)) (by first | (rw [hb9]; done) | (rw [hb9]; rfl)) (fun h=>by rw [← hn9]; exact h.sel [0,5,12,13,14] qD rfl)
 refine (go 5) (zz fun b9=>?_)
 refine (go 12) ?_
 have hl1:z1.sr.l.length=(lk e.ms.l (Mn.frm time e.range) time).1.length:=by have:=congrArg List.length hz1.1; simpa using this
 have hl2:z1.sm.l.length=(lk e.ms.l (Mn.frm time e.range) time).1.length:=by have:=congrArg List.length hz1.2; simpa using this
 have hl3:=(hg e.ms.l (Mn.frm time e.range) time).1
 refine um (fun _ h=>h.vQ zE 81 2 zo) (uu (fun _ h=>h.all0 zE.Ok.loc) (uL (fun (k:Nat) (cs:List zE) (ov:Value)=>[(1,.pointer (some ((Addr.add ead 0).add 0))),(4,.pointer (some ⟨b4,0,none⟩)),(7,.slice z1.sm.A z1.sm.l.length z1.sm.c),(9,.pointer (some ⟨b9,0,none⟩)),(46,.slice z1.sr.A z1.sr.l.length z1.sr.c),(47,iV z1.sr.l.length),(48,iV k)]) (fun (k:Nat) (cs:List zE) (ov:Value)=>[allP zE.Ok cs,Row ov 81 2 zo cs,.blk b9 [.bool true,iV 0,ov] 172,slP 1 serE (.slice z1.sr.A z1.sr.l.length z1.sr.c) z1.sr.l,allP yF.Ok z1.sr.l,slP 7 sumE (.slice z1.sm.A z1.sm.l.length z1.sm.c) z1.sm.l,.pub (fun S=>yr.Ok S z1),(o (sk e.ms.l (Mn.frm time e.range) time n)),slP 3 yA (.slice e.ms.A e.ms.l.length e.ms.c) e.ms.l,slP 1 strE (.slice e.by_.A e.by_.l.length e.by_.c) e.by_.l,slP 7 zu (.slice e.kids.A e.kids.l.length e.kids.c) e.kids.l,allP zB.Ok e.kids.l,.blk b4 [.bool false,iV 0,Zs] 172,.dat S C,celP vad [iV time,.func (.func f) #[] fcap],celP ead [iV e.kind,iV e.n,iV e.range,.string e.word,.slice e.ms.A e.ms.l.length e.ms.c,.slice e.by_.A e.by_.l.length e.by_.c,.slice e.kids.A e.kids.l.length e.kids.c],okP zB.Ok e]) (fun (k:Nat) (cs:List zE) (ov:Value)=>k≤z1.sr.l.length∧(∀ x ∈ cs,zE.Wf x)∧cs.map zE.e=Mn.winCells e.word ((lk e.ms.l (Mn.frm time e.range) time).1.take k)∧cs.length≤k) (fun (k:Nat) (cs:List zE) (ov:Value)=>z1.sr.l.length - k) 0 [] (Zs) (sc rfl (sc rfl (sc rfl (sc rfl (sc rfl (sc rfl (sc (ji qO) sn))))))) (fun _ h=>h) ?_ (fun k cs ov hI1=>?_)))
 ·exact ⟨Nat.zero_le _,fun x hx=>(by cases hx),rfl,Nat.le_refl _⟩
 have hwf:=hI1.2.1
 have hlen:=hI1.2.2.2
 refine yU 1 (l:=cs) rfl fun A1 cp1 hv1 hc6 hm6 hA6=>?_
 subst hv1
 refine (go 6) (zX (fun h2=>?_) fun h2=>?_)
 ·refine (go 7) ?_
  obtain ⟨ad1,s1,hd1,hs1⟩:=elx hA4 k
  refine (go 14) ?_
  obtain ⟨ad2,s2,hd2,hs2⟩:=elx hA5 k
  refine (go 2) ?_
  refine yP wn rfl call35 rfl (fun w1 hM=>c_Value e.word s2 w1) ?_
  refine (go 12) (yb (fun h3=>?_) fun h3=>?_)
  ·refine (go 6) ?_
   refine zy zo ([(zE.mk ⟨s1.sr.A,s1.sr.c,s1.sr.l⟩ ((Agg.value e.word s2).1))]:List zE) wn underlying32 inf81 rfl rfl rfl rfl qD qD rfl fun b71=>yI 2 cs ([(zE.mk ⟨s1.sr.A,s1.sr.c,s1.sr.l⟩ ((Agg.value e.word s2).1))]:List zE) encCellX wn rfl rfl rfl (fun _ hM=>(RowSl encCellX hM 0 rfl)) underlying32 inf81 rfl rfl (by simp only [qL]; omega) rfl fun A2 cp2 hc7 hm7 hA7=>?_
   have hw3:=hw1.all _ (List.mem_of_getElem? hs1)
   refine ze (fun _ h=>h.one 5 yF.Ok.loc rfl hs1) (ze (fun _ h=>h.serX 0 rfl) ?_)
   obtain ⟨hc8,hm8,hA8⟩:=hw3.sr
   refine ze (fun _ h=>h.allCell (n:=(Agg.value e.word s2).1) 3 0 rfl rfl) ?_
   have hw2:∀ x ∈ (cs++([(zE.mk ⟨s1.sr.A,s1.sr.c,s1.sr.l⟩ ((Agg.value e.word s2).1))]:List zE)),zE.Wf x:=fun x hx=>(List.mem_append.1 hx).elim (hwf x) fun h=>by rw [List.mem_singleton.1 h]; exact ⟨⟨by omega,by omega,hA8⟩⟩
   refine (go 8) ?_
   refine zU (yO (k + 1) (cs++([(zE.mk ⟨s1.sr.A,s1.sr.c,s1.sr.l⟩ ((Agg.value e.word s2).1))]:List zE)) (.slice A2 ((cs++([(zE.mk ⟨s1.sr.A,s1.sr.c,s1.sr.l⟩ ((Agg.value e.word s2).1))]:List zE)).length) cp2) (sc rfl (sc rfl (sc rfl (sc rfl (sc rfl (sc rfl (sc (ji qO) sn))))))) (S9 [0,5,6,7,8,9,10,11,12,13,14,15,16,17,18,19,20]) ?_ ?_)
   ·exact ⟨by omega,hw2,by rw [Mn.winCells_at (s:=s1.sr.l) (m:=s2) (by rw [← hz1.1,List.getElem?_map,hs1]; rfl) (by rw [← hz1.2]; exact hs2),if_pos h3,List.map_append,hI1.2.2.1]; rfl,by simp only [qL]; omega⟩
   omega
  refine (go 6) ?_
  refine zU (yO (k + 1) cs (.slice A1 cs.length cp1) (sc rfl (sc rfl (sc rfl (sc rfl (sc rfl (sc rfl (sc (ji qO) sn))))))) (fun _ h=>h) ?_ ?_)
  ·exact ⟨by omega,hwf,by rw [Mn.winCells_at (s:=s1.sr.l) (m:=s2) (by rw [← hz1.1,List.getElem?_map,hs1]; rfl) (by rw [← hz1.2]; exact hs2),if_neg (by simpa using h3),List.append_nil]; exact hI1.2.2.1,by omega⟩
  omega
 refine (go 13) (yL results155 fun w1 hM=>?_)
 have hb9:Mn.window lk time e.word e.ms.l e.range=(⟨true,0,cs.map zE.e⟩,0):=by rw [Mn.window,if_neg (by simpa using h1),hI1.2.2.1,List.take_of_length_le qO]
 have hM:=hM.vu encCellX (i:=1) (j:=7) rfl rfl qD (fun b hb=>hf.fpc _ _ b (only5 b hb))
 have hn9:(sk e.ms.l (Mn.frm time e.range) time n)=sk e.ms.l (Mn.frm time e.range) time n:=rfl
 have hM:=hM.yT (zc.Ok.loc (⟨true,0,⟨A1,cp1,cs⟩⟩:zc)) fun Pb pp=>⟨pp.sl 1 rfl,pp.at_ 0 _ rfl⟩
 exact hM.yV (⟨true,0,⟨A1,cp1,cs⟩⟩:zc) (by first | (rw [hb9]; done) | (rw [hb9]; rfl)) (by first | (rw [hb9]; done) | (rw [hb9]; rfl)) (fun h=>by rw [← hn9]; exact h.sel [0,8,15,16,17] qD rfl)
def uA (e:zB):Prop:=∀ (vad ead:Addr) (time n:Int) (f:Nat) (fcap:Array Value) (o:Int→Own) (S:Nat→Prop) (C:World→Prop) (lk:Look) (sk:Sk) (Pb:Nat→Prop) (w:World) (hG:Mem w ⟨fpOf [(o n),.dat S C,celP vad [iV time,.func (.func f) #[] fcap],celP ead [iV e.kind,iV e.n,iV e.range,.string e.word,.slice e.ms.A e.ms.l.length e.ms.c,.slice e.by_.A e.by_.l.length e.by_.c,.slice e.kids.A e.kids.l.length e.kids.c],okP zB.Ok e],Pb⟩ [(o n),.dat S C,celP vad [iV time,.func (.func f) #[] fcap],celP ead [iV e.kind,iV e.n,iV e.range,.string e.word,.slice e.ms.A e.ms.l.length e.ms.c,.slice e.by_.A e.by_.l.length e.by_.c,.slice e.kids.A e.kids.l.length e.kids.c],okP zB.Ok e] w) (hf:WinG prog f fcap o S C lk sk) (hg:Mn.GoodLook lk) (ht:0≤time∧time≤1000000) (hr:Mn.right e.e),
    Calls prog 103 #[.pointer (some ((Addr.add vad 0).add 0)),.pointer (some ((Addr.add ead 0).add 0))] w (RetA w [(o n),.dat S C,celP vad [iV time,.func (.func f) #[] fcap],celP ead [iV e.kind,iV e.n,iV e.range,.string e.word,.slice e.ms.A e.ms.l.length e.ms.c,.slice e.by_.A e.by_.l.length e.by_.c,.slice e.kids.A e.kids.l.length e.kids.c],okP zB.Ok e] Pb (fun z:zc=>.tuple #[.agg (vl z).toArray,iV (Mn.eval lk time e.e).2]) (fun z=>z.e=(Mn.eval lk time e.e).1) (fun z=>[okP zc.Ok z,o (Mn.evalN lk sk time e.e n),celP vad [iV time,.func (.func f) #[] fcap],celP ead (zu e),okP zB.Ok e]))
set_option maxHeartbeats 2000000 in
theorem c_gexpr (vad ead:Addr) (time n:Int) (f:Nat) (fcap:Array Value) (o:Int→Own) (S:Nat→Prop) (C:World→Prop) (lk:Look) (sk:Sk) (e:zB) (Pb:Nat→Prop) (w:World) (hG:Mem w ⟨fpOf [(o n),.dat S C,celP vad [iV time,.func (.func f) #[] fcap],celP ead [iV e.kind,iV e.n,iV e.range,.string e.word,.slice e.ms.A e.ms.l.length e.ms.c,.slice e.by_.A e.by_.l.length e.by_.c,.slice e.kids.A e.kids.l.length e.kids.c],okP zB.Ok e],Pb⟩ [(o n),.dat S C,celP vad [iV time,.func (.func f) #[] fcap],celP ead [iV e.kind,iV e.n,iV e.range,.string e.word,.slice e.ms.A e.ms.l.length e.ms.c,.slice e.by_.A e.by_.l.length e.by_.c,.slice e.kids.A e.kids.l.length e.kids.c],okP zB.Ok e] w) (hf:WinG prog f fcap o S C lk sk) (hg:Mn.GoodLook lk) (ht:0≤time∧time≤1000000) (hr:Mn.right e.e) (ih:∀ k:zB,SizeOf.sizeOf k < SizeOf.sizeOf e→uA k) :
    Calls prog 103 #[.pointer (some ((Addr.add vad 0).add 0)),.pointer (some ((Addr.add ead 0).add 0))] w (RetA w [(o n),.dat S C,celP vad [iV time,.func (.func f) #[] fcap],celP ead [iV e.kind,iV e.n,iV e.range,.string e.word,.slice e.ms.A e.ms.l.length e.ms.c,.slice e.by_.A e.by_.l.length e.by_.c,.slice e.kids.A e.kids.l.length e.kids.c],okP zB.Ok e] Pb (fun z:zc=>.tuple #[.agg (vl z).toArray,iV (Mn.eval lk time e.e).2]) (fun z=>z.e=(Mn.eval lk time e.e).1) (fun z=>[okP zc.Ok z,o (Mn.evalN lk sk time e.e n),celP vad [iV time,.func (.func f) #[] fcap],celP ead (zu e),okP zB.Ok e])):=by
 have hwe:=(hG.yR (i:=4) rfl).wf
 have hre:=(Mn.right_e hr).1
 have hrk:=(Mn.right_e hr).2
 refine zr (N:=89) (vals:=[.pointer (some ((Addr.add vad 0).add 0)),.pointer (some ((Addr.add ead 0).add 0))]) func103 hG ?_
 refine (go 2) (zz fun b4=>?_)
 refine (go 19) (zX (fun h1=>?_) fun h1=>?_)
 ·refine (go 14) (yL results103 fun w1 hM=>?_)
  have hb9:Mn.eval lk time e.e=(⟨false,e.n,[]⟩,0):=by rw [Mn.eval_e,if_pos h1]
  have hn9:n=Mn.evalN lk sk time e.e n:=by rw [Mn.evalN_e lk sk time e n,if_pos h1]
  have hM:=hM.yT (zc.Ok.loc (⟨false,e.n,⟨none,0,[]⟩⟩:zc)) fun Pb pp=>⟨zD.zt _ _ _ _,fun c hc=>by cases hc⟩
  exact hM.yV (⟨false,e.n,⟨none,0,[]⟩⟩:zc) (by first | (rw [hb9]; done) | (rw [hb9]; rfl)) (by first | (rw [hb9]; done) | (rw [hb9]; rfl)) (fun h=>by rw [← hn9]; exact h.sel [0,2,4,5,6] qD rfl)
 refine (go 6) (zX (fun h2=>?_) fun h2=>?_)
 ·refine (go 4) ?_
  refine ze (fun _ h=>h.dup 2 rfl rfl) (yM (α:=zc) [(o n),.dat S C,celP vad [iV time,.func (.func f) #[] fcap],celP ead [iV e.kind,iV e.n,iV e.range,.string e.word,.slice e.ms.A e.ms.l.length e.ms.c,.slice e.by_.A e.by_.l.length e.by_.c,.slice e.kids.A e.kids.l.length e.kids.c],okP zB.Ok e] [.blk b4 [.bool false,iV 0,Zs] 172,.dat S C] (fun z=>.tuple #[.agg (vl z).toArray,iV (Mn.window lk time e.word e.ms.l e.range).2]) (fun z=>z.e=(Mn.window lk time e.word e.ms.l e.range).1) (fun z1=>[okP zc.Ok z1,(o (sk e.ms.l (Mn.frm time e.range) time n)),celP vad [iV time,.func (.func f) #[] fcap],celP ead [iV e.kind,iV e.n,iV e.range,.string e.word,.slice e.ms.A e.ms.l.length e.ms.c,.slice e.by_.A e.by_.l.length e.by_.c,.slice e.kids.A e.kids.l.length e.kids.c],okP zB.Ok e]) _ (fun _=>rfl) (S9 [2,0,4,5,6,1,3]) (fun _=>hq5 (hf.ok _)) wn rfl rfl call155 rfl (fun w1 Pb hG=>c_gwindow vad ead time n f fcap o S C lk sk e Pb w1 hG hf hg ht qO) fun z1 hz1=>yw 0 rfl (fun S w h=>zc.Ok.wf h) fun hw1=>?_)
  refine (go 9) (yL results103 fun w1 hM=>?_)
  have hb9:Mn.eval lk time e.e=Mn.window lk time e.word e.ms.l e.range:=by rw [Mn.eval_e,if_neg h1,if_pos h2]
  have hn9:(sk e.ms.l (Mn.frm time e.range) time n)=Mn.evalN lk sk time e.e n:=by rw [Mn.evalN_e lk sk time e n,if_neg h1,if_pos h2]
  have hM:=hM.yT (zc.Ok.loc z1) fun Pb pp=>pp.at_ 0 _ rfl
  exact hM.yV z1 (by first | (rw [hb9]; done) | (rw [hb9]; rfl)) (by rw [hb9]; exact hz1) (fun h=>by rw [← hn9]; exact h.sel [0,2,3,4,5] qD rfl)
 refine (go 5) ?_
 refine yD (vl:zc→List Value) 172 3 (ze (fun _ h=>h.all0 zc.Ok.loc) ?_)
 refine (go 15) ?_
 refine vK (fun (k:Nat) (vs:List zc) (m:Int) (vv:Value)=>[(0,.pointer (some ((Addr.add vad 0).add 0))),(1,.pointer (some ((Addr.add ead 0).add 0))),(4,.pointer (some ⟨b4,0,none⟩)),(6,vv),(32,iV e.kids.l.length),(33,iV k)]) (fun (k:Nat) (vs:List zc) (m:Int) (vv:Value)=>[allP zc.Ok vs,Row vv 172 3 vl vs,.blk b4 [.bool false,iV 0,Zs] 172,(o m),.dat S C,celP vad [iV time,.func (.func f) #[] fcap],celP ead [iV e.kind,iV e.n,iV e.range,.string e.word,.slice e.ms.A e.ms.l.length e.ms.c,.slice e.by_.A e.by_.l.length e.by_.c,.slice e.kids.A e.kids.l.length e.kids.c],okP zB.Ok e]) (fun (k:Nat) (vs:List zc) (m:Int) (vv:Value)=>k≤e.kids.l.length∧(∀ x ∈ vs,zc.Wf x)∧Mn.evals lk time (e.kids.l.map zB.e)=(vs.map zc.e++(Mn.evals lk time ((e.kids.l.drop k).map zB.e)).1,(Mn.evals lk time ((e.kids.l.drop k).map zB.e)).2)∧vs.length=k∧Mn.evalsN lk sk time (e.kids.l.map zB.e) n=Mn.evalsN lk sk time ((e.kids.l.drop k).map zB.e) m) (fun (k:Nat) (vs:List zc) (m:Int) (vv:Value)=>e.kids.l.length - k) 0 [] n (Zs) (sc rfl (sc rfl (sc rfl (sc rfl (sc rfl (sc (ji qO) sn)))))) (fun _ h=>h) ?_ (fun k vs m vv hI1=>?_)
 ·exact ⟨Nat.zero_le _,fun x hx=>(by cases hx),Mn.evals_0 _ _ _,rfl,rfl⟩
 have hwf:=hI1.2.1
 have hlen:=hI1.2.2.2.1
 refine yU 1 (l:=vs) rfl fun A1 cp1 hv1 hc1 hm1 hA1=>?_
 subst hv1
 refine (go 6) (zX (fun h3=>?_) fun h3=>?_)
 ·refine (go 18) ?_
  refine ze (fun _ h=>h.exprX 7 rfl) ?_
  obtain ⟨hc2,hm2,hA2⟩:=hwe.ms
  obtain ⟨hc3,hm3,hA3⟩:=hwe.by_
  obtain ⟨hc4,hm4,hA4⟩:=hwe.kids
  obtain ⟨ad1,s1,hd1,hs1⟩:=elx hA4 k
  refine (go 1) ?_
  refine ze (fun _ h=>h.celAt 2 rfl hd1 hs1) ?_
  have hw2:=hwe.all _ (List.mem_of_getElem? hs1)
  refine ze (fun _ h=>h.one 4 zB.Ok.loc rfl hs1) (ze (fun _ h=>h.dup 10 rfl rfl) (yM (α:=zc) [(o m),.dat S C,celP vad [iV time,.func (.func f) #[] fcap],celP (Addr.add ad1 (k * 7)) [iV s1.kind,iV s1.n,iV s1.range,.string s1.word,.slice s1.ms.A s1.ms.l.length s1.ms.c,.slice s1.by_.A s1.by_.l.length s1.by_.c,.slice s1.kids.A s1.kids.l.length s1.kids.c],okP zB.Ok s1] [slP 3 yA (.slice e.ms.A e.ms.l.length e.ms.c) e.ms.l,slP 1 strE (.slice e.by_.A e.by_.l.length e.by_.c) e.by_.l,slP 7 zu (.slice e.kids.A e.kids.l.length e.kids.c) e.kids.l,allP zB.Ok e.kids.l,allP zc.Ok vs,Row (.slice A1 vs.length cp1) 172 3 vl vs,.blk b4 [.bool false,iV 0,Zs] 172,.dat S C,celP ead [iV e.kind,iV e.n,iV e.range,.string e.word,.slice e.ms.A e.ms.l.length e.ms.c,.slice e.by_.A e.by_.l.length e.by_.c,.slice e.kids.A e.kids.l.length e.kids.c],okP zB.Ok e] (fun z=>.tuple #[.agg (vl z).toArray,iV (Mn.eval lk time s1.e).2]) (fun z=>z.e=(Mn.eval lk time s1.e).1) (fun z2=>[okP zc.Ok z2,(o (Mn.evalN lk sk time s1.e m)),celP vad [iV time,.func (.func f) #[] fcap],celP (Addr.add ad1 (k * 7)) [iV s1.kind,iV s1.n,iV s1.range,.string s1.word,.slice s1.ms.A s1.ms.l.length s1.ms.c,.slice s1.by_.A s1.by_.l.length s1.by_.c,.slice s1.kids.A s1.kids.l.length s1.kids.c],okP zB.Ok s1]) _ (fun _=>rfl) (S9 [10,0,12,2,1,3,4,5,6,7,8,9,11,13,14]) (fun _=>hq5 (hf.ok _)) wn rfl rfl call103 rfl (fun w1 Pb hG=>ih s1 (zB.kid_lt (List.mem_of_getElem? hs1)) vad (Addr.add ad1 (k * 7)) time m f fcap o S C lk sk Pb w1 hG hf hg ht (hrk _ (List.mem_of_getElem? (by assumption)))) fun z2 hz2=>yw 0 rfl (fun S w h=>zc.Ok.wf h) fun hw3=>?_))
  refine (go 3) (zz fun b8=>?_)
  refine (go 11) (zX (fun h4=>?_) fun h4=>?_)
  ·refine (go 15) (yL results103 fun w1 hM=>?_)
   have hv9:=Mn.evals_bad hI1.2.2.1 hs1 h4
   have hb9:Mn.eval lk time e.e=(Mn.zero,(Mn.eval lk time s1.e).2):=by rw [Mn.eval_e,if_neg h1,if_neg h2,if_pos (by rw [hv9]; exact h4),hv9]
   have hn9:(Mn.evalN lk sk time s1.e m)=Mn.evalN lk sk time e.e n:=by rw [Mn.evalN_e lk sk time e n,if_neg h1,if_neg h2]; exact (Mn.evalsN_bad hI1.2.2.2.2 hs1 h4).symm
   have hM:=hM.yT (zc.Ok.loc (⟨false,0,⟨none,0,[]⟩⟩:zc)) fun Pb pp=>⟨zD.zt _ _ _ _,fun c hc=>by cases hc⟩
   exact hM.yV (⟨false,0,⟨none,0,[]⟩⟩:zc) (by first | (rw [hb9]; done) | (rw [hb9]; rfl)) (by first | (rw [hb9]; done) | (rw [hb9]; rfl)) (fun h=>by rw [← hn9]; exact h.sel [0,3,4,15,16] qD rfl)
  refine (go 5) ?_
  refine zy vl ([z2]:List zc) wn underlying224 inf172 rfl rfl rfl rfl qD qD rfl fun b53=>yI 12 vs ([z2]:List zc) encValX wn rfl rfl rfl (fun _ hM=>(RowSl encValX hM 0 rfl)) underlying224 inf172 rfl rfl (by simp only [qL]; omega) rfl fun A2 cp2 hc5 hm5 hA5=>ze (fun _ h=>h.allSnoc 11 2 zc.Ok.loc rfl rfl) ?_
  have hw4:∀ x ∈ (vs++([z2]:List zc)),zc.Wf x:=fun x hx=>(List.mem_append.1 hx).elim (hwf x) fun h=>by rw [List.mem_singleton.1 h]; exact hw3
  refine (go 7) ?_
  refine zU (yY (k + 1) (vs++([z2]:List zc)) (Mn.evalN lk sk time s1.e m) (.slice A2 ((vs++([z2]:List zc)).length) cp2) (sc rfl (sc rfl (sc rfl (sc rfl (sc rfl (sc (ji qO) sn)))))) (S9 [0,13,14,4,15,5,16,17]) ?_ ?_)
  ·exact ⟨by omega,hw4,Mn.evals_next hI1.2.2.1 hs1 hz2 (by have:=h4; omega),by simp only [qL]; omega,Mn.evalsN_next hI1.2.2.2.2 hs1 (by have:=h4; omega)⟩
  omega
 refine (go 8) ?_
 have hev:=Mn.evals_end hI1.2.2.1 qO
 have hgs:=Mn.good_of hg hev hrk
 refine (go 7) (zX (fun h5=>?_) fun h5=>?_)
 ·refine (go 1) ?_
  refine yK (Mem w ⟨fpOf [(o n),.dat S C,celP vad [iV time,.func (.func f) #[] fcap],celP ead [iV e.kind,iV e.n,iV e.range,.string e.word,.slice e.ms.A e.ms.l.length e.ms.c,.slice e.by_.A e.by_.l.length e.by_.c,.slice e.kids.A e.kids.l.length e.kids.c],okP zB.Ok e],Pb⟩ [allP zc.Ok vs,Row (.slice A1 vs.length cp1) 172 3 vl vs,(o m),.dat S C,celP vad [iV time,.func (.func f) #[] fcap],celP ead [iV e.kind,iV e.n,iV e.range,.string e.word,.slice e.ms.A e.ms.l.length e.ms.c,.slice e.by_.A e.by_.l.length e.by_.c,.slice e.kids.A e.kids.l.length e.kids.c],okP zB.Ok e]) mix (fun _ h=>h.drew) rfl (yJ 5 [0,1,2,3,4,5,6,7,8,9,10,11] [0,1,3,4,5,6,7] rfl fun KS hKS=>?_)
  refine (go 9) ?_
  obtain ⟨ad2,s2,hd2,hs2⟩:=elx hA1 0
  refine (go 2) ?_
  obtain ⟨hx1_s2,hx2_s2,hx3_s2,hx4_s2⟩:=(hgs _ (List.mem_of_getElem? hs2)).x
  refine uo (uB 1 encValX rfl rfl hd2 hs2 rfl flat32) (zi hKS (zf 4 12 (zg (i:=12) rfl fun KN hKN=>ze (fun _ h=>h.exprX 7 rfl) ?_)))
  obtain ⟨hc6,hm6,hA6⟩:=hwe.ms
  obtain ⟨hc7,hm7,hA7⟩:=hwe.by_
  obtain ⟨hc8,hm8,hA8⟩:=hwe.kids
  have hw5:=hwf _ (List.mem_of_getElem? hs2)
  refine ze (fun _ h=>h.one 4 zc.Ok.loc rfl hs2) (ze (fun _ h=>h.valX 0 rfl) ?_)
  obtain ⟨hc9,hm9,hA9⟩:=hw5.cells
  refine yh (β:=zc) (fun z=>.tuple #[.agg (vl z).toArray,iV ((Mn.all e.word e.by_.l (s2.cells.l.map zE.e)).2)]) (fun z=>z.e=(Mn.all e.word e.by_.l (s2.cells.l.map zE.e)).1) (fun z S=>zc.Ok S z) (fun z=>zc.Ok.loc z) wn rfl call156 rfl (fun w1 Pb hM pp=>c_mall e.word _ e.by_.l _ s2.cells.l Pb w1 pp.lt (pp.sl 4 rfl) (pp.sl 0 rfl) (pp.at_ 1 _ rfl) (by assumption) (by assumption) (by assumption)) fun z3 hz3=>yw 0 rfl (fun S w h=>zc.Ok.wf h) fun hw6=>?_
  refine (go 1) ?_
  refine hKN _ _ (S9 [8,9,11,12,13,14,15]) (yJ 2 [13,14] [8,9,11,12,13,14,15] rfl fun KS hKS=>?_)
  refine (go 2) ?_
  refine zi hKS (zf 1 15 (zg (i:=15) rfl fun KN hKN=>?_))
  refine (go 2) ?_
  refine hKN _ _ (S9 [8,9,11,12,13,14,15]) (yJ 0 [16] [8,9,11,12,13,14,15] rfl fun KS hKS=>?_)
  refine (go 1) ?_
  refine zi hKS ?_
  refine zw (by kernel_rfl) ((go 1) ?_)
  refine (go 2) (yL results103 fun w1 hM=>?_)
  have hb9:Mn.eval lk time e.e=Mn.all e.word e.by_.l (s2.cells.l.map zE.e):=by rw [Mn.eval_e,if_neg h1,if_neg h2,if_neg (by rw [hev]; simp),hev,Mn.close_all h5 hs2]
  have hn9:m=Mn.evalN lk sk time e.e n:=by rw [Mn.evalN_e lk sk time e n,if_neg h1,if_neg h2]; exact (Mn.evalsN_end hI1.2.2.2.2 qO).symm
  have hM:=hM.yT (zc.Ok.loc z3) fun Pb pp=>pp.at_ 0 _ rfl
  exact hM.yV z3 (by first | (rw [hb9]; done) | (rw [hb9]; rfl)) (by rw [hb9]; exact hz3) (fun h=>by rw [← hn9]; exact h.sel [0,12,14,15,16] qD rfl)
 refine (go 3) ?_
 refine yK (Mem w ⟨fpOf [(o n),.dat S C,celP vad [iV time,.func (.func f) #[] fcap],celP ead [iV e.kind,iV e.n,iV e.range,.string e.word,.slice e.ms.A e.ms.l.length e.ms.c,.slice e.by_.A e.by_.l.length e.by_.c,.slice e.kids.A e.kids.l.length e.kids.c],okP zB.Ok e],Pb⟩ [allP zc.Ok vs,Row (.slice A1 vs.length cp1) 172 3 vl vs,(o m),.dat S C,celP vad [iV time,.func (.func f) #[] fcap],celP ead [iV e.kind,iV e.n,iV e.range,.string e.word,.slice e.ms.A e.ms.l.length e.ms.c,.slice e.by_.A e.by_.l.length e.by_.c,.slice e.kids.A e.kids.l.length e.kids.c],okP zB.Ok e]) mix (fun _ h=>h.drew) rfl (yJ 5 [0,1,2,3,4,5,6,7,8,9] [0,1,3,4,5,6,7] rfl fun KS hKS=>?_)
 refine (go 5) ?_
 obtain ⟨ad3,s3,hd3,hs3⟩:=elx hA1 0
 refine (go 1) ?_
 obtain ⟨hx1_s3,hx2_s3,hx3_s3,hx4_s3⟩:=(hgs _ (List.mem_of_getElem? hs3)).x
 refine uo (uN 1 [.bool s3.vec,iV s3.n,.slice s3.cells.A s3.cells.l.length s3.cells.c] encValX rfl rfl hd3 hs3 rfl rfl agg172 inf172) ?_
 refine (go 2) ?_
 obtain ⟨s4,hs4⟩:=gx vs 1
 obtain ⟨hx1_s4,hx2_s4,hx3_s4,hx4_s4⟩:=(hgs _ (List.mem_of_getElem? hs4)).x
 refine uo (uN 1 [.bool s4.vec,iV s4.n,.slice s4.cells.A s4.cells.l.length s4.cells.c] encValX rfl rfl hd3 hs4 rfl rfl agg172 inf172) (zi hKS (zf 4 10 (zg (i:=10) rfl fun KN hKN=>?_)))
 have hw7:=hwf _ (List.mem_of_getElem? hs3)
 refine ze (fun _ h=>h.one 0 zc.Ok.loc rfl hs3) ?_
 have hw8:=hwf _ (List.mem_of_getElem? hs4)
 refine ze (fun _ h=>h.one 1 zc.Ok.loc rfl hs4) (yh (β:=zc) (fun z=>.tuple #[.agg (vl z).toArray,iV ((Mn.bin e.word s3.e s4.e).2)]) (fun z=>z.e=(Mn.bin e.word s3.e s4.e).1) (fun z S=>zc.Ok S z) (fun z=>zc.Ok.loc z) wn rfl call157 rfl (fun w1 Pb hM pp=>c_bin e.word s3 s4 Pb w1 pp.lt (pp.at_ 1 _ rfl) (pp.at_ 0 _ rfl) (by assumption) (by assumption) (by assumption) (by assumption)) fun z4 hz4=>yw 0 rfl (fun S w h=>zc.Ok.wf h) fun hw9=>?_)
 refine (go 1) ?_
 refine hKN _ _ (S9 [3,4,6,7,8,9,10]) (yJ 2 [11,12] [3,4,6,7,8,9,10] rfl fun KS hKS=>?_)
 refine (go 2) ?_
 refine zi hKS (zf 1 13 (zg (i:=13) rfl fun KN hKN=>?_))
 refine (go 2) ?_
 refine hKN _ _ (S9 [3,4,6,7,8,9,10]) (yJ 0 [14] [3,4,6,7,8,9,10] rfl fun KS hKS=>?_)
 refine (go 1) ?_
 refine zi hKS ?_
 refine zw (by kernel_rfl) ((go 1) ?_)
 refine (go 1) (yL results103 fun w1 hM=>?_)
 have hb9:Mn.eval lk time e.e=Mn.bin e.word s3.e s4.e:=by rw [Mn.eval_e,if_neg h1,if_neg h2,if_neg (by rw [hev]; simp),hev,Mn.close_bin h5 hs3 hs4]
 have hn9:m=Mn.evalN lk sk time e.e n:=by rw [Mn.evalN_e lk sk time e n,if_neg h1,if_neg h2]; exact (Mn.evalsN_end hI1.2.2.2.2 qO).symm
 have hM:=hM.yT (zc.Ok.loc z4) fun Pb pp=>pp.at_ 0 _ rfl
 exact hM.yV z4 (by first | (rw [hb9]; done) | (rw [hb9]; rfl)) (by rw [hb9]; exact hz4) (fun h=>by rw [← hn9]; exact h.sel [0,7,9,10,11] qD rfl)
theorem c_gexpr_step (e:zB) (ih:∀ k:zB,SizeOf.sizeOf k < SizeOf.sizeOf e→uA k):uA e:=fun vad ead time n f fcap o S C lk sk Pb w hG hf hg ht hr=>c_gexpr vad ead time n f fcap o S C lk sk e Pb w hG hf hg ht hr ih
theorem c_gexpr_all (e:zB):uA e:=recX c_gexpr_step e
theorem c_geval (time n:Int) (f:Nat) (fcap:Array Value) (o:Int→Own) (S:Nat→Prop) (C:World→Prop) (lk:Look) (sk:Sk) (e:zB) (Pb:Nat→Prop) (w:World) (hG:Mem w ⟨fpOf [(o n),.dat S C,okP zB.Ok e],Pb⟩ [(o n),.dat S C,okP zB.Ok e] w) (hf:WinG prog f fcap o S C lk sk) (hg:Mn.GoodLook lk) (ht:0≤time∧time≤1000000) (hr:Mn.right e.e) :
    Calls prog 58 #[.agg (List.toArray [iV e.kind,iV e.n,iV e.range,.string e.word,.slice e.ms.A e.ms.l.length e.ms.c,.slice e.by_.A e.by_.l.length e.by_.c,.slice e.kids.A e.kids.l.length e.kids.c]),iV time,.func (.func f) #[] fcap] w (RetA w [(o n),.dat S C,okP zB.Ok e] Pb (celsV (Mn.out (Mn.eval lk time e.e)).2) (fun z=>z.l.map zE.e=(Mn.out (Mn.eval lk time e.e)).1) (fun z=>[okP CelsX.Ok z,o (Mn.evalN lk sk time e.e n),okP zB.Ok e])):=by
 have hwe:=(hG.yR (i:=2) rfl).wf
 refine zr (N:=30) func58 hG ?_
 refine (go 2) (yu fun b3=>?_)
 refine (go 9) (yu fun b14=>?_)
 refine l_sealBO 1 2 rfl rfl rfl (fun b hb=>hf.fpc _ _ b (only3 b hb)) (l_sealBO 0 2 rfl rfl rfl (fun b hb=>hf.fpc _ _ b (only3 b hb)) (ze (fun _ h=>h.dup 3 rfl rfl) (yM (α:=zc) [(o n),.dat S C,celP ⟨b14,0,none⟩ [iV time,.func (.func f) #[] fcap],celP ⟨b3,0,none⟩ [iV e.kind,iV e.n,iV e.range,.string e.word,.slice e.ms.A e.ms.l.length e.ms.c,.slice e.by_.A e.by_.l.length e.by_.c,.slice e.kids.A e.kids.l.length e.kids.c],okP zB.Ok e] [.dat S C] (fun z=>.tuple #[.agg (vl z).toArray,iV (Mn.eval lk time e.e).2]) (fun z=>z.e=(Mn.eval lk time e.e).1) (fun z1=>[okP zc.Ok z1,(o (Mn.evalN lk sk time e.e n)),celP ⟨b14,0,none⟩ [iV time,.func (.func f) #[] fcap],celP ⟨b3,0,none⟩ [iV e.kind,iV e.n,iV e.range,.string e.word,.slice e.ms.A e.ms.l.length e.ms.c,.slice e.by_.A e.by_.l.length e.by_.c,.slice e.kids.A e.kids.l.length e.kids.c],okP zB.Ok e]) _ (fun _=>rfl) (S9 [3,0,1,2,5,4]) (fun _=>hq5 (hf.ok _)) wn rfl rfl call103 rfl (fun w1 Pb hG=>c_gexpr_all e ⟨b14,0,none⟩ ⟨b3,0,none⟩ time n f fcap o S C lk sk Pb w1 hG hf hg ht hr) fun z1 hz1=>yw 0 rfl (fun S w h=>zc.Ok.wf h) fun hw1=>?_)))
 refine (go 3) (zz fun b8=>?_)
 refine (go 11) (zX (fun h1=>?_) fun h1=>?_)
 ·refine (go 9) (yL results58 fun w1 hM=>?_)
  have hb9:Mn.out (Mn.eval lk time e.e)=([],(Mn.eval lk time e.e).2):=by rw [Mn.out,if_pos (by simpa using h1)]
  have hM:=hM.yT (CelsX.Ok.loc (⟨none,0,[]⟩:SlX zE)) fun Pb pp=>⟨zD.zt _ _ _ _,fun c hc=>(by cases hc)⟩
  exact hM.yV (⟨none,0,[]⟩:SlX zE) (by first | (rw [hb9]; done) | (rw [hb9]; rfl)) (by first | (rw [hb9]; done) | (rw [hb9]; rfl)) (fun h=>h.sel [0,3,6] qD rfl)
 refine (go 7) ?_
 refine zb (yC rfl) ?_
 refine (go 2) (yb (fun h2=>?_) fun h2=>?_)
 ·refine (go 5) ?_
  refine zy zo ([(zE.mk ⟨none,0,[]⟩ z1.n)]:List zE) wn underlying32 inf81 rfl rfl rfl rfl qD qD rfl fun b27=>?_
  refine (go 6) (yL results58 fun w1 hM=>?_)
  have hv9:(Mn.eval lk time e.e).1.vec=z1.vec:=by rw [← hz1]; rfl
  have hn9:(Mn.eval lk time e.e).1.n=z1.n:=by rw [← hz1]; rfl
  have hb9:Mn.out (Mn.eval lk time e.e)=([⟨[],z1.n⟩],0):=by rw [Mn.out,if_neg (by simpa using h1),if_neg (by rw [hv9]; simpa using h2),hn9]
  have hM:=hM.vu encCellX (i:=0) (j:=3) rfl rfl qD (fun b hb=>hf.fpc _ _ b (only3 b hb))
  have hM:=hM.yT (CelsX.Ok.loc (⟨(some ⟨b27,0,none⟩),1,([(zE.mk ⟨none,0,[]⟩ z1.n)]:List zE)⟩:SlX zE)) fun Pb pp=>⟨pp.sl 0 rfl,fun c hc=>by obtain rfl:=List.mem_singleton.1 hc; exact ⟨zD.zt _ _ _ _⟩⟩
  exact hM.yV (⟨(some ⟨b27,0,none⟩),1,([(zE.mk ⟨none,0,[]⟩ z1.n)]:List zE)⟩:SlX zE) (by first | (rw [hb9]; done) | (rw [hb9]; rfl)) (by first | (rw [hb9]; done) | (rw [hb9]; rfl)) (fun h=>h.sel [0,4,7] qD rfl)
 refine (go 11) (yL results58 fun w1 hM=>?_)
 have hv9:(Mn.eval lk time e.e).1.vec=z1.vec:=by rw [← hz1]; rfl
 have hn9:(Mn.eval lk time e.e).1.cells=z1.cells.l.map zE.e:=by rw [← hz1]; rfl
 have hb9:Mn.out (Mn.eval lk time e.e)=(z1.cells.l.map zE.e,0):=by rw [Mn.out,if_neg (by simpa using h1),if_pos (by rw [hv9]; simpa using h2),hn9]
 have hM:=hM.yT (CelsX.Ok.loc z1.cells) fun Pb pp=>⟨(pp.at_ 1 _ rfl).cells,(pp.at_ 1 _ rfl).all⟩
 exact hM.yV z1.cells (by first | (rw [hb9]; done) | (rw [hb9]; rfl)) (by first | (rw [hb9]; done) | (rw [hb9]; rfl)) (fun h=>h.sel [0,3,6] qD rfl)
end
end Go.Proofs.YtgojhpocpajmlaaGreatDoor
section
namespace Go.Proofs
open Go.Shelf
open Go.RowKit in
open Go.RowKit Go.Sort Go.Lib in
def Tryz.laysC172_ren:Go.Shelf.Ren:=⟨fun | 172=>212 | 244=>224 | 245=>225 | 247=>232 | 279=>233 | 280=>234 | 281=>235 | 282=>236 | 287=>240 | 316=>241 | 171=>107 | 205=>242 | 321=>243 | 322=>244 | 243=>159 | 246=>199 | 283=>218 | 284=>219 | 285=>220 | 286=>221 | 129=>228 | 317=>227 | 318=>229 | 319=>230 | 320=>231 | 337=>238 | 338=>239 | n=>n,fun | 9=>9 | 3=>3 | 75=>183 | 76=>185 | 4=>4 | 5=>5 | 167=>279 | 37=>79 | 0=>0 | 85=>280 | 2=>2 | 168=>282 | 53=>266 | 175=>287 | 46=>228 | 210=>291 | 127=>190 | 145=>298 | 143=>296 | 21=>21 | 171=>265 | 173=>269 | 212=>275 | 51=>276 | 20=>20 | 213=>277 | 232=>293 | 233=>294 | 80=>139 | n=>n,fun | 15=>2 | 16=>3 | 17=>0 | 18=>4 | 19=>5 | n=>n⟩
theorem Tryz.laysC172:Go.Proofs.LaysC.n172 Tryz.prog Tryz.laysC172_ren:={
  mixed:=by kernel_rfl
  f129:=Tryz.func228.trans (congrArg some (by kernel_rfl))
  f171:=Tryz.func107.trans (congrArg some (by kernel_rfl))
  f172:=Tryz.func212.trans (congrArg some (by kernel_rfl))
  f205:=Tryz.func242.trans (congrArg some (by kernel_rfl))
  f243:=Tryz.func159.trans (congrArg some (by kernel_rfl))
  f244:=Tryz.func224.trans (congrArg some (by kernel_rfl))
  f245:=Tryz.func225.trans (congrArg some (by kernel_rfl))
  f246:=Tryz.func199.trans (congrArg some (by kernel_rfl))
  f247:=Tryz.func232.trans (congrArg some (by kernel_rfl))
  f279:=Tryz.func233.trans (congrArg some (by kernel_rfl))
  f280:=Tryz.func234.trans (congrArg some (by kernel_rfl))
  f281:=Tryz.func235.trans (congrArg some (by kernel_rfl))
  f282:=Tryz.func236.trans (congrArg some (by kernel_rfl))
  f283:=Tryz.func218.trans (congrArg some (by kernel_rfl))
  f284:=Tryz.func219.trans (congrArg some (by kernel_rfl))
  f285:=Tryz.func220.trans (congrArg some (by kernel_rfl))
  f286:=Tryz.func221.trans (congrArg some (by kernel_rfl))
  f287:=Tryz.func240.trans (congrArg some (by kernel_rfl))
  f316:=Tryz.func241.trans (congrArg some (by kernel_rfl))
  f317:=Tryz.func227.trans (congrArg some (by kernel_rfl))
  f318:=Tryz.func229.trans (congrArg some (by kernel_rfl))
  f319:=Tryz.func230.trans (congrArg some (by kernel_rfl))
  f320:=Tryz.func231.trans (congrArg some (by kernel_rfl))
  f321:=Tryz.func243.trans (congrArg some (by kernel_rfl))
  f322:=Tryz.func244.trans (congrArg some (by kernel_rfl))
  f337:=Tryz.func238.trans (congrArg some (by kernel_rfl))
  f338:=Tryz.func239.trans (congrArg some (by kernel_rfl))
  t0:=Tryz.underlying0
  a0:=Tryz.isAgg0
  z0:=Tryz.sizeOf0
  v0:=Tryz.zeroValue0
  t2:=Tryz.underlying2
  a2:=Tryz.isAgg2
  z2:=Tryz.sizeOf2
  v2:=Tryz.zeroValue2
  t3:=Tryz.underlying3
  a3:=Tryz.isAgg3
  z3:=Tryz.sizeOf3
  v3:=Tryz.zeroValue3
  t4:=Tryz.underlying4
  a4:=Tryz.isAgg4
  z4:=Tryz.sizeOf4
  v4:=Tryz.zeroValue4
  t5:=Tryz.underlying5
  a5:=Tryz.isAgg5
  z5:=Tryz.sizeOf5
  v5:=Tryz.zeroValue5
  t9:=Tryz.underlying9
  a9:=Tryz.isAgg9
  z9:=Tryz.sizeOf9
  v9:=Tryz.zeroValue9
  t20:=Tryz.underlying20
  a20:=Tryz.isAgg20
  z20:=Tryz.sizeOf20
  v20:=Tryz.zeroValue20
  t21:=Tryz.underlying21
  a21:=Tryz.isAgg21
  z21:=Tryz.sizeOf21
  v21:=Tryz.zeroValue21
  t37:=Tryz.underlying79
  a37:=Tryz.isAgg79
  z37:=Tryz.sizeOf79
  v37:=Tryz.zeroValue79
  t46:=Tryz.underlying228
  a46:=Tryz.isAgg228
  z46:=Tryz.sizeOf228
  v46:=Tryz.zeroValue228
  t51:=Tryz.underlying276
  a51:=Tryz.isAgg276
  z51:=Tryz.sizeOf276
  v51:=Tryz.zeroValue276
  t53:=Tryz.underlying266
  a53:=Tryz.isAgg266
  z53:=Tryz.sizeOf266
  v53:=Tryz.zeroValue266
  t75:=Tryz.underlying183
  a75:=Tryz.isAgg183
  z75:=Tryz.sizeOf183
  v75:=Tryz.zeroValue183
  t76:=Tryz.underlying185
  a76:=Tryz.isAgg185
  z76:=Tryz.sizeOf185
  v76:=Tryz.zeroValue185
  t85:=Tryz.underlying280
  a85:=Tryz.isAgg280
  z85:=Tryz.sizeOf280
  v85:=Tryz.zeroValue280
  t127:=Tryz.underlying190
  a127:=Tryz.isAgg190
  z127:=Tryz.sizeOf190
  v127:=Tryz.zeroValue190
  t143:=Tryz.underlying296
  a143:=Tryz.isAgg296
  z143:=Tryz.sizeOf296
  v143:=Tryz.zeroValue296
  t145:=Tryz.underlying298
  a145:=Tryz.isAgg298
  z145:=Tryz.sizeOf298
  v145:=Tryz.zeroValue298
  t167:=Tryz.underlying279
  a167:=Tryz.isAgg279
  z167:=Tryz.sizeOf279
  v167:=Tryz.zeroValue279
  t168:=Tryz.underlying282
  a168:=Tryz.isAgg282
  z168:=Tryz.sizeOf282
  v168:=Tryz.zeroValue282
  t171:=Tryz.underlying265
  a171:=Tryz.isAgg265
  z171:=Tryz.sizeOf265
  v171:=Tryz.zeroValue265
  t173:=Tryz.underlying269
  a173:=Tryz.isAgg269
  z173:=Tryz.sizeOf269
  v173:=Tryz.zeroValue269
  t175:=Tryz.underlying287
  a175:=Tryz.isAgg287
  z175:=Tryz.sizeOf287
  v175:=Tryz.zeroValue287
  t210:=Tryz.underlying291
  a210:=Tryz.isAgg291
  z210:=Tryz.sizeOf291
  v210:=Tryz.zeroValue291
  t212:=Tryz.underlying275
  a212:=Tryz.isAgg275
  z212:=Tryz.sizeOf275
  v212:=Tryz.zeroValue275
  t213:=Tryz.underlying277
  a213:=Tryz.isAgg277
  z213:=Tryz.sizeOf277
  t232:=Tryz.underlying293
  a232:=Tryz.isAgg293
  z232:=Tryz.sizeOf293
  v232:=Tryz.zeroValue293
  t233:=Tryz.underlying294
  a233:=Tryz.isAgg294
  z233:=Tryz.sizeOf294
  v233:=Tryz.zeroValue294
  g15:=by kernel_rfl
  g16:=by kernel_rfl
  g17:=by kernel_rfl
  g18:=by kernel_rfl
  g19:=by kernel_rfl
  t80:=Tryz.underlying139
  a80:=Tryz.isAgg139
  z80:=Tryz.sizeOf139
  v80:=Tryz.zeroValue139
  i0:=by kernel_rfl
  i2:=by kernel_rfl
  i3:=by kernel_rfl
  i4:=by kernel_rfl
  i5:=by kernel_rfl
  i9:=by kernel_rfl
  i20:=by kernel_rfl
  i21:=by kernel_rfl
  i37:=by kernel_rfl
  i46:=by kernel_rfl
  i51:=by kernel_rfl
  i53:=by kernel_rfl
  i75:=by kernel_rfl
  i76:=by kernel_rfl
  i80:=by kernel_rfl
  i85:=by kernel_rfl
  i127:=by kernel_rfl
  i143:=by kernel_rfl
  i145:=by kernel_rfl
  i167:=by kernel_rfl
  i168:=by kernel_rfl
  i171:=by kernel_rfl
  i173:=by kernel_rfl
  i175:=by kernel_rfl
  i210:=by kernel_rfl
  i212:=by kernel_rfl
  i232:=by kernel_rfl
  i233:=by kernel_rfl
  m15:=by kernel_rfl
  m16:=by kernel_rfl
  m17:=by kernel_rfl
  m18:=by kernel_rfl
  m19:=by kernel_rfl
  c0:=by kernel_rfl
  c2:=by kernel_rfl
  c3:=by kernel_rfl
  c4:=by kernel_rfl
  c5:=by kernel_rfl
  c9:=by kernel_rfl
  c20:=by kernel_rfl
  c21:=by kernel_rfl
  c37:=by kernel_rfl
  c46:=by kernel_rfl
  c51:=by kernel_rfl
  c53:=by kernel_rfl
  c75:=by kernel_rfl
  c76:=by kernel_rfl
  c80:=by kernel_rfl
  c85:=by kernel_rfl
  c127:=by kernel_rfl
  c143:=by kernel_rfl
  c145:=by kernel_rfl
  c167:=by kernel_rfl
  c168:=by kernel_rfl
  c171:=by kernel_rfl
  c173:=by kernel_rfl
  c175:=by kernel_rfl
  c210:=by kernel_rfl
  c212:=by kernel_rfl
  c213:=by kernel_rfl
  c232:=by kernel_rfl
  c233:=by kernel_rfl }
open Go.RowKit in
theorem Tryz.strconv_Atoi_ok (s:ByteArray) (hmax:s.size≤9223372036854775806) (v:Int) (h:Lib.atoiAll s.data.toList=.ok v) (w:World) :
    Calls Tryz.prog 212 #[.string s] w fun e w'=>e=.returned (.tuple #[.int .i64 v,.nilIface])∧(w'=w∨∃ t,w'=Lib.bytesWorld w 5 t):=Any.strconv_Atoi_ok Tryz.laysC172 s hmax v h w
open Go.RowKit in
theorem Tryz.strconv_Atoi_range_var (s : ByteArray) (hlim : s.size ≤ 281474976710656) (h : Lib.atoiAll s.data.toList = .range) (tp : TypeId) (p : Value) (w : World) (hvar : w.var? Tryz.prog "strconv.ErrRange" = some #[.iface tp p]) :
    Calls Tryz.prog 212 #[.string s] w fun e w'=>∃ N,e=.returned (.tuple #[.int .i64 (Lib.atoiSat s.data.toList),.iface 282 (.pointer (some ⟨N,0,none⟩))])∧w.heap.size≤N∧w'.heap[N]?=some (.cells #[.string ⟨#[65,116,111,105]⟩,.string s,.iface tp p] 291 (0,0))∧Below w.heap.size w w':=Any.strconv_Atoi_range_var Tryz.laysC172 s hlim h tp p w hvar
def Tryz.lays99_ren:Go.Shelf.Ren:=⟨fun | 99=>148 | 206=>184 | n=>n,fun | 9=>9 | 4=>4 | 3=>3 | n=>n,fun | n=>n⟩
theorem Tryz.lays99:Go.Proofs.Lays.n99 Tryz.prog Tryz.lays99_ren:={
  mixed:=by kernel_rfl
  f99:=Tryz.func148.trans (congrArg some (by kernel_rfl))
  f206:=Tryz.func184.trans (congrArg some (by kernel_rfl))
  t3:=Tryz.underlying3
  a3:=Tryz.isAgg3
  z3:=Tryz.sizeOf3
  v3:=Tryz.zeroValue3
  t4:=Tryz.underlying4
  a4:=Tryz.isAgg4
  z4:=Tryz.sizeOf4
  v4:=Tryz.zeroValue4
  t9:=Tryz.underlying9
  a9:=Tryz.isAgg9
  z9:=Tryz.sizeOf9
  v9:=Tryz.zeroValue9 }
open Go.RowKit Go.Lib in
theorem Tryz.strings_HasPrefix (s p:ByteArray) (w:World) :
    Calls Tryz.prog 148 #[.string s,.string p] w fun e w'=>e=.returned (.bool (Lib.hasPrefix s.data.toList p.data.toList))∧w'=w:=Any.strings_HasPrefix Tryz.lays99 s p w
end Go.Proofs
end
namespace Go.Proofs.YtgojhpocpajmlaaGreatDoor
section
open Tryz
open Ex
attribute [local irreducible] WC WL WQ WE WS
set_option linter.unusedVariables false
set_option linter.unusedSimpArgs false
def zN : (Nat → Prop) → World → Prop := VarI prog "strconv.ErrRange"
theorem zN.loc:Ex.Loc zN:=VarI.loc _ _
theorem c_pfx (a b:ByteArray) (w:World):Calls prog 148 #[.string a,.string b] w (Ret w (.bool (Go.Lib.hasPrefix a.data.toList b.data.toList))):=(Tryz.strings_HasPrefix a b w).mono fun e w' ⟨he,hw⟩=>⟨he,by rw [hw]; exact Fr.refl _ _⟩
theorem c_atoi (t:ByteArray) (P0:Nat→Prop) (w:World) (hP0:∀ b,P0 b→b < w.heap.size) (hne:t.data.toList≠[]) (hd:∀ c ∈ t.data.toList,48≤c.toNat∧c.toNat≤57) (hl:t.size≤2000) (hE:zN P0 w) :
    Calls prog 212 #[.string t] w (RetE w P0 (fun z:Int × Value=>.tuple (List.toArray [iV z.1,z.2])) (fun z=>Pz.AtoiR t.data.toList z) (fun _ _ _=>True)):=by
 rcases Pz.atoi_dig hne hd with ⟨h1,h2⟩ | ⟨h1,h2⟩
 ·refine (Tryz.strconv_Atoi_ok t qO _ h1 w).mono fun e w' ⟨he,hw⟩=>⟨((Pz.dval t.data.toList:Int),.nilIface),fun _=>False,he,.inl ⟨rfl,rfl⟩,?_,fun _ h=>h.elim,trivial⟩
  rcases hw with rfl | ⟨x,rfl⟩
  ·exact Fr.refl _ _
  exact Fr.of_below (Go.Lib.bytesWorld_below _ _ _)
 obtain ⟨_,tp,q,hv⟩:=hE
 refine (Tryz.strconv_Atoi_range_var t qO h1 tp q w hv).mono fun e w' ⟨N,he,_,_,hb⟩=>⟨(Go.Lib.atoiSat t.data.toList,_),fun _=>False,he,.inr ⟨⟨_,_,rfl⟩,Pz.sat_dig hd,h2⟩,Fr.of_below hb,fun _ h=>h.elim,trivial⟩
theorem yi (p:Nat) (s:ByteArray) (i:Nat) (n:Int) (err:Int) (Pb:Nat→Prop) (w:World) (hG:Mem w ⟨fpOf [Rb 114 p s i n,.pub zN],Pb⟩ [Rb 114 p s i n,.pub zN] w)  :
    Calls prog 54 #[.pointer (some ⟨p,0,none⟩),iV err] w (RetX w [Rb 114 p s i n,.pub zN] Pb 111 (fun _:Unit=>.tuple #[]) (fun _=>False) (fun _=>[Rb 114 p s i n,.pub zN]) (fun f=>f=(err,(i:Int)))):=by
 refine zr (N:=12) func54 hG ?_
 refine (go 8) ?_
 refine zb (r_mkI rfl (by kernel_rfl)) (l_panic wn rfl (zV fun w1 hM=>?_))
 exact hM.zd (err,(i:Int)) rfl
theorem vj (p:Nat) (s:ByteArray) (i:Nat) (n:Int) (Pb:Nat→Prop) (w:World) (hG:Mem w ⟨fpOf [Rb 114 p s i n,.pub zN],Pb⟩ [Rb 114 p s i n,.pub zN] w) (hi:i≤s.size) (hs:s.size≤2000) :
    Calls prog 53 #[.pointer (some ⟨p,0,none⟩)] w (RetA w [Rb 114 p s i n,.pub zN] Pb (fun _:Nat=>.tuple #[]) (fun z=>Pz.blank s i=z∧i≤z∧z≤s.size) (fun z=>[Rb 114 p s z n,.pub zN])):=by
 refine zr (N:=31) func53 hG ?_
 refine (go 1) ?_
 refine yE (fun (k:Nat)=>[(0,.pointer (some ⟨p,0,none⟩))]) (fun (k:Nat)=>[Rb 114 p s k n,.pub zN]) (fun (k:Nat)=>i≤k∧k≤s.size∧Pz.blank s i=Pz.blank s k) (fun (k:Nat)=>s.size - k) i (sc rfl sn) (fun _ h=>h) ?_ (fun k hI1=>?_)
 ·exact ⟨Nat.le_refl _,hi,rfl⟩
 refine (go 14) (va 12 (fun h1=>?_) fun h1=>?_)
 ·refine (go 8) ?_
  obtain ⟨c1,hc1⟩:∃ x,s[k]?=some x:=⟨_,byte_at qI⟩
  refine vd (uT rfl rfl qO hc1 underlying9) ?_
  refine (go 4) (zX (fun h2=>?_) fun h2=>?_)
  ·refine (go 12) ?_
   refine zU (yG (zh (k + 1) (sc rfl sn) (fun _ h=>h) ?_ ?_))
   ·exact ⟨by omega,by omega,hI1.2.2.trans (Pz.blank_step hc1 h2)⟩
   omega
  refine (go 4) ?_
  refine uk (.inr rfl) results53 fun w1 hM=>?_
  exact hM.yV (k) rfl ⟨hI1.2.2.trans (Pz.blank_stop hc1 h2),hI1.1,hI1.2.1⟩ (fun h=>h.sel [0,1] qD rfl)
 refine (go 18) ?_
 refine uk (.inr rfl) results53 fun w1 hM=>?_
 exact hM.yV (k) rfl ⟨hI1.2.2.trans (Pz.blank_end qO),hI1.1,hI1.2.1⟩ (fun h=>h.sel [0,1] qD rfl)
theorem vo (p:Nat) (s:ByteArray) (i:Nat) (n:Int) (sg:ByteArray) (Pb:Nat→Prop) (w:World) (hG:Mem w ⟨fpOf [Rb 114 p s i n,.pub zN],Pb⟩ [Rb 114 p s i n,.pub zN] w) (hi:i≤s.size) (hs:s.size≤2000) :
    Calls prog 98 #[.pointer (some ⟨p,0,none⟩),.string sg] w (RetA w [Rb 114 p s i n,.pub zN] Pb (fun z:Bool × Nat=>.bool z.1) (fun z=>Pz.eat s sg i=z∧i≤z.2∧z.2≤s.size) (fun z=>[Rb 114 p s z.2 n,.pub zN])):=by
 refine zr (N:=28) func98 hG ?_
 refine (go 8) ?_
 refine yM (α:=Nat) [Rb 114 p s i n,.pub zN] [] (fun _=>.tuple #[]) (fun j1=>(Pz.blank s i=j1∧i≤j1∧j1≤s.size)) (fun j1=>[Rb 114 p s j1 n,.pub zN]) _ (fun _=>rfl) (S9 [0,1]) (fun _=>rfl) wn rfl rfl call53 rfl (fun w1 Pb hG=>vj p s i n Pb w1 hG qO qO) fun j1 hz1=>?_
 obtain ⟨hz1e,hz1a,hz1b⟩:=hz1
 refine (go 13) ?_
 refine yk (r_sslice_l (l:=j1) rfl rfl qO qI underlying9) ?_
 refine (go 1) ?_
 refine yP wn rfl call148 rfl (fun w1 hM=>c_pfx (s.extract j1 s.size) sg w1) (yk (yC rfl) ?_)
 refine (go 2) (yb (fun h1=>?_) fun h1=>?_)
 ·refine (go 7) (zY results98 fun w1 hM=>?_)
  have h9:Pz.eat s sg i=(false,j1):=Pz.eat_no hz1e (by rw [← Pz.pfx_ext]; simpa using h1)
  exact hM.yV (false,j1) rfl ⟨h9,by have:=Pz.eat_le sg hi; rw [h9] at this; exact this⟩ (fun h=>h.sel [0,1] qD rfl)
 refine (go 4) ?_
 have hpl:=Pz.pfx_le (s:=s) (sg:=sg) (i:=j1) (by rw [← Pz.pfx_ext]; simpa using h1) qO
 refine (go 18) (zY results98 fun w1 hM=>?_)
 have h9:Pz.eat s sg i=(true,(j1 + sg.size)):=Pz.eat_yes hz1e (by rw [← Pz.pfx_ext]; simpa using h1)
 exact hM.yV (true,(j1 + sg.size)) rfl ⟨h9,by have:=Pz.eat_le sg hi; rw [h9] at this; exact this⟩ (fun h=>h.sel [0,1] qD rfl)
theorem yy (p:Nat) (s:ByteArray) (i:Nat) (n:Int) (sg:ByteArray) (Pb:Nat→Prop) (w:World) (hG:Mem w ⟨fpOf [Rb 114 p s i n,.pub zN],Pb⟩ [Rb 114 p s i n,.pub zN] w) (hi:i≤s.size) (hs:s.size≤2000) (hn:0≤n∧n≤100) :
    Calls prog 179 #[.pointer (some ⟨p,0,none⟩),.string sg] w (RetX w [Rb 114 p s i n,.pub zN] Pb 111 (fun z:Pz.St=>.tuple #[]) (fun z=>Pz.must s sg ⟨i,n⟩=.ok z∧Pz.Good s ⟨i,n⟩ z) (fun z=>[Rb 114 p s z.at_ z.nd,.pub zN]) (fun f=>Pz.must s sg ⟨i,n⟩=.no f)):=by
 refine zr (N:=10) func179 hG ?_
 refine (go 4) ?_
 refine yM (α:=(Bool × Nat)) [Rb 114 p s i n,.pub zN] [] (fun z:Bool × Nat=>.bool z.1) (fun z1=>(Pz.eat s sg i=z1∧i≤z1.2∧z1.2≤s.size)) (fun z1=>[Rb 114 p s z1.2 n,.pub zN]) _ (fun _=>rfl) (S9 [0,1]) (fun _=>rfl) wn rfl rfl call98 rfl (fun w1 Pb hG=>vo p s i n sg Pb w1 hG qO qO) fun z1 hz1=>?_
 obtain ⟨bo1,j1⟩:=z1
 have he1:Pz.eat s sg i=(bo1,j1):=hz1.1
 have hz1a:i≤j1:=hz1.2.1
 have hz1b:j1≤s.size:=hz1.2.2
 refine y7 (.bool bo1) (zb (yC rfl) ?_)
 refine (go 2) (yb (fun h1=>?_) fun h1=>?_)
 ·have g1:bo1=false:=by simpa using h1
  refine (go 2) ?_
  refine zZ (α:=Unit) (PT:=111) [Rb 114 p s j1 n,.pub zN] [] (fun _:Unit=>.tuple #[]) (fun z2=>False) (fun z2=>[Rb 114 p s j1 n,.pub zN]) _ (fun f1=>f1=(2,(j1:Int))) (fun _=>rfl) (S9 [0,1]) (fun _=>rfl) wn rfl rfl call54 rfl (fun w1 Pb hG=>yi p s j1 n 2 Pb w1 hG) ?_ fun z2 hz2=>?_
  ·intro f1 hf1
   refine zV fun w1 hM=>?_
   exact hM.zd f1 (by first | (simp only [Pz.then_ok,Pz.then_no,Pz.St.go,lgc,Pz.must,he1,g1,h1,hf1]; done) | simp [Pz.then_ok,Pz.then_no,Pz.St.go,lgc,Pz.must,he1,g1,h1,hf1])
  exact hz2.elim
 have g2:bo1=true:=by simpa using h1
 refine (go 1) ?_
 refine uk (.inr rfl) results179 fun w1 hM=>?_
 have h9:Pz.must s sg ⟨i,n⟩=.ok ⟨j1,n⟩:=by first | (simp only [Pz.then_ok,Pz.then_no,Pz.St.go,lgc,Pz.must,he1,g2,h1]; done) | simp [Pz.then_ok,Pz.then_no,Pz.St.go,lgc,Pz.must,he1,g2,h1]
 exact hM.vZ (⟨j1,n⟩:Pz.St) rfl ⟨h9,(Pz.must_fine _ hi).ok_ h9⟩ (fun h=>h.sel [0,1] qD rfl)
theorem jS (p:Nat) (s:ByteArray) (i:Nat) (n:Int) (Pb:Nat→Prop) (w:World) (hG:Mem w ⟨fpOf [Rb 114 p s i n,.pub zN],Pb⟩ [Rb 114 p s i n,.pub zN] w) (hi:i≤s.size) (hs:s.size≤2000) (hn:0≤n∧n≤100) :
    Calls prog 180 #[.pointer (some ⟨p,0,none⟩)] w (RetX w [Rb 114 p s i n,.pub zN] Pb 111 (fun z:ByteArray × Pz.St=>.string z.1) (fun z=>Pz.word s ⟨i,n⟩=.ok z∧Pz.Good s ⟨i,n⟩ z.2) (fun z=>[Rb 114 p s z.2.at_ z.2.nd,.pub zN]) (fun f=>Pz.word s ⟨i,n⟩=.no f)):=by
 refine zr (N:=73) func180 hG ?_
 refine (go 8) ?_
 refine yM (α:=Nat) [Rb 114 p s i n,.pub zN] [] (fun _=>.tuple #[]) (fun j1=>(Pz.blank s i=j1∧i≤j1∧j1≤s.size)) (fun j1=>[Rb 114 p s j1 n,.pub zN]) _ (fun _=>rfl) (S9 [0,1]) (fun _=>rfl) wn rfl rfl call53 rfl (fun w1 Pb hG=>vj p s i n Pb w1 hG qO qO) fun j1 hz1=>?_
 obtain ⟨hz1e,hz1a,hz1b⟩:=hz1
 refine (go 11) ?_
 refine ym [(0,.pointer (some ⟨p,0,none⟩)),(3,iV ((Pz.wend s j1):Int))] (Mem w ⟨fpOf [Rb 114 p s i n,.pub zN],Pb⟩ [.pub (fun _ _=>j1≤Pz.wend s j1∧Pz.wend s j1≤s.size),Rb 114 p s j1 n,.pub zN]) (fun _ hK4=>?_) ?_
 ·refine (go 1) ?_
  refine yE (fun (k:Nat)=>[(0,.pointer (some ⟨p,0,none⟩)),(3,iV k)]) (fun (k:Nat)=>[Rb 114 p s j1 n,.pub zN]) (fun (k:Nat)=>(k=j1∨(j1 < k∧Pz.wend s j1=Pz.run Pz.wch s k))∧j1≤k∧k≤s.size) (fun (k:Nat)=>s.size - k) j1 (sc rfl (sc rfl sn)) (fun _ h=>h) ?_ (fun k hI1=>?_)
  ·exact ⟨.inl rfl,Nat.le_refl _,by omega⟩
  refine (go 12) (zX (fun h1=>?_) fun h1=>?_)
  ·refine (go 10) ?_
   obtain ⟨c1,hc1⟩:∃ x,s[k]?=some x:=⟨_,byte_at qI⟩
   refine zb (uT rfl rfl qO hc1 underlying9) ?_
   refine (go 4) ?_
   refine ym [(0,.pointer (some ⟨p,0,none⟩)),(3,iV k),(50,.bool (decide ((((c1.toNat:Int) < 97)∧(((k:Int)=(j1:Int))∨((((c1.toNat:Int) < 48)∧((c1.toNat:Int)≠95))∨(¬ ((c1.toNat:Int) < 48)∧((57 < (c1.toNat:Int))∧((c1.toNat:Int)≠95))))))∨(¬ ((c1.toNat:Int) < 97)∧((122 < (c1.toNat:Int))∧(((k:Int)=(j1:Int))∨((((c1.toNat:Int) < 48)∧((c1.toNat:Int)≠95))∨(¬ ((c1.toNat:Int) < 48)∧((57 < (c1.toNat:Int))∧((c1.toNat:Int)≠95))))))))))] (Mem w ⟨fpOf [Rb 114 p s i n,.pub zN],Pb⟩ [Rb 114 p s j1 n,.pub zN]) (fun _ hK9=>?_) ?_
   ·refine (go 4) (yN 27 (fun h2=>?_) fun h2=>?_)
    ·refine (go 11) (yN 38 (fun h3=>?_) fun h3=>?_)
     ·refine (go 12) ?_
      refine zU (zm hK9 (sc rfl (sc rfl (sc (jt (Or.inl ⟨h2,(Or.inl h3)⟩)) sn))) (fun _ h=>h))
     refine (go 3) (yN 41 (fun h4=>?_) fun h4=>?_)
     ·refine (go 9) ?_
      refine zU (zm hK9 (sc rfl (sc rfl (sc (jp (iff_ite_l h2 (iff_or_right h3 (iff_ite_l h4 Iff.rfl)))) sn))) (fun _ h=>h))
     refine (go 4) (yN 45 (fun h5=>?_) fun h5=>?_)
     ·refine (go 5) ?_
      refine zU (zm hK9 (sc rfl (sc rfl (sc (jp (iff_ite_l h2 (iff_or_right h3 (iff_ite_r h4 (iff_and_right h5 Iff.rfl))))) sn))) (fun _ h=>h))
     refine (go 5) ?_
     refine zU (zm hK9 (sc rfl (sc rfl (sc (jf (fun g=>g.elim (fun k=>(fun g=>g.elim h3 (fun g=>g.elim (fun k=>h4 k.1) (fun k=>(fun g=>h5 g.1) k.2))) k.2) (fun k=>k.1 h2))) sn))) (fun _ h=>h))
    refine (go 4) (yN 31 (fun h6=>?_) fun h6=>?_)
    ·refine (go 7) (yN 38 (fun h7=>?_) fun h7=>?_)
     ·refine (go 12) ?_
      refine zU (zm hK9 (sc rfl (sc rfl (sc (jt (Or.inr ⟨h2,⟨h6,(Or.inl h7)⟩⟩)) sn))) (fun _ h=>h))
     refine (go 3) (yN 41 (fun h8=>?_) fun h8=>?_)
     ·refine (go 9) ?_
      refine zU (zm hK9 (sc rfl (sc rfl (sc (jp (iff_ite_r h2 (iff_and_right h6 (iff_or_right h7 (iff_ite_l h8 Iff.rfl))))) sn))) (fun _ h=>h))
     refine (go 4) (yN 45 (fun h9=>?_) fun h9=>?_)
     ·refine (go 5) ?_
      refine zU (zm hK9 (sc rfl (sc rfl (sc (jp (iff_ite_r h2 (iff_and_right h6 (iff_or_right h7 (iff_ite_r h8 (iff_and_right h9 Iff.rfl)))))) sn))) (fun _ h=>h))
     refine (go 5) ?_
     refine zU (zm hK9 (sc rfl (sc rfl (sc (jf (fun g=>g.elim (fun k=>h2 k.1) (fun k=>(fun g=>(fun g=>g.elim h7 (fun g=>g.elim (fun k=>h8 k.1) (fun k=>(fun g=>h9 g.1) k.2))) g.2) k.2))) sn))) (fun _ h=>h))
    refine (go 19) ?_
    refine zU (zm hK9 (sc rfl (sc rfl (sc (jf (fun g=>g.elim (fun k=>h2 k.1) (fun k=>(fun g=>h6 g.1) k.2))) sn))) (fun _ h=>h))
   refine zX (fun h10=>?_) fun h10=>?_
   ·have hw9:Pz.wend s j1=k:=Pz.wend_done hc1 hI1.1 qO
    refine vp (vC (e_in_miss rfl (vO (vD (zm hK4 (sc rfl (sc (ji qO) sn)) (fun _ h=>have h:=Mem.fact ((by rw [hw9]; exact ⟨hI1.2.1,hI1.2.2⟩)) h; h))))))
   refine (go 6) ?_
   refine zU (yG (zh (k + 1) (sc rfl (sc (ji qO) sn)) (fun _ h=>h) ?_ ?_))
   ·exact ⟨.inr ⟨by omega,Pz.wend_next hc1 hI1.1 qO⟩,by omega,by omega⟩
   omega
  have hw9:Pz.wend s j1=k:=Pz.wend_end qO hI1.1
  refine vp (vC (vO (vD (zm hK4 (sc rfl (sc (ji qO) sn)) (fun _ h=>have h:=Mem.fact ((by rw [hw9]; exact ⟨hI1.2.1,hI1.2.2⟩)) h; h)))))
 refine c_fact fun hF=>?_
 refine (go 11) ?_
 refine yk (r_sslice_lh (l:=j1) (h:=(Pz.wend s j1)) rfl rfl qO rfl qO qI qI underlying9) ?_
 refine (go 11) (zX (fun h11=>?_) fun h11=>?_)
 ·refine (go 2) ?_
  refine zZ (α:=Unit) (PT:=111) [Rb 114 p s j1 n,.pub zN] [] (fun _:Unit=>.tuple #[]) (fun z1=>False) (fun z1=>[Rb 114 p s j1 n,.pub zN]) _ (fun f1=>f1=(7,(j1:Int))) (fun _=>rfl) (S9 [0,1]) (fun _=>rfl) wn rfl rfl call54 rfl (fun w1 Pb hG=>yi p s j1 n 7 Pb w1 hG) ?_ fun z1 hz2=>?_
  ·intro f1 hf1
   refine zR (zV fun w1 hM=>?_)
   exact hM.zd f1 (by rw [hf1]; exact Pz.word_no hz1e rfl h11 qO)
  exact hz2.elim
 refine (go 18) (zY results180 fun w1 hM=>?_)
 have h9:Pz.word s ⟨i,n⟩=.ok ((s.extract j1 (Pz.wend s j1)),⟨(Pz.wend s j1),n⟩):=by exact Pz.word_ok hz1e rfl h11 qO
 exact hM.vZ (((s.extract j1 (Pz.wend s j1)),⟨(Pz.wend s j1),n⟩):ByteArray × Pz.St) rfl ⟨h9,(Pz.word_fine hi).ok_ h9⟩ (fun h=>h.sel [0,1] qD rfl)
theorem vB (p:Nat) (s:ByteArray) (i:Nat) (n:Int) (Pb:Nat→Prop) (w:World) (hG:Mem w ⟨fpOf [Rb 114 p s i n,.pub zN],Pb⟩ [Rb 114 p s i n,.pub zN] w) (hi:i≤s.size) (hs:s.size≤2000) (hn:0≤n∧n≤100) :
    Calls prog 211 #[.pointer (some ⟨p,0,none⟩)] w (RetX w [Rb 114 p s i n,.pub zN] Pb 111 (fun z:ByteArray × Pz.St=>.string z.1) (fun z=>Pz.name s ⟨i,n⟩=.ok z∧Pz.Good s ⟨i,n⟩ z.2) (fun z=>[Rb 114 p s z.2.at_ z.2.nd,.pub zN]) (fun f=>Pz.name s ⟨i,n⟩=.no f)):=by
 refine zr (N:=11) func211 hG ?_
 refine (go 8) ?_
 refine zZ (α:=ByteArray × Pz.St) (PT:=111) [Rb 114 p s i n,.pub zN] [] (fun z:ByteArray × Pz.St=>.string z.1) (fun z1=>Pz.word s ⟨i,n⟩=.ok z1∧Pz.Good s ⟨i,n⟩ z1.2) (fun z1=>[Rb 114 p s z1.2.at_ z1.2.nd,.pub zN]) _ (fun f1=>Pz.word s ⟨i,n⟩=.no f1) (fun _=>rfl) (S9 [0,1]) (fun _=>rfl) wn rfl rfl call180 rfl (fun w1 Pb hG=>jS p s i n  Pb w1 hG qO qO qO ) ?_ fun z1 hz1=>?_
 ·intro f1 hf1
  refine zR (zV fun w1 hM=>?_)
  exact hM.zd f1 (by first | (simp only [Pz.then_ok,Pz.then_no,Pz.St.go,lgc,Pz.name,hf1]; done) | simp [Pz.then_ok,Pz.then_no,Pz.St.go,lgc,Pz.name,hf1])
 obtain ⟨wd1,j1,m1⟩:=z1
 have he1:Pz.word s ⟨i,n⟩=.ok (wd1,⟨j1,m1⟩):=hz1.1
 have ga1:j1≤s.size:=hz1.2.at_
 have gm1:n≤m1:=hz1.2.mono
 have gn1:m1≤100:=hz1.2.most (show n≤100 by omega)
 have wz1:wd1.size≤12:=Pz.word_size (t:=⟨i,n⟩) (show i≤_ by omega) he1
 refine y7 (.string wd1) ?_
 refine (go 10) (zX (fun h1=>?_) fun h1=>?_)
 ·have g1:(wd1=⟨#[]⟩)=True:=eq_true h1
  refine (go 2) ?_
  refine zZ (α:=Unit) (PT:=111) [Rb 114 p s j1 m1,.pub zN] [] (fun _:Unit=>.tuple #[]) (fun z2=>False) (fun z2=>[Rb 114 p s j1 m1,.pub zN]) _ (fun f2=>f2=(2,(j1:Int))) (fun _=>rfl) (S9 [0,1]) (fun _=>rfl) wn rfl rfl call54 rfl (fun w1 Pb hG=>yi p s j1 m1 2 Pb w1 hG) ?_ fun z2 hz2=>?_
  ·intro f2 hf2
   refine zR (zV fun w1 hM=>?_)
   exact hM.zd f2 (by first | (simp only [Pz.then_ok,Pz.then_no,Pz.St.go,lgc,Pz.name,he1,g1,hf2]; done) | simp [Pz.then_ok,Pz.then_no,Pz.St.go,lgc,Pz.name,he1,g1,hf2])
  exact hz2.elim
 have g2:(wd1=⟨#[]⟩)=False:=eq_false h1
 refine (go 9) (zY results211 fun w1 hM=>?_)
 have h9:Pz.name s ⟨i,n⟩=.ok (wd1,⟨j1,m1⟩):=by first | (simp only [Pz.then_ok,Pz.then_no,Pz.St.go,lgc,Pz.name,he1,g2]; done) | simp [Pz.then_ok,Pz.then_no,Pz.St.go,lgc,Pz.name,he1,g2]
 exact hM.vZ ((wd1,⟨j1,m1⟩):ByteArray × Pz.St) rfl ⟨h9,(Pz.name_fine hi).ok_ h9⟩ (fun h=>h.sel [0,1] qD rfl)
theorem c_num (p:Nat) (s:ByteArray) (i:Nat) (n:Int) (least:Int) (most:Int) (Pb:Nat→Prop) (w:World) (hG:Mem w ⟨fpOf [Rb 114 p s i n,.pub zN],Pb⟩ [Rb 114 p s i n,.pub zN] w) (hi:i≤s.size) (hs:s.size≤2000) (hn:0≤n∧n≤100) (hm:most≤9223372036854775806) :
    Calls prog 182 #[.pointer (some ⟨p,0,none⟩),iV least,iV most] w (RetX w [Rb 114 p s i n,.pub zN] Pb 111 (fun z:Int × Pz.St=>iV z.1) (fun z=>Pz.num s least most ⟨i,n⟩=.ok z∧Pz.Good s ⟨i,n⟩ z.2) (fun z=>[Rb 114 p s z.2.at_ z.2.nd,.pub zN]) (fun f=>Pz.num s least most ⟨i,n⟩=.no f)):=by
 refine zr (N:=105) func182 hG ?_
 refine (go 8) ?_
 refine yM (α:=Nat) [Rb 114 p s i n,.pub zN] [] (fun _=>.tuple #[]) (fun j1=>(Pz.blank s i=j1∧i≤j1∧j1≤s.size)) (fun j1=>[Rb 114 p s j1 n,.pub zN]) _ (fun _=>rfl) (S9 [0,1]) (fun _=>rfl) wn rfl rfl call53 rfl (fun w1 Pb hG=>vj p s i n Pb w1 hG qO qO) fun j1 hz1=>?_
 obtain ⟨hz1e,hz1a,hz1b⟩:=hz1
 refine (go 11) ?_
 refine ym [(0,.pointer (some ⟨p,0,none⟩)),(1,iV least),(2,iV most),(7,iV ((Pz.run Pz.dig s j1):Int))] (Mem w ⟨fpOf [Rb 114 p s i n,.pub zN],Pb⟩ [.pub (fun _ _=>j1≤Pz.run Pz.dig s j1∧Pz.run Pz.dig s j1≤s.size),Rb 114 p s j1 n,.pub zN]) (fun _ hK4=>?_) ?_
 ·refine (go 1) ?_
  refine yE (fun (k:Nat)=>[(0,.pointer (some ⟨p,0,none⟩)),(1,iV least),(2,iV most),(7,iV k)]) (fun (k:Nat)=>[Rb 114 p s j1 n,.pub zN]) (fun (k:Nat)=>Pz.run Pz.dig s j1=Pz.run Pz.dig s k∧j1≤k∧k≤s.size) (fun (k:Nat)=>s.size - k) j1 (sc rfl (sc rfl (sc rfl (sc rfl sn)))) (fun _ h=>h) ?_ (fun k hI1=>?_)
  ·exact ⟨rfl,Nat.le_refl _,by omega⟩
  refine (go 11) (yN 23 (fun h1=>?_) fun h1=>?_)
  ·refine (go 5) ?_
   obtain ⟨c1,hc1⟩:∃ x,s[k]?=some x:=⟨_,byte_at qO⟩
   refine y9 (uT rfl rfl qO hc1 underlying9) ?_
   refine (go 3) (yN 32 (fun h2=>?_) fun h2=>?_)
   ·refine (go 5) ?_
    refine y9 (uT rfl rfl qO hc1 underlying9) ?_
    refine (go 4) (zX (fun h3=>?_) fun h3=>?_)
    ·refine (go 7) ?_
     refine zU (yG (zh (k + 1) (sc rfl (sc rfl (sc rfl (sc (ji qO) sn)))) (fun _ h=>h) ?_ ?_))
     ·exact ⟨hI1.1.trans (Pz.dig_step hc1 qO),by omega,by omega⟩
     omega
    have hw9:Pz.run Pz.dig s j1=k:=hI1.1.trans (Pz.dig_stop hc1 qO)
    refine vp (vC (vO (vD (zm hK4 (sc rfl (sc rfl (sc rfl (sc (ji qO) sn)))) (fun _ h=>have h:=Mem.fact ((by rw [hw9]; exact ⟨hI1.2.1,hI1.2.2⟩)) h; h)))))
   refine (go 11) ?_
   have hw9:Pz.run Pz.dig s j1=k:=hI1.1.trans (Pz.dig_stop hc1 qO)
   refine vp (vC (vO (vD (zm hK4 (sc rfl (sc rfl (sc rfl (sc (ji qO) sn)))) (fun _ h=>have h:=Mem.fact ((by rw [hw9]; exact ⟨hI1.2.1,hI1.2.2⟩)) h; h)))))
  refine (go 20) ?_
  have hw9:Pz.run Pz.dig s j1=k:=hI1.1.trans (Pz.run_end qO)
  refine vp (vC (vO (vD (zm hK4 (sc rfl (sc rfl (sc rfl (sc (ji qO) sn)))) (fun _ h=>have h:=Mem.fact ((by rw [hw9]; exact ⟨hI1.2.1,hI1.2.2⟩)) h; h)))))
 refine c_fact fun hF=>?_
 refine (go 11) (zX (fun h4=>?_) fun h4=>?_)
 ·refine (go 2) ?_
  refine zZ (α:=Unit) (PT:=111) [Rb 114 p s j1 n,.pub zN] [] (fun _:Unit=>.tuple #[]) (fun z1=>False) (fun z1=>[Rb 114 p s j1 n,.pub zN]) _ (fun f1=>f1=(2,(j1:Int))) (fun _=>rfl) (S9 [0,1]) (fun _=>rfl) wn rfl rfl call54 rfl (fun w1 Pb hG=>yi p s j1 n 2 Pb w1 hG) ?_ fun z1 hz2=>?_
  ·intro f1 hf1
   refine zR (zV fun w1 hM=>?_)
   exact hM.zd f1 (by rw [hf1]; exact Pz.num_form least most hz1e rfl h4)
  exact hz2.elim
 refine (go 3) ?_
 refine yK (Mem w ⟨fpOf [Rb 114 p s i n,.pub zN],Pb⟩ [Rb 114 p s j1 n,.pub zN]) mix (fun _ h=>h.drew) rfl (uD (f:=6) [0,1,2,3,4,5,6,7,8,9] rfl rfl (by kernel_rfl) (by kernel_rfl) (fun _ h=>h) fun KS hKS=>?_)
 refine (go 9) ?_
 refine uo (r_sslice_lh (l:=j1) (h:=(Pz.run Pz.dig s j1)) rfl rfl qO rfl qO qO qO underlying9) (zi hKS (zf 5 10 (za (i:=10) rfl fun KN hKN hPN=>yh (β:=Int × Value) (fun z=>.tuple (List.toArray [iV z.1,z.2])) (fun z=>Pz.AtoiR (s.extract j1 (Pz.run Pz.dig s j1)).data.toList z) (fun _ _ _=>True) (fun _=>fun _ _ _ _ _ _ _=>trivial) wn rfl call212 rfl (fun w1 Pb hM pp=>c_atoi (s.extract j1 (Pz.run Pz.dig s j1)) Pb w1 pp.lt (Pz.atoi_lt h4 rfl qO) (Pz.ext_dig rfl) (by rw [Pz.ext_size _ qO]; omega) (pp.at_ 1 _ rfl)) fun z2 hz3=>vt (fun _ h=>h.drop1) ?_)))
 refine (go 1) ?_
 refine hKN _ _ (fun _ h=>h) (uD (f:=0) [11,12,13,14,15] rfl rfl (by kernel_rfl) (by kernel_rfl) (fun _ h=>h) fun KS hKS=>?_)
 refine (go 5) ?_
 refine zi hKS ?_
 refine zw (by kernel_rfl) ((go 1) ?_)
 refine (go 4) ?_
 refine yk (r_ineq rfl hz3.ifc underlying183) ?_
 refine (go 1) (jx 67 (fun h5=>?_) fun h5=>?_)
 ·have g1:(isNil z2.2)=false:=by simpa using h5
  refine (go 35) ?_
  refine zZ (α:=Unit) (PT:=111) [Rb 114 p s j1 n,.pub zN] [] (fun _:Unit=>.tuple #[]) (fun z3=>False) (fun z3=>[Rb 114 p s j1 n,.pub zN]) _ (fun f2=>f2=(3,(j1:Int))) (fun _=>rfl) (S9 [0,1]) (fun _=>rfl) wn rfl rfl call54 rfl (fun w1 Pb hG=>yi p s j1 n 3 Pb w1 hG) ?_ fun z3 hz4=>?_
  ·intro f2 hf2
   refine zR (zV fun w1 hM=>?_)
   exact hM.zd f2 (by rw [hf2]; exact Pz.num_no hz1e rfl h4 (Pz.num_bad rfl hz3 hm (.inl h5)))
  exact hz4.elim
 have g2:(isNil z2.2)=true:=by simpa using h5
 refine (go 5) (va 72 (fun h6=>?_) fun h6=>?_)
 ·refine (go 30) ?_
  refine zZ (α:=Unit) (PT:=111) [Rb 114 p s j1 n,.pub zN] [] (fun _:Unit=>.tuple #[]) (fun z4=>False) (fun z4=>[Rb 114 p s j1 n,.pub zN]) _ (fun f3=>f3=(3,(j1:Int))) (fun _=>rfl) (S9 [0,1]) (fun _=>rfl) wn rfl rfl call54 rfl (fun w1 Pb hG=>yi p s j1 n 3 Pb w1 hG) ?_ fun z4 hz5=>?_
  ·intro f3 hf3
   refine zR (zV fun w1 hM=>?_)
   exact hM.zd f3 (by rw [hf3]; exact Pz.num_no hz1e rfl h4 (Pz.num_bad rfl hz3 hm (.inr (.inl h6))))
  exact hz5.elim
 refine (go 5) (va 77 (fun h7=>?_) fun h7=>?_)
 ·refine (go 25) ?_
  refine zZ (α:=Unit) (PT:=111) [Rb 114 p s j1 n,.pub zN] [] (fun _:Unit=>.tuple #[]) (fun z5=>False) (fun z5=>[Rb 114 p s j1 n,.pub zN]) _ (fun f4=>f4=(3,(j1:Int))) (fun _=>rfl) (S9 [0,1]) (fun _=>rfl) wn rfl rfl call54 rfl (fun w1 Pb hG=>yi p s j1 n 3 Pb w1 hG) ?_ fun z5 hz6=>?_
  ·intro f4 hf4
   refine zR (zV fun w1 hM=>?_)
   exact hM.zd f4 (by rw [hf4]; exact Pz.num_no hz1e rfl h4 (Pz.num_bad rfl hz3 hm (.inr (.inr (.inl h7)))))
  exact hz6.elim
 refine (go 8) ?_
 obtain ⟨c2,hc2⟩:∃ x,s[j1]?=some x:=⟨_,byte_at qO⟩
 refine vd (uT rfl rfl qO hc2 underlying9) ?_
 refine (go 2) (va 88 (fun h8=>?_) fun h8=>?_)
 ·refine (go 11) (zX (fun h9=>?_) fun h9=>?_)
  ·refine (go 2) ?_
   refine zZ (α:=Unit) (PT:=111) [Rb 114 p s j1 n,.pub zN] [] (fun _:Unit=>.tuple #[]) (fun z6=>False) (fun z6=>[Rb 114 p s j1 n,.pub zN]) _ (fun f5=>f5=(3,(j1:Int))) (fun _=>rfl) (S9 [0,1]) (fun _=>rfl) wn rfl rfl call54 rfl (fun w1 Pb hG=>yi p s j1 n 3 Pb w1 hG) ?_ fun z6 hz7=>?_
   ·intro f5 hf5
    refine zR (zV fun w1 hM=>?_)
    exact hM.zd f5 (by rw [hf5]; exact Pz.num_no hz1e rfl h4 (Pz.num_bad rfl hz3 hm (.inr (.inr (.inr ⟨Pz.at48 hc2 h8,h9⟩)))))
   exact hz7.elim
  refine (go 18) (zY results182 fun w1 hM=>?_)
  have h8:=Pz.num_good rfl hz3 h5 h6 h7 (fun g=>h9 g.2)
  have h9:Pz.num s least most ⟨i,n⟩=.ok (z2.1,⟨(Pz.run Pz.dig s j1),n⟩):=by rw [← h8.2]; exact Pz.num_ok hz1e rfl h4 h8.1
  exact hM.vZ ((z2.1,⟨(Pz.run Pz.dig s j1),n⟩):Int × Pz.St) rfl ⟨h9,(Pz.num_fine _ _ hi).ok_ h9⟩ (fun h=>h.sel [0,1] qD rfl)
 refine (go 30) (zY results182 fun w1 hM=>?_)
 have h8:=Pz.num_good rfl hz3 h5 h6 h7 (Pz.not48 hc2 h8)
 have h9:Pz.num s least most ⟨i,n⟩=.ok (z2.1,⟨(Pz.run Pz.dig s j1),n⟩):=by rw [← h8.2]; exact Pz.num_ok hz1e rfl h4 h8.1
 exact hM.vZ ((z2.1,⟨(Pz.run Pz.dig s j1),n⟩):Int × Pz.St) rfl ⟨h9,(Pz.num_fine _ _ hi).ok_ h9⟩ (fun h=>h.sel [0,1] qD rfl)
theorem vk (p:Nat) (s:ByteArray) (i:Nat) (n:Int) (k m r:Int) (wd:ByteArray) (A4:Option Addr) (l4 c4:Nat) (A5:Option Addr) (l5 c5:Nat) (A6:Option Addr) (l6 c6:Nat) (Pb:Nat→Prop) (w:World) (hG:Mem w ⟨fpOf [Rb 114 p s i n,.pub zN],Pb⟩ [Rb 114 p s i n,.pub zN] w) (hi:i≤s.size) (hs:s.size≤2000) (hn:0≤n∧n≤100) :
    Calls prog 99 #[.pointer (some ⟨p,0,none⟩),.agg (List.toArray [iV k,iV m,iV r,.string wd,.slice A4 l4 c4,.slice A5 l5 c5,.slice A6 l6 c6])] w (RetX w [Rb 114 p s i n,.pub zN] Pb 111 (fun _:Unit=>.agg (List.toArray [iV k,iV m,iV r,.string wd,.slice A4 l4 c4,.slice A5 l5 c5,.slice A6 l6 c6])) (fun _=>n + 1≤100) (fun _=>[Rb 114 p s i (n + 1),.pub zN]) (fun f=>Pz.node ⟨i,n⟩=.no f)):=by
 refine zr (N:=20) func99 hG ?_
 refine (go 2) (yu fun b3=>zz fun b4=>?_)
 refine (go 24) (zX (fun h1=>?_) fun h1=>?_)
 ·refine (go 2) ?_
  refine zZ (α:=Unit) (PT:=111) [Rb 114 p s i (n + 1),.pub zN] [.blk b4 Zx 59,.blk b3 [iV k,iV m,iV r,.string wd,.slice A4 l4 c4,.slice A5 l5 c5,.slice A6 l6 c6] 59] (fun _:Unit=>.tuple #[]) (fun z1=>False) (fun z1=>[Rb 114 p s i (n + 1),.pub zN]) _ (fun f1=>f1=(4,(i:Int))) (fun _=>rfl) (S9 [2,3,0,1]) (fun _=>rfl) wn rfl rfl call54 rfl (fun w1 Pb hG=>yi p s i (n + 1) 4 Pb w1 hG) ?_ fun z1 hz1=>?_
  ·intro f1 hf1
   refine zR (zV fun w1 hM=>?_)
   exact hM.zd f1 (by rw [hf1]; exact Pz.node_no h1)
  exact hz1.elim
 refine (go 9) (zY results99 fun w1 hM=>?_)
 exact hM.vZ () rfl (by have:=h1; omega) (fun h=>h.sel [2,3] qD rfl)
theorem uQ (p:Nat) (s:ByteArray) (i:Nat) (n:Int) (Pb:Nat→Prop) (w:World) (hG:Mem w ⟨fpOf [Rb 114 p s i n,.pub zN],Pb⟩ [Rb 114 p s i n,.pub zN] w) (hi:i≤s.size) (hs:s.size≤2000) (hn:0≤n∧n≤100) :
    Calls prog 213 #[.pointer (some ⟨p,0,none⟩)] w (RetX w [Rb 114 p s i n,.pub zN] Pb 111 (fun z:Match × Pz.St=>.agg (yA z.1).toArray) (fun z=>Pz.match_ s ⟨i,n⟩=.ok z∧Pz.Good s ⟨i,n⟩ z.2) (fun z=>[Rb 114 p s z.2.at_ z.2.nd,.pub zN]) (fun f=>Pz.match_ s ⟨i,n⟩=.no f)):=by
 refine zr (N:=27) func213 hG ?_
 refine (go 2) (zz fun b2=>?_)
 refine (go 6) ?_
 refine yM (α:=(Bool × Nat)) [Rb 114 p s i n,.pub zN] [.blk b2 [iV 0,.string ⟨#[]⟩,.string ⟨#[]⟩] 179] (fun z:Bool × Nat=>.bool z.1) (fun z1=>(Pz.eat s ⟨#[33]⟩ i=z1∧i≤z1.2∧z1.2≤s.size)) (fun z1=>[Rb 114 p s z1.2 n,.pub zN]) _ (fun _=>rfl) (S9 [1,2,0]) (fun _=>rfl) wn rfl rfl call98 rfl (fun w1 Pb hG=>vo p s i n ⟨#[33]⟩ Pb w1 hG qO qO) fun z1 hz1=>?_
 obtain ⟨bo1,j1⟩:=z1
 have he1:Pz.eat s ⟨#[33]⟩ i=(bo1,j1):=hz1.1
 have hz1a:i≤j1:=hz1.2.1
 have hz1b:j1≤s.size:=hz1.2.2
 refine y7 (.bool bo1) ?_
 refine (go 2) (yb (fun h1=>?_) fun h1=>?_)
 ·refine (go 3) ?_
  refine zZ (α:=ByteArray × Pz.St) (PT:=111) [Rb 114 p s j1 n,.pub zN] [.blk b2 [iV 0,.string ⟨#[]⟩,.string ⟨#[]⟩] 179] (fun z:ByteArray × Pz.St=>.string z.1) (fun z2=>Pz.name s ⟨j1,n⟩=.ok z2∧Pz.Good s ⟨j1,n⟩ z2.2) (fun z2=>[Rb 114 p s z2.2.at_ z2.2.nd,.pub zN]) _ (fun f1=>Pz.name s ⟨j1,n⟩=.no f1) (fun _=>rfl) (S9 [0,1,2]) (fun _=>rfl) wn rfl rfl call211 rfl (fun w1 Pb hG=>vB p s j1 n  Pb w1 hG qO qO qO ) ?_ fun z2 hz2=>?_
  ·intro f1 hf1
   refine zR (zR (zV fun w1 hM=>?_))
   exact hM.zd f1 (by first | (simp only [Pz.then_ok,Pz.then_no,Pz.St.go,lgc,Pz.match_,he1,h1,hf1]; done) | simp [Pz.then_ok,Pz.then_no,Pz.St.go,lgc,Pz.match_,he1,h1,hf1])
  obtain ⟨wd1,j2,m1⟩:=z2
  have he2:Pz.name s ⟨j1,n⟩=.ok (wd1,⟨j2,m1⟩):=hz2.1
  have ga1:j2≤s.size:=hz2.2.at_
  have gm1:n≤m1:=hz2.2.mono
  have gn1:m1≤100:=hz2.2.most (show n≤100 by omega)
  have wz1:wd1.size≤12:=Pz.name_size (t:=⟨j1,n⟩) (show j1≤_ by omega) he2
  refine y7 (.string wd1) ?_
  refine (go 6) (zY results213 fun w1 hM=>?_)
  have h9:Pz.match_ s ⟨i,n⟩=.ok ((⟨4,wd1,⟨#[]⟩⟩:Match),⟨j2,m1⟩):=by first | (simp only [Pz.then_ok,Pz.then_no,Pz.St.go,lgc,Pz.match_,he1,he2,h1]; done) | simp [Pz.then_ok,Pz.then_no,Pz.St.go,lgc,Pz.match_,he1,he2,h1]
  exact hM.vZ (((⟨4,wd1,⟨#[]⟩⟩:Match),⟨j2,m1⟩):Match × Pz.St) rfl ⟨h9,(Pz.match_fine hi).ok_ h9⟩ (fun h=>h.sel [0,1] qD rfl)
 have g1:bo1=false:=by simpa using h1
 refine (go 5) ?_
 refine zZ (α:=ByteArray × Pz.St) (PT:=111) [Rb 114 p s j1 n,.pub zN] [.blk b2 [iV 0,.string ⟨#[]⟩,.string ⟨#[]⟩] 179] (fun z:ByteArray × Pz.St=>.string z.1) (fun z3=>Pz.name s ⟨j1,n⟩=.ok z3∧Pz.Good s ⟨j1,n⟩ z3.2) (fun z3=>[Rb 114 p s z3.2.at_ z3.2.nd,.pub zN]) _ (fun f2=>Pz.name s ⟨j1,n⟩=.no f2) (fun _=>rfl) (S9 [0,1,2]) (fun _=>rfl) wn rfl rfl call211 rfl (fun w1 Pb hG=>vB p s j1 n  Pb w1 hG qO qO qO ) ?_ fun z3 hz3=>?_
 ·intro f2 hf2
  refine zR (zV fun w1 hM=>?_)
  exact hM.zd f2 (by first | (simp only [Pz.then_ok,Pz.then_no,Pz.St.go,lgc,Pz.match_,he1,g1,h1,hf2]; done) | simp [Pz.then_ok,Pz.then_no,Pz.St.go,lgc,Pz.match_,he1,g1,h1,hf2])
 obtain ⟨wd2,j3,m2⟩:=z3
 have he3:Pz.name s ⟨j1,n⟩=.ok (wd2,⟨j3,m2⟩):=hz3.1
 have ga2:j3≤s.size:=hz3.2.at_
 have gm2:n≤m2:=hz3.2.mono
 have gn2:m2≤100:=hz3.2.most (show n≤100 by omega)
 have wz2:wd2.size≤12:=Pz.name_size (t:=⟨j1,n⟩) (show j1≤_ by omega) he3
 refine y7 (.string wd2) ?_
 refine (go 1) (zz fun b3=>?_)
 refine (go 8) ?_
 refine yM (α:=(Bool × Nat)) [Rb 114 p s j3 m2,.pub zN] [.blk b3 [iV 3,.string wd2,.string ⟨#[]⟩] 179,.blk b2 [iV 0,.string ⟨#[]⟩,.string ⟨#[]⟩] 179] (fun z:Bool × Nat=>.bool z.1) (fun z4=>(Pz.eat s ⟨#[33,61]⟩ j3=z4∧j3≤z4.2∧z4.2≤s.size)) (fun z4=>[Rb 114 p s z4.2 m2,.pub zN]) _ (fun _=>rfl) (S9 [1,2,0,3]) (fun _=>rfl) wn rfl rfl call98 rfl (fun w1 Pb hG=>vo p s j3 m2 ⟨#[33,61]⟩ Pb w1 hG qO qO) fun z4 hz4=>?_
 obtain ⟨bo2,j4⟩:=z4
 have he4:Pz.eat s ⟨#[33,61]⟩ j3=(bo2,j4):=hz4.1
 have hz4a:j3≤j4:=hz4.2.1
 have hz4b:j4≤s.size:=hz4.2.2
 refine y7 (.bool bo2) ?_
 refine (go 3) (yb (fun h2=>?_) fun h2=>?_)
 ·refine (go 2) ?_
  refine zZ (α:=ByteArray × Pz.St) (PT:=111) [Rb 114 p s j4 m2,.pub zN] [.blk b3 [iV 3,.string wd2,.string ⟨#[]⟩] 179,.blk b2 [iV 0,.string ⟨#[]⟩,.string ⟨#[]⟩] 179] (fun z:ByteArray × Pz.St=>.string z.1) (fun z5=>Pz.name s ⟨j4,m2⟩=.ok z5∧Pz.Good s ⟨j4,m2⟩ z5.2) (fun z5=>[Rb 114 p s z5.2.at_ z5.2.nd,.pub zN]) _ (fun f3=>Pz.name s ⟨j4,m2⟩=.no f3) (fun _=>rfl) (S9 [0,1,2,3]) (fun _=>rfl) wn rfl rfl call211 rfl (fun w1 Pb hG=>vB p s j4 m2  Pb w1 hG qO qO qO ) ?_ fun z5 hz5=>?_
  ·intro f3 hf3
   refine zx (zR (zV fun w1 hM=>?_))
   exact hM.zd f3 (by first | (simp only [Pz.then_ok,Pz.then_no,Pz.St.go,lgc,Pz.match_,he1,g1,he3,he4,h1,h2,hf3]; done) | simp [Pz.then_ok,Pz.then_no,Pz.St.go,lgc,Pz.match_,he1,g1,he3,he4,h1,h2,hf3])
  obtain ⟨wd3,j5,m3⟩:=z5
  have he5:Pz.name s ⟨j4,m2⟩=.ok (wd3,⟨j5,m3⟩):=hz5.1
  have ga3:j5≤s.size:=hz5.2.at_
  have gm3:m2≤m3:=hz5.2.mono
  have gn3:m3≤100:=hz5.2.most (show m2≤100 by omega)
  have wz3:wd3.size≤12:=Pz.name_size (t:=⟨j4,m2⟩) (show j4≤_ by omega) he5
  refine y7 (.string wd3) ?_
  refine (go 14) (zY results213 fun w1 hM=>?_)
  have h9:Pz.match_ s ⟨i,n⟩=.ok ((⟨2,wd2,wd3⟩:Match),⟨j5,m3⟩):=by first | (simp only [Pz.then_ok,Pz.then_no,Pz.St.go,lgc,Pz.match_,he1,g1,he3,he4,he5,h1,h2]; done) | simp [Pz.then_ok,Pz.then_no,Pz.St.go,lgc,Pz.match_,he1,g1,he3,he4,he5,h1,h2]
  exact hM.vZ (((⟨2,wd2,wd3⟩:Match),⟨j5,m3⟩):Match × Pz.St) rfl ⟨h9,(Pz.match_fine hi).ok_ h9⟩ (fun h=>h.sel [0,1] qD rfl)
 have g2:bo2=false:=by simpa using h2
 refine (go 3) ?_
 refine yM (α:=(Bool × Nat)) [Rb 114 p s j4 m2,.pub zN] [.blk b3 [iV 3,.string wd2,.string ⟨#[]⟩] 179,.blk b2 [iV 0,.string ⟨#[]⟩,.string ⟨#[]⟩] 179] (fun z:Bool × Nat=>.bool z.1) (fun z6=>(Pz.eat s ⟨#[61]⟩ j4=z6∧j4≤z6.2∧z6.2≤s.size)) (fun z6=>[Rb 114 p s z6.2 m2,.pub zN]) _ (fun _=>rfl) (S9 [0,1,2,3]) (fun _=>rfl) wn rfl rfl call98 rfl (fun w1 Pb hG=>vo p s j4 m2 ⟨#[61]⟩ Pb w1 hG qO qO) fun z6 hz6=>?_
 obtain ⟨bo3,j6⟩:=z6
 have he6:Pz.eat s ⟨#[61]⟩ j4=(bo3,j6):=hz6.1
 have hz6a:j4≤j6:=hz6.2.1
 have hz6b:j6≤s.size:=hz6.2.2
 refine y7 (.bool bo3) ?_
 refine (go 3) (yb (fun h3=>?_) fun h3=>?_)
 ·refine (go 2) ?_
  refine zZ (α:=ByteArray × Pz.St) (PT:=111) [Rb 114 p s j6 m2,.pub zN] [.blk b3 [iV 3,.string wd2,.string ⟨#[]⟩] 179,.blk b2 [iV 0,.string ⟨#[]⟩,.string ⟨#[]⟩] 179] (fun z:ByteArray × Pz.St=>.string z.1) (fun z7=>Pz.name s ⟨j6,m2⟩=.ok z7∧Pz.Good s ⟨j6,m2⟩ z7.2) (fun z7=>[Rb 114 p s z7.2.at_ z7.2.nd,.pub zN]) _ (fun f4=>Pz.name s ⟨j6,m2⟩=.no f4) (fun _=>rfl) (S9 [0,1,2,3]) (fun _=>rfl) wn rfl rfl call211 rfl (fun w1 Pb hG=>vB p s j6 m2  Pb w1 hG qO qO qO ) ?_ fun z7 hz7=>?_
  ·intro f4 hf4
   refine zx (zR (zV fun w1 hM=>?_))
   exact hM.zd f4 (by first | (simp only [Pz.then_ok,Pz.then_no,Pz.St.go,lgc,Pz.match_,he1,g1,he3,he4,g2,he6,h1,h2,h3,hf4]; done) | simp [Pz.then_ok,Pz.then_no,Pz.St.go,lgc,Pz.match_,he1,g1,he3,he4,g2,he6,h1,h2,h3,hf4])
  obtain ⟨wd4,j7,m4⟩:=z7
  have he7:Pz.name s ⟨j6,m2⟩=.ok (wd4,⟨j7,m4⟩):=hz7.1
  have ga4:j7≤s.size:=hz7.2.at_
  have gm4:m2≤m4:=hz7.2.mono
  have gn4:m4≤100:=hz7.2.most (show m2≤100 by omega)
  have wz4:wd4.size≤12:=Pz.name_size (t:=⟨j6,m2⟩) (show j6≤_ by omega) he7
  refine y7 (.string wd4) ?_
  refine (go 14) (zY results213 fun w1 hM=>?_)
  have h9:Pz.match_ s ⟨i,n⟩=.ok ((⟨1,wd2,wd4⟩:Match),⟨j7,m4⟩):=by first | (simp only [Pz.then_ok,Pz.then_no,Pz.St.go,lgc,Pz.match_,he1,g1,he3,he4,g2,he6,he7,h1,h2,h3]; done) | simp [Pz.then_ok,Pz.then_no,Pz.St.go,lgc,Pz.match_,he1,g1,he3,he4,g2,he6,he7,h1,h2,h3]
  exact hM.vZ (((⟨1,wd2,wd4⟩:Match),⟨j7,m4⟩):Match × Pz.St) rfl ⟨h9,(Pz.match_fine hi).ok_ h9⟩ (fun h=>h.sel [0,1] qD rfl)
 have g3:bo3=false:=by simpa using h3
 refine (go 10) (zY results213 fun w1 hM=>?_)
 have h9:Pz.match_ s ⟨i,n⟩=.ok ((⟨3,wd2,⟨#[]⟩⟩:Match),⟨j6,m2⟩):=by first | (simp only [Pz.then_ok,Pz.then_no,Pz.St.go,lgc,Pz.match_,he1,g1,he3,he4,g2,he6,g3,h1,h2,h3]; done) | simp [Pz.then_ok,Pz.then_no,Pz.St.go,lgc,Pz.match_,he1,g1,he3,he4,g2,he6,g3,h1,h2,h3]
 exact hM.vZ (((⟨3,wd2,⟨#[]⟩⟩:Match),⟨j6,m2⟩):Match × Pz.St) rfl ⟨h9,(Pz.match_fine hi).ok_ h9⟩ (fun h=>h.sel [0,1] qD rfl)
end
end Go.Proofs.YtgojhpocpajmlaaGreatDoor
