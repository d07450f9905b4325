/- Laws and walks for the proof of TopLate, packed by program; each theorem bears its own conditions. -/
import Derived.Test.YtgojhpocpajmlaaGreatDoorKTopLate3
namespace Go.Proofs.YtgojhpocpajmlaaGreatDoor
section
open Tryz
open Ex
set_option linter.unusedVariables false
set_option linter.unusedSimpArgs false
theorem c_span (zp : Nat) (z0 : Value) (z1 : Value) (z2 : Value) (z3 : Value) (z : Shelf) (tier : Int) (w : World) (hzp : w.heap[zp]? = some (.cells [z0, z1, z2, z3, iV z.ze, iV z.zX, iV z.zI, iV z.zN, iV z.zH].toArray 50 (0, 0)))  :
    Calls prog 202 #[.pointer (some ⟨zp,0,none⟩),iV tier] w (Ret w (.tuple #[iV (Sh.spanFrom z tier),iV (Sh.spanTo z tier)])):=by
 refine fstart (N:=31) (vals:=[.pointer (some ⟨zp,0,none⟩),iV tier]) (S:=Mem w no [datB zp [z0,z1,z2,z3,iV z.ze,iV z.zX,iV z.zI,iV z.zN,iV z.zH] 50]) func202 rfl rfl rfl (Mem.ofDats (dc (ddb hzp) dn)) (zG fun _ hK1=>zO rfl (zO rfl (zD hK1 (zS fun _ hK2=>zG fun _ hK3=>zE rfl (zD hK3 (zl (zG fun _ hK4=>zB (yj rfl rfl) ?_)))))))
 refine zO rfl (zD hK4 (za rfl (fun h1=>?_) (fun h1=>?_)))
 · refine zS fun _ hK5=>vN mix (by kernel_rfl) (fun _ h=>h.drew) (yq rfl (zt (zR rfl) (zt (zc rfl fld50_5) (zt (vw 0 rfl rfl rfl flat3) (yq rfl (zt (zR rfl) (zt (zc rfl fld50_6) (zt (vw 0 rfl rfl rfl flat3) (zt (yf rfl) (zt (yf rfl) ?_))))))))))
   refine vI (yC hK5 (zV (yD (zJ (yT (.inl rfl) results202 (zQ rfl) (zQ rfl) fun w1 hM=>?_)))))
   exact zq (by simp [Sh.spanFrom,Sh.spanTo,h1]) hM
 refine zG fun _ hK6=>zB (yj rfl rfl) (zO rfl (zD hK6 (za rfl (fun h2=>?_) (fun h2=>?_))))
 · refine zS fun _ hK7=>vN mix (by kernel_rfl) (fun _ h=>h.drew) (yq rfl (zt (zR rfl) (zt (zc rfl fld50_7) (zt (vw 0 rfl rfl rfl flat3) (yq rfl (zt (zR rfl) (zt (zc rfl fld50_8) (zt (vw 0 rfl rfl rfl flat3) (zt (yf rfl) (zt (yf rfl) ?_))))))))))
   refine vI (yC hK7 (zV (yD (zJ (yT (.inl rfl) results202 (zQ rfl) (zQ rfl) fun w1 hM=>?_)))))
   exact zq (by simp [Sh.spanFrom,Sh.spanTo,h1,h2]) hM
 refine yV (zm (yC hK2 (zG fun _ hK8=>zE rfl (zB (zR rfl) (zB (zc rfl fld50_4) (zB (vw 0 rfl rfl rfl flat3) (zO rfl (zO rfl (zD hK8 (zV (yT (.inl rfl) results202 (zQ rfl) (zQ rfl) fun w1 hM=>?_)))))))))))
 exact zq (by simp [Sh.spanFrom,Sh.spanTo,h1,h2]) hM
theorem gA (zp : Nat) (z0 : Value) (z1 : Value) (z2 : Value) (z3 : Value) (z : Shelf) (p : Part) (w : World) (hzp : w.heap[zp]? = some (.cells [z0, z1, z2, z3, iV z.ze, iV z.zX, iV z.zI, iV z.zN, iV z.zH].toArray 50 (0, 0)))  :
    Calls prog 163 #[.pointer (some ⟨zp,0,none⟩),.agg (vX p).toArray] w (Ret w (.bool (decide (Sh.may z p)))):=by
 refine fstart (N:=58) (vals:=[.pointer (some ⟨zp,0,none⟩),.agg (vX p).toArray]) (S:=Mem w no [datB zp [z0,z1,z2,z3,iV z.ze,iV z.zX,iV z.zI,iV z.zN,iV z.zH] 50]) func163 rfl rfl rfl (Mem.ofDats (dc (ddb hzp) dn)) (zG fun _ hK1=>vR wn rfl rfl fun b3=>zO rfl (zD hK1 (zS fun _ hK2=>vm [(0,.pointer (some ⟨zp,0,none⟩)),(3,.pointer (some ⟨b3,0,none⟩)),(22,.bool (decide ((p.tier < 0)∨((2 < p.tier)∨(p.to≤p.frm)))))] (Mem w no [.blk b3 [iV p.tier,iV p.frm,iV p.to] 217,datB zp [z0,z1,z2,z3,iV z.ze,iV z.zX,iV z.zI,iV z.zN,iV z.zH] 50]) (fun _ hK3=>?_) ?_)))
 · refine zL (zB (zc rfl fld217_0) (zB (zi 0 rfl rfl rfl flat3) (zB (yR rfl rfl) (zE rfl (yQ (t:=11) rfl (fun h1=>?_) (fun h1=>?_))))))
   · refine zW (zW (zW (zB (zP rfl rfl) (zE rfl (zW (zW (zW (zW (zW (zB (zP rfl rfl) ?_))))))))))
     refine zj (yi hK3 (sc rfl (sc rfl (sc (jt (Or.inl h1)) sn))) (fun _ h=>h))
   have hst:=Sh.stepOf_pos p.tier
   refine zd (zc rfl fld217_0) (zd (zi 0 rfl rfl rfl flat3) (zd (y8 rfl rfl) (zB (zP rfl rfl) (zE rfl (yQ (t:=16) rfl (fun h2=>?_) (fun h2=>?_))))))
   · refine zW (zW (zW (zW (zW (zB (zP rfl rfl) ?_)))))
     refine zj (yi hK3 (sc rfl (sc rfl (sc (jt (Or.inr (Or.inl h2))) sn))) (fun _ h=>h))
   refine zd (zc rfl fld217_1) (zd (zi 0 rfl rfl rfl flat3) (zd (zc rfl fld217_2) (zd (zi 0 rfl rfl rfl flat3) (zd (vn rfl rfl) (zB (zP rfl rfl) ?_)))))
   refine zj (yi hK3 (sc rfl (sc rfl (sc (jp (iff_or_right h1 (iff_or_right h2 Iff.rfl))) sn))) (fun _ h=>h))
 refine za rfl (fun h3=>?_) (fun h3=>?_)
 · refine zG fun _ hK4=>zO rfl (zD hK4 (zV (zJ (zY (.inl rfl) results163 (zQ rfl) fun w1 hM=>?_))))
   exact zq (congrArg Value.bool (decide_eq_false (fun g=>g.1 h3)).symm) hM
 have hst:=Sh.stepOf_pos p.tier
 refine yL hK2 (zG fun _ hK5=>zE rfl (zB (zc rfl fld217_0) (zB (zi 0 rfl rfl rfl flat3) (yF wn rfl call202 rfl (fun w1 hM=>c_span zp _ _ _ _ z p.tier w1 (hM.datb (i:=1) rfl)) (zE rfl (zB (yI rfl rfl) (zB (yI rfl rfl) (zO rfl (zO rfl (zD hK5 ?_))))))))))
 refine zG fun _ hK6=>zB (zc rfl fld217_0) (zB (zi 0 rfl rfl rfl flat3) (yF wn rfl call93 rfl (fun w1 hM=>jI p.tier w1) (zB (jn (show _=Sh.stepOf p.tier from rfl) (uh rfl rfl)) (zO rfl (zD hK6 (zG fun _ hK7=>zB (zc rfl fld217_1) (zB (zi 0 rfl rfl rfl flat3) (zE rfl (zB (vn rfl rfl) ?_)))))))))
 refine zE rfl (yQ (t:=38) rfl (fun h4=>?_) (fun h4=>?_))
 · refine zd (zc rfl fld217_2) (zd (zi 0 rfl rfl rfl flat3) (zd (zg rfl) (zd (ug rfl rfl) (zB (zP rfl rfl) (zE rfl (yQ (t:=44) rfl (fun h5=>?_) (fun h5=>?_)))))))
   · refine zd (zc rfl fld217_1) (zd (zi 0 rfl rfl rfl flat3) (zd (zg rfl) (zd (jl rfl rfl (by omega)) (zd (yj rfl rfl) (zB (zP rfl rfl) (zE rfl (yQ (t:=51) rfl (fun h6=>?_) (fun h6=>?_))))))))
     · refine zd (zc rfl fld217_2) (zd (zi 0 rfl rfl rfl flat3) (zd (zg rfl) (zd (jl rfl rfl (by omega)) (zd (yj rfl rfl) (zB (zP rfl rfl) (zO rfl (zD hK7 (zV (zY (.inl rfl) results163 (zQ rfl) fun w1 hM=>?_)))))))))
       exact zq (congrArg Value.bool (decide_eq_decide.2 ⟨fun g=>⟨h3,h4,h5,h6,g⟩,fun g=>g.2.2.2.2⟩)) hM
     refine zW (zW (zW (zW (zW (zB (zP rfl rfl) (zO rfl (zD hK7 (zV (zY (.inl rfl) results163 (zQ rfl) fun w1 hM=>?_)))))))))
     exact zq (congrArg Value.bool (decide_eq_false (fun g=>h6 g.2.2.2.1)).symm) hM
   refine zW (zW (zW (zW (zW (zB (zP rfl rfl) (zE rfl (zW (zW (zW (zW (zW ?_)))))))))))
   refine zB (zP rfl rfl) (zO rfl (zD hK7 (zV (zY (.inl rfl) results163 (zQ rfl) fun w1 hM=>?_))))
   exact zq (congrArg Value.bool (decide_eq_false (fun g=>h5 g.2.2.1)).symm) hM
 refine zW (zW (zW (zW (zB (zP rfl rfl) (zE rfl (zW (zW (zW (zW (zW (zB (zP rfl rfl) ?_)))))))))))
 refine zE rfl (zW (zW (zW (zW (zW (zB (zP rfl rfl) (zO rfl (zD hK7 (zV (zY (.inl rfl) results163 (zQ rfl) fun w1 hM=>?_))))))))))
 exact zq (congrArg Value.bool (decide_eq_false (fun g=>h4 g.2.1)).symm) hM
theorem jQ (lv : Value) (l : List Bucket) (p : Part) (w : World) (hl : zK (In w) 8 zU lv l w) (hl1 : l.length ≤ 1048576) :
    Calls prog 165 #[lv,.agg (vX p).toArray] w (Ret w (iV ((Sh.bIn l p.frm p.to).length:Int))):=by
 obtain ⟨lA,lc,rfl,hlc,hlm,hlA⟩:=hl.form
 refine fstart (N:=30) (vals:=[.slice lA l.length lc,.agg (vX p).toArray]) (S:=Mem w no [slO (In w) 8 zU (.slice lA l.length lc) l]) func165 rfl rfl rfl (Mem.ofDats (dc (dl hl) dn)) (zG fun _ hK1=>vR wn rfl rfl fun b3=>zO rfl (zD hK1 (zG fun _ hK2=>zO rfl (zD hK2 (zS fun _ hK3=>zG fun _ hK4=>zE rfl (zB (yg rfl underlying48) ?_))))))
 refine zE rfl (zD hK4 (zl (vF (fun (k:Nat)=>[(3,.pointer (some ⟨b3,0,none⟩)),(5,iV ((Sh.bIn (l.take k) p.frm p.to).length:Int)),(8,.slice lA l.length lc),(9,iV l.length),(10,iV k)]) (fun (k:Nat)=>[.blk b3 [iV p.tier,iV p.frm,iV p.to] 217,slO (In w) 8 zU (.slice lA l.length lc) l]) (fun (k:Nat)=>k≤l.length) (fun (k:Nat)=>l.length - k) 0 (sc rfl (sc (ji (by first | omega | rfl | (rw [hst]; simp) | (rw [hst]))) (sc rfl (sc rfl (sc (ji (by first | omega | rfl | (rw [hst]; simp) | (rw [hst]))) sn))))) (fun _ h=>h) ?_ (fun k hI1=>?_))))
 · omega
 have hlen:=Nat.le_trans (Sh.bIn_len (l.take k) p.frm p.to) (List.length_take_le k l)
 refine zG fun _ hK5=>zB (yR rfl rfl) (zD hK5 (zS fun _ hK6=>za rfl (fun h1=>?_) (fun h1=>?_)))
 · refine yL hK6 (zS fun _ hK7=>zl (zG fun _ hK8=>?_))
   obtain ⟨ad1,hd1⟩:=hlA (ne_nil (i:=k) (by first | omega | (simp <;> omega)))
   refine zB (vC (i:=k) rfl hd1 rfl (by omega) (by first | omega | (simp <;> omega)) underlying48 inf163) ?_
   obtain ⟨s1,hs1⟩:∃ x,l[k]?=some x:=⟨_,List.getElem?_eq_getElem (by first | omega | (simp <;> omega))⟩
   refine zB (uG 1 [iV s1.at_,iV s1.sum.count,iV s1.sum.total,iV s1.sum.min,iV s1.sum.max,iV s1.sum.first,iV s1.sum.last,iV s1.sum.rise] rfl rfl hd1 hs1 rfl rfl agg163 inf163) (zy wn inf163 rfl fun b7=>zn 0 wn rfl rfl rfl inf163 rfl rfl rfl (zD hK8 (zG fun _ hK9=>zB (zc rfl fld163_0) (zB (zi 0 rfl rfl rfl flat3) (zB (zc rfl fld217_1) (zB (zi 1 rfl rfl rfl flat3) (zB (vn rfl rfl) (zE rfl (yQ (t:=19) rfl (fun h2=>?_) (fun h2=>?_))))))))))
   · refine zd (zc rfl fld163_0) (zd (zi 0 rfl rfl rfl flat3) (zd (zc rfl fld217_2) (zd (zi 1 rfl rfl rfl flat3) (zd (yR rfl rfl) (zB (zP rfl rfl) (zD hK9 (za rfl (fun h3=>?_) (fun h3=>?_))))))))
     · refine zL (zE rfl (zB (zz rfl rfl (by omega)) (zO rfl (zj (zm (yC hK7 (zL (zB (zz rfl rfl (by omega)) (zE rfl ?_)))))))))
       have hst:=(Sh.bIn_succ (a:=p.frm) (b:=p.to) hs1).trans (if_pos (by omega))
       refine zj (yd (k + 1) (sc rfl (sc (ji (by first | omega | rfl | (rw [hst]; simp) | (rw [hst]))) (sc rfl (sc rfl (sc (ji (by first | omega | rfl | (rw [hst]; simp) | (rw [hst]))) sn))))) (S9 [1,2]) ?_ ?_)
       · omega
       omega
     refine yV (zm (yC hK7 (zL (zB (zz rfl rfl (by omega)) (zE rfl ?_)))))
     have hst:=(Sh.bIn_succ (a:=p.frm) (b:=p.to) hs1).trans (if_neg (by omega))
     refine zj (yd (k + 1) (sc rfl (sc (ji (by first | omega | rfl | (rw [hst]; simp) | (rw [hst]))) (sc rfl (sc rfl (sc (ji (by first | omega | rfl | (rw [hst]; simp) | (rw [hst]))) sn))))) (S9 [1,2]) ?_ ?_)
     · omega
     omega
   refine zW (zW (zW (zW (zW (zB (zP rfl rfl) (zD hK9 (yu rfl rfl (yV (zm (yC hK7 (zL (zB (zz rfl rfl (by omega)) (zE rfl ?_)))))))))))))
   have hst:=(Sh.bIn_succ (a:=p.frm) (b:=p.to) hs1).trans (if_neg (by omega))
   refine zj (yd (k + 1) (sc rfl (sc (ji (by first | omega | rfl | (rw [hst]; simp) | (rw [hst]))) (sc rfl (sc rfl (sc (ji (by first | omega | rfl | (rw [hst]; simp) | (rw [hst]))) sn))))) (S9 [1,2]) ?_ ?_)
   · omega
   omega
 refine yc (yH (yn (yJ (yC hK3 (zG fun _ hK10=>zE rfl (zO rfl (zD hK10 (zV (zY (.inl rfl) results165 (zQ rfl) fun w1 hM=>?_)))))))))
 exact zq (congrArg (Value.int .i64) (by rw [List.take_of_length_le (by omega)])) hM
set_option maxHeartbeats 4000000 in
theorem c_choose (z0 : Value) (z1 : Value) (z2 : Value) (z3 : Value) (z : Shelf) (f : Int) (t : Int) (P0 : Nat → Prop) (w : World) (hP0 : ∀ b, P0 b → b < w.heap.size) (hz0 : zK P0 2 zk z0 z.zT w) (hz1 : zK P0 2 zr z1 z.raw w) (hz2 : zK P0 8 zU z2 z.fine w) (hz3 : zK P0 8 zU z3 z.coarse w)  :
    Calls prog 117 #[.agg (List.toArray [z0,z1,z2,z3,iV z.ze,iV z.zX,iV z.zI,iV z.zN,iV z.zH]),iV f,iV t] w (RetLT w 217 3 vX (Sh.choose z f t).1 (fun r=>.tuple [r,iV (Sh.choose z f t).2].toArray)):=by
 obtain ⟨z0A,z0c,rfl,hz0c,hz0m,hz0A⟩:=hz0.form
 obtain ⟨z1A,z1c,rfl,hz1c,hz1m,hz1A⟩:=hz1.form
 obtain ⟨z2A,z2c,rfl,hz2c,hz2m,hz2A⟩:=hz2.form
 obtain ⟨z3A,z3c,rfl,hz3c,hz3m,hz3A⟩:=hz3.form
 refine fstart (N:=99) (vals:=[.agg (List.toArray [.slice z0A z.zT.length z0c,.slice z1A z.raw.length z1c,.slice z2A z.fine.length z2c,.slice z3A z.coarse.length z3c,iV z.ze,iV z.zX,iV z.zI,iV z.zN,iV z.zH]),iV f,iV t]) (S:=Mem w ⟨no,P0⟩ [slP 2 zk (.slice z0A z.zT.length z0c) z.zT,slP 2 zr (.slice z1A z.raw.length z1c) z.raw,slP 8 zU (.slice z2A z.fine.length z2c) z.fine,slP 8 zU (.slice z3A z.coarse.length z3c) z.coarse]) func117 rfl rfl rfl (Mem.ofDatsP hP0 (dc (dlp hz0) (dc (dlp hz1) (dc (dlp hz2) (dc (dlp hz3) dn))))) (zG fun _ hK1=>vR wn rfl rfl fun b3=>vB (vX:Part→List Value) 217 3 (zO rfl (zO rfl (zD hK1 (zS fun _ hK2=>zG fun _ hK3=>zB (yM 1 [.slice z0A z.zT.length z0c,.slice z1A z.raw.length z1c,.slice z2A z.fine.length z2c,.slice z3A z.coarse.length z3c,iV z.ze,iV z.zX,iV z.zI,iV z.zN,iV z.zH] rfl rfl rfl rfl agg50 inf50) (yF wn rfl call21 rfl (fun w1 hM=>uX _ _ _ _ z (In w1) w1 (fun _ h=>h) (hM.slp 2 rfl) (hM.slp 3 rfl) (hM.slp 4 rfl) (hM.slp 5 rfl)) (zO rfl ?_)))))))
 refine zD hK3 (zG fun _ hK4=>zE rfl (zB (vH rfl rfl) (zD hK4 (za rfl (fun h1=>?_) (fun h1=>?_)))))
 · refine zG fun _ hK5=>zE rfl (vB (vX:Part→List Value) 217 3 (zO rfl (zO rfl (zD hK5 (zV (zJ (yT (.inl rfl) results117 (zQ rfl) (zQ rfl) fun w1 hM=>?_)))))))
   have he:Sh.choose z f t=(([]:List Part),(Sh.wrong z)):=Sh.choose_wrong h1
   exact hM.jz 0 rfl (by rw [he]) (by rw [he])
 have hs2:Roll.step 2=60:=rfl
 have hs1_:Roll.step 1=10:=rfl
 have hs0:Roll.step 0=0:=rfl
 refine yL hK2 (zS fun _ hK6=>vm [(1,iV f),(2,iV t),(3,.pointer (some ⟨b3,0,none⟩)),(31,.bool (decide ((f < 0)∨((t < f)∨(1000000 < t)))))] (Mem w ⟨no,P0⟩ [Row (Zs) 217 3 vX ([]:List Part),.blk b3 [.slice z0A z.zT.length z0c,.slice z1A z.raw.length z1c,.slice z2A z.fine.length z2c,.slice z3A z.coarse.length z3c,iV z.ze,iV z.zX,iV z.zI,iV z.zN,iV z.zH] 50,slP 2 zk (.slice z0A z.zT.length z0c) z.zT,slP 2 zr (.slice z1A z.raw.length z1c) z.raw,slP 8 zU (.slice z2A z.fine.length z2c) z.fine,slP 8 zU (.slice z3A z.coarse.length z3c) z.coarse]) (fun _ hK7=>?_) ?_)
 · refine zL (zE rfl (zB (yR rfl rfl) (zE rfl (yQ (t:=23) rfl (fun h2=>?_) (fun h2=>?_)))))
   · refine zW (zW (zW (zB (zP rfl rfl) (zE rfl (zW (zW (zB (zP rfl rfl) ?_)))))))
     refine zj (yi hK7 (sc rfl (sc rfl (sc rfl (sc (jt (Or.inl h2)) sn)))) (fun _ h=>h))
   refine zd (zg rfl) (zd (zg rfl) (zd (y8 rfl rfl) (zB (zP rfl rfl) (zE rfl (yQ (t:=28) rfl (fun h3=>?_) (fun h3=>?_))))))
   · refine zW (zW (zB (zP rfl rfl) ?_))
     refine zj (yi hK7 (sc rfl (sc rfl (sc rfl (sc (jt (Or.inr (Or.inl h3))) sn)))) (fun _ h=>h))
   refine zd (zg rfl) (zd (y8 rfl rfl) (zB (zP rfl rfl) ?_))
   refine zj (yi hK7 (sc rfl (sc rfl (sc rfl (sc (jp (iff_or_right h2 (iff_or_right h3 Iff.rfl))) sn)))) (fun _ h=>h))
 refine za rfl (fun h4=>?_) (fun h4=>?_)
 · refine zG fun _ hK8=>vB (vX:Part→List Value) 217 3 (zO rfl (zO rfl (zD hK8 (zV (zJ (yT (.inl rfl) results117 (zQ rfl) (zQ rfl) fun w1 hM=>?_))))))
   have he:Sh.choose z f t=(([]:List Part),3):=Sh.choose_range h1 (by omega)
   exact hM.jz 0 rfl (by rw [he]) (by rw [he])
 refine yL hK6 (zG fun _ hK9=>vB (vX:Part→List Value) 217 3 (zO rfl (zD hK9 (zS fun _ hK10=>zl (u7 (fun (g:Int) (out:List Part) (vr:Value)=>[(1,iV g),(2,iV t),(3,.pointer (some ⟨b3,0,none⟩)),(9,vr)]) (fun (g:Int) (out:List Part) (vr:Value)=>[Row vr 217 3 vX out,Row (Zs) 217 3 vX ([]:List Part),.blk b3 [.slice z0A z.zT.length z0c,.slice z1A z.raw.length z1c,.slice z2A z.fine.length z2c,.slice z3A z.coarse.length z3c,iV z.ze,iV z.zX,iV z.zI,iV z.zN,iV z.zH] 50,slP 2 zk (.slice z0A z.zT.length z0c) z.zT,slP 2 zr (.slice z1A z.raw.length z1c) z.raw,slP 8 zU (.slice z2A z.fine.length z2c) z.fine,slP 8 zU (.slice z3A z.coarse.length z3c) z.coarse]) (fun (g:Int) (out:List Part) (vr:Value)=>(Sh.chooseL z f t []=Sh.chooseL z g t out)∧0≤g∧g≤t∧(out.length:Int)≤g) (fun (g:Int) (out:List Part) (vr:Value)=>(t - g).toNat) f [] (Zs) (sc rfl (sc rfl (sc rfl (sc rfl sn)))) (fun _ h=>h) ?_ (fun g out vr hI1=>?_))))))
 · exact ⟨rfl,by omega,by omega,by simp; omega⟩
 refine vV 0 (l:=out) rfl fun A1 cp1 hv1 hc1 hm1 hA1=>?_
 subst hv1
 refine zS fun _ hK11=>zG fun _ hK12=>zE rfl (zE rfl (zB (yR rfl rfl) (zD hK12 (za rfl (fun h5=>?_) (fun h5=>?_)))))
 · refine yL hK11 (zl (zG fun _ hK13=>zB (zw [iV (-1),iV 0,iV 0] pl217 inf217 rfl rfl) (zy wn inf217 rfl fun b10=>zn 0 wn rfl rfl rfl inf217 rfl rfl rfl (zD hK13 (zS fun _ hK14=>zG fun _ hK15=>yt intE ([2,1,0]:List Int) wn underlying37 inf3 rfl rfl rfl rfl (by decide) (by decide) rfl fun b36=>zB (yg rfl underlying37) (zE rfl ?_))))))
   refine zD hK15 (zl (c_enter (jO fun _ hK16=>zG fun _ hK17=>zB (yR rfl rfl) (zD hK17 (zS fun _ hK18=>y6 rfl (decide_eq_true (by decide)) (yL hK18 (zS fun _ hK19=>zl ?_)))))))
   refine zG fun _ hK20=>zB (vC (i:=0) rfl rfl rfl (by omega) (by first | omega | decide) underlying37 inf3) (zB (uz 0 encInt rfl rfl rfl (show ([2,1,0]:List Int)[0]?=some 2 from rfl) rfl flat3) (zO rfl (zD hK20 (zG fun _ hK21=>zE rfl (zE rfl (yF wn rfl call93 rfl (fun w1 hM=>jI 2 w1) (zB (zz rfl rfl (by omega)) (zO rfl (zD hK21 ?_)))))))))
   refine zS fun _ hK22=>zG fun _ hK23=>zE rfl (zB (yj rfl rfl) (zD hK23 (yu rfl (decide_eq_false (by decide)) (yL hK22 (zG fun _ hK24=>zE rfl (zE rfl (zE rfl (zB (zw [iV 2,iV g,iV (g + (Roll.step 2))] pl217 inf217 rfl rfl) ?_))))))))
   refine zy wn inf217 rfl fun b14=>zn 0 wn rfl rfl rfl inf217 rfl rfl rfl (zD hK24 (vm [(1,iV g),(2,iV t),(3,.pointer (some ⟨b3,0,none⟩)),(9,.slice A1 out.length cp1),(10,.pointer (some ⟨b10,0,none⟩)),(14,.pointer (some ⟨b14,0,none⟩)),(36,.slice (some ⟨b36,0,none⟩) 3 3),(37,iV 3),(38,iV 0),(65,.bool (decide (((g + (Roll.step 2))≤t)∧(Sh.may z (⟨2,g,(g + (Roll.step 2))⟩:Part)))))] (Mem w ⟨no,P0⟩ [.blk b14 [iV 2,iV g,iV (g + (Roll.step 2))] 217,Row (.slice (some ⟨b36,0,none⟩) 3 3) 3 1 intE ([2,1,0]:List Int),.blk b10 [iV (-1),iV 0,iV 0] 217,Row (.slice A1 out.length cp1) 217 3 vX out,Row (Zs) 217 3 vX ([]:List Part),.blk b3 [.slice z0A z.zT.length z0c,.slice z1A z.raw.length z1c,.slice z2A z.fine.length z2c,.slice z3A z.coarse.length z3c,iV z.ze,iV z.zX,iV z.zI,iV z.zN,iV z.zH] 50,slP 2 zk (.slice z0A z.zT.length z0c) z.zT,slP 2 zr (.slice z1A z.raw.length z1c) z.raw,slP 8 zU (.slice z2A z.fine.length z2c) z.fine,slP 8 zU (.slice z3A z.coarse.length z3c) z.coarse]) (fun _ hK25=>?_) ?_))
   · refine zL (zE rfl (zE rfl (zB (ug rfl rfl) (zE rfl (yQ (t:=62) rfl (fun h6=>?_) (fun h6=>?_))))))
     · refine zd (yM 0 [iV 2,iV g,iV (g + (Roll.step 2))] rfl rfl rfl rfl agg217 inf217) (yF (wg rfl rfl rfl) rfl call163 rfl (fun w1 hM=>gA b3 _ _ _ _ z (⟨2,g,(g + (Roll.step 2))⟩:Part) w1 (hM.blk (i:=5) rfl)) (zB (zP rfl rfl) ?_))
       refine zj (yi hK25 (sc rfl (sc rfl (sc rfl (sc rfl (sc rfl (sc rfl (sc rfl (sc rfl (sc rfl (sc (jp (iff_and_right h6 Iff.rfl)) sn)))))))))) (fun _ h=>h))
     refine zW (zW (zB (zP rfl rfl) ?_))
     refine zj (yi hK25 (sc rfl (sc rfl (sc rfl (sc rfl (sc rfl (sc rfl (sc rfl (sc rfl (sc rfl (sc (jf (fun g=>h6 g.1)) sn)))))))))) (fun _ h=>h))
   refine za rfl (fun h7=>?_) (fun h7=>?_)
   · refine zG fun _ hK26=>zB (yM 0 [iV 2,iV g,iV (g + (Roll.step 2))] rfl rfl rfl rfl agg217 inf217) (zn 2 wn rfl rfl rfl inf217 rfl rfl rfl (zD hK26 (yc (ul rfl (yH (yH (yJ (yC hK14 (zS fun _ hK27=>zG fun _ hK28=>zB (zc rfl fld217_0) (zB (zi 2 rfl rfl rfl flat3) (zB (yR rfl rfl) (zD hK28 (yu rfl (decide_eq_false (by decide)) ?_)))))))))))))
     refine yL hK27 (zS fun _ hK29=>zG fun _ hK30=>zE rfl (zB (yg rfl underlying152) (zB (vl rfl rfl (by omega)) (zO rfl (zD hK30 (zS fun _ hK31=>vN mix (by kernel_rfl) (fun _ h=>h.drew) (yq rfl (zt (vn rfl rfl) ?_))))))))
     refine yq rfl (vg (t:=76) rfl (fun h8=>?_) (fun h8=>?_))
     · refine yK (zg rfl) (yK (zg rfl) ?_)
       obtain ⟨ad1,hd1⟩:=hA1 (ne_nil (i:=(out.length - 1)) (by first | omega | decide))
       refine yK (vC (i:=(out.length - 1)) rfl hd1 rfl (by omega) (by first | omega | decide) underlying152 inf217) (yK (y0 rfl fld217_0) ?_)
       obtain ⟨s1,hs1⟩:∃ x,out[(out.length - 1)]?=some x:=⟨_,List.getElem?_eq_getElem (by first | omega | decide)⟩
       refine yK (uz 3 encPart rfl rfl hd1 hs1 rfl flat3) (yK (zc rfl fld217_0) (yK (zi 2 rfl rfl rfl flat3) (yK (yj rfl rfl) (zt (zP rfl rfl) (vI (yC hK31 (za rfl (fun h9=>?_) (fun h9=>?_))))))))
       · refine zL (zE rfl (zE rfl (zB (zc rfl fld217_2) (zB (zi 2 rfl rfl rfl flat3) (zB (vC (i:=(out.length - 1)) rfl hd1 rfl (by omega) (by first | omega | decide) underlying152 inf217) (zB (y0 rfl fld217_2) (uw 3 (vs:=[iV (g + (Roll.step 2))]) (⟨s1.tier,s1.frm,(g + (Roll.step 2))⟩:Part) encPart wn rfl rfl rfl rfl hd1 hs1 inf3 rfl rfl rfl rfl (zD hK29 (zL (zB (zc rfl fld217_2) (zB (zi 2 rfl rfl rfl flat3) ?_)))))))))))
         refine zO rfl (zj (zm (vJ (g + (Roll.step 2)) (out.set (out.length - 1) (⟨s1.tier,s1.frm,(g + (Roll.step 2))⟩:Part)) (.slice A1 out.length cp1) (sc rfl (sc rfl (sc rfl (sc rfl sn)))) (S9 [3,4,5,6,7,8,9]) ?_ ?_)))
         · have hp:Sh.pick z g t=(⟨2,g,(g + (Roll.step 2))⟩:Part):=Sh.pick_2 (z:=z) (f:=g) (t:=t) h7.1 h7.2
           have hpt:¬ (Sh.pick z g t).tier < 0:=by rw [hp]; dsimp only; omega
           have hto:=Sh.pick_to hpt
           have hnx:=hI1.1.trans (Sh.chooseL_next (out:=out) (by omega) hpt)
           have hpl:=Sh.push_len out (Sh.pick z g t)
           rw [hp] at hto hnx hpl
           have hpu:Sh.push out _=_:=Sh.push_last (p:=(⟨2,g,(g + (Roll.step 2))⟩:Part)) hs1 h9
           rw [hpu] at hnx hpl
           try dsimp only at hto
           try dsimp only at hnx
           try dsimp only at hpl
           exact ⟨hnx,by omega,by omega,by omega⟩
         have hp:Sh.pick z g t=(⟨2,g,(g + (Roll.step 2))⟩:Part):=Sh.pick_2 (z:=z) (f:=g) (t:=t) h7.1 h7.2
         have hpt:¬ (Sh.pick z g t).tier < 0:=by rw [hp]; dsimp only; omega
         have hto:=Sh.pick_to hpt
         rw [hp] at hto
         try dsimp only at hto
         omega
       refine zL (zE rfl (zB (yM 2 [iV 2,iV g,iV (g + (Roll.step 2))] rfl rfl rfl rfl agg217 inf217) (yt vX ([(⟨2,g,(g + (Roll.step 2))⟩:Part)]:List Part) wn underlying152 inf217 rfl rfl rfl rfl (by decide) (by decide) rfl fun b94=>vD 4 out ([(⟨2,g,(g + (Roll.step 2))⟩:Part)]:List Part) encPart wn rfl rfl rfl (fun _ hM=>(RowSl encPart hM 0 rfl)) underlying152 inf217 rfl rfl (by first | omega | (simp only [List.length_append,List.length_cons,List.length_nil]; omega)) rfl fun A2 cp2 hc2 hm2 hA2=>zO rfl (zD hK29 (zL (zB (zc rfl fld217_2) (zB (zi 3 rfl rfl rfl flat3) (zO rfl (zj (zm (vJ (g + (Roll.step 2)) (out++([(⟨2,g,(g + (Roll.step 2))⟩:Part)]:List Part)) (.slice A2 ((out++([(⟨2,g,(g + (Roll.step 2))⟩:Part)]:List Part)).length) cp2) (sc rfl (sc rfl (sc rfl (sc rfl sn)))) (S9 [4,5,6,7,8,9,10]) ?_ ?_)))))))))))
       · have hp:Sh.pick z g t=(⟨2,g,(g + (Roll.step 2))⟩:Part):=Sh.pick_2 (z:=z) (f:=g) (t:=t) h7.1 h7.2
         have hpt:¬ (Sh.pick z g t).tier < 0:=by rw [hp]; dsimp only; omega
         have hto:=Sh.pick_to hpt
         have hnx:=hI1.1.trans (Sh.chooseL_next (out:=out) (by omega) hpt)
         have hpl:=Sh.push_len out (Sh.pick z g t)
         rw [hp] at hto hnx hpl
         have hpu:Sh.push out _=_:=Sh.push_new (p:=(⟨2,g,(g + (Roll.step 2))⟩:Part)) hs1 h9
         rw [hpu] at hnx hpl
         try dsimp only at hto
         try dsimp only at hnx
         try dsimp only at hpl
         exact ⟨hnx,by omega,by omega,by omega⟩
       have hp:Sh.pick z g t=(⟨2,g,(g + (Roll.step 2))⟩:Part):=Sh.pick_2 (z:=z) (f:=g) (t:=t) h7.1 h7.2
       have hpt:¬ (Sh.pick z g t).tier < 0:=by rw [hp]; dsimp only; omega
       have hto:=Sh.pick_to hpt
       rw [hp] at hto
       try dsimp only at hto
       omega
     refine yA (yA (yA (yA (yA (yA (yA (yA (zt (zP rfl rfl) (vI (yC hK31 (yu rfl rfl (zL ?_))))))))))))
     refine zE rfl (zB (yM 2 [iV 2,iV g,iV (g + (Roll.step 2))] rfl rfl rfl rfl agg217 inf217) (yt vX ([(⟨2,g,(g + (Roll.step 2))⟩:Part)]:List Part) wn underlying152 inf217 rfl rfl rfl rfl (by decide) (by decide) rfl fun b94=>vD 4 out ([(⟨2,g,(g + (Roll.step 2))⟩:Part)]:List Part) encPart wn rfl rfl rfl (fun _ hM=>(RowSl encPart hM 0 rfl)) underlying152 inf217 rfl rfl (by first | omega | (simp only [List.length_append,List.length_cons,List.length_nil]; omega)) rfl fun A3 cp3 hc3 hm3 hA3=>zO rfl (zD hK29 (zL (zB (zc rfl fld217_2) (zB (zi 3 rfl rfl rfl flat3) (zO rfl (zj (zm (vJ (g + (Roll.step 2)) (out++([(⟨2,g,(g + (Roll.step 2))⟩:Part)]:List Part)) (.slice A3 ((out++([(⟨2,g,(g + (Roll.step 2))⟩:Part)]:List Part)).length) cp3) (sc rfl (sc rfl (sc rfl (sc rfl sn)))) (S9 [4,5,6,7,8,9,10]) ?_ ?_))))))))))
     · have hp:Sh.pick z g t=(⟨2,g,(g + (Roll.step 2))⟩:Part):=Sh.pick_2 (z:=z) (f:=g) (t:=t) h7.1 h7.2
       have hpt:¬ (Sh.pick z g t).tier < 0:=by rw [hp]; dsimp only; omega
       have hto:=Sh.pick_to hpt
       have hnx:=hI1.1.trans (Sh.chooseL_next (out:=out) (by omega) hpt)
       have hpl:=Sh.push_len out (Sh.pick z g t)
       rw [hp] at hto hnx hpl
       have hpu:Sh.push out _=_:=Sh.push_nil (p:=(⟨2,g,(g + (Roll.step 2))⟩:Part)) (by omega)
       rw [hpu] at hnx hpl
       try dsimp only at hto
       try dsimp only at hnx
       try dsimp only at hpl
       exact ⟨hnx,by omega,by omega,by omega⟩
     have hp:Sh.pick z g t=(⟨2,g,(g + (Roll.step 2))⟩:Part):=Sh.pick_2 (z:=z) (f:=g) (t:=t) h7.1 h7.2
     have hpt:¬ (Sh.pick z g t).tier < 0:=by rw [hp]; dsimp only; omega
     have hto:=Sh.pick_to hpt
     rw [hp] at hto
     try dsimp only at hto
     omega
   refine yV (zm (yC hK19 (zL (zB (zz rfl rfl (by omega)) (zE rfl (zj (gK hK16 (jO fun _ hK32=>zG fun _ hK33=>zB (yR rfl rfl) (zD hK33 (zS fun _ hK34=>y6 rfl (decide_eq_true (by decide)) (yL hK34 ?_)))))))))))
   refine zS fun _ hK35=>zl (zG fun _ hK36=>zB (vC (i:=1) rfl rfl rfl (by omega) (by first | omega | decide) underlying37 inf3) (zB (uz 1 encInt rfl rfl rfl (show ([2,1,0]:List Int)[1]?=some 1 from rfl) rfl flat3) (zO rfl (zD hK36 (zG fun _ hK37=>zE rfl (zE rfl (yF wn rfl call93 rfl (fun w1 hM=>jI 1 w1) (zB (zz rfl rfl (by omega)) ?_))))))))
   refine zO rfl (zD hK37 (zS fun _ hK38=>zG fun _ hK39=>zE rfl (zB (yj rfl rfl) (zD hK39 (yu rfl (decide_eq_false (by decide)) (yL hK38 (zG fun _ hK40=>zE rfl (zE rfl ?_))))))))
   refine zE rfl (zB (zw [iV 1,iV g,iV (g + (Roll.step 1))] pl217 inf217 rfl rfl) (zy wn inf217 rfl fun b14_1=>zn 0 wn rfl rfl rfl inf217 rfl rfl rfl (zD hK40 (vm [(1,iV g),(2,iV t),(3,.pointer (some ⟨b3,0,none⟩)),(9,.slice A1 out.length cp1),(10,.pointer (some ⟨b10,0,none⟩)),(14,.pointer (some ⟨b14_1,0,none⟩)),(36,.slice (some ⟨b36,0,none⟩) 3 3),(37,iV 3),(38,iV 1),(65,.bool (decide (((g + (Roll.step 1))≤t)∧(Sh.may z (⟨1,g,(g + (Roll.step 1))⟩:Part)))))] (Mem w ⟨no,P0⟩ [.blk b14_1 [iV 1,iV g,iV (g + (Roll.step 1))] 217,.blk b14 [iV 2,iV g,iV (g + (Roll.step 2))] 217,Row (.slice (some ⟨b36,0,none⟩) 3 3) 3 1 intE ([2,1,0]:List Int),.blk b10 [iV (-1),iV 0,iV 0] 217,Row (.slice A1 out.length cp1) 217 3 vX out,Row (Zs) 217 3 vX ([]:List Part),.blk b3 [.slice z0A z.zT.length z0c,.slice z1A z.raw.length z1c,.slice z2A z.fine.length z2c,.slice z3A z.coarse.length z3c,iV z.ze,iV z.zX,iV z.zI,iV z.zN,iV z.zH] 50,slP 2 zk (.slice z0A z.zT.length z0c) z.zT,slP 2 zr (.slice z1A z.raw.length z1c) z.raw,slP 8 zU (.slice z2A z.fine.length z2c) z.fine,slP 8 zU (.slice z3A z.coarse.length z3c) z.coarse]) (fun _ hK41=>?_) ?_))))
   · refine zL (zE rfl (zE rfl (zB (ug rfl rfl) (zE rfl (yQ (t:=62) rfl (fun h10=>?_) (fun h10=>?_))))))
     · refine zd (yM 0 [iV 1,iV g,iV (g + (Roll.step 1))] rfl rfl rfl rfl agg217 inf217) (yF (wg rfl rfl rfl) rfl call163 rfl (fun w1 hM=>gA b3 _ _ _ _ z (⟨1,g,(g + (Roll.step 1))⟩:Part) w1 (hM.blk (i:=6) rfl)) (zB (zP rfl rfl) ?_))
       refine zj (yi hK41 (sc rfl (sc rfl (sc rfl (sc rfl (sc rfl (sc rfl (sc rfl (sc rfl (sc rfl (sc (jp (iff_and_right h10 Iff.rfl)) sn)))))))))) (fun _ h=>h))
     refine zW (zW (zB (zP rfl rfl) ?_))
     refine zj (yi hK41 (sc rfl (sc rfl (sc rfl (sc rfl (sc rfl (sc rfl (sc rfl (sc rfl (sc rfl (sc (jf (fun g=>h10 g.1)) sn)))))))))) (fun _ h=>h))
   refine za rfl (fun h11=>?_) (fun h11=>?_)
   · refine zG fun _ hK42=>zB (yM 0 [iV 1,iV g,iV (g + (Roll.step 1))] rfl rfl rfl rfl agg217 inf217) (zn 3 wn rfl rfl rfl inf217 rfl rfl rfl (zD hK42 (yc (ul rfl (yH (yH (yJ (yC hK14 (zS fun _ hK43=>zG fun _ hK44=>zB (zc rfl fld217_0) (zB (zi 3 rfl rfl rfl flat3) (zB (yR rfl rfl) (zD hK44 (yu rfl (decide_eq_false (by decide)) ?_)))))))))))))
     refine yL hK43 (zS fun _ hK45=>zG fun _ hK46=>zE rfl (zB (yg rfl underlying152) (zB (vl rfl rfl (by omega)) (zO rfl (zD hK46 (zS fun _ hK47=>vN mix (by kernel_rfl) (fun _ h=>h.drew) (yq rfl (zt (vn rfl rfl) ?_))))))))
     refine yq rfl (vg (t:=76) rfl (fun h12=>?_) (fun h12=>?_))
     · refine yK (zg rfl) (yK (zg rfl) ?_)
       obtain ⟨ad2,hd2⟩:=hA1 (ne_nil (i:=(out.length - 1)) (by first | omega | decide))
       refine yK (vC (i:=(out.length - 1)) rfl hd2 rfl (by omega) (by first | omega | decide) underlying152 inf217) (yK (y0 rfl fld217_0) ?_)
       obtain ⟨s2,hs2⟩:∃ x,out[(out.length - 1)]?=some x:=⟨_,List.getElem?_eq_getElem (by first | omega | decide)⟩
       refine yK (uz 4 encPart rfl rfl hd2 hs2 rfl flat3) (yK (zc rfl fld217_0) (yK (zi 3 rfl rfl rfl flat3) (yK (yj rfl rfl) (zt (zP rfl rfl) (vI (yC hK47 (za rfl (fun h13=>?_) (fun h13=>?_))))))))
       · refine zL (zE rfl (zE rfl (zB (zc rfl fld217_2) (zB (zi 3 rfl rfl rfl flat3) (zB (vC (i:=(out.length - 1)) rfl hd2 rfl (by omega) (by first | omega | decide) underlying152 inf217) (zB (y0 rfl fld217_2) (uw 4 (vs:=[iV (g + (Roll.step 1))]) (⟨s2.tier,s2.frm,(g + (Roll.step 1))⟩:Part) encPart wn rfl rfl rfl rfl hd2 hs2 inf3 rfl rfl rfl rfl (zD hK45 (zL (zB (zc rfl fld217_2) (zB (zi 3 rfl rfl rfl flat3) ?_)))))))))))
         refine zO rfl (zj (zm (vJ (g + (Roll.step 1)) (out.set (out.length - 1) (⟨s2.tier,s2.frm,(g + (Roll.step 1))⟩:Part)) (.slice A1 out.length cp1) (sc rfl (sc rfl (sc rfl (sc rfl sn)))) (S9 [4,5,6,7,8,9,10]) ?_ ?_)))
         · have hp:Sh.pick z g t=(⟨1,g,(g + (Roll.step 1))⟩:Part):=Sh.pick_1 (z:=z) (f:=g) (t:=t) h7 h11.1 h11.2
           have hpt:¬ (Sh.pick z g t).tier < 0:=by rw [hp]; dsimp only; omega
           have hto:=Sh.pick_to hpt
           have hnx:=hI1.1.trans (Sh.chooseL_next (out:=out) (by omega) hpt)
           have hpl:=Sh.push_len out (Sh.pick z g t)
           rw [hp] at hto hnx hpl
           have hpu:Sh.push out _=_:=Sh.push_last (p:=(⟨1,g,(g + (Roll.step 1))⟩:Part)) hs2 h13
           rw [hpu] at hnx hpl
           try dsimp only at hto
           try dsimp only at hnx
           try dsimp only at hpl
           exact ⟨hnx,by omega,by omega,by omega⟩
         have hp:Sh.pick z g t=(⟨1,g,(g + (Roll.step 1))⟩:Part):=Sh.pick_1 (z:=z) (f:=g) (t:=t) h7 h11.1 h11.2
         have hpt:¬ (Sh.pick z g t).tier < 0:=by rw [hp]; dsimp only; omega
         have hto:=Sh.pick_to hpt
         rw [hp] at hto
         try dsimp only at hto
         omega
       refine zL (zE rfl (zB (yM 3 [iV 1,iV g,iV (g + (Roll.step 1))] rfl rfl rfl rfl agg217 inf217) (yt vX ([(⟨1,g,(g + (Roll.step 1))⟩:Part)]:List Part) wn underlying152 inf217 rfl rfl rfl rfl (by decide) (by decide) rfl fun b94=>vD 5 out ([(⟨1,g,(g + (Roll.step 1))⟩:Part)]:List Part) encPart wn rfl rfl rfl (fun _ hM=>(RowSl encPart hM 0 rfl)) underlying152 inf217 rfl rfl (by first | omega | (simp only [List.length_append,List.length_cons,List.length_nil]; omega)) rfl fun A4 cp4 hc4 hm4 hA4=>zO rfl (zD hK45 (zL (zB (zc rfl fld217_2) (zB (zi 4 rfl rfl rfl flat3) (zO rfl (zj (zm (vJ (g + (Roll.step 1)) (out++([(⟨1,g,(g + (Roll.step 1))⟩:Part)]:List Part)) (.slice A4 ((out++([(⟨1,g,(g + (Roll.step 1))⟩:Part)]:List Part)).length) cp4) (sc rfl (sc rfl (sc rfl (sc rfl sn)))) (S9 [5,6,7,8,9,10,11]) ?_ ?_)))))))))))
       · have hp:Sh.pick z g t=(⟨1,g,(g + (Roll.step 1))⟩:Part):=Sh.pick_1 (z:=z) (f:=g) (t:=t) h7 h11.1 h11.2
         have hpt:¬ (Sh.pick z g t).tier < 0:=by rw [hp]; dsimp only; omega
         have hto:=Sh.pick_to hpt
         have hnx:=hI1.1.trans (Sh.chooseL_next (out:=out) (by omega) hpt)
         have hpl:=Sh.push_len out (Sh.pick z g t)
         rw [hp] at hto hnx hpl
         have hpu:Sh.push out _=_:=Sh.push_new (p:=(⟨1,g,(g + (Roll.step 1))⟩:Part)) hs2 h13
         rw [hpu] at hnx hpl
         try dsimp only at hto
         try dsimp only at hnx
         try dsimp only at hpl
         exact ⟨hnx,by omega,by omega,by omega⟩
       have hp:Sh.pick z g t=(⟨1,g,(g + (Roll.step 1))⟩:Part):=Sh.pick_1 (z:=z) (f:=g) (t:=t) h7 h11.1 h11.2
       have hpt:¬ (Sh.pick z g t).tier < 0:=by rw [hp]; dsimp only; omega
       have hto:=Sh.pick_to hpt
       rw [hp] at hto
       try dsimp only at hto
       omega
     refine yA (yA (yA (yA (yA (yA (yA (yA (zt (zP rfl rfl) (vI (yC hK47 (yu rfl rfl (zL ?_))))))))))))
     refine zE rfl (zB (yM 3 [iV 1,iV g,iV (g + (Roll.step 1))] rfl rfl rfl rfl agg217 inf217) (yt vX ([(⟨1,g,(g + (Roll.step 1))⟩:Part)]:List Part) wn underlying152 inf217 rfl rfl rfl rfl (by decide) (by decide) rfl fun b94=>vD 5 out ([(⟨1,g,(g + (Roll.step 1))⟩:Part)]:List Part) encPart wn rfl rfl rfl (fun _ hM=>(RowSl encPart hM 0 rfl)) underlying152 inf217 rfl rfl (by first | omega | (simp only [List.length_append,List.length_cons,List.length_nil]; omega)) rfl fun A5 cp5 hc5 hm5 hA5=>zO rfl (zD hK45 (zL (zB (zc rfl fld217_2) (zB (zi 4 rfl rfl rfl flat3) (zO rfl (zj (zm (vJ (g + (Roll.step 1)) (out++([(⟨1,g,(g + (Roll.step 1))⟩:Part)]:List Part)) (.slice A5 ((out++([(⟨1,g,(g + (Roll.step 1))⟩:Part)]:List Part)).length) cp5) (sc rfl (sc rfl (sc rfl (sc rfl sn)))) (S9 [5,6,7,8,9,10,11]) ?_ ?_))))))))))
     · have hp:Sh.pick z g t=(⟨1,g,(g + (Roll.step 1))⟩:Part):=Sh.pick_1 (z:=z) (f:=g) (t:=t) h7 h11.1 h11.2
       have hpt:¬ (Sh.pick z g t).tier < 0:=by rw [hp]; dsimp only; omega
       have hto:=Sh.pick_to hpt
       have hnx:=hI1.1.trans (Sh.chooseL_next (out:=out) (by omega) hpt)
       have hpl:=Sh.push_len out (Sh.pick z g t)
       rw [hp] at hto hnx hpl
       have hpu:Sh.push out _=_:=Sh.push_nil (p:=(⟨1,g,(g + (Roll.step 1))⟩:Part)) (by omega)
       rw [hpu] at hnx hpl
       try dsimp only at hto
       try dsimp only at hnx
       try dsimp only at hpl
       exact ⟨hnx,by omega,by omega,by omega⟩
     have hp:Sh.pick z g t=(⟨1,g,(g + (Roll.step 1))⟩:Part):=Sh.pick_1 (z:=z) (f:=g) (t:=t) h7 h11.1 h11.2
     have hpt:¬ (Sh.pick z g t).tier < 0:=by rw [hp]; dsimp only; omega
     have hto:=Sh.pick_to hpt
     rw [hp] at hto
     try dsimp only at hto
     omega
   refine yV (zm (yC hK35 (zL (zB (zz rfl rfl (by omega)) (zE rfl (zj (gK hK32 (jO fun _ hK48=>zG fun _ hK49=>zB (yR rfl rfl) (zD hK49 (zS fun _ hK50=>y6 rfl (decide_eq_true (by decide)) (yL hK50 ?_)))))))))))
   refine zS fun _ hK51=>zl (zG fun _ hK52=>zB (vC (i:=2) rfl rfl rfl (by omega) (by first | omega | decide) underlying37 inf3) (zB (uz 2 encInt rfl rfl rfl (show ([2,1,0]:List Int)[2]?=some 0 from rfl) rfl flat3) (zO rfl (zD hK52 (zG fun _ hK53=>zE rfl (zE rfl (yF wn rfl call93 rfl (fun w1 hM=>jI 0 w1) (zB (zz rfl rfl (by omega)) ?_))))))))
   refine zO rfl (zD hK53 (zS fun _ hK54=>zG fun _ hK55=>zE rfl (zB (yj rfl rfl) (zD hK55 (y6 rfl (decide_eq_true (by decide)) (zL (zE rfl (zE rfl (zB (jD rfl rfl (by omega) (by omega)) ?_)))))))))
   refine zB (vl rfl rfl (by omega)) (zB (zz rfl rfl (by omega)) (zE rfl (zB (jn (show _=(Sh.mn (g - g % 10 + 10) t) from rfl) (jY rfl rfl)) (zO rfl (zD hK54 (zG fun _ hK56=>zE rfl (zE rfl (zE rfl (zB (zw [iV 0,iV g,iV (Sh.mn (g - g % 10 + 10) t)] pl217 inf217 rfl rfl) (zy wn inf217 rfl fun b14_2=>?_))))))))))
   refine zn 0 wn rfl rfl rfl inf217 rfl rfl rfl (zD hK56 (vm [(1,iV g),(2,iV t),(3,.pointer (some ⟨b3,0,none⟩)),(9,.slice A1 out.length cp1),(10,.pointer (some ⟨b10,0,none⟩)),(14,.pointer (some ⟨b14_2,0,none⟩)),(36,.slice (some ⟨b36,0,none⟩) 3 3),(37,iV 3),(38,iV 2),(65,.bool (decide (((Sh.mn (g - g % 10 + 10) t)≤t)∧(Sh.may z (⟨0,g,(Sh.mn (g - g % 10 + 10) t)⟩:Part)))))] (Mem w ⟨no,P0⟩ [.blk b14_2 [iV 0,iV g,iV (Sh.mn (g - g % 10 + 10) t)] 217,.blk b14_1 [iV 1,iV g,iV (g + (Roll.step 1))] 217,.blk b14 [iV 2,iV g,iV (g + (Roll.step 2))] 217,Row (.slice (some ⟨b36,0,none⟩) 3 3) 3 1 intE ([2,1,0]:List Int),.blk b10 [iV (-1),iV 0,iV 0] 217,Row (.slice A1 out.length cp1) 217 3 vX out,Row (Zs) 217 3 vX ([]:List Part),.blk b3 [.slice z0A z.zT.length z0c,.slice z1A z.raw.length z1c,.slice z2A z.fine.length z2c,.slice z3A z.coarse.length z3c,iV z.ze,iV z.zX,iV z.zI,iV z.zN,iV z.zH] 50,slP 2 zk (.slice z0A z.zT.length z0c) z.zT,slP 2 zr (.slice z1A z.raw.length z1c) z.raw,slP 8 zU (.slice z2A z.fine.length z2c) z.fine,slP 8 zU (.slice z3A z.coarse.length z3c) z.coarse]) (fun _ hK57=>?_) ?_))
   · refine zL (zE rfl (zE rfl (zB (ug rfl rfl) (zE rfl (yQ (t:=62) rfl (fun h14=>?_) (fun h14=>?_))))))
     · refine zd (yM 0 [iV 0,iV g,iV (Sh.mn (g - g % 10 + 10) t)] rfl rfl rfl rfl agg217 inf217) (yF (wg rfl rfl rfl) rfl call163 rfl (fun w1 hM=>gA b3 _ _ _ _ z (⟨0,g,(Sh.mn (g - g % 10 + 10) t)⟩:Part) w1 (hM.blk (i:=7) rfl)) (zB (zP rfl rfl) ?_))
       refine zj (yi hK57 (sc rfl (sc rfl (sc rfl (sc rfl (sc rfl (sc rfl (sc rfl (sc rfl (sc rfl (sc (jp (iff_and_right h14 Iff.rfl)) sn)))))))))) (fun _ h=>h))
     refine zW (zW (zB (zP rfl rfl) ?_))
     refine zj (yi hK57 (sc rfl (sc rfl (sc rfl (sc rfl (sc rfl (sc rfl (sc rfl (sc rfl (sc rfl (sc (jf (fun g=>h14 g.1)) sn)))))))))) (fun _ h=>h))
   refine za rfl (fun h15=>?_) (fun h15=>?_)
   · refine zG fun _ hK58=>zB (yM 0 [iV 0,iV g,iV (Sh.mn (g - g % 10 + 10) t)] rfl rfl rfl rfl agg217 inf217) (zn 4 wn rfl rfl rfl inf217 rfl rfl rfl (zD hK58 (yc (ul rfl (yH (yH (yJ (yC hK14 (zS fun _ hK59=>zG fun _ hK60=>zB (zc rfl fld217_0) (zB (zi 4 rfl rfl rfl flat3) (zB (yR rfl rfl) (zD hK60 (yu rfl (decide_eq_false (by decide)) ?_)))))))))))))
     refine yL hK59 (zS fun _ hK61=>zG fun _ hK62=>zE rfl (zB (yg rfl underlying152) (zB (vl rfl rfl (by omega)) (zO rfl (zD hK62 (zS fun _ hK63=>vN mix (by kernel_rfl) (fun _ h=>h.drew) (yq rfl (zt (vn rfl rfl) ?_))))))))
     refine yq rfl (vg (t:=76) rfl (fun h16=>?_) (fun h16=>?_))
     · refine yK (zg rfl) (yK (zg rfl) ?_)
       obtain ⟨ad3,hd3⟩:=hA1 (ne_nil (i:=(out.length - 1)) (by first | omega | decide))
       refine yK (vC (i:=(out.length - 1)) rfl hd3 rfl (by omega) (by first | omega | decide) underlying152 inf217) (yK (y0 rfl fld217_0) ?_)
       obtain ⟨s3,hs3⟩:∃ x,out[(out.length - 1)]?=some x:=⟨_,List.getElem?_eq_getElem (by first | omega | decide)⟩
       refine yK (uz 5 encPart rfl rfl hd3 hs3 rfl flat3) (yK (zc rfl fld217_0) (yK (zi 4 rfl rfl rfl flat3) (yK (yj rfl rfl) (zt (zP rfl rfl) (vI (yC hK63 (za rfl (fun h17=>?_) (fun h17=>?_))))))))
       · refine zL (zE rfl (zE rfl (zB (zc rfl fld217_2) (zB (zi 4 rfl rfl rfl flat3) (zB (vC (i:=(out.length - 1)) rfl hd3 rfl (by omega) (by first | omega | decide) underlying152 inf217) (zB (y0 rfl fld217_2) (uw 5 (vs:=[iV (Sh.mn (g - g % 10 + 10) t)]) (⟨s3.tier,s3.frm,(Sh.mn (g - g % 10 + 10) t)⟩:Part) encPart wn rfl rfl rfl rfl hd3 hs3 inf3 rfl rfl rfl rfl (zD hK61 (zL (zB (zc rfl fld217_2) (zB (zi 4 rfl rfl rfl flat3) ?_)))))))))))
         refine zO rfl (zj (zm (vJ (Sh.mn (g - g % 10 + 10) t) (out.set (out.length - 1) (⟨s3.tier,s3.frm,(Sh.mn (g - g % 10 + 10) t)⟩:Part)) (.slice A1 out.length cp1) (sc rfl (sc rfl (sc rfl (sc rfl sn)))) (S9 [5,6,7,8,9,10,11]) ?_ ?_)))
         · have hp:=Sh.pick_0 (z:=z) (f:=g) (t:=t) h7 h11 h15.1 h15.2
           have hpt:¬ (Sh.pick z g t).tier < 0:=by rw [hp]; dsimp only; omega
           have hto:=Sh.pick_to hpt
           have hnx:=hI1.1.trans (Sh.chooseL_next (out:=out) (by omega) hpt)
           have hpl:=Sh.push_len out (Sh.pick z g t)
           rw [hp] at hto hnx hpl
           have hpu:Sh.push out _=_:=Sh.push_last (p:=(⟨0,g,(Sh.mn (g - g % 10 + 10) t)⟩:Part)) hs3 h17
           rw [hpu] at hnx hpl
           try dsimp only at hto
           try dsimp only at hnx
           try dsimp only at hpl
           exact ⟨hnx,by omega,by omega,by omega⟩
         have hp:=Sh.pick_0 (z:=z) (f:=g) (t:=t) h7 h11 h15.1 h15.2
         have hpt:¬ (Sh.pick z g t).tier < 0:=by rw [hp]; dsimp only; omega
         have hto:=Sh.pick_to hpt
         rw [hp] at hto
         try dsimp only at hto
         omega
       refine zL (zE rfl (zB (yM 4 [iV 0,iV g,iV (Sh.mn (g - g % 10 + 10) t)] rfl rfl rfl rfl agg217 inf217) (yt vX ([(⟨0,g,(Sh.mn (g - g % 10 + 10) t)⟩:Part)]:List Part) wn underlying152 inf217 rfl rfl rfl rfl (by decide) (by decide) rfl fun b94=>vD 6 out ([(⟨0,g,(Sh.mn (g - g % 10 + 10) t)⟩:Part)]:List Part) encPart wn rfl rfl rfl (fun _ hM=>(RowSl encPart hM 0 rfl)) underlying152 inf217 rfl rfl (by first | omega | (simp only [List.length_append,List.length_cons,List.length_nil]; omega)) rfl fun A6 cp6 hc6 hm6 hA6=>zO rfl (zD hK61 (zL (zB (zc rfl fld217_2) (zB (zi 5 rfl rfl rfl flat3) (zO rfl (zj (zm (vJ (Sh.mn (g - g % 10 + 10) t) (out++([(⟨0,g,(Sh.mn (g - g % 10 + 10) t)⟩:Part)]:List Part)) (.slice A6 ((out++([(⟨0,g,(Sh.mn (g - g % 10 + 10) t)⟩:Part)]:List Part)).length) cp6) (sc rfl (sc rfl (sc rfl (sc rfl sn)))) (S9 [6,7,8,9,10,11,12]) ?_ ?_)))))))))))
       · have hp:=Sh.pick_0 (z:=z) (f:=g) (t:=t) h7 h11 h15.1 h15.2
         have hpt:¬ (Sh.pick z g t).tier < 0:=by rw [hp]; dsimp only; omega
         have hto:=Sh.pick_to hpt
         have hnx:=hI1.1.trans (Sh.chooseL_next (out:=out) (by omega) hpt)
         have hpl:=Sh.push_len out (Sh.pick z g t)
         rw [hp] at hto hnx hpl
         have hpu:Sh.push out _=_:=Sh.push_new (p:=(⟨0,g,(Sh.mn (g - g % 10 + 10) t)⟩:Part)) hs3 h17
         rw [hpu] at hnx hpl
         try dsimp only at hto
         try dsimp only at hnx
         try dsimp only at hpl
         exact ⟨hnx,by omega,by omega,by omega⟩
       have hp:=Sh.pick_0 (z:=z) (f:=g) (t:=t) h7 h11 h15.1 h15.2
       have hpt:¬ (Sh.pick z g t).tier < 0:=by rw [hp]; dsimp only; omega
       have hto:=Sh.pick_to hpt
       rw [hp] at hto
       try dsimp only at hto
       omega
     refine yA (yA (yA (yA (yA (yA (yA (yA (zt (zP rfl rfl) (vI (yC hK63 (yu rfl rfl (zL ?_))))))))))))
     refine zE rfl (zB (yM 4 [iV 0,iV g,iV (Sh.mn (g - g % 10 + 10) t)] rfl rfl rfl rfl agg217 inf217) (yt vX ([(⟨0,g,(Sh.mn (g - g % 10 + 10) t)⟩:Part)]:List Part) wn underlying152 inf217 rfl rfl rfl rfl (by decide) (by decide) rfl fun b94=>vD 6 out ([(⟨0,g,(Sh.mn (g - g % 10 + 10) t)⟩:Part)]:List Part) encPart wn rfl rfl rfl (fun _ hM=>(RowSl encPart hM 0 rfl)) underlying152 inf217 rfl rfl (by first | omega | (simp only [List.length_append,List.length_cons,List.length_nil]; omega)) rfl fun A7 cp7 hc7 hm7 hA7=>zO rfl (zD hK61 (zL (zB (zc rfl fld217_2) (zB (zi 5 rfl rfl rfl flat3) (zO rfl (zj (zm (vJ (Sh.mn (g - g % 10 + 10) t) (out++([(⟨0,g,(Sh.mn (g - g % 10 + 10) t)⟩:Part)]:List Part)) (.slice A7 ((out++([(⟨0,g,(Sh.mn (g - g % 10 + 10) t)⟩:Part)]:List Part)).length) cp7) (sc rfl (sc rfl (sc rfl (sc rfl sn)))) (S9 [6,7,8,9,10,11,12]) ?_ ?_))))))))))
     · have hp:=Sh.pick_0 (z:=z) (f:=g) (t:=t) h7 h11 h15.1 h15.2
       have hpt:¬ (Sh.pick z g t).tier < 0:=by rw [hp]; dsimp only; omega
       have hto:=Sh.pick_to hpt
       have hnx:=hI1.1.trans (Sh.chooseL_next (out:=out) (by omega) hpt)
       have hpl:=Sh.push_len out (Sh.pick z g t)
       rw [hp] at hto hnx hpl
       have hpu:Sh.push out _=_:=Sh.push_nil (p:=(⟨0,g,(Sh.mn (g - g % 10 + 10) t)⟩:Part)) (by omega)
       rw [hpu] at hnx hpl
       try dsimp only at hto
       try dsimp only at hnx
       try dsimp only at hpl
       exact ⟨hnx,by omega,by omega,by omega⟩
     have hp:=Sh.pick_0 (z:=z) (f:=g) (t:=t) h7 h11 h15.1 h15.2
     have hpt:¬ (Sh.pick z g t).tier < 0:=by rw [hp]; dsimp only; omega
     have hto:=Sh.pick_to hpt
     rw [hp] at hto
     try dsimp only at hto
     omega
   refine yV (zm (yC hK51 (zL (zB (zz rfl rfl (by omega)) (zE rfl (zj (gK hK48 (jO fun _ hK64=>zG fun _ hK65=>zB (yR rfl rfl) (zD hK65 (zS fun _ hK66=>yu rfl (decide_eq_false (by decide)) (yc (yH (yH (yJ (yC hK14 ?_)))))))))))))))
   refine zS fun _ hK67=>zG fun _ hK68=>zB (zc rfl fld217_0) (zB (zi 4 rfl rfl rfl flat3) (zB (yR rfl rfl) (zD hK68 (y6 rfl (decide_eq_true (by decide)) (zG fun _ hK69=>vB (vX:Part→List Value) 217 3 (zO rfl (zO rfl (zD hK69 ?_))))))))
   refine zV (zJ (yD (uD (yD (zJ (yT (.inl rfl) results117 (zQ rfl) (zQ rfl) fun w1 hM=>?_))))))
   have hp:=Sh.pick_no (z:=z) (f:=g) (t:=t) h7 h11 h15
   have he:Sh.choose z f t=(([]:List Part),10):=Sh.choose_gone h1 (by omega) hI1.1 (by omega) (by rw [hp]; decide)
   exact hM.jz 0 rfl (by rw [he]) (by rw [he])
 refine yc (yH (uV (yJ (yC hK10 (zG fun _ hK70=>zE rfl (zO rfl (zO rfl (zD hK70 (zV (yT (.inl rfl) results117 (zQ rfl) (zQ rfl) fun w1 hM=>?_))))))))))
 have he:Sh.choose z f t=(out,0):=Sh.choose_end h1 (by omega) hI1.1 (by omega)
 exact hM.jz 0 rfl (by rw [he]) (by rw [he])
set_option maxHeartbeats 4000000 in
theorem c_read (z0 : Value) (z1 : Value) (z2 : Value) (z3 : Value) (z : Shelf) (lv : Value) (l : List Part) (P0 : Nat → Prop) (w : World) (hP0 : ∀ b, P0 b → b < w.heap.size) (hz0 : zK P0 2 zk z0 z.zT w) (hz1 : zK P0 2 zr z1 z.raw w) (hz2 : zK P0 8 zU z2 z.fine w) (hz3 : zK P0 8 zU z3 z.coarse w) (hl : zK P0 3 vX lv l w) (hl1 : l.length ≤ 1048576) :
    Calls prog 118 #[.agg (List.toArray [z0,z1,z2,z3,iV z.ze,iV z.zX,iV z.zI,iV z.zN,iV z.zH]),lv] w (Ret w (.tuple #[.agg (sumE (Sh.read z l).1).toArray,iV (Sh.read z l).2.1,iV (Sh.read z l).2.2])):=by
 obtain ⟨z0A,z0c,rfl,hz0c,hz0m,hz0A⟩:=hz0.form
 obtain ⟨z1A,z1c,rfl,hz1c,hz1m,hz1A⟩:=hz1.form
 obtain ⟨z2A,z2c,rfl,hz2c,hz2m,hz2A⟩:=hz2.form
 obtain ⟨z3A,z3c,rfl,hz3c,hz3m,hz3A⟩:=hz3.form
 obtain ⟨lA,lc,rfl,hlc,hlm,hlA⟩:=hl.form
 refine fstart (N:=112) (vals:=[.agg (List.toArray [.slice z0A z.zT.length z0c,.slice z1A z.raw.length z1c,.slice z2A z.fine.length z2c,.slice z3A z.coarse.length z3c,iV z.ze,iV z.zX,iV z.zI,iV z.zN,iV z.zH]),.slice lA l.length lc]) (S:=Mem w ⟨no,P0⟩ [slP 2 zk (.slice z0A z.zT.length z0c) z.zT,slP 2 zr (.slice z1A z.raw.length z1c) z.raw,slP 8 zU (.slice z2A z.fine.length z2c) z.fine,slP 8 zU (.slice z3A z.coarse.length z3c) z.coarse,slP 3 vX (.slice lA l.length lc) l]) func118 rfl rfl rfl (Mem.ofDatsP hP0 (dc (dlp hz0) (dc (dlp hz1) (dc (dlp hz2) (dc (dlp hz3) (dc (dlp hl) dn)))))) (zG fun _ hK1=>vR wn rfl rfl fun b2=>zy wn inf89 rfl fun b4=>zO rfl (zO rfl (zD hK1 (zS fun _ hK2=>zG fun _ hK3=>zB (yM 1 [.slice z0A z.zT.length z0c,.slice z1A z.raw.length z1c,.slice z2A z.fine.length z2c,.slice z3A z.coarse.length z3c,iV z.ze,iV z.zX,iV z.zI,iV z.zN,iV z.zH] rfl rfl rfl rfl agg50 inf50) (yF wn rfl call21 rfl (fun w1 hM=>uX _ _ _ _ z (In w1) w1 (fun _ h=>h) (hM.slp 2 rfl) (hM.slp 3 rfl) (hM.slp 4 rfl) (hM.slp 5 rfl)) (zO rfl ?_))))))
 refine zD hK3 (zG fun _ hK4=>zE rfl (zB (vH rfl rfl) (zD hK4 (za rfl (fun h1=>?_) (fun h1=>?_)))))
 · refine zG fun _ hK5=>zB (zw [iV 0,iV 0,iV 0,iV 0,iV 0,iV 0,iV 0] pl89 inf89 rfl rfl) (zE rfl (zn 0 wn rfl rfl rfl inf89 rfl rfl rfl (zO rfl (zO rfl (zD hK5 (zV (zJ (ua (.inl rfl) results118 (zo 0 rfl rfl agg89 inf89 rfl) (zQ rfl) (zQ rfl) fun w1 hM=>?_))))))))
   have he:Sh.read z l=(Sum.zero,0,(Sh.wrong z)):=Sh.read_wrong h1
   rw [he]
   exact zq rfl hM
 obtain ⟨l1,l2,l3,l4⟩:=(Sh.ok_of h1).lens
 refine yL hK2 (zG fun _ hK6=>zy wn inf89 rfl fun b8=>zD hK6 (zG fun _ hK7=>zO rfl (zD hK7 (zS fun _ hK8=>zG fun _ hK9=>zE rfl (zB (yg rfl underlying152) (zE rfl ?_))))))
 refine zD hK9 (zl (u7 (fun (k:Nat) (u:Sum) (c:Int)=>[(1,.slice lA l.length lc),(2,.pointer (some ⟨b2,0,none⟩)),(4,.pointer (some ⟨b4,0,none⟩)),(8,.pointer (some ⟨b8,0,none⟩)),(9,iV c),(21,.slice lA l.length lc),(22,iV l.length),(23,iV k)]) (fun (k:Nat) (u:Sum) (c:Int)=>[.blk b8 [iV u.count,iV u.total,iV u.min,iV u.max,iV u.first,iV u.last,iV u.rise] 89,.blk b4 [iV 0,iV 0,iV 0,iV 0,iV 0,iV 0,iV 0] 89,.blk b2 [.slice z0A z.zT.length z0c,.slice z1A z.raw.length z1c,.slice z2A z.fine.length z2c,.slice z3A z.coarse.length z3c,iV z.ze,iV z.zX,iV z.zI,iV z.zN,iV z.zH] 50,slP 2 zk (.slice z0A z.zT.length z0c) z.zT,slP 2 zr (.slice z1A z.raw.length z1c) z.raw,slP 8 zU (.slice z2A z.fine.length z2c) z.fine,slP 8 zU (.slice z3A z.coarse.length z3c) z.coarse,slP 3 vX (.slice lA l.length lc) l]) (fun (k:Nat) (u:Sum) (c:Int)=>k≤l.length∧Sh.readN z none l Sum.zero 0=Sh.readN z (Sh.prevP l k) (l.drop k) u c∧(0≤c∧c≤500 * (k:Int))∧Sh.good u (30000 * (k:Int))) (fun (k:Nat) (u:Sum) (c:Int)=>l.length - k) 0 Sum.zero 0 (sc rfl (sc rfl (sc rfl (sc rfl (sc rfl (sc rfl (sc rfl (sc (ji (by first | omega | (simp [Roll.inT,Sh.bIn]; done) | (rw [hst2,List.length_append]; simp only [List.length_cons,List.length_nil]; omega) | (rw [hst2]; done) | (rw [hst2]; omega))) sn)))))))) (fun _ h=>h) ?_ (fun k u c hI1=>?_)))
 · exact ⟨by omega,rfl,by omega,by simpa using Sh.good_zero⟩
 refine zG fun _ hK10=>zB (yR rfl rfl) (zD hK10 (zS fun _ hK11=>za rfl (fun h2=>?_) (fun h2=>?_)))
 · refine yL hK11 (zS fun _ hK12=>zl (zG fun _ hK13=>zE rfl ?_))
   obtain ⟨ad1,hd1⟩:=hlA (ne_nil (i:=k) (by first | omega | (simp <;> omega)))
   refine zB (vC (i:=k) rfl hd1 rfl (by omega) (by first | omega | (simp <;> omega)) underlying152 inf217) ?_
   obtain ⟨s1,hs1⟩:∃ x,l[k]?=some x:=⟨_,List.getElem?_eq_getElem (by first | omega | (simp <;> omega))⟩
   have hc91:=Sh.bIn_len z.fine s1.frm s1.to
   have hc92:=Sh.bIn_len z.coarse s1.frm s1.to
   have hc93:=Roll.inT_len z.raw s1.frm s1.to
   refine zB (v8 7 [iV s1.tier,iV s1.frm,iV s1.to] rfl rfl hd1 hs1 rfl rfl agg217 inf217) (zy wn inf217 rfl fun b11=>zO rfl (zn 0 wn rfl rfl rfl inf217 rfl rfl rfl (zD hK13 (zS fun _ hK14=>zS fun _ hK15=>vN mix (by kernel_rfl) (fun _ h=>h.drew) (zt (yM 0 [iV s1.tier,iV s1.frm,iV s1.to] rfl rfl rfl rfl agg217 inf217) (vO wn rfl call163 rfl (fun w1 hM=>gA b2 _ _ _ _ z s1 w1 (hM.blk (i:=3) rfl)) (zt (jM rfl) (yq rfl ?_))))))))
   refine vg (t:=31) rfl (fun h3=>?_) (fun h3=>?_)
   · refine yA (yA (yA (yx (wu rfl rfl) rfl (yx (wu rfl rfl) rfl (yx (wu rfl rfl) rfl (yx (wu rfl rfl) rfl (yx (wu rfl rfl) rfl (yx (wu rfl rfl) rfl (yx (wu rfl rfl) rfl (yx (wu rfl rfl) rfl (yx (wu rfl rfl) rfl ?_)))))))))))
     refine yA (zt (zP rfl rfl) (vI (yC hK15 (y6 rfl rfl (zG fun _ hK16=>zB (zw [iV 0,iV 0,iV 0,iV 0,iV 0,iV 0,iV 0] pl89 inf89 rfl rfl) (zn 2 wn rfl rfl rfl inf89 rfl rfl rfl (zO rfl (zO rfl (zD hK16 (zV (zJ (yD (zJ (uD (yD (zJ (ua (.inl rfl) results118 (zo 2 rfl rfl agg89 inf89 rfl) (zQ rfl) (zQ rfl) fun w1 hM=>?_)))))))))))))))))
     have he:Sh.read z l=(Sum.zero,0,8):=Sh.read_bad h1 hI1.2.1 hs1 (.inl h3)
     rw [he]
     exact zq rfl hM
   refine yK (zg rfl) (yK (y8 rfl rfl) (yK (zg rfl) (vg (t:=34) rfl (fun h4=>?_) (fun h4=>?_))))
   · refine yK (zg rfl) (yK (zg rfl) (yK (vl rfl rfl (by omega)) (yK (vC (i:=(k - 1)) rfl hd1 rfl (by omega) (by first | omega | (simp <;> omega)) underlying152 inf217) (yK (y0 rfl fld217_2) ?_))))
     obtain ⟨s2,hs2⟩:∃ x,l[(k - 1)]?=some x:=⟨_,List.getElem?_eq_getElem (by first | omega | (simp <;> omega))⟩
     refine yK (gD 8 rfl rfl hd1 hs2 rfl flat3) (yK (zc rfl fld217_1) (yK (zi 0 rfl rfl rfl flat3) (yK (vH rfl rfl) (yK (zP rfl rfl) (zt (zP rfl rfl) (vI (yC hK15 (za rfl (fun h5=>?_) (fun h5=>?_)))))))))
     · refine zG fun _ hK17=>zB (zw [iV 0,iV 0,iV 0,iV 0,iV 0,iV 0,iV 0] pl89 inf89 rfl rfl) (zn 2 wn rfl rfl rfl inf89 rfl rfl rfl (zO rfl (zO rfl (zD hK17 (zV (zJ (yD (zJ (uD (yD (zJ (ua (.inl rfl) results118 (zo 2 rfl rfl agg89 inf89 rfl) (zQ rfl) (zQ rfl) fun w1 hM=>?_))))))))))))
       have he:Sh.read z l=(Sum.zero,0,8):=Sh.read_bad h1 hI1.2.1 hs1 (.inr ((Sh.apart_pos (by omega) hs2).2 h5))
       rw [he]
       exact zq rfl hM
     refine yL hK14 (zG fun _ hK18=>zy wn inf89 rfl fun b12=>zD hK18 (zS fun _ hK19=>zG fun _ hK20=>zB (zc rfl fld217_0) (zB (zi 1 rfl rfl rfl flat3) (zD hK20 (zl (zG fun _ hK21=>zB (yj rfl rfl) ?_))))))
     refine zO rfl (zD hK21 (za rfl (fun h6=>?_) (fun h6=>?_)))
     · refine zG fun _ hK22=>zB (zc rfl fld50_2) (zB (zi 4 rfl rfl rfl flat48) (zB (zc rfl fld217_1) (zB (zi 1 rfl rfl rfl flat3) (zB (zc rfl fld217_2) (zB (zi 1 rfl rfl rfl flat3) (yF wn rfl call164 rfl (fun w1 hM=>jA _ z.fine s1.frm s1.to w1 (hM.slp 7 rfl)) (zn 0 wn rfl rfl rfl inf89 rfl rfl rfl (zD hK22 (zL (zE rfl ?_))))))))))
       refine zB (zc rfl fld50_2) (zB (zi 4 rfl rfl rfl flat48) (zB (yM 1 [iV s1.tier,iV s1.frm,iV s1.to] rfl rfl rfl rfl agg217 inf217) (yF wn rfl call165 rfl (fun w1 hM=>jQ _ z.fine s1 w1 (hM.slp 7 rfl) (by omega)) (zB (zz rfl rfl (by omega)) (zO rfl (zj (zm (yC hK19 (zL (zB (yM 2 [iV u.count,iV u.total,iV u.min,iV u.max,iV u.first,iV u.last,iV u.rise] rfl rfl rfl rfl agg89 inf89) (zB (yM 0 [iV ((Roll.of z.fine s1.frm s1.to).count),iV ((Roll.of z.fine s1.frm s1.to).total),iV ((Roll.of z.fine s1.frm s1.to).min),iV ((Roll.of z.fine s1.frm s1.to).max),iV ((Roll.of z.fine s1.frm s1.to).first),iV ((Roll.of z.fine s1.frm s1.to).last),iV ((Roll.of z.fine s1.frm s1.to).rise)] rfl rfl rfl rfl agg89 inf89) (yF wn rfl call66 rfl (fun w1 hM=>uS u (Roll.of z.fine s1.frm s1.to) w1) (zn 2 wn rfl rfl rfl inf89 rfl rfl rfl ?_)))))))))))))
       refine zj (zm (yC hK12 (zL (zB (zz rfl rfl (by omega)) (zE rfl (zj (vJ (k + 1) (Agg.join u (Roll.of z.fine s1.frm s1.to)) (c + ((Sh.bIn z.fine s1.frm s1.to).length:Int)) (sc rfl (sc rfl (sc rfl (sc rfl (sc rfl (sc rfl (sc rfl (sc (ji (by first | omega | (simp [Roll.inT,Sh.bIn]; done) | (rw [hst2,List.length_append]; simp only [List.length_cons,List.length_nil]; omega) | (rw [hst2]; done) | (rw [hst2]; omega))) sn)))))))) (S9 [2,3,4,5,6,7,8,9]) ?_ ?_)))))))
       · have hps:=Sh.partSum_1 (z:=z) h6
         have hgd:=Sh.partSum_good (Sh.ok_of h1) (Classical.not_not.1 h3)
         have hcr:=Sh.partCost_rng (Sh.ok_of h1) s1
         rw [hps.1] at hgd
         rw [hps.2] at hcr
         exact ⟨by omega,Sh.read_next hI1.2.1 hs1 (Classical.not_not.1 h3) (fun q=>h5 ((Sh.apart_pos (by omega) hs2).1 q)) hps.1 hps.2,by omega,(hI1.2.2.2.join hgd (by omega)).mono (by omega)⟩
       omega
     refine zG fun _ hK23=>zB (yj rfl rfl) (zO rfl (zD hK23 (za rfl (fun h7=>?_) (fun h7=>?_))))
     · refine zG fun _ hK24=>zB (zc rfl fld50_3) (zB (zi 4 rfl rfl rfl flat48) (zB (zc rfl fld217_1) (zB (zi 1 rfl rfl rfl flat3) (zB (zc rfl fld217_2) (zB (zi 1 rfl rfl rfl flat3) (yF wn rfl call164 rfl (fun w1 hM=>jA _ z.coarse s1.frm s1.to w1 (hM.slp 8 rfl)) (zn 0 wn rfl rfl rfl inf89 rfl rfl rfl (zD hK24 (zL (zE rfl ?_))))))))))
       refine zB (zc rfl fld50_3) (zB (zi 4 rfl rfl rfl flat48) (zB (yM 1 [iV s1.tier,iV s1.frm,iV s1.to] rfl rfl rfl rfl agg217 inf217) (yF wn rfl call165 rfl (fun w1 hM=>jQ _ z.coarse s1 w1 (hM.slp 8 rfl) (by omega)) (zB (zz rfl rfl (by omega)) (zO rfl (zj (zm (yC hK19 (zL (zB (yM 2 [iV u.count,iV u.total,iV u.min,iV u.max,iV u.first,iV u.last,iV u.rise] rfl rfl rfl rfl agg89 inf89) (zB (yM 0 [iV ((Roll.of z.coarse s1.frm s1.to).count),iV ((Roll.of z.coarse s1.frm s1.to).total),iV ((Roll.of z.coarse s1.frm s1.to).min),iV ((Roll.of z.coarse s1.frm s1.to).max),iV ((Roll.of z.coarse s1.frm s1.to).first),iV ((Roll.of z.coarse s1.frm s1.to).last),iV ((Roll.of z.coarse s1.frm s1.to).rise)] rfl rfl rfl rfl agg89 inf89) (yF wn rfl call66 rfl (fun w1 hM=>uS u (Roll.of z.coarse s1.frm s1.to) w1) (zn 2 wn rfl rfl rfl inf89 rfl rfl rfl ?_)))))))))))))
       refine zj (zm (yC hK12 (zL (zB (zz rfl rfl (by omega)) (zE rfl (zj (vJ (k + 1) (Agg.join u (Roll.of z.coarse s1.frm s1.to)) (c + ((Sh.bIn z.coarse s1.frm s1.to).length:Int)) (sc rfl (sc rfl (sc rfl (sc rfl (sc rfl (sc rfl (sc rfl (sc (ji (by first | omega | (simp [Roll.inT,Sh.bIn]; done) | (rw [hst2,List.length_append]; simp only [List.length_cons,List.length_nil]; omega) | (rw [hst2]; done) | (rw [hst2]; omega))) sn)))))))) (S9 [2,3,4,5,6,7,8,9]) ?_ ?_)))))))
       · have hps:=Sh.partSum_2 (z:=z) h6 h7
         have hgd:=Sh.partSum_good (Sh.ok_of h1) (Classical.not_not.1 h3)
         have hcr:=Sh.partCost_rng (Sh.ok_of h1) s1
         rw [hps.1] at hgd
         rw [hps.2] at hcr
         exact ⟨by omega,Sh.read_next hI1.2.1 hs1 (Classical.not_not.1 h3) (fun q=>h5 ((Sh.apart_pos (by omega) hs2).1 q)) hps.1 hps.2,by omega,(hI1.2.2.2.join hgd (by omega)).mono (by omega)⟩
       omega
     refine zG fun _ hK25=>zB (zc rfl fld50_1) (zB (zi 4 rfl rfl rfl flat47) (zB (yg rfl underlying47) (zE rfl (zD hK25 (zl (vF (fun (j:Nat)=>[(1,.slice lA l.length lc),(2,.pointer (some ⟨b2,0,none⟩)),(4,.pointer (some ⟨b4,0,none⟩)),(8,.pointer (some ⟨b8,0,none⟩)),(9,iV (c + ((Roll.inT (z.raw.take j) s1.frm s1.to).length:Int))),(11,.pointer (some ⟨b11,0,none⟩)),(12,.pointer (some ⟨b12,0,none⟩)),(21,.slice lA l.length lc),(22,iV l.length),(23,iV k),(50,.slice z1A z.raw.length z1c),(51,iV z.raw.length),(52,iV j)]) (fun (j:Nat)=>[.blk b12 [iV ((Agg.of (Roll.inT (z.raw.take j) s1.frm s1.to)).count),iV ((Agg.of (Roll.inT (z.raw.take j) s1.frm s1.to)).total),iV ((Agg.of (Roll.inT (z.raw.take j) s1.frm s1.to)).min),iV ((Agg.of (Roll.inT (z.raw.take j) s1.frm s1.to)).max),iV ((Agg.of (Roll.inT (z.raw.take j) s1.frm s1.to)).first),iV ((Agg.of (Roll.inT (z.raw.take j) s1.frm s1.to)).last),iV ((Agg.of (Roll.inT (z.raw.take j) s1.frm s1.to)).rise)] 89,.blk b11 [iV s1.tier,iV s1.frm,iV s1.to] 217,.blk b8 [iV u.count,iV u.total,iV u.min,iV u.max,iV u.first,iV u.last,iV u.rise] 89,.blk b4 [iV 0,iV 0,iV 0,iV 0,iV 0,iV 0,iV 0] 89,.blk b2 [.slice z0A z.zT.length z0c,.slice z1A z.raw.length z1c,.slice z2A z.fine.length z2c,.slice z3A z.coarse.length z3c,iV z.ze,iV z.zX,iV z.zI,iV z.zN,iV z.zH] 50,slP 2 zk (.slice z0A z.zT.length z0c) z.zT,slP 2 zr (.slice z1A z.raw.length z1c) z.raw,slP 8 zU (.slice z2A z.fine.length z2c) z.fine,slP 8 zU (.slice z3A z.coarse.length z3c) z.coarse,slP 3 vX (.slice lA l.length lc) l]) (fun (j:Nat)=>j≤z.raw.length) (fun (j:Nat)=>z.raw.length - j) 0 (sc rfl (sc rfl (sc rfl (sc rfl (sc (ji (by first | omega | (simp [Roll.inT,Sh.bIn]; done) | (rw [hst2,List.length_append]; simp only [List.length_cons,List.length_nil]; omega) | (rw [hst2]; done) | (rw [hst2]; omega))) (sc rfl (sc rfl (sc rfl (sc rfl (sc rfl (sc rfl (sc rfl (sc (ji (by first | omega | (simp [Roll.inT,Sh.bIn]; done) | (rw [hst2,List.length_append]; simp only [List.length_cons,List.length_nil]; omega) | (rw [hst2]; done) | (rw [hst2]; omega))) sn))))))))))))) (fun _ h=>h) ?_ (fun j hI2=>?_)))))))
     · omega
     have hlj:=Nat.le_trans (Roll.inT_len (z.raw.take j) s1.frm s1.to) (List.length_take_le' j z.raw)
     refine zG fun _ hK26=>zB (yR rfl rfl) (zD hK26 (zS fun _ hK27=>za rfl (fun h8=>?_) (fun h8=>?_)))
     · refine yL hK27 (zS fun _ hK28=>zl (zG fun _ hK29=>?_))
       obtain ⟨ad2,hd2⟩:=hz1A (ne_nil (i:=j) (by first | omega | (simp <;> omega)))
       refine zB (vC (i:=j) rfl hd2 rfl (by omega) (by first | omega | (simp <;> omega)) underlying47 inf41) ?_
       obtain ⟨s3,hs3⟩:∃ x,z.raw[j]?=some x:=⟨_,List.getElem?_eq_getElem (by first | omega | (simp <;> omega))⟩
       refine zB (v8 6 [iV s3.time,iV s3.value] rfl rfl hd2 hs3 rfl rfl agg41 inf41) (zy wn inf41 rfl fun b14=>zn 0 wn rfl rfl rfl inf41 rfl rfl rfl (zD hK29 (zG fun _ hK30=>zB (zc rfl fld41_0) (zB (zi 0 rfl rfl rfl flat3) (zB (zc rfl fld217_1) (zB (zi 2 rfl rfl rfl flat3) (zB (vn rfl rfl) (zE rfl (yQ (t:=61) rfl (fun h9=>?_) (fun h9=>?_))))))))))
       · refine zd (zc rfl fld41_0) (zd (zi 0 rfl rfl rfl flat3) (zd (zc rfl fld217_2) (zd (zi 2 rfl rfl rfl flat3) (zd (yR rfl rfl) (zB (zP rfl rfl) (zD hK30 (za rfl (fun h10=>?_) (fun h10=>?_))))))))
         · refine zS fun _ hK31=>vY 5 mix (by kernel_rfl) (fun _ h=>h.drew) fun _ hT1=>zt (yM 1 [iV ((Agg.of (Roll.inT (z.raw.take j) s1.frm s1.to)).count),iV ((Agg.of (Roll.inT (z.raw.take j) s1.frm s1.to)).total),iV ((Agg.of (Roll.inT (z.raw.take j) s1.frm s1.to)).min),iV ((Agg.of (Roll.inT (z.raw.take j) s1.frm s1.to)).max),iV ((Agg.of (Roll.inT (z.raw.take j) s1.frm s1.to)).first),iV ((Agg.of (Roll.inT (z.raw.take j) s1.frm s1.to)).last),iV ((Agg.of (Roll.inT (z.raw.take j) s1.frm s1.to)).rise)] rfl rfl rfl rfl agg89 inf89) (zt (zc rfl fld41_1) (zt (zi 0 rfl rfl rfl flat3) (vO wn rfl call67 rfl (fun w1 hM=>gL s3.value w1) (vO wn rfl call66 rfl (fun w1 hM=>uS (Agg.of (Roll.inT (z.raw.take j) s1.frm s1.to)) (Agg.one s3.value) w1) (vx hT1 (zn 1 wn rfl rfl rfl inf89 rfl rfl rfl (zD hK31 (zL (zE rfl ?_)))))))))
           refine zB (zz rfl rfl (by omega)) (zO rfl (zj (zm (yC hK28 (zL (zB (zz rfl rfl (by omega)) (zE rfl ?_)))))))
           have hst:=(Sh.inT_of_succ (a:=s1.frm) (b:=s1.to) hs3).trans (if_pos (by omega))
           have hst2:=(Roll.inT_succ (a:=s1.frm) (b:=s1.to) hs3).trans (if_pos (by omega))
           refine zj (yd (j + 1) (sc rfl (sc rfl (sc rfl (sc rfl (sc (ji (by first | omega | (simp [Roll.inT,Sh.bIn]; done) | (rw [hst2,List.length_append]; simp only [List.length_cons,List.length_nil]; omega) | (rw [hst2]; done) | (rw [hst2]; omega))) (sc rfl (sc rfl (sc rfl (sc rfl (sc rfl (sc rfl (sc rfl (sc (ji (by first | omega | (simp [Roll.inT,Sh.bIn]; done) | (rw [hst2,List.length_append]; simp only [List.length_cons,List.length_nil]; omega) | (rw [hst2]; done) | (rw [hst2]; omega))) sn))))))))))))) (fun _ h=>by rw [hst]; exact (h.sel [1,2,3,4,5,6,7,8,9,10] (by decide) rfl)) ?_ ?_)
           · omega
           omega
         refine yV (zm (yC hK28 (zL (zB (zz rfl rfl (by omega)) (zE rfl ?_)))))
         have hst:=(Sh.inT_of_succ (a:=s1.frm) (b:=s1.to) hs3).trans (if_neg (by omega))
         have hst2:=(Roll.inT_succ (a:=s1.frm) (b:=s1.to) hs3).trans (if_neg (by omega))
         refine zj (yd (j + 1) (sc rfl (sc rfl (sc rfl (sc rfl (sc (ji (by first | omega | (simp [Roll.inT,Sh.bIn]; done) | (rw [hst2,List.length_append]; simp only [List.length_cons,List.length_nil]; omega) | (rw [hst2]; done) | (rw [hst2]; omega))) (sc rfl (sc rfl (sc rfl (sc rfl (sc rfl (sc rfl (sc rfl (sc (ji (by first | omega | (simp [Roll.inT,Sh.bIn]; done) | (rw [hst2,List.length_append]; simp only [List.length_cons,List.length_nil]; omega) | (rw [hst2]; done) | (rw [hst2]; omega))) sn))))))))))))) (fun _ h=>by rw [hst]; exact (h.sel [1,2,3,4,5,6,7,8,9,10] (by decide) rfl)) ?_ ?_)
         · omega
         omega
       refine zW (zW (zW (zW (zW (zB (zP rfl rfl) (zD hK30 (yu rfl rfl (yV (zm (yC hK28 (zL (zB (zz rfl rfl (by omega)) (zE rfl ?_)))))))))))))
       have hst:=(Sh.inT_of_succ (a:=s1.frm) (b:=s1.to) hs3).trans (if_neg (by omega))
       have hst2:=(Roll.inT_succ (a:=s1.frm) (b:=s1.to) hs3).trans (if_neg (by omega))
       refine zj (yd (j + 1) (sc rfl (sc rfl (sc rfl (sc rfl (sc (ji (by first | omega | (simp [Roll.inT,Sh.bIn]; done) | (rw [hst2,List.length_append]; simp only [List.length_cons,List.length_nil]; omega) | (rw [hst2]; done) | (rw [hst2]; omega))) (sc rfl (sc rfl (sc rfl (sc rfl (sc rfl (sc rfl (sc rfl (sc (ji (by first | omega | (simp [Roll.inT,Sh.bIn]; done) | (rw [hst2,List.length_append]; simp only [List.length_cons,List.length_nil]; omega) | (rw [hst2]; done) | (rw [hst2]; omega))) sn))))))))))))) (fun _ h=>by rw [hst]; exact (h.sel [1,2,3,4,5,6,7,8,9,10] (by decide) rfl)) ?_ ?_)
       · omega
       omega
     have hk1:z.raw.take j=z.raw:=List.take_of_length_le (by omega)
     rw [hk1]
     refine yc (yH (yn (yJ (zm (yC hK19 (zL (zB (yM 2 [iV u.count,iV u.total,iV u.min,iV u.max,iV u.first,iV u.last,iV u.rise] rfl rfl rfl rfl agg89 inf89) (zB (yM 0 [iV ((Agg.of (Roll.inT z.raw s1.frm s1.to)).count),iV ((Agg.of (Roll.inT z.raw s1.frm s1.to)).total),iV ((Agg.of (Roll.inT z.raw s1.frm s1.to)).min),iV ((Agg.of (Roll.inT z.raw s1.frm s1.to)).max),iV ((Agg.of (Roll.inT z.raw s1.frm s1.to)).first),iV ((Agg.of (Roll.inT z.raw s1.frm s1.to)).last),iV ((Agg.of (Roll.inT z.raw s1.frm s1.to)).rise)] rfl rfl rfl rfl agg89 inf89) (yF wn rfl call66 rfl (fun w1 hM=>uS u (Agg.of (Roll.inT z.raw s1.frm s1.to)) w1) (zn 2 wn rfl rfl rfl inf89 rfl rfl rfl (zj (zm (yC hK12 (zL (zB (zz rfl rfl (by omega)) (zE rfl (zj (vJ (k + 1) (Agg.join u (Agg.of (Roll.inT z.raw s1.frm s1.to))) (c + ((Roll.inT z.raw s1.frm s1.to).length:Int)) (sc rfl (sc rfl (sc rfl (sc rfl (sc rfl (sc rfl (sc rfl (sc (ji (by first | omega | (simp [Roll.inT,Sh.bIn]; done) | (rw [hst2,List.length_append]; simp only [List.length_cons,List.length_nil]; omega) | (rw [hst2]; done) | (rw [hst2]; omega))) sn)))))))) (S9 [2,3,4,5,6,7,8,9]) ?_ ?_))))))))))))))))))
     · have hps:=Sh.partSum_0 (z:=z) h6 h7
       have hgd:=Sh.partSum_good (Sh.ok_of h1) (Classical.not_not.1 h3)
       have hcr:=Sh.partCost_rng (Sh.ok_of h1) s1
       rw [hps.1] at hgd
       rw [hps.2] at hcr
       exact ⟨by omega,Sh.read_next hI1.2.1 hs1 (Classical.not_not.1 h3) (fun q=>h5 ((Sh.apart_pos (by omega) hs2).1 q)) hps.1 hps.2,by omega,(hI1.2.2.2.join hgd (by omega)).mono (by omega)⟩
     omega
   refine yA (yA (yA (yA (yA (yA (yA (yA (yA (yK (zP rfl rfl) (zt (zP rfl rfl) (vI (yC hK15 ?_))))))))))))
   refine yu rfl rfl (yL hK14 (zG fun _ hK32=>zy wn inf89 rfl fun b12=>zD hK32 (zS fun _ hK33=>zG fun _ hK34=>zB (zc rfl fld217_0) (zB (zi 1 rfl rfl rfl flat3) (zD hK34 (zl (zG fun _ hK35=>?_)))))))
   refine zB (yj rfl rfl) (zO rfl (zD hK35 (za rfl (fun h11=>?_) (fun h11=>?_))))
   · refine zG fun _ hK36=>zB (zc rfl fld50_2) (zB (zi 4 rfl rfl rfl flat48) (zB (zc rfl fld217_1) (zB (zi 1 rfl rfl rfl flat3) (zB (zc rfl fld217_2) (zB (zi 1 rfl rfl rfl flat3) (yF wn rfl call164 rfl (fun w1 hM=>jA _ z.fine s1.frm s1.to w1 (hM.slp 7 rfl)) (zn 0 wn rfl rfl rfl inf89 rfl rfl rfl (zD hK36 (zL (zE rfl ?_))))))))))
     refine zB (zc rfl fld50_2) (zB (zi 4 rfl rfl rfl flat48) (zB (yM 1 [iV s1.tier,iV s1.frm,iV s1.to] rfl rfl rfl rfl agg217 inf217) (yF wn rfl call165 rfl (fun w1 hM=>jQ _ z.fine s1 w1 (hM.slp 7 rfl) (by omega)) (zB (zz rfl rfl (by omega)) (zO rfl (zj (zm (yC hK33 (zL (zB (yM 2 [iV u.count,iV u.total,iV u.min,iV u.max,iV u.first,iV u.last,iV u.rise] rfl rfl rfl rfl agg89 inf89) (zB (yM 0 [iV ((Roll.of z.fine s1.frm s1.to).count),iV ((Roll.of z.fine s1.frm s1.to).total),iV ((Roll.of z.fine s1.frm s1.to).min),iV ((Roll.of z.fine s1.frm s1.to).max),iV ((Roll.of z.fine s1.frm s1.to).first),iV ((Roll.of z.fine s1.frm s1.to).last),iV ((Roll.of z.fine s1.frm s1.to).rise)] rfl rfl rfl rfl agg89 inf89) (yF wn rfl call66 rfl (fun w1 hM=>uS u (Roll.of z.fine s1.frm s1.to) w1) (zn 2 wn rfl rfl rfl inf89 rfl rfl rfl ?_)))))))))))))
     refine zj (zm (yC hK12 (zL (zB (zz rfl rfl (by omega)) (zE rfl (zj (vJ (k + 1) (Agg.join u (Roll.of z.fine s1.frm s1.to)) (c + ((Sh.bIn z.fine s1.frm s1.to).length:Int)) (sc rfl (sc rfl (sc rfl (sc rfl (sc rfl (sc rfl (sc rfl (sc (ji (by first | omega | (simp [Roll.inT,Sh.bIn]; done) | (rw [hst2,List.length_append]; simp only [List.length_cons,List.length_nil]; omega) | (rw [hst2]; done) | (rw [hst2]; omega))) sn)))))))) (S9 [2,3,4,5,6,7,8,9]) ?_ ?_)))))))
     · have hps:=Sh.partSum_1 (z:=z) h11
       have hgd:=Sh.partSum_good (Sh.ok_of h1) (Classical.not_not.1 h3)
       have hcr:=Sh.partCost_rng (Sh.ok_of h1) s1
       rw [hps.1] at hgd
       rw [hps.2] at hcr
       exact ⟨by omega,Sh.read_next hI1.2.1 hs1 (Classical.not_not.1 h3) (Sh.apart_zero (by omega)) hps.1 hps.2,by omega,(hI1.2.2.2.join hgd (by omega)).mono (by omega)⟩
     omega
   refine zG fun _ hK37=>zB (yj rfl rfl) (zO rfl (zD hK37 (za rfl (fun h12=>?_) (fun h12=>?_))))
   · refine zG fun _ hK38=>zB (zc rfl fld50_3) (zB (zi 4 rfl rfl rfl flat48) (zB (zc rfl fld217_1) (zB (zi 1 rfl rfl rfl flat3) (zB (zc rfl fld217_2) (zB (zi 1 rfl rfl rfl flat3) (yF wn rfl call164 rfl (fun w1 hM=>jA _ z.coarse s1.frm s1.to w1 (hM.slp 8 rfl)) (zn 0 wn rfl rfl rfl inf89 rfl rfl rfl (zD hK38 (zL (zE rfl ?_))))))))))
     refine zB (zc rfl fld50_3) (zB (zi 4 rfl rfl rfl flat48) (zB (yM 1 [iV s1.tier,iV s1.frm,iV s1.to] rfl rfl rfl rfl agg217 inf217) (yF wn rfl call165 rfl (fun w1 hM=>jQ _ z.coarse s1 w1 (hM.slp 8 rfl) (by omega)) (zB (zz rfl rfl (by omega)) (zO rfl (zj (zm (yC hK33 (zL (zB (yM 2 [iV u.count,iV u.total,iV u.min,iV u.max,iV u.first,iV u.last,iV u.rise] rfl rfl rfl rfl agg89 inf89) (zB (yM 0 [iV ((Roll.of z.coarse s1.frm s1.to).count),iV ((Roll.of z.coarse s1.frm s1.to).total),iV ((Roll.of z.coarse s1.frm s1.to).min),iV ((Roll.of z.coarse s1.frm s1.to).max),iV ((Roll.of z.coarse s1.frm s1.to).first),iV ((Roll.of z.coarse s1.frm s1.to).last),iV ((Roll.of z.coarse s1.frm s1.to).rise)] rfl rfl rfl rfl agg89 inf89) (yF wn rfl call66 rfl (fun w1 hM=>uS u (Roll.of z.coarse s1.frm s1.to) w1) (zn 2 wn rfl rfl rfl inf89 rfl rfl rfl ?_)))))))))))))
     refine zj (zm (yC hK12 (zL (zB (zz rfl rfl (by omega)) (zE rfl (zj (vJ (k + 1) (Agg.join u (Roll.of z.coarse s1.frm s1.to)) (c + ((Sh.bIn z.coarse s1.frm s1.to).length:Int)) (sc rfl (sc rfl (sc rfl (sc rfl (sc rfl (sc rfl (sc rfl (sc (ji (by first | omega | (simp [Roll.inT,Sh.bIn]; done) | (rw [hst2,List.length_append]; simp only [List.length_cons,List.length_nil]; omega) | (rw [hst2]; done) | (rw [hst2]; omega))) sn)))))))) (S9 [2,3,4,5,6,7,8,9]) ?_ ?_)))))))
     · have hps:=Sh.partSum_2 (z:=z) h11 h12
       have hgd:=Sh.partSum_good (Sh.ok_of h1) (Classical.not_not.1 h3)
       have hcr:=Sh.partCost_rng (Sh.ok_of h1) s1
       rw [hps.1] at hgd
       rw [hps.2] at hcr
       exact ⟨by omega,Sh.read_next hI1.2.1 hs1 (Classical.not_not.1 h3) (Sh.apart_zero (by omega)) hps.1 hps.2,by omega,(hI1.2.2.2.join hgd (by omega)).mono (by omega)⟩
     omega
   refine zG fun _ hK39=>zB (zc rfl fld50_1) (zB (zi 4 rfl rfl rfl flat47) (zB (yg rfl underlying47) (zE rfl (zD hK39 (zl (vF (fun (j:Nat)=>[(1,.slice lA l.length lc),(2,.pointer (some ⟨b2,0,none⟩)),(4,.pointer (some ⟨b4,0,none⟩)),(8,.pointer (some ⟨b8,0,none⟩)),(9,iV (c + ((Roll.inT (z.raw.take j) s1.frm s1.to).length:Int))),(11,.pointer (some ⟨b11,0,none⟩)),(12,.pointer (some ⟨b12,0,none⟩)),(21,.slice lA l.length lc),(22,iV l.length),(23,iV k),(50,.slice z1A z.raw.length z1c),(51,iV z.raw.length),(52,iV j)]) (fun (j:Nat)=>[.blk b12 [iV ((Agg.of (Roll.inT (z.raw.take j) s1.frm s1.to)).count),iV ((Agg.of (Roll.inT (z.raw.take j) s1.frm s1.to)).total),iV ((Agg.of (Roll.inT (z.raw.take j) s1.frm s1.to)).min),iV ((Agg.of (Roll.inT (z.raw.take j) s1.frm s1.to)).max),iV ((Agg.of (Roll.inT (z.raw.take j) s1.frm s1.to)).first),iV ((Agg.of (Roll.inT (z.raw.take j) s1.frm s1.to)).last),iV ((Agg.of (Roll.inT (z.raw.take j) s1.frm s1.to)).rise)] 89,.blk b11 [iV s1.tier,iV s1.frm,iV s1.to] 217,.blk b8 [iV u.count,iV u.total,iV u.min,iV u.max,iV u.first,iV u.last,iV u.rise] 89,.blk b4 [iV 0,iV 0,iV 0,iV 0,iV 0,iV 0,iV 0] 89,.blk b2 [.slice z0A z.zT.length z0c,.slice z1A z.raw.length z1c,.slice z2A z.fine.length z2c,.slice z3A z.coarse.length z3c,iV z.ze,iV z.zX,iV z.zI,iV z.zN,iV z.zH] 50,slP 2 zk (.slice z0A z.zT.length z0c) z.zT,slP 2 zr (.slice z1A z.raw.length z1c) z.raw,slP 8 zU (.slice z2A z.fine.length z2c) z.fine,slP 8 zU (.slice z3A z.coarse.length z3c) z.coarse,slP 3 vX (.slice lA l.length lc) l]) (fun (j:Nat)=>j≤z.raw.length) (fun (j:Nat)=>z.raw.length - j) 0 (sc rfl (sc rfl (sc rfl (sc rfl (sc (ji (by first | omega | (simp [Roll.inT,Sh.bIn]; done) | (rw [hst2,List.length_append]; simp only [List.length_cons,List.length_nil]; omega) | (rw [hst2]; done) | (rw [hst2]; omega))) (sc rfl (sc rfl (sc rfl (sc rfl (sc rfl (sc rfl (sc rfl (sc (ji (by first | omega | (simp [Roll.inT,Sh.bIn]; done) | (rw [hst2,List.length_append]; simp only [List.length_cons,List.length_nil]; omega) | (rw [hst2]; done) | (rw [hst2]; omega))) sn))))))))))))) (fun _ h=>h) ?_ (fun j hI3=>?_)))))))
   · omega
   have hlj:=Nat.le_trans (Roll.inT_len (z.raw.take j) s1.frm s1.to) (List.length_take_le' j z.raw)
   refine zG fun _ hK40=>zB (yR rfl rfl) (zD hK40 (zS fun _ hK41=>za rfl (fun h13=>?_) (fun h13=>?_)))
   · refine yL hK41 (zS fun _ hK42=>zl (zG fun _ hK43=>?_))
     obtain ⟨ad3,hd3⟩:=hz1A (ne_nil (i:=j) (by first | omega | (simp <;> omega)))
     refine zB (vC (i:=j) rfl hd3 rfl (by omega) (by first | omega | (simp <;> omega)) underlying47 inf41) ?_
     obtain ⟨s4,hs4⟩:∃ x,z.raw[j]?=some x:=⟨_,List.getElem?_eq_getElem (by first | omega | (simp <;> omega))⟩
     refine zB (v8 6 [iV s4.time,iV s4.value] rfl rfl hd3 hs4 rfl rfl agg41 inf41) (zy wn inf41 rfl fun b14=>zn 0 wn rfl rfl rfl inf41 rfl rfl rfl (zD hK43 (zG fun _ hK44=>zB (zc rfl fld41_0) (zB (zi 0 rfl rfl rfl flat3) (zB (zc rfl fld217_1) (zB (zi 2 rfl rfl rfl flat3) (zB (vn rfl rfl) (zE rfl (yQ (t:=61) rfl (fun h14=>?_) (fun h14=>?_))))))))))
     · refine zd (zc rfl fld41_0) (zd (zi 0 rfl rfl rfl flat3) (zd (zc rfl fld217_2) (zd (zi 2 rfl rfl rfl flat3) (zd (yR rfl rfl) (zB (zP rfl rfl) (zD hK44 (za rfl (fun h15=>?_) (fun h15=>?_))))))))
       · refine zS fun _ hK45=>vY 5 mix (by kernel_rfl) (fun _ h=>h.drew) fun _ hT2=>zt (yM 1 [iV ((Agg.of (Roll.inT (z.raw.take j) s1.frm s1.to)).count),iV ((Agg.of (Roll.inT (z.raw.take j) s1.frm s1.to)).total),iV ((Agg.of (Roll.inT (z.raw.take j) s1.frm s1.to)).min),iV ((Agg.of (Roll.inT (z.raw.take j) s1.frm s1.to)).max),iV ((Agg.of (Roll.inT (z.raw.take j) s1.frm s1.to)).first),iV ((Agg.of (Roll.inT (z.raw.take j) s1.frm s1.to)).last),iV ((Agg.of (Roll.inT (z.raw.take j) s1.frm s1.to)).rise)] rfl rfl rfl rfl agg89 inf89) (zt (zc rfl fld41_1) (zt (zi 0 rfl rfl rfl flat3) (vO wn rfl call67 rfl (fun w1 hM=>gL s4.value w1) (vO wn rfl call66 rfl (fun w1 hM=>uS (Agg.of (Roll.inT (z.raw.take j) s1.frm s1.to)) (Agg.one s4.value) w1) (vx hT2 (zn 1 wn rfl rfl rfl inf89 rfl rfl rfl (zD hK45 (zL (zE rfl ?_)))))))))
         refine zB (zz rfl rfl (by omega)) (zO rfl (zj (zm (yC hK42 (zL (zB (zz rfl rfl (by omega)) (zE rfl ?_)))))))
         have hst:=(Sh.inT_of_succ (a:=s1.frm) (b:=s1.to) hs4).trans (if_pos (by omega))
         have hst2:=(Roll.inT_succ (a:=s1.frm) (b:=s1.to) hs4).trans (if_pos (by omega))
         refine zj (yd (j + 1) (sc rfl (sc rfl (sc rfl (sc rfl (sc (ji (by first | omega | (simp [Roll.inT,Sh.bIn]; done) | (rw [hst2,List.length_append]; simp only [List.length_cons,List.length_nil]; omega) | (rw [hst2]; done) | (rw [hst2]; omega))) (sc rfl (sc rfl (sc rfl (sc rfl (sc rfl (sc rfl (sc rfl (sc (ji (by first | omega | (simp [Roll.inT,Sh.bIn]; done) | (rw [hst2,List.length_append]; simp only [List.length_cons,List.length_nil]; omega) | (rw [hst2]; done) | (rw [hst2]; omega))) sn))))))))))))) (fun _ h=>by rw [hst]; exact (h.sel [1,2,3,4,5,6,7,8,9,10] (by decide) rfl)) ?_ ?_)
         · omega
         omega
       refine yV (zm (yC hK42 (zL (zB (zz rfl rfl (by omega)) (zE rfl ?_)))))
       have hst:=(Sh.inT_of_succ (a:=s1.frm) (b:=s1.to) hs4).trans (if_neg (by omega))
       have hst2:=(Roll.inT_succ (a:=s1.frm) (b:=s1.to) hs4).trans (if_neg (by omega))
       refine zj (yd (j + 1) (sc rfl (sc rfl (sc rfl (sc rfl (sc (ji (by first | omega | (simp [Roll.inT,Sh.bIn]; done) | (rw [hst2,List.length_append]; simp only [List.length_cons,List.length_nil]; omega) | (rw [hst2]; done) | (rw [hst2]; omega))) (sc rfl (sc rfl (sc rfl (sc rfl (sc rfl (sc rfl (sc rfl (sc (ji (by first | omega | (simp [Roll.inT,Sh.bIn]; done) | (rw [hst2,List.length_append]; simp only [List.length_cons,List.length_nil]; omega) | (rw [hst2]; done) | (rw [hst2]; omega))) sn))))))))))))) (fun _ h=>by rw [hst]; exact (h.sel [1,2,3,4,5,6,7,8,9,10] (by decide) rfl)) ?_ ?_)
       · omega
       omega
     refine zW (zW (zW (zW (zW (zB (zP rfl rfl) (zD hK44 (yu rfl rfl (yV (zm (yC hK42 (zL (zB (zz rfl rfl (by omega)) (zE rfl ?_)))))))))))))
     have hst:=(Sh.inT_of_succ (a:=s1.frm) (b:=s1.to) hs4).trans (if_neg (by omega))
     have hst2:=(Roll.inT_succ (a:=s1.frm) (b:=s1.to) hs4).trans (if_neg (by omega))
     refine zj (yd (j + 1) (sc rfl (sc rfl (sc rfl (sc rfl (sc (ji (by first | omega | (simp [Roll.inT,Sh.bIn]; done) | (rw [hst2,List.length_append]; simp only [List.length_cons,List.length_nil]; omega) | (rw [hst2]; done) | (rw [hst2]; omega))) (sc rfl (sc rfl (sc rfl (sc rfl (sc rfl (sc rfl (sc rfl (sc (ji (by first | omega | (simp [Roll.inT,Sh.bIn]; done) | (rw [hst2,List.length_append]; simp only [List.length_cons,List.length_nil]; omega) | (rw [hst2]; done) | (rw [hst2]; omega))) sn))))))))))))) (fun _ h=>by rw [hst]; exact (h.sel [1,2,3,4,5,6,7,8,9,10] (by decide) rfl)) ?_ ?_)
     · omega
     omega
   have hk2:z.raw.take j=z.raw:=List.take_of_length_le (by omega)
   rw [hk2]
   refine yc (yH (yn (yJ (zm (yC hK33 (zL (zB (yM 2 [iV u.count,iV u.total,iV u.min,iV u.max,iV u.first,iV u.last,iV u.rise] rfl rfl rfl rfl agg89 inf89) (zB (yM 0 [iV ((Agg.of (Roll.inT z.raw s1.frm s1.to)).count),iV ((Agg.of (Roll.inT z.raw s1.frm s1.to)).total),iV ((Agg.of (Roll.inT z.raw s1.frm s1.to)).min),iV ((Agg.of (Roll.inT z.raw s1.frm s1.to)).max),iV ((Agg.of (Roll.inT z.raw s1.frm s1.to)).first),iV ((Agg.of (Roll.inT z.raw s1.frm s1.to)).last),iV ((Agg.of (Roll.inT z.raw s1.frm s1.to)).rise)] rfl rfl rfl rfl agg89 inf89) (yF wn rfl call66 rfl (fun w1 hM=>uS u (Agg.of (Roll.inT z.raw s1.frm s1.to)) w1) (zn 2 wn rfl rfl rfl inf89 rfl rfl rfl (zj (zm (yC hK12 (zL (zB (zz rfl rfl (by omega)) (zE rfl (zj (vJ (k + 1) (Agg.join u (Agg.of (Roll.inT z.raw s1.frm s1.to))) (c + ((Roll.inT z.raw s1.frm s1.to).length:Int)) (sc rfl (sc rfl (sc rfl (sc rfl (sc rfl (sc rfl (sc rfl (sc (ji (by first | omega | (simp [Roll.inT,Sh.bIn]; done) | (rw [hst2,List.length_append]; simp only [List.length_cons,List.length_nil]; omega) | (rw [hst2]; done) | (rw [hst2]; omega))) sn)))))))) (S9 [2,3,4,5,6,7,8,9]) ?_ ?_))))))))))))))))))
   · have hps:=Sh.partSum_0 (z:=z) h11 h12
     have hgd:=Sh.partSum_good (Sh.ok_of h1) (Classical.not_not.1 h3)
     have hcr:=Sh.partCost_rng (Sh.ok_of h1) s1
     rw [hps.1] at hgd
     rw [hps.2] at hcr
     exact ⟨by omega,Sh.read_next hI1.2.1 hs1 (Classical.not_not.1 h3) (Sh.apart_zero (by omega)) hps.1 hps.2,by omega,(hI1.2.2.2.join hgd (by omega)).mono (by omega)⟩
   omega
 refine yc (yH (uV (yJ (yC hK8 (zG fun _ hK46=>zB (yM 0 [iV u.count,iV u.total,iV u.min,iV u.max,iV u.first,iV u.last,iV u.rise] rfl rfl rfl rfl agg89 inf89) (zE rfl (zn 1 wn rfl rfl rfl inf89 rfl rfl rfl (zO rfl (zO rfl (zD hK46 (zV (ua (.inl rfl) results118 (zo 1 rfl rfl agg89 inf89 rfl) (zQ rfl) (zQ rfl) fun w1 hM=>?_))))))))))))
 have he:Sh.read z l=(u,c,0):=Sh.read_ok h1 hI1.2.1 (by omega)
 rw [he]
 exact zq rfl hM
end
section
open Tryz
open Ex
set_option linter.unusedVariables false
set_option linter.unusedSimpArgs false
theorem c_idxX (lv : Value) (l : List zC) (f : Nat) (fcap : Array Value) (fp : zC → Bool) (P0 : Nat → Prop) (w : World) (hP0 : ∀ b, P0 b → b < w.heap.size) (hl : zK P0 7 yh lv l w) (hla : ∀ x ∈ l, zC.Ok P0 x w) (fc : ∀ vs w, (callFunc f vs).run prog w = .ok (.enter f vs) w) (fh : ∀ x : zC, x ∈ l → ∀ w1 : World, Fr no w w1 → Calls prog f (#[.agg (yh x).toArray] ++ fcap) w1 (Ret w1 (.bool (fp x))))  :
    Calls prog 214 #[lv,.func (.func f) #[] fcap] w (Ret w (iV (Sh.idx fp l))):=by
 have hwl:∀ x ∈ l,zC.Wf x:=fun x hx=>(hla x hx).wf
 obtain ⟨lA,lc,rfl,hlc,hlm,hlA⟩:=hl.form
 refine fstart (N:=19) (vals:=[.slice lA l.length lc,.func (.func f) #[] fcap]) (S:=Mem w ⟨no,P0⟩ [slP 7 yh (.slice lA l.length lc) l,allP zC.Ok l]) func214 rfl rfl rfl (Mem.ofDatsP hP0 (dc (dlp hl) (dc (dp (all_loc zC.Ok.loc _) hla) dn))) (zG fun _ hK1=>zO rfl (zD hK1 (zS fun _ hK2=>zG fun _ hK3=>zE rfl (zB (yg rfl underlying57) (zE rfl (zD hK3 (zl (vF (fun (k:Nat)=>[(0,.slice lA l.length lc),(1,.func (.func f) #[] fcap),(7,iV l.length),(8,iV k)]) (fun (k:Nat)=>[slP 7 yh (.slice lA l.length lc) l,allP zC.Ok l]) (fun (k:Nat)=>k≤l.length∧∀ y ∈ l.take k,fp y=false) (fun (k:Nat)=>l.length - k) 0 (sc rfl (sc rfl (sc rfl (sc (ji (by omega)) sn)))) (fun _ h=>h) ?_ (fun k hI1=>?_)))))))))
 · simp
 refine zG fun _ hK4=>zB (yR rfl rfl) (zD hK4 (zS fun _ hK5=>za rfl (fun h1=>?_) (fun h1=>?_)))
 · refine yL hK5 (zS fun _ hK6=>zl (zG fun _ hK7=>zE rfl (zO rfl (zD hK7 (zG fun _ hK8=>zE rfl (zE rfl (zE rfl ?_)))))))
   obtain ⟨ad1,hd1⟩:=hlA (ne_nil (i:=k) (by first | omega | (simp <;> omega)))
   refine zB (vC (i:=k) rfl hd1 rfl (by omega) (by first | omega | (simp <;> omega)) underlying57 inf59) ?_
   obtain ⟨s1,hs1⟩:∃ x,l[k]?=some x:=⟨_,List.getElem?_eq_getElem (by first | omega | (simp <;> omega))⟩
   refine zB (v8 0 [iV s1.kind,iV s1.n,iV s1.range,.string s1.word,.slice s1.ms.A s1.ms.l.length s1.ms.c,.slice s1.by_.A s1.by_.l.length s1.by_.c,.slice s1.kids.A s1.kids.l.length s1.kids.c] rfl rfl hd1 hs1 rfl rfl agg59 inf59) (uH wn rfl rfl fc rfl (fun w1 hM=>fh s1 (List.mem_of_getElem? hs1) w1 hM.fr) (zD hK8 (yl rfl (fun h2=>?_) (fun h2=>?_))))
   · refine zG fun _ hK9=>zE rfl (zO rfl (zD hK9 (zV (yD (zJ (yk (yD (zJ (zY (.inl rfl) results214 (zQ rfl) fun w1 hM=>?_)))))))))
     exact zq (by rw [Sh.idx_at hI1.2 hs1 h2]) hM
   refine yV (zm (yC hK6 (zL (zB (zz rfl rfl (by omega)) (zE rfl (zj (yd (k + 1) (sc rfl (sc rfl (sc rfl (sc (ji (by omega)) sn)))) (fun _ h=>h) ?_ ?_)))))))
   · exact ⟨by omega,Sh.none_step hI1.2 hs1 h2⟩
   omega
 refine yc (yH (yn (yJ (yC hK2 (zG fun _ hK10=>zO rfl (zD hK10 (zV (zY (.inl rfl) results214 (zQ rfl) fun w1 hM=>?_))))))))
 exact zq (by rw [Sh.idx_none hI1.2 (by omega)]) hM
theorem c_contX (lv : Value) (l : List zC) (f : Nat) (fcap : Array Value) (fp : zC → Bool) (P0 : Nat → Prop) (w : World) (hP0 : ∀ b, P0 b → b < w.heap.size) (hl : zK P0 7 yh lv l w) (hla : ∀ x ∈ l, zC.Ok P0 x w) (fc : ∀ vs w, (callFunc f vs).run prog w = .ok (.enter f vs) w) (fh : ∀ x : zC, x ∈ l → ∀ w1 : World, Fr no w w1 → Calls prog f (#[.agg (yh x).toArray] ++ fcap) w1 (Ret w1 (.bool (fp x))))  :
    Calls prog 187 #[lv,.func (.func f) #[] fcap] w (Ret w (.bool (l.any fp))):=by
 have hwl:∀ x ∈ l,zC.Wf x:=fun x hx=>(hla x hx).wf
 obtain ⟨lA,lc,rfl,hlc,hlm,hlA⟩:=hl.form
 refine fstart (N:=9) (vals:=[.slice lA l.length lc,.func (.func f) #[] fcap]) (S:=Mem w ⟨no,P0⟩ [slP 7 yh (.slice lA l.length lc) l,allP zC.Ok l]) func187 rfl rfl rfl (Mem.ofDatsP hP0 (dc (dlp hl) (dc (dp (all_loc zC.Ok.loc _) hla) dn))) (zG fun _ hK1=>zO rfl (zD hK1 (zG fun _ hK2=>zE rfl (zE rfl (yF wn rfl call214 rfl (fun w1 hM=>c_idxX _ l f fcap fp (In w1) w1 (fun _ h=>h) (hM.slp 0 rfl) (hM.vP (i:=1) rfl) fc (fun x hx w2 hf=>fh x hx w2 (hM.fr.trans hf (fun _ _ h=>h)))) (zB (vn rfl rfl) (zO rfl (zD hK2 (zV (zY (.inl rfl) results187 (zQ rfl) fun w1 hM=>?_))))))))))
 exact zq (congrArg Value.bool (by rw [Bool.eq_iff_iff,decide_eq_true_iff]; exact Sh.idx_any)) hM
def u4 (e : zC) : Prop := ∀ (P0 : Nat → Prop) (w : World) (hP0 : ∀ b, P0 b → b < w.heap.size) (he : zC.Ok P0 e w) ,
    Calls prog 154 #[.agg (yh e).toArray] w (Ret w (.bool (Lg.vector e.e)))
theorem c_vector_step (e : zC) (ih : ∀ k : zC, SizeOf.sizeOf k < SizeOf.sizeOf e → u4 k) : u4 e := by
  intro P0 w hP0 he
  have hwe:=he.wf
  refine fstart (N:=11) (vals:=[.agg (yh e).toArray]) (S:=Mem w ⟨no,P0⟩ [okP zC.Ok e]) func154 rfl rfl rfl (Mem.ofDatsP hP0 (dc (dp (zC.Ok.loc _) he) dn)) (zS fun K1 hK1=>zL (vR wn rfl rfl fun b1=>zO rfl (zD hK1 (zS fun K2 hK2=>zS fun K3 hK3=>zL (zB (zc rfl fld59_0) (zB (zi 0 rfl rfl rfl flat3) (zD hK3 ?_)))))))
  refine zl (vm [(1,.pointer (some ⟨b1,0,none⟩)),(5,.bool (decide (((e.kind=2)∧(e.kind=2))∨(¬ (e.kind=2)∧(e.kind=3)))))] (Mem w ⟨no,P0⟩ [.blk b1 [iV e.kind,iV e.n,iV e.range,.string e.word,.slice e.ms.A e.ms.l.length e.ms.c,.slice e.by_.A e.by_.l.length e.by_.c,.slice e.kids.A e.kids.l.length e.kids.c] 59,okP zC.Ok e]) (fun K4 hK4=>?_) ?_)
  ·
    refine zS fun K5 hK5=>zL (zB (yj rfl rfl) (zO rfl (zD hK5 (za rfl (fun h1=>?_) (fun h1=>?_)))))
    ·
      refine yV (yi hK4 (sc rfl (sc (jp (iff_ite_l h1 Iff.rfl)) sn)) (fun _ h=>h))
    ·
      refine zL (zB (yj rfl rfl) (zO rfl ?_))
      refine zj (yi hK4 (sc rfl (sc (jp (iff_ite_r h1 Iff.rfl)) sn)) (fun _ h=>h))
  ·
    refine za rfl (fun h2=>?_) (fun h2=>?_)
    ·
      refine zS fun K6 hK6=>zL (zO rfl (zD hK6 (zV (yD (zJ (zY (.inl rfl) results154 (zQ rfl) fun w1 hM=>?_))))))
      exact zq (congrArg Value.bool (Lg.vector_yes (by have:=h2; omega)).symm) hM
    ·
      refine yV (zm (yC hK2 (zS fun K7 hK7=>zL (zB (zc rfl fld59_6) (zB (zi 0 rfl rfl rfl flat57) (yU (fun _ h=>h.exprX 1 rfl) ?_))))))
      obtain ⟨hc1,hm1,hA1⟩:=hwe.ms
      obtain ⟨hc2,hm2,hA2⟩:=hwe.by_
      obtain ⟨hc3,hm3,hA3⟩:=hwe.kids
      refine yF wn rfl call187 rfl (fun w1 hM=>c_contX _ e.kids.l 154 #[] (fun k=>Lg.vector k.e) (In w1) w1 (fun _ h=>h) (hM.slp 2 rfl) (hM.vP (i:=3) rfl) call154 (fun k hk w2 hf=>by simpa using ih k (zC.kid_lt hk) (In w2) w2 (fun _ h=>h) (zC.Ok.loc k (In w1) (In w2) w1 w2 (fun b hb=>Nat.lt_of_lt_of_le hb hf.size) (fun b hb=>hf.block b hb id) (hM.vP (i:=3) rfl k hk)))) (zO rfl (zD hK7 (zV (zY (.inl rfl) results154 (zQ rfl) fun w1 hM=>?_))))
      exact zq (congrArg Value.bool (Lg.vector_no (by have:=h2; omega)).symm) hM
theorem c_vector (e:zC):u4 e:=recX c_vector_step e
def jK (e : zC) : Prop := ∀ (P0 : Nat → Prop) (w : World) (hP0 : ∀ b, P0 b → b < w.heap.size) (he : zC.Ok P0 e w) ,
    Calls prog 102 #[.agg (yh e).toArray] w (Ret w (iV (Lg.typed e.e)))
theorem c_typed_step (e : zC) (ih : ∀ k : zC, SizeOf.sizeOf k < SizeOf.sizeOf e → jK k) : jK e := by
  intro P0 w hP0 he
  have hwe:=he.wf
  refine fstart (N:=36) (vals:=[.agg (yh e).toArray]) (S:=Mem w ⟨no,P0⟩ [okP zC.Ok e]) func102 rfl rfl rfl (Mem.ofDatsP hP0 (dc (dp (zC.Ok.loc _) he) dn)) (zS fun K1 hK1=>zL (vR wn rfl rfl fun b1=>zO rfl (zD hK1 (zS fun K2 hK2=>vm [(1,.pointer (some ⟨b1,0,none⟩)),(22,.bool (decide ((e.kind=3)∧(((e.kids.l.length:Int)=1)∧((!(e.kids.l.any fun k=>Lg.vector k.e))=true)))))] (Mem w ⟨no,P0⟩ [.blk b1 [iV e.kind,iV e.n,iV e.range,.string e.word,.slice e.ms.A e.ms.l.length e.ms.c,.slice e.by_.A e.by_.l.length e.by_.c,.slice e.kids.A e.kids.l.length e.kids.c] 59,okP zC.Ok e]) (fun K3 hK3=>?_) ?_))))
  ·
    refine zL (zB (zc rfl fld59_0) (zB (zi 0 rfl rfl rfl flat3) (zB (yj rfl rfl) (zE rfl (yQ (t:=9) rfl (fun h1=>?_) (fun h1=>?_))))))
    ·
      refine zd (zc rfl fld59_6) (zd (zi 0 rfl rfl rfl flat57) (zd (yg rfl underlying57) (zd (yj rfl rfl) (zB (zP rfl rfl) (zE rfl (yQ (t:=15) rfl (fun h2=>?_) (fun h2=>?_)))))))
      ·
        refine zd (zc rfl fld59_6) (zd (zi 0 rfl rfl rfl flat57) (yU (fun _ h=>h.exprX 1 rfl) ?_))
        obtain ⟨hc1,hm1,hA1⟩:=hwe.ms
        obtain ⟨hc2,hm2,hA2⟩:=hwe.by_
        obtain ⟨hc3,hm3,hA3⟩:=hwe.kids
        obtain ⟨ad1,hd1⟩:=hA3 (ne_nil (i:=0) (by first | omega | (simp <;> omega)))
        refine zd (vC (i:=0) rfl hd1 rfl (by omega) (by first | omega | (simp <;> omega)) underlying57 inf59) ?_
        obtain ⟨s1,hs1⟩:∃ x,e.kids.l[0]?=some x:=⟨_,List.getElem?_eq_getElem (by first | omega | (simp <;> omega))⟩
        refine zd (v8 2 [iV s1.kind,iV s1.n,iV s1.range,.string s1.word,.slice s1.ms.A s1.ms.l.length s1.ms.c,.slice s1.by_.A s1.by_.l.length s1.by_.c,.slice s1.kids.A s1.kids.l.length s1.kids.c] rfl rfl hd1 hs1 rfl rfl agg59 inf59) ?_
        have hw1:=hwe.all _ (List.mem_of_getElem? hs1)
        refine yU (fun _ h=>h.one 3 zC.Ok.loc rfl hs1) (yF (wg rfl rfl rfl) rfl call154 rfl (fun w1 hM=>c_vector s1 (In w1) w1 (fun _ h=>h) (hM.vP (i:=0) rfl)) (zd (rv_b (show _=(!(e.kids.l.any fun k=>Lg.vector k.e)) from congrArg Bool.not (Lg.any_one (by omega) hs1).symm) (y5 rfl)) (zB (zP rfl rfl) ?_)))
        refine zj (yi hK3 (sc rfl (sc (jpb (iff_and_right h1 (iff_and_right h2 Iff.rfl))) sn)) (S9 [5,6]))
      ·
        refine zW (zW (zW (zW (zW (zW (zB (zP rfl rfl) ?_))))))
        refine zj (yi hK3 (sc rfl (sc (jf (fun g=>(fun g=>h2 g.1) g.2)) sn)) (fun _ h=>h))
    ·
      refine zW (zW (zW (zW (zB (zP rfl rfl) (zE rfl (zW (zW (zW (zW (zW (zW ?_)))))))))))
      refine zB (zP rfl rfl) ?_
      refine zj (yi hK3 (sc rfl (sc (jf (fun g=>h1 g.1)) sn)) (fun _ h=>h))
  ·
    refine za rfl (fun h3=>?_) (fun h3=>?_)
    ·
      refine zS fun K4 hK4=>zL (zO rfl (zD hK4 (zV (zJ (zY (.inl rfl) results102 (zQ rfl) fun w1 hM=>?_)))))
      exact zq (congrArg (Value.int .i64) (Lg.typed_8 h3).symm) hM
    ·
      refine yL hK2 (zS fun K5 hK5=>zS fun K6 hK6=>zL (zB (zc rfl fld59_6) (zB (zi 0 rfl rfl rfl flat57) (zB (yg rfl underlying57) (zE rfl (zD hK6 (zl (vF (fun (k:Nat)=>[(24,.slice e.kids.A e.kids.l.length e.kids.c),(25,iV e.kids.l.length),(26,iV k)]) (fun (k:Nat)=>[.blk b1 [iV e.kind,iV e.n,iV e.range,.string e.word,.slice e.ms.A e.ms.l.length e.ms.c,.slice e.by_.A e.by_.l.length e.by_.c,.slice e.kids.A e.kids.l.length e.kids.c] 59,okP zC.Ok e]) (fun (k:Nat)=>k≤e.kids.l.length∧Lg.typeds ((e.kids.l.take k).map zC.e)=0) (fun (k:Nat)=>e.kids.l.length - k) 0 (sc rfl (sc rfl (sc (ji (by omega)) sn))) (fun _ h=>h) ?_ (fun k hI1=>?_)))))))))
      · exact ⟨by omega,rfl⟩
      ·
        refine zS fun K7 hK7=>zL (zB (yR rfl rfl) (zD hK7 (zS fun K8 hK8=>za rfl (fun h4=>?_) (fun h4=>?_))))
        ·
          refine yL hK8 (zS fun K9 hK9=>zl (zS fun K10 hK10=>zL (yU (fun _ h=>h.exprX 1 rfl) ?_)))
          obtain ⟨hc4,hm4,hA4⟩:=hwe.ms
          obtain ⟨hc5,hm5,hA5⟩:=hwe.by_
          obtain ⟨hc6,hm6,hA6⟩:=hwe.kids
          obtain ⟨ad2,hd2⟩:=hA6 (ne_nil (i:=k) (by first | omega | (simp <;> omega)))
          refine zB (vC (i:=k) rfl hd2 rfl (by omega) (by first | omega | (simp <;> omega)) underlying57 inf59) ?_
          obtain ⟨s2,hs2⟩:∃ x,e.kids.l[k]?=some x:=⟨_,List.getElem?_eq_getElem (by first | omega | (simp <;> omega))⟩
          refine zB (v8 2 [iV s2.kind,iV s2.n,iV s2.range,.string s2.word,.slice s2.ms.A s2.ms.l.length s2.ms.c,.slice s2.by_.A s2.by_.l.length s2.by_.c,.slice s2.kids.A s2.kids.l.length s2.kids.c] rfl rfl hd2 hs2 rfl rfl agg59 inf59) (zy wn inf59 rfl fun b4=>zn 0 wn rfl rfl rfl inf59 rfl rfl rfl (zD hK10 (zS fun K11 hK11=>zL (zB (yM 0 [iV s2.kind,iV s2.n,iV s2.range,.string s2.word,.slice s2.ms.A s2.ms.l.length s2.ms.c,.slice s2.by_.A s2.by_.l.length s2.by_.c,.slice s2.kids.A s2.kids.l.length s2.kids.c] rfl rfl rfl rfl agg59 inf59) ?_))))
          have hw2:=hwe.all _ (List.mem_of_getElem? hs2)
          refine yU (fun _ h=>h.one 4 zC.Ok.loc rfl hs2) (yF wn rfl call102 rfl (fun w1 hM=>ih s2 (zC.kid_lt (List.mem_of_getElem? hs2)) (In w1) w1 (fun _ h=>h) (hM.vP (i:=0) rfl)) (zO rfl (zD hK11 (zS fun K12 hK12=>zL (zE rfl (zB (vH rfl rfl) (zD hK12 (za rfl (fun h5=>?_) (fun h5=>?_)))))))))
          ·
            refine zS fun K13 hK13=>zL (zE rfl (zO rfl (zD hK13 (zV (yD (zJ (yk (yD (zJ (zY (.inl rfl) results102 (zQ rfl) fun w1 hM=>?_))))))))))
            exact zq (congrArg (Value.int .i64) (((Lg.typed_rest h3).trans ((Lg.typeds_next hI1.2 hs2).2 h5)).symm)) hM
          ·
            refine yV (zm (yC hK9 (zL (zB (zz rfl rfl (by omega)) (zE rfl (zj (yd (k + 1) (sc rfl (sc rfl (sc (ji (by omega)) sn))) (S9 [6,7]) ?_ ?_)))))))
            · exact ⟨by omega,(Lg.typeds_next hI1.2 hs2).1.trans (Classical.not_not.1 h5)⟩
            · omega
        ·
          refine yc (yH (yn (yJ (yC hK5 (zS fun K14 hK14=>zL (zO rfl (zD hK14 (zV (zY (.inl rfl) results102 (zQ rfl) fun w1 hM=>?_)))))))))
          exact zq (congrArg (Value.int .i64) (((Lg.typed_rest h3).trans (by rw [← hI1.2,List.take_of_length_le (by omega)])).symm)) hM
theorem c_typed (e:zC):jK e:=recX c_typed_step e
theorem c_idxStr (lv : Value) (l : List ByteArray) (f : Nat) (fcap : Array Value) (fp : ByteArray → Bool) (w : World) (hl : zK (In w) 1 strE lv l w) (fc : ∀ vs w, (callFunc f vs).run prog w = .ok (.enter f vs) w) (fh : ∀ (x : ByteArray) (w1 : World), Fr no w w1 → Calls prog f (#[.string x] ++ fcap) w1 (Ret w1 (.bool (fp x))))  :
    Calls prog 186 #[lv,.func (.func f) #[] fcap] w (Ret w (iV (Sh.idx fp l))):=by
 obtain ⟨lA,lc,rfl,hlc,hlm,hlA⟩:=hl.form
 refine fstart (N:=19) (vals:=[.slice lA l.length lc,.func (.func f) #[] fcap]) (S:=Mem w no [slO (In w) 1 strE (.slice lA l.length lc) l]) func186 rfl rfl rfl (Mem.ofDats (dc (dl hl) dn)) (zG fun _ hK1=>zO rfl (zD hK1 (zS fun _ hK2=>zG fun _ hK3=>zE rfl (zB (yg rfl underlying56) (zE rfl (zD hK3 (zl (vF (fun (k:Nat)=>[(0,.slice lA l.length lc),(1,.func (.func f) #[] fcap),(7,iV l.length),(8,iV k)]) (fun (k:Nat)=>[slO (In w) 1 strE (.slice lA l.length lc) l]) (fun (k:Nat)=>k≤l.length∧∀ y ∈ l.take k,fp y=false) (fun (k:Nat)=>l.length - k) 0 (sc rfl (sc rfl (sc rfl (sc (ji (by omega)) sn)))) (fun _ h=>h) ?_ (fun k hI1=>?_)))))))))
 · simp
 refine zG fun _ hK4=>zB (yR rfl rfl) (zD hK4 (zS fun _ hK5=>za rfl (fun h1=>?_) (fun h1=>?_)))
 · refine yL hK5 (zS fun _ hK6=>zl (zG fun _ hK7=>zE rfl (zO rfl (zD hK7 (zG fun _ hK8=>zE rfl (zE rfl (zE rfl ?_)))))))
   obtain ⟨ad1,hd1⟩:=hlA (ne_nil (i:=k) (by first | omega | (simp <;> omega)))
   refine zB (vC (i:=k) rfl hd1 rfl (by omega) (by first | omega | (simp <;> omega)) underlying56 inf9) ?_
   obtain ⟨s1,hs1⟩:∃ x,l[k]?=some x:=⟨_,List.getElem?_eq_getElem (by first | omega | (simp <;> omega))⟩
   refine zB (gC 0 rfl rfl hd1 hs1 rfl flat9) (uH wn rfl rfl fc rfl (fun w1 hM=>fh s1 w1 hM.fr) (zD hK8 (yl rfl (fun h2=>?_) (fun h2=>?_))))
   · refine zG fun _ hK9=>zE rfl (zO rfl (zD hK9 (zV (yD (zJ (yk (yD (zJ (zY (.inl rfl) results186 (zQ rfl) fun w1 hM=>?_)))))))))
     exact zq (by rw [Sh.idx_at hI1.2 hs1 h2]) hM
   refine yV (zm (yC hK6 (zL (zB (zz rfl rfl (by omega)) (zE rfl (zj (yd (k + 1) (sc rfl (sc rfl (sc rfl (sc (ji (by omega)) sn)))) (fun _ h=>h) ?_ ?_)))))))
   · exact ⟨by omega,Sh.none_step hI1.2 hs1 h2⟩
   omega
 refine yc (yH (yn (yJ (yC hK2 (zG fun _ hK10=>zO rfl (zD hK10 (zV (zY (.inl rfl) results186 (zQ rfl) fun w1 hM=>?_))))))))
 exact zq (by rw [Sh.idx_none hI1.2 (by omega)]) hM
theorem c_contStr (lv : Value) (l : List ByteArray) (f : Nat) (fcap : Array Value) (fp : ByteArray → Bool) (w : World) (hl : zK (In w) 1 strE lv l w) (fc : ∀ vs w, (callFunc f vs).run prog w = .ok (.enter f vs) w) (fh : ∀ (x : ByteArray) (w1 : World), Fr no w w1 → Calls prog f (#[.string x] ++ fcap) w1 (Ret w1 (.bool (fp x))))  :
    Calls prog 152 #[lv,.func (.func f) #[] fcap] w (Ret w (.bool (l.any fp))):=by
 obtain ⟨lA,lc,rfl,hlc,hlm,hlA⟩:=hl.form
 refine fstart (N:=9) (vals:=[.slice lA l.length lc,.func (.func f) #[] fcap]) (S:=Mem w no [slO (In w) 1 strE (.slice lA l.length lc) l]) func152 rfl rfl rfl (Mem.ofDats (dc (dl hl) dn)) (zG fun _ hK1=>zO rfl (zD hK1 (zG fun _ hK2=>zE rfl (zE rfl (yF wn rfl call186 rfl (fun w1 hM=>c_idxStr _ l f fcap fp w1 (hM.sl 0 rfl) fc (fun x w2 h2=>fh x w2 (hM.fr.trans h2 (fun _ _ h=>h)))) (zB (vn rfl rfl) (zO rfl (zD hK2 (zV (zY (.inl rfl) results152 (zQ rfl) fun w1 hM=>?_))))))))))
 exact zq (congrArg Value.bool (by rw [Bool.eq_iff_iff,decide_eq_true_iff]; exact Sh.idx_any)) hM
theorem c_own1 (k : ByteArray) (w : World)   :
    Calls prog 153 #[.string k] w (Ret w (.bool (!zZ.named k))):=by
 refine fstart (N:=6) (vals:=[.string k]) (S:=Mem w no []) func153 rfl rfl rfl (Mem.ofDats dn) (zG fun _ hK1=>zO rfl (zD hK1 (zG fun _ hK2=>zE rfl (yF wn rfl call92 rfl (fun w1 hM=>ur k w1) (zB (y5 rfl) (zO rfl (zD hK2 (zV (zY (.inl rfl) results153 (zQ rfl) fun w1 hM=>?_)))))))))
 exact zq rfl hM
theorem c_Totals  (w : World)   :
    Calls prog 151 #[] w (RetL w 9 1 strE Lg.totals):=by
 refine fstart (N:=2) (vals:=[]) (S:=Mem w no []) func151 rfl rfl rfl (Mem.ofDats dn) (zG fun _ hK1=>zO rfl (zD hK1 (zG fun _ hK2=>yt strE ([⟨#[99,111,117,110,116]⟩,⟨#[109,97,120]⟩,⟨#[109,105,110]⟩,⟨#[115,117,109]⟩]:List ByteArray) wn underlying56 inf9 rfl rfl rfl rfl (by decide) (by decide) rfl fun b1=>zO rfl (zD hK2 (zV (zY (.inl rfl) results151 (zQ rfl) fun w1 hM=>?_))))))
 exact hM.ue 0 rfl rfl
theorem c_kids (kind : Int) (w : World)  (h1_ : 1 ≤ kind) (h2_ : kind ≤ 4) :
    Calls prog 100 #[iV kind] w (Ret w (iV (Lg.arity kind))):=by
 refine fstart (N:=7) (vals:=[iV kind]) (S:=Mem w no []) func100 rfl rfl rfl (Mem.ofDats dn) (zG fun _ hK1=>zO rfl (zD hK1 (zG fun _ hK2=>yt intE ([0,0,0,1,2]:List Int) wn underlying37 inf3 rfl rfl rfl rfl (by decide) (by decide) rfl fun b3=>zE rfl (zB (vC (i:=kind.toNat) rfl rfl rfl (by omega) (by first | omega | (simp <;> omega)) underlying37 inf3) ?_))))
 obtain ⟨s1,hs1⟩:∃ x,([0,0,0,1,2]:List Int)[kind.toNat]?=some x:=⟨_,List.getElem?_eq_getElem (by first | omega | (simp <;> omega))⟩
 refine zB (uz 0 encInt rfl rfl rfl hs1 rfl flat3) (zO rfl (zD hK2 (zV (zY (.inl rfl) results100 (zQ rfl) fun w1 hM=>?_))))
 exact zq (congrArg (Value.int .i64) (Lg.arity_at h1_ h2_ hs1)) hM
set_option maxHeartbeats 1000000 in
theorem c_shWindow (h : Value) (ead : Addr) (e : zC) (P0 : Nat → Prop) (w : World) (hP0 : ∀ b, P0 b → b < w.heap.size) (hec : vb P0 ead (yh e) w) (he : zC.Ok P0 e w)  :
    Calls prog 149 #[h,.pointer (some ead)] w (Ret w (iV (Lg.windowW e.word e.ms.l e.range))):=by
 have hwe:=he.wf
 refine fstart (N:=70) (vals:=[h,.pointer (some ((Addr.add ead 0).add 0))]) (S:=Mem w ⟨no,P0⟩ [celP ead [iV e.kind,iV e.n,iV e.range,.string e.word,.slice e.ms.A e.ms.l.length e.ms.c,.slice e.by_.A e.by_.l.length e.by_.c,.slice e.kids.A e.kids.l.length e.kids.c],okP zC.Ok e]) func149 rfl rfl rfl (Mem.ofDatsP hP0 (dc (dp (vb.loc _ _) hec) (dc (dp (zC.Ok.loc _) he) dn))) (zG fun _ hK1=>zO rfl (zD hK1 (zS fun _ hK2=>zS fun _ hK3=>vG (Mem w ⟨no,P0⟩ [celP ead [iV e.kind,iV e.n,iV e.range,.string e.word,.slice e.ms.A e.ms.l.length e.ms.c,.slice e.by_.A e.by_.l.length e.by_.c,.slice e.kids.A e.kids.l.length e.kids.c],okP zC.Ok e]) mix (fun _ h=>h.drew) rfl (ux (f:=3) [1,2,3,4] rfl rfl (by kernel_rfl) (by kernel_rfl) (fun _ h=>h) fun KS hKS=>yB (zg rfl) (yB (zR rfl) (yB (y0 rfl fld59_3) (yB (yy 0 rfl rfl rfl flat9) ?_)))))))
 refine yZ hKS (yW 2 0 (yX (i:=0) rfl fun KN hKN=>uQ Agg.words wn rfl call33 rfl (fun w1 hM=>c_Words  w1) fun A1 cp1 hc1 hm1 hA1=>yP hKN [1,2] (yW 1 5 (yX (i:=5) rfl fun KN hKN=>yF wn rfl call150 rfl (fun w1 hM=>uN _ Agg.words e.word w1 (RowSl encString hM 0 rfl)) (yP hKN [1,2] (vE 0 [6] [1,2] rfl fun KS hKS=>yB (jM rfl) (yZ hKS ?_)))))))
 refine yp (by kernel_rfl) (yC hK3 (za rfl (fun h1=>?_) (fun h1=>?_)))
 · refine zG fun _ hK4=>zO rfl (zD hK4 (zV (zJ (zY (.inl rfl) results149 (zQ rfl) fun w1 hM=>?_))))
   exact zq (congrArg (Value.int .i64) (by unfold Lg.windowW; grind)) hM
 refine yL hK2 (zS fun _ hK5=>zG fun _ hK6=>zE rfl (zB (zR rfl) (zB (y0 rfl fld59_4) (zB (yy 1 rfl rfl rfl flat55) (zB (yg rfl underlying55) (zB (y8 rfl rfl) (zD hK6 (za rfl (fun h2=>?_) (fun h2=>?_)))))))))
 · refine zG fun _ hK7=>zO rfl (zD hK7 (zV (zJ (zY (.inl rfl) results149 (zQ rfl) fun w1 hM=>?_))))
   exact zq (congrArg (Value.int .i64) (by unfold Lg.windowW; grind)) hM
 refine yL hK5 (zS fun _ hK8=>zG fun _ hK9=>zE rfl (zB (zR rfl) (zB (y0 rfl fld59_4) (zB (yy 1 rfl rfl rfl flat55) (zB (yg rfl underlying55) (zE rfl (zD hK9 (zl (vF (fun (k:Nat)=>[(1,.pointer (some ((Addr.add ead 0).add 0))),(23,.slice e.ms.A e.ms.l.length e.ms.c),(24,iV e.ms.l.length),(25,iV k)]) (fun (k:Nat)=>[Row (.slice A1 Agg.words.length cp1) 9 1 strE Agg.words,celP ead [iV e.kind,iV e.n,iV e.range,.string e.word,.slice e.ms.A e.ms.l.length e.ms.c,.slice e.by_.A e.by_.l.length e.by_.c,.slice e.kids.A e.kids.l.length e.kids.c],okP zC.Ok e]) (fun (k:Nat)=>k≤e.ms.l.length∧Lg.matchesW e.ms.l=Lg.matchesW (e.ms.l.drop k)) (fun (k:Nat)=>e.ms.l.length - k) 0 (sc rfl (sc rfl (sc rfl (sc (ji (by omega)) sn)))) (fun _ h=>h) ?_ (fun k hI1=>?_))))))))))
 · simp
 refine zG fun _ hK10=>zB (yR rfl rfl) (zD hK10 (zS fun _ hK11=>za rfl (fun h3=>?_) (fun h3=>?_)))
 · refine yL hK11 (zS fun _ hK12=>zl (zG fun _ hK13=>yU (fun _ h=>h.exprX 2 rfl) ?_))
   obtain ⟨hc2,hm2,hA2⟩:=hwe.ms
   obtain ⟨hc3,hm3,hA3⟩:=hwe.by_
   obtain ⟨hc4,hm4,hA4⟩:=hwe.kids
   obtain ⟨ad1,hd1⟩:=hA2 (ne_nil (i:=k) (by first | omega | (simp <;> omega)))
   refine zB (vC (i:=k) rfl hd1 rfl (by omega) (by first | omega | (simp <;> omega)) underlying55 inf179) ?_
   obtain ⟨s1,hs1⟩:∃ x,e.ms.l[k]?=some x:=⟨_,List.getElem?_eq_getElem (by first | omega | (simp <;> omega))⟩
   refine zB (v8 0 [iV s1.kind,.string s1.key,.string s1.val] rfl rfl hd1 hs1 rfl rfl agg179 inf179) (zy wn inf179 rfl fun b6=>zn 0 wn rfl rfl rfl inf179 rfl rfl rfl (zD hK13 (zS fun _ hK14=>vm [(1,.pointer (some ((Addr.add ead 0).add 0))),(6,.pointer (some ⟨b6,0,none⟩)),(23,.slice e.ms.A e.ms.l.length e.ms.c),(24,iV e.ms.l.length),(25,iV k),(36,.bool (decide ((s1.kind < 1)∨(4 < s1.kind))))] (Mem w ⟨no,P0⟩ [.blk b6 [iV s1.kind,.string s1.key,.string s1.val] 179,slP 3 ya (.slice e.ms.A e.ms.l.length e.ms.c) e.ms.l,slP 1 strE (.slice e.by_.A e.by_.l.length e.by_.c) e.by_.l,slP 7 yh (.slice e.kids.A e.kids.l.length e.kids.c) e.kids.l,allP zC.Ok e.kids.l,Row (.slice A1 Agg.words.length cp1) 9 1 strE Agg.words,celP ead [iV e.kind,iV e.n,iV e.range,.string e.word,.slice e.ms.A e.ms.l.length e.ms.c,.slice e.by_.A e.by_.l.length e.by_.c,.slice e.kids.A e.kids.l.length e.kids.c],okP zC.Ok e]) (fun _ hK15=>?_) ?_)))
   · refine zL (zB (zc rfl fld179_0) (zB (zi 0 rfl rfl rfl flat3) (zB (yR rfl rfl) (zE rfl (yQ (t:=32) rfl (fun h4=>?_) (fun h4=>?_))))))
     · refine zW (zW (zW (zB (zP rfl rfl) ?_)))
       refine zj (yi hK15 (sc rfl (sc rfl (sc rfl (sc rfl (sc rfl (sc (jt (Or.inl h4)) sn)))))) (fun _ h=>h))
     refine zd (zc rfl fld179_0) (zd (zi 0 rfl rfl rfl flat3) (zd (y8 rfl rfl) (zB (zP rfl rfl) ?_)))
     refine zj (yi hK15 (sc rfl (sc rfl (sc rfl (sc rfl (sc rfl (sc (jp (iff_or_right h4 Iff.rfl)) sn)))))) (fun _ h=>h))
   refine za rfl (fun h5=>?_) (fun h5=>?_)
   · refine zG fun _ hK16=>zO rfl (zD hK16 (zV (zJ (yD (zJ (yk (yD (zJ (zY (.inl rfl) results149 (zQ rfl) fun w1 hM=>?_)))))))))
     exact zq (congrArg (Value.int .i64) (by have hx:=Lg.matchesW_step hs1; unfold Lg.matchW at hx; unfold Lg.windowW; grind)) hM
   refine yL hK14 (vm [(1,.pointer (some ((Addr.add ead 0).add 0))),(23,.slice e.ms.A e.ms.l.length e.ms.c),(24,iV e.ms.l.length),(25,iV k),(56,.bool (decide (((!(zZ.named s1.key))=true)∨(((s1.kind=1)∧((!(zZ.named s1.val))=true))∨(¬ (s1.kind=1)∧((s1.kind=2)∧((!(zZ.named s1.val))=true)))))))] (Mem w ⟨no,P0⟩ [.blk b6 [iV s1.kind,.string s1.key,.string s1.val] 179,slP 3 ya (.slice e.ms.A e.ms.l.length e.ms.c) e.ms.l,slP 1 strE (.slice e.by_.A e.by_.l.length e.by_.c) e.by_.l,slP 7 yh (.slice e.kids.A e.kids.l.length e.kids.c) e.kids.l,allP zC.Ok e.kids.l,Row (.slice A1 Agg.words.length cp1) 9 1 strE Agg.words,celP ead [iV e.kind,iV e.n,iV e.range,.string e.word,.slice e.ms.A e.ms.l.length e.ms.c,.slice e.by_.A e.by_.l.length e.by_.c,.slice e.kids.A e.kids.l.length e.kids.c],okP zC.Ok e]) (fun _ hK17=>?_) ?_)
   · refine zL (zB (zc rfl fld179_1) (zB (zi 0 rfl rfl rfl flat9) (yF wn rfl call92 rfl (fun w1 hM=>ur s1.key w1) (zB (y5 rfl) (zE rfl (uP (t:=41) rfl (fun h6=>?_) (fun h6=>?_)))))))
     · refine zW (zW (zW (zW (yz (wu rfl rfl) rfl (yz (wu rfl rfl) rfl (yz (wu rfl rfl) rfl (zW (zW (yz (wu rfl rfl) rfl (yz (wu rfl rfl) rfl (yz (wu rfl rfl) rfl ?_)))))))))))
       refine yz (wu rfl rfl) rfl (zW (zB (zP rfl rfl) ?_))
       refine zj (yi hK17 (sc rfl (sc rfl (sc rfl (sc rfl (sc (jt (Or.inl h6)) sn))))) (fun _ h=>h))
     refine zd (zc rfl fld179_0) (zd (zi 0 rfl rfl rfl flat3) (zd (yj rfl rfl) (zd (zg rfl) (yQ (t:=45) rfl (fun h7=>?_) (fun h7=>?_)))))
     · refine zW (zW (zW (zd (zP rfl rfl) (zd (zg rfl) (zd (zc rfl fld179_2) (zd (zi 0 rfl rfl rfl flat9) (yF (wg rfl rfl rfl) rfl call92 rfl (fun w1 hM=>ur s1.val w1) (zd (y5 rfl) (zd (zP rfl rfl) (zB (zP rfl rfl) ?_))))))))))
       refine zj (yi hK17 (sc rfl (sc rfl (sc rfl (sc rfl (sc (jpb (iff_or_right h6 (iff_ite_l h7 Iff.rfl))) sn))))) (fun _ h=>h))
     refine zd (zc rfl fld179_0) (zd (zi 0 rfl rfl rfl flat3) (zd (yj rfl rfl) (zd (zP rfl rfl) (zd (zg rfl) (yQ (t:=50) rfl (fun h8=>?_) (fun h8=>?_))))))
     · refine zd (zc rfl fld179_2) (zd (zi 0 rfl rfl rfl flat9) (yF (wg rfl rfl rfl) rfl call92 rfl (fun w1 hM=>ur s1.val w1) (zd (y5 rfl) (zd (zP rfl rfl) (zB (zP rfl rfl) ?_)))))
       refine zj (yi hK17 (sc rfl (sc rfl (sc rfl (sc rfl (sc (jpb (iff_or_right h6 (iff_ite_r h7 (iff_and_right h8 Iff.rfl)))) sn))))) (fun _ h=>h))
     refine zW (zW (zW (zW (zd (zP rfl rfl) (zB (zP rfl rfl) ?_)))))
     refine zj (yi hK17 (sc rfl (sc rfl (sc rfl (sc rfl (sc (jf (fun g=>g.elim h6 (fun g=>g.elim (fun k=>h7 k.1) (fun k=>(fun g=>h8 g.1) k.2)))) sn))))) (fun _ h=>h))
   refine za rfl (fun h9=>?_) (fun h9=>?_)
   · refine zG fun _ hK18=>zO rfl (zD hK18 (zV (yD (zJ (yk (yD (zJ (zY (.inl rfl) results149 (zQ rfl) fun w1 hM=>?_))))))))
     exact zq (congrArg (Value.int .i64) (by have hx:=Lg.matchesW_step hs1; unfold Lg.matchW at hx; unfold Lg.windowW; grind)) hM
   refine yV (zm (yC hK12 (zL (zB (zz rfl rfl (by omega)) (zE rfl (zj (yd (k + 1) (sc rfl (sc rfl (sc rfl (sc (ji (by omega)) sn)))) (S9 [5,6,7]) ?_ ?_)))))))
   · exact ⟨by omega,by rw [hI1.2,Lg.matchesW_step hs1]; unfold Lg.matchW; grind⟩
   omega
 refine yc (yH (yn (yJ (yC hK8 (zS fun _ hK19=>vm [(69,.bool (decide ((e.range < 1)∨(100000 < e.range))))] (Mem w ⟨no,P0⟩ [Row (.slice A1 Agg.words.length cp1) 9 1 strE Agg.words,celP ead [iV e.kind,iV e.n,iV e.range,.string e.word,.slice e.ms.A e.ms.l.length e.ms.c,.slice e.by_.A e.by_.l.length e.by_.c,.slice e.kids.A e.kids.l.length e.kids.c],okP zC.Ok e]) (fun _ hK20=>?_) ?_)))))
 · refine zL (zE rfl (zB (zR rfl) (zB (y0 rfl fld59_2) (zB (yy 1 rfl rfl rfl flat3) (zB (yR rfl rfl) (zE rfl (yQ (t:=63) rfl (fun h10=>?_) (fun h10=>?_))))))))
   · refine zW (zW (zW (zW (zW (zB (zP rfl rfl) ?_)))))
     refine zj (yi hK20 (sc (jt (Or.inl h10)) sn) (fun _ h=>h))
   refine zd (zg rfl) (zd (zR rfl) (zd (y0 rfl fld59_2) (zd (yy 1 rfl rfl rfl flat3) (zd (y8 rfl rfl) (zB (zP rfl rfl) ?_)))))
   refine zj (yi hK20 (sc (jp (iff_or_right h10 Iff.rfl)) sn) (fun _ h=>h))
 refine za rfl (fun h11=>?_) (fun h11=>?_)
 · refine zG fun _ hK21=>zO rfl (zD hK21 (zV (zJ (zY (.inl rfl) results149 (zQ rfl) fun w1 hM=>?_))))
   exact zq (congrArg (Value.int .i64) (by have hx:=Lg.matchesW_end (l:=e.ms.l) (k:=k) (by omega); unfold Lg.windowW; grind)) hM
 refine yL hK19 (zG fun _ hK22=>zO rfl (zD hK22 (zV (zY (.inl rfl) results149 (zQ rfl) fun w1 hM=>?_))))
 exact zq (congrArg (Value.int .i64) (by have hx:=Lg.matchesW_end (l:=e.ms.l) (k:=k) (by omega); unfold Lg.windowW; grind)) hM
set_option maxHeartbeats 1000000 in
theorem c_shOwn (h : Value) (ead : Addr) (e : zC) (P0 : Nat → Prop) (w : World) (hP0 : ∀ b, P0 b → b < w.heap.size) (hec : vb P0 ead (yh e) w) (he : zC.Ok P0 e w)  :
    Calls prog 101 #[h,.pointer (some ead)] w (Ret w (iV (Lg.ownW e.kind e.n e.range e.word e.ms.l e.by_.l))):=by
 have hwe:=he.wf
 refine fstart (N:=67) (vals:=[h,.pointer (some ((Addr.add ead 0).add 0))]) (S:=Mem w ⟨no,P0⟩ [celP ead [iV e.kind,iV e.n,iV e.range,.string e.word,.slice e.ms.A e.ms.l.length e.ms.c,.slice e.by_.A e.by_.l.length e.by_.c,.slice e.kids.A e.kids.l.length e.kids.c],okP zC.Ok e]) func101 rfl rfl rfl (Mem.ofDatsP hP0 (dc (dp (vb.loc _ _) hec) (dc (dp (zC.Ok.loc _) he) dn))) (zG fun _ hK1=>zO rfl (zD hK1 (zS fun _ hK2=>zG fun _ hK3=>zE rfl (zB (zR rfl) (zB (y0 rfl fld59_0) (zB (yy 0 rfl rfl rfl flat3) (zD hK3 (zl ?_))))))))
 refine zG fun _ hK4=>zB (yj rfl rfl) (zO rfl (zD hK4 (za rfl (fun h1=>?_) (fun h1=>?_))))
 · refine vm [(41,.bool (decide ((e.n < 0)∨(1000000 < e.n))))] (Mem w ⟨no,P0⟩ [celP ead [iV e.kind,iV e.n,iV e.range,.string e.word,.slice e.ms.A e.ms.l.length e.ms.c,.slice e.by_.A e.by_.l.length e.by_.c,.slice e.kids.A e.kids.l.length e.kids.c],okP zC.Ok e]) (fun _ hK5=>?_) ?_
   · refine zL (zE rfl (zB (zR rfl) (zB (y0 rfl fld59_1) (zB (yy 0 rfl rfl rfl flat3) (zB (yR rfl rfl) (zE rfl (yQ (t:=35) rfl (fun h2=>?_) (fun h2=>?_))))))))
     · refine zW (zW (zW (zW (zW (zB (zP rfl rfl) ?_)))))
       refine zj (yi hK5 (sc (jt (Or.inl h2)) sn) (fun _ h=>h))
     refine zd (zg rfl) (zd (zR rfl) (zd (y0 rfl fld59_1) (zd (yy 0 rfl rfl rfl flat3) (zd (y8 rfl rfl) (zB (zP rfl rfl) ?_)))))
     refine zj (yi hK5 (sc (jp (iff_or_right h2 Iff.rfl)) sn) (fun _ h=>h))
   refine za rfl (fun h3=>?_) (fun h3=>?_)
   · refine zG fun _ hK6=>zO rfl (zD hK6 (zV (yD (zJ (zY (.inl rfl) results101 (zQ rfl) fun w1 hM=>?_)))))
     exact zq (congrArg (Value.int .i64) (by have hx:=Lg.signs_iff e.word; unfold Lg.ownW; grind)) hM
   refine yV (zm (yC hK2 (zG fun _ hK7=>zO rfl (zD hK7 (zV (zY (.inl rfl) results101 (zQ rfl) fun w1 hM=>?_))))))
   exact zq (congrArg (Value.int .i64) (by have hx:=Lg.signs_iff e.word; unfold Lg.ownW; grind)) hM
 refine zG fun _ hK8=>zB (yj rfl rfl) (zO rfl (zD hK8 (za rfl (fun h4=>?_) (fun h4=>?_))))
 · refine zG fun _ hK9=>zE rfl (zE rfl (yF wn rfl call149 rfl (fun w1 hM=>c_shWindow h ead e (In w1) w1 (fun _ h=>h) (hM.vP (i:=0) rfl) (hM.vP (i:=1) rfl)) (zO rfl (zD hK9 (zV (yD (zJ (zY (.inl rfl) results101 (zQ rfl) fun w1 hM=>?_))))))))
   exact zq (congrArg (Value.int .i64) (by have hx:=Lg.signs_iff e.word; unfold Lg.ownW; grind)) hM
 refine zG fun _ hK10=>zB (yj rfl rfl) (zO rfl (zD hK10 (za rfl (fun h5=>?_) (fun h5=>?_))))
 · refine zS fun _ hK11=>zS fun _ hK12=>vG (Mem w ⟨no,P0⟩ [celP ead [iV e.kind,iV e.n,iV e.range,.string e.word,.slice e.ms.A e.ms.l.length e.ms.c,.slice e.by_.A e.by_.l.length e.by_.c,.slice e.kids.A e.kids.l.length e.kids.c],okP zC.Ok e]) mix (fun _ h=>h.drew) rfl (ux (f:=3) [1,2,3,4] rfl rfl (by kernel_rfl) (by kernel_rfl) (fun _ h=>h) fun KS hKS=>yB (zg rfl) (yB (zR rfl) (yB (y0 rfl fld59_3) (yB (yy 0 rfl rfl rfl flat9) (yZ hKS (yW 2 0 (yX (i:=0) rfl fun KN hKN=>uQ Lg.totals wn rfl call151 rfl (fun w1 hM=>c_Totals  w1) fun A1 cp1 hc1 hm1 hA1=>?_)))))))
   refine yP hKN [1,2] (yW 1 5 (yX (i:=5) rfl fun KN hKN=>yF wn rfl call150 rfl (fun w1 hM=>uN _ Lg.totals e.word w1 (RowSl encString hM 0 rfl)) (yP hKN [1,2] (vE 0 [6] [1,2] rfl fun KS hKS=>yB (jM rfl) (yZ hKS (yp (by kernel_rfl) (yC hK12 (za rfl (fun h6=>?_) (fun h6=>?_)))))))))
   · refine zG fun _ hK13=>zO rfl (zD hK13 (zV (zJ (yD (zJ (zY (.inl rfl) results101 (zQ rfl) fun w1 hM=>?_))))))
     exact zq (congrArg (Value.int .i64) (by have hx:=Lg.signs_iff e.word; unfold Lg.ownW; grind)) hM
   refine yL hK11 (zS fun _ hK14=>zG fun _ hK15=>zE rfl (zB (zR rfl) (zB (y0 rfl fld59_5) (zB (yy 1 rfl rfl rfl flat56) (zB (yg rfl underlying56) (zB (y8 rfl rfl) (zD hK15 (za rfl (fun h7=>?_) (fun h7=>?_)))))))))
   · refine zG fun _ hK16=>zO rfl (zD hK16 (zV (zJ (yD (zJ (zY (.inl rfl) results101 (zQ rfl) fun w1 hM=>?_))))))
     exact zq (congrArg (Value.int .i64) (by have hx:=Lg.signs_iff e.word; unfold Lg.ownW; grind)) hM
   refine yL hK14 (zG fun _ hK17=>zE rfl (zB (zR rfl) (zB (y0 rfl fld59_5) (zB (yy 1 rfl rfl rfl flat56) (yU (fun _ h=>h.exprX 2 rfl) ?_)))))
   obtain ⟨hc2,hm2,hA2⟩:=hwe.ms
   obtain ⟨hc3,hm3,hA3⟩:=hwe.by_
   obtain ⟨hc4,hm4,hA4⟩:=hwe.kids
   refine yF wn rfl call152 rfl (fun w1 hM=>c_contStr _ e.by_.l 153 #[] (fun k=>!zZ.named k) w1 (hM.slp 1 rfl) call153 (fun x w2 h2=>by simpa using c_own1 x w2)) (zD hK17 (yl rfl (fun h8=>?_) (fun h8=>?_)))
   · refine zG fun _ hK18=>zO rfl (zD hK18 (zV (yD (zJ (zY (.inl rfl) results101 (zQ rfl) fun w1 hM=>?_)))))
     exact zq (congrArg (Value.int .i64) (by have hx:=Lg.signs_iff e.word; unfold Lg.ownW; grind)) hM
   refine yV (zm (yC hK2 (zG fun _ hK19=>zO rfl (zD hK19 (zV (zY (.inl rfl) results101 (zQ rfl) fun w1 hM=>?_))))))
   exact zq (congrArg (Value.int .i64) (by have hx:=Lg.signs_iff e.word; unfold Lg.ownW; grind)) hM
 refine vm [(27,.bool (decide ((e.word≠⟨#[43]⟩)∧((e.word≠⟨#[45]⟩)∧(e.word≠⟨#[42]⟩)))))] (Mem w ⟨no,P0⟩ [celP ead [iV e.kind,iV e.n,iV e.range,.string e.word,.slice e.ms.A e.ms.l.length e.ms.c,.slice e.by_.A e.by_.l.length e.by_.c,.slice e.kids.A e.kids.l.length e.kids.c],okP zC.Ok e]) (fun _ hK20=>?_) ?_
 · refine zL (zE rfl (zB (zR rfl) (zB (y0 rfl fld59_3) (zB (yy 0 rfl rfl rfl flat9) (zB (uy rfl rfl) (zE rfl (yQ (t:=14) rfl (fun h9=>?_) (fun h9=>?_))))))))
   · refine zd (zg rfl) (zd (zR rfl) (zd (y0 rfl fld59_3) (zd (yy 0 rfl rfl rfl flat9) (zd (uy rfl rfl) (zB (zP rfl rfl) (zE rfl (yQ (t:=21) rfl (fun h10=>?_) (fun h10=>?_))))))))
     · refine zd (zg rfl) (zd (zR rfl) (zd (y0 rfl fld59_3) (zd (yy 0 rfl rfl rfl flat9) (zd (uy rfl rfl) (zB (zP rfl rfl) ?_)))))
       refine zj (yi hK20 (sc (jp (iff_and_right h9 (iff_and_right h10 Iff.rfl))) sn) (fun _ h=>h))
     refine zW (zW (zW (zW (zW (zB (zP rfl rfl) ?_)))))
     refine zj (yi hK20 (sc (jf (fun g=>(fun g=>h10 g.1) g.2)) sn) (fun _ h=>h))
   refine zW (zW (zW (zW (zW (zB (zP rfl rfl) (zE rfl (zW (zW (zW (zW (zW ?_)))))))))))
   refine zB (zP rfl rfl) ?_
   refine zj (yi hK20 (sc (jf (fun g=>h9 g.1)) sn) (fun _ h=>h))
 refine za rfl (fun h11=>?_) (fun h11=>?_)
 · refine zG fun _ hK21=>zO rfl (zD hK21 (zV (yD (zJ (zY (.inl rfl) results101 (zQ rfl) fun w1 hM=>?_)))))
   exact zq (congrArg (Value.int .i64) (by have hx:=Lg.signs_iff e.word; unfold Lg.ownW; grind)) hM
 refine yV (zm (yC hK2 (zG fun _ hK22=>zO rfl (zD hK22 (zV (zY (.inl rfl) results101 (zQ rfl) fun w1 hM=>?_))))))
 exact zq (congrArg (Value.int .i64) (by have hx:=Lg.signs_iff e.word; unfold Lg.ownW; grind)) hM
def jL (e : zC) : Prop := ∀ (hp : Nat) (cn : Int) (ead : Addr) (deep : Int) (P0 : Nat → Prop) (w : World) (hhp : w.heap[hp]? = some (.cells [iV cn].toArray 119 (0, 0))) (hP0 : ∀ b, P0 b → b < w.heap.size ∧ b ≠ hp) (hec : vb P0 ead (yh e) w) (he : zC.Ok P0 e w) (hc0 : 0 ≤ cn) (hc1 : cn ≤ 100) (hd0 : 0 ≤ deep),
    Calls prog 55 #[.pointer (some ⟨hp,0,none⟩),.pointer (some ead),iV deep] w (RetM w hp 119 (iV (Lg.shape e.e deep cn).1) [iV (Lg.shape e.e deep cn).2])
set_option maxHeartbeats 2000000 in
theorem c_shape_step (e : zC) (ih : ∀ k : zC, SizeOf.sizeOf k < SizeOf.sizeOf e → jL k) : jL e := by
  intro hp cn ead deep P0 w hhp hP0 hec he hc0 hc1 hd0
  have hwe:=he.wf
  refine fstart (N:=77) (vals:=[.pointer (some ⟨hp,0,none⟩),.pointer (some ((Addr.add ead 0).add 0)),iV deep]) (S:=Mem w ⟨(·=hp),P0⟩ [.blk hp [iV cn] 119,celP ead [iV e.kind,iV e.n,iV e.range,.string e.word,.slice e.ms.A e.ms.l.length e.ms.c,.slice e.by_.A e.by_.l.length e.by_.c,.slice e.kids.A e.kids.l.length e.kids.c],okP zC.Ok e]) func55 rfl rfl rfl (Mem.ptrDats hhp hP0 (dc (dp (vb.loc _ _) hec) (dc (dp (zC.Ok.loc _) he) dn))) (zS fun K1 hK1=>zL (zO rfl (zD hK1 (zS fun K2 hK2=>zS fun K3 hK3=>zL (zE rfl (zB (zR rfl) (zB (zc rfl fld119_0) (zB (zi 0 rfl rfl rfl flat3) ?_))))))))
  refine zB (zz rfl rfl (by omega)) (zB (zR rfl) (zB (zc rfl fld119_0) (yo 0 wn rfl rfl rfl rfl inf3 rfl rfl (zD hK3 (vm [(0,.pointer (some ⟨hp,0,none⟩)),(1,.pointer (some ((Addr.add ead 0).add 0))),(2,iV deep),(25,.bool (decide ((100 < (cn + 1))∨(20 < deep))))] (Mem w ⟨(·=hp),P0⟩ [.blk hp [iV (cn + 1)] 119,celP ead [iV e.kind,iV e.n,iV e.range,.string e.word,.slice e.ms.A e.ms.l.length e.ms.c,.slice e.by_.A e.by_.l.length e.by_.c,.slice e.kids.A e.kids.l.length e.kids.c],okP zC.Ok e]) (fun K4 hK4=>?_) ?_)))))
  ·
    refine zL (zE rfl (zB (zR rfl) (zB (zc rfl fld119_0) (zB (zi 0 rfl rfl rfl flat3) (zB (y8 rfl rfl) (zE rfl (yQ (t:=22) rfl (fun h1=>?_) (fun h1=>?_))))))))
    ·
      refine zW (zW (zB (zP rfl rfl) ?_))
      refine zj (yi hK4 (sc rfl (sc rfl (sc rfl (sc (jt (Or.inl h1)) sn)))) (fun _ h=>h))
    ·
      refine zd (zg rfl) (zd (y8 rfl rfl) (zB (zP rfl rfl) ?_))
      refine zj (yi hK4 (sc rfl (sc rfl (sc rfl (sc (jp (iff_or_right h1 Iff.rfl)) sn)))) (fun _ h=>h))
  ·
    refine za rfl (fun h2=>?_) (fun h2=>?_)
    ·
      refine zS fun K5 hK5=>zL (zO rfl (zD hK5 (zV (zJ (zY (.inl rfl) results55 (zQ rfl) fun w1 hM=>?_)))))
      have hq:Lg.shape e.e deep cn=(4,(cn + 1)):=by rw [Lg.shape_e]; grind
      exact hM.gF 0 rfl (by rw [hq] <;> rfl) (by rw [hq] <;> rfl)
    ·
      refine yL hK2 (zS fun K6 hK6=>vm [(0,.pointer (some ⟨hp,0,none⟩)),(1,.pointer (some ((Addr.add ead 0).add 0))),(2,iV deep),(37,.bool (decide ((e.kind < 1)∨(4 < e.kind))))] (Mem w ⟨(·=hp),P0⟩ [.blk hp [iV (cn + 1)] 119,celP ead [iV e.kind,iV e.n,iV e.range,.string e.word,.slice e.ms.A e.ms.l.length e.ms.c,.slice e.by_.A e.by_.l.length e.by_.c,.slice e.kids.A e.kids.l.length e.kids.c],okP zC.Ok e]) (fun K7 hK7=>?_) ?_)
      ·
        refine zL (zE rfl (zB (zR rfl) (zB (y0 rfl fld59_0) (zB (yy 1 rfl rfl rfl flat3) (zB (yR rfl rfl) (zE rfl (yQ (t:=31) rfl (fun h3=>?_) (fun h3=>?_))))))))
        ·
          refine zW (zW (zW (zW (zW (zB (zP rfl rfl) ?_)))))
          refine zj (yi hK7 (sc rfl (sc rfl (sc rfl (sc (jt (Or.inl h3)) sn)))) (fun _ h=>h))
        ·
          refine zd (zg rfl) (zd (zR rfl) (zd (y0 rfl fld59_0) (zd (yy 1 rfl rfl rfl flat3) (zd (y8 rfl rfl) (zB (zP rfl rfl) ?_)))))
          refine zj (yi hK7 (sc rfl (sc rfl (sc rfl (sc (jp (iff_or_right h3 Iff.rfl)) sn)))) (fun _ h=>h))
      ·
        refine za rfl (fun h4=>?_) (fun h4=>?_)
        ·
          refine zS fun K8 hK8=>zL (zO rfl (zD hK8 (zV (zJ (zY (.inl rfl) results55 (zQ rfl) fun w1 hM=>?_)))))
          have hq:Lg.shape e.e deep cn=(1,(cn + 1)):=by rw [Lg.shape_e]; grind
          exact hM.gF 0 rfl (by rw [hq] <;> rfl) (by rw [hq] <;> rfl)
        ·
          refine yL hK6 (zS fun K9 hK9=>zS fun K10 hK10=>vN mix (by kernel_rfl) (fun _ h=>h.drew) (yq rfl (zt (zR rfl) (zt (y0 rfl fld59_6) (zt (yy 1 rfl rfl rfl flat57) (zt (yg rfl underlying57) (yq rfl (zt (zR rfl) (zt (y0 rfl fld59_0) ?_)))))))))
          refine zt (yy 1 rfl rfl rfl flat3) (vO wn rfl call100 rfl (fun w1 hM=>c_kids e.kind w1 (by omega) (by omega)) (zt (vH rfl rfl) (vI (yC hK10 (za rfl (fun h5=>?_) (fun h5=>?_))))))
          ·
            refine zS fun K11 hK11=>zL (zO rfl (zD hK11 (zV (zJ (zY (.inl rfl) results55 (zQ rfl) fun w1 hM=>?_)))))
            have hq:Lg.shape e.e deep cn=(5,(cn + 1)):=by rw [Lg.shape_e]; grind
            exact hM.gF 0 rfl (by rw [hq] <;> rfl) (by rw [hq] <;> rfl)
          ·
            refine yL hK9 (zS fun K12 hK12=>zS fun K13 hK13=>zL (zE rfl (zE rfl (yF wn rfl call101 rfl (fun w1 hM=>c_shOwn (.pointer (some ⟨hp,0,none⟩)) ead e (In w1) w1 (fun _ h=>h) (hM.vP (i:=1) rfl) (hM.vP (i:=2) rfl)) (zO rfl (zD hK13 (zS fun K14 hK14=>zL (zE rfl ?_))))))))
            refine zB (vH rfl rfl) (zD hK14 (za rfl (fun h6=>?_) (fun h6=>?_)))
            ·
              refine zS fun K15 hK15=>zL (zE rfl (zO rfl (zD hK15 (zV (zJ (zY (.inl rfl) results55 (zQ rfl) fun w1 hM=>?_))))))
              have hq:Lg.shape e.e deep cn=((Lg.ownW e.kind e.n e.range e.word e.ms.l e.by_.l),(cn + 1)):=by rw [Lg.shape_e]; grind
              exact hM.gF 0 rfl (by rw [hq] <;> rfl) (by rw [hq] <;> rfl)
            ·
              refine yL hK12 (zS fun K16 hK16=>zS fun K17 hK17=>zL (zE rfl (zB (zR rfl) (zB (y0 rfl fld59_6) (zB (yy 1 rfl rfl rfl flat57) (zB (yg rfl underlying57) (zE rfl (zD hK17 (zl ?_)))))))))
              refine uO (fun (k:Nat) (m:Int)=>[(0,.pointer (some ⟨hp,0,none⟩)),(1,.pointer (some ((Addr.add ead 0).add 0))),(2,iV deep),(59,iV e.kids.l.length),(60,iV k)]) (fun (k:Nat) (m:Int)=>[.blk hp [iV m] 119,celP ead [iV e.kind,iV e.n,iV e.range,.string e.word,.slice e.ms.A e.ms.l.length e.ms.c,.slice e.by_.A e.by_.l.length e.by_.c,.slice e.kids.A e.kids.l.length e.kids.c],okP zC.Ok e]) (fun (k:Nat) (m:Int)=>k≤e.kids.l.length∧(0≤m∧m≤100)∧Lg.shapes ((e.kids.l.take k).map zC.e) (deep + 1) (cn + 1)=(0,m)) (fun (k:Nat) (m:Int)=>e.kids.l.length - k) 0 (cn + 1) (sc rfl (sc rfl (sc rfl (sc rfl (sc (ji (by omega)) sn))))) (fun _ h=>h) ?_ (fun k m hI1=>?_)
              · exact ⟨by omega,⟨by omega,by omega⟩,rfl⟩
              ·
                have hq0:=hI1.2.1.1
                have hq1:=hI1.2.1.2
                refine zS fun K18 hK18=>zL (zB (yR rfl rfl) (zD hK18 (zS fun K19 hK19=>za rfl (fun h7=>?_) (fun h7=>?_))))
                ·
                  refine yL hK19 (zS fun K20 hK20=>zl (zS fun K21 hK21=>zL (zE rfl (zO rfl (zD hK21 (zS fun K22 hK22=>zL (zE rfl (zE rfl ?_))))))))
                  refine zB (zR rfl) (zB (y0 rfl fld59_6) (zB (yy 1 rfl rfl rfl flat57) (zE rfl (yU (fun _ h=>h.exprX 2 rfl) ?_))))
                  obtain ⟨hc1,hm1,hA1⟩:=hwe.ms
                  obtain ⟨hc2,hm2,hA2⟩:=hwe.by_
                  obtain ⟨hc3,hm3,hA3⟩:=hwe.kids
                  obtain ⟨ad1,hd1⟩:=hA3 (ne_nil (i:=k) (by first | omega | (simp <;> omega)))
                  refine zB (vC (i:=k) rfl hd1 rfl (by omega) (by first | omega | (simp <;> omega)) underlying57 inf59) (zE rfl (zB (zz rfl rfl (by omega)) ?_))
                  obtain ⟨s1,hs1⟩:∃ x,e.kids.l[k]?=some x:=⟨_,List.getElem?_eq_getElem (by first | omega | (simp <;> omega))⟩
                  have hw1:=hwe.all _ (List.mem_of_getElem? hs1)
                  refine yU (fun _ h=>h.one 3 zC.Ok.loc rfl hs1) (jg 5 (v:=iV ((Lg.shape s1.e (deep + 1) m).1)) (cs':=[iV ((Lg.shape s1.e (deep + 1) m).2)]) wn rfl rfl call55 rfl (fun w1 Pb hM pp=>ih s1 (zC.kid_lt (List.mem_of_getElem? hs1)) hp m (Addr.add ad1 (k * 7)) (deep + 1) Pb w1 (hM.blk (i:=5) rfl) (pp.sub' (i:=5) rfl) (cel_of (pp.sl 3 rfl) hd1 hs1) (pp.at_ 0 _ rfl) (by omega) (by omega) (by omega)) (zO rfl (zD hK22 (zS fun K23 hK23=>zL (zE rfl (zB (vH rfl rfl) (zD hK23 (za rfl (fun h8=>?_) (fun h8=>?_)))))))))
                  ·
                    refine zS fun K24 hK24=>zL (zE rfl (zO rfl (zD hK24 (zV (yD (zJ (e_loop2_r (yD (zJ (zY (.inl rfl) results55 (zQ rfl) fun w1 hM=>?_))))))))))
                    have hq:Lg.shape e.e deep cn=((Lg.shape s1.e (deep + 1) m).1,(Lg.shape s1.e (deep + 1) m).2):=(show _=Lg.shapes (e.kids.l.map zC.e) (deep + 1) (cn + 1) from by rw [Lg.shape_e]; grind).trans (((Lg.shapes_next hI1.2.2 hs1).2 h8).trans rfl)
                    exact hM.gF 5 rfl (by rw [hq] <;> rfl) (by rw [hq] <;> rfl)
                  ·
                    refine yV (zm (yC hK20 (zL (zB (zz rfl rfl (by omega)) (zE rfl (zj (vZ (k + 1) ((Lg.shape s1.e (deep + 1) m).2) (sc rfl (sc rfl (sc rfl (sc rfl (sc (ji (by omega)) sn))))) (S9 [5,6,7]) ?_ ?_)))))))
                    · exact ⟨by omega,Lg.shape_le _ _ _ hq0 hq1 (Classical.not_not.1 h8),(Lg.shapes_next hI1.2.2 hs1).1 (Classical.not_not.1 h8)⟩
                    · omega
                ·
                  refine yc (yH (vz (yJ (yC hK16 (zS fun K25 hK25=>zL (zO rfl (zD hK25 (zV (zY (.inl rfl) results55 (zQ rfl) fun w1 hM=>?_)))))))))
                  have hq:Lg.shape e.e deep cn=(0,m):=(show _=Lg.shapes (e.kids.l.map zC.e) (deep + 1) (cn + 1) from by rw [Lg.shape_e]; grind).trans (by rw [← hI1.2.2,List.take_of_length_le (by omega)])
                  exact hM.gF 0 rfl (by rw [hq] <;> rfl) (by rw [hq] <;> rfl)
theorem c_shape (e:zC):jL e:=recX c_shape_step e
theorem c_langWrong (e : zC) (P0 : Nat → Prop) (w : World) (hP0 : ∀ b, P0 b → b < w.heap.size) (he : zC.Ok P0 e w)  :
    Calls prog 62 #[.agg (yh e).toArray] w (Ret w (iV (Lg.wrong e.e))):=by
 have hwe:=he.wf
 refine fstart (N:=6) (vals:=[.agg (yh e).toArray]) (S:=Mem w ⟨no,P0⟩ [okP zC.Ok e]) func62 rfl rfl rfl (Mem.ofDatsP hP0 (dc (dp (zC.Ok.loc _) he) dn)) (zG fun _ hK1=>vR wn rfl rfl fun b1=>zO rfl (zD hK1 (zG fun _ hK2=>zB (zw [iV 0] pl119 inf119 rfl rfl) (vR wn rfl rfl fun b4=>l_sealB 1 rfl rfl (jg 0 (v:=iV ((Lg.shape e.e 1 0).1)) (cs':=[iV ((Lg.shape e.e 1 0).2)]) wn rfl rfl call55 rfl (fun w1 Pb hM pp=>c_shape e b4 0 ⟨b1,0,none⟩ 1 Pb w1 (hM.blk (i:=0) rfl) (pp.sub' (i:=0) rfl) (pp.at_ 1 _ rfl) (pp.at_ 2 _ rfl) (by omega) (by omega) (by omega)) (zO rfl (zD hK2 ?_)))))))
 refine zV (zY (.inl rfl) results62 (zQ rfl) fun w1 hM=>?_)
 exact zq rfl hM
end
section
open Tryz
open Ex
set_option linter.unusedVariables false
set_option linter.unusedSimpArgs false
theorem c_check (e : zC) (time : Int) (P0 : Nat → Prop) (w : World) (hP0 : ∀ b, P0 b → b < w.heap.size) (he : zC.Ok P0 e w)  :
    Calls prog 57 #[.agg (yh e).toArray,iV time] w (Ret w (iV (Mn.check e.e time))):=by
 have hwe:=he.wf
 refine fstart (N:=23) (vals:=[.agg (yh e).toArray,iV time]) (S:=Mem w ⟨no,P0⟩ [okP zC.Ok e]) func57 rfl rfl rfl (Mem.ofDatsP hP0 (dc (dp (zC.Ok.loc _) he) dn)) (zG fun _ hK1=>vR wn rfl rfl fun b2=>zO rfl (zD hK1 (zS fun _ hK2=>zG fun _ hK3=>zB (yM 0 [iV e.kind,iV e.n,iV e.range,.string e.word,.slice e.ms.A e.ms.l.length e.ms.c,.slice e.by_.A e.by_.l.length e.by_.c,.slice e.kids.A e.kids.l.length e.kids.c] rfl rfl rfl rfl agg59 inf59) (yF wn rfl call62 rfl (fun w1 hM=>c_langWrong e (In w1) w1 (fun _ h=>h) (hM.vP (i:=1) rfl)) (zO rfl (zD hK3 (zG fun _ hK4=>?_)))))))
 refine zE rfl (zB (vH rfl rfl) (zD hK4 (za rfl (fun h1=>?_) (fun h1=>?_))))
 · refine zG fun _ hK5=>zE rfl (zO rfl (zD hK5 (zV (zJ (zY (.inl rfl) results57 (zQ rfl) fun w1 hM=>?_)))))
   exact zq (congrArg (Value.int .i64) (by unfold Mn.check; grind)) hM
 refine yL hK2 (zS fun _ hK6=>zG fun _ hK7=>zB (yM 0 [iV e.kind,iV e.n,iV e.range,.string e.word,.slice e.ms.A e.ms.l.length e.ms.c,.slice e.by_.A e.by_.l.length e.by_.c,.slice e.kids.A e.kids.l.length e.kids.c] rfl rfl rfl rfl agg59 inf59) (yF wn rfl call102 rfl (fun w1 hM=>c_typed e (In w1) w1 (fun _ h=>h) (hM.vP (i:=1) rfl)) (zO rfl (zD hK7 (zG fun _ hK8=>zE rfl (zB (vH rfl rfl) (zD hK8 (za rfl (fun h2=>?_) (fun h2=>?_)))))))))
 · refine zG fun _ hK9=>zE rfl (zO rfl (zD hK9 (zV (zJ (zY (.inl rfl) results57 (zQ rfl) fun w1 hM=>?_)))))
   exact zq (congrArg (Value.int .i64) (by unfold Mn.check; grind)) hM
 refine yL hK6 (zS fun _ hK10=>vm [(22,.bool (decide ((time < 0)∨(1000000 < time))))] (Mem w ⟨no,P0⟩ [.blk b2 [iV e.kind,iV e.n,iV e.range,.string e.word,.slice e.ms.A e.ms.l.length e.ms.c,.slice e.by_.A e.by_.l.length e.by_.c,.slice e.kids.A e.kids.l.length e.kids.c] 59,okP zC.Ok e]) (fun _ hK11=>?_) ?_)
 · refine zL (zE rfl (zB (yR rfl rfl) (zE rfl (yQ (t:=19) rfl (fun h3=>?_) (fun h3=>?_)))))
   · refine zW (zW (zB (zP rfl rfl) ?_))
     refine zj (yi hK11 (sc (jt (Or.inl h3)) sn) (fun _ h=>h))
   refine zd (zg rfl) (zd (y8 rfl rfl) (zB (zP rfl rfl) ?_))
   refine zj (yi hK11 (sc (jp (iff_or_right h3 Iff.rfl)) sn) (fun _ h=>h))
 refine za rfl (fun h4=>?_) (fun h4=>?_)
 · refine zG fun _ hK12=>zO rfl (zD hK12 (zV (zJ (zY (.inl rfl) results57 (zQ rfl) fun w1 hM=>?_))))
   exact zq (congrArg (Value.int .i64) (by unfold Mn.check; grind)) hM
 refine yL hK10 (zG fun _ hK13=>zO rfl (zD hK13 (zV (zY (.inl rfl) results57 (zQ rfl) fun w1 hM=>?_))))
 exact zq (congrArg (Value.int .i64) (by unfold Mn.check; grind)) hM
theorem jV (n : Int) (w : World)   :
    Calls prog 192 #[iV n] w (Ret w (.bool (Mn.fits n))):=by
 refine fstart (N:=9) (vals:=[iV n]) (S:=Mem w no []) func192 rfl rfl rfl (Mem.ofDats dn) (zG fun _ hK1=>zO rfl (zD hK1 (zG fun _ hK2=>zE rfl (zB (vn rfl rfl) (zE rfl (yQ (t:=5) rfl (fun h1=>?_) (fun h1=>?_)))))))
 · refine zd (zg rfl) (zd (ug rfl rfl) (zB (zP rfl rfl) (zO rfl (zD hK2 (zV (zY (.inl rfl) results192 (zQ rfl) fun w1 hM=>?_))))))
   exact zq (congrArg Value.bool (by unfold Mn.fits; grind)) hM
 refine zW (zW (zB (zP rfl rfl) (zO rfl (zD hK2 (zV (zY (.inl rfl) results192 (zQ rfl) fun w1 hM=>?_))))))
 exact zq (congrArg Value.bool (by unfold Mn.fits; grind)) hM
theorem c_abs (n : Int) (w : World)  (hn : -9223372036854775807 ≤ n ∧ n ≤ 9223372036854775807) :
    Calls prog 217 #[iV n] w (Ret w (iV (Mn.abs n))):=by
 refine fstart (N:=7) (vals:=[iV n]) (S:=Mem w no []) func217 rfl rfl rfl (Mem.ofDats dn) (zG fun _ hK1=>zO rfl (zD hK1 (zG fun _ hK2=>zE rfl (zE rfl (zB (r_neg rfl (by omega)) (zB (uh rfl rfl) (zO rfl (zD hK2 (zV (zY (.inl rfl) results217 (zQ rfl) fun w1 hM=>?_))))))))))
 exact zq (congrArg (Value.int .i64) (by unfold Mn.abs; grind)) hM
theorem c_op (v : ByteArray) (a : Int) (b : Int) (w : World)  (hab : -1125899906842624 ≤ a ∧ a ≤ 1125899906842624) (hbb : -1125899906842624 ≤ b ∧ b ≤ 1125899906842624) :
    Calls prog 194 #[.string v,iV a,iV b] w (Ret w (.tuple #[iV (Mn.op v a b).1,.bool (Mn.op v a b).2])):=by
 have ha3:=Mn.abs_all a
 have hb3:=Mn.abs_all b
 have hd3:0≤1125899906842624 / Mn.abs b:=Int.ediv_nonneg (by omega) hb3.1
 refine fstart (N:=44) (vals:=[.string v,iV a,iV b]) (S:=Mem w no []) func194 rfl rfl rfl (Mem.ofDats dn) (zG fun _ hK1=>zO rfl (zO rfl (zD hK1 (zS fun _ hK2=>zG fun _ hK3=>zE rfl (zD hK3 (zl (zG fun _ hK4=>zB (vd rfl rfl) ?_)))))))
 refine zO rfl (zD hK4 (za rfl (fun h1=>?_) (fun h1=>?_)))
 · refine zG fun _ hK5=>zE rfl (zE rfl (zB (zz rfl rfl (by first | omega | (have:=Mn.mul_rng (a:=a) (b:=b) (by unfold Mn.tooBig; grind); omega))) (zE rfl (zE rfl (zB (zz rfl rfl (by first | omega | (have:=Mn.mul_rng (a:=a) (b:=b) (by unfold Mn.tooBig; grind); omega))) (yF wn rfl call192 rfl (fun w1 hM=>jV (a + b) w1) (zO rfl (zO rfl (zD hK5 (zV (yD (zJ (yT (.inl rfl) results194 (zQ rfl) (zQ rfl) fun w1 hM=>?_)))))))))))))
   exact zq (by rw [show Mn.op v a b=((a + b),(Mn.fits (a + b))) from by unfold Mn.op Mn.tooBig; grind]) hM
 refine zG fun _ hK6=>zB (vd rfl rfl) (zO rfl (zD hK6 (za rfl (fun h2=>?_) (fun h2=>?_))))
 · refine zG fun _ hK7=>zE rfl (zE rfl (zB (vl rfl rfl (by first | omega | (have:=Mn.mul_rng (a:=a) (b:=b) (by unfold Mn.tooBig; grind); omega))) (zE rfl (zE rfl (zB (vl rfl rfl (by first | omega | (have:=Mn.mul_rng (a:=a) (b:=b) (by unfold Mn.tooBig; grind); omega))) (yF wn rfl call192 rfl (fun w1 hM=>jV (a - b) w1) (zO rfl (zO rfl (zD hK7 (zV (yD (zJ (yT (.inl rfl) results194 (zQ rfl) (zQ rfl) fun w1 hM=>?_)))))))))))))
   exact zq (by rw [show Mn.op v a b=((a - b),(Mn.fits (a - b))) from by unfold Mn.op Mn.tooBig; grind]) hM
 refine yV (zm (yC hK2 (zS fun _ hK8=>vm [(1,iV a),(2,iV b),(40,.bool (decide ((a≠0)∧((b≠0)∧((1125899906842624 / (Mn.abs b)) < (Mn.abs a))))))] (Mem w no []) (fun _ hK9=>?_) ?_)))
 · refine zL (zE rfl (zB (vH rfl rfl) (zE rfl (yQ (t:=29) rfl (fun h3=>?_) (fun h3=>?_)))))
   · refine zd (zg rfl) (zd (vH rfl rfl) (zB (zP rfl rfl) (zE rfl (yQ (t:=33) rfl (fun h4=>?_) (fun h4=>?_)))))
     · refine zd (zg rfl) (yF (wg rfl rfl rfl) rfl call217 rfl (fun w1 hM=>c_abs a w1 (by omega)) (zd (zg rfl) (yF (wg rfl rfl rfl) rfl call217 rfl (fun w1 hM=>c_abs b w1 (by omega)) (zd (r_quon rfl rfl (by omega) (by omega)) (zd (y8 rfl rfl) (zB (zP rfl rfl) ?_))))))
       refine zj (yi hK9 (sc rfl (sc rfl (sc (jp (iff_and_right h3 (iff_and_right h4 Iff.rfl))) sn))) (fun _ h=>h))
     refine zW (zW (zW (zW (zW (zW (zB (zP rfl rfl) ?_))))))
     refine zj (yi hK9 (sc rfl (sc rfl (sc (jf (fun g=>(fun g=>h4 g.1) g.2)) sn))) (fun _ h=>h))
   refine zW (zW (zB (zP rfl rfl) (zE rfl (zW (zW (zW (zW (zW (zW (zB (zP rfl rfl) ?_))))))))))
   refine zj (yi hK9 (sc rfl (sc rfl (sc (jf (fun g=>h3 g.1)) sn))) (fun _ h=>h))
 refine za rfl (fun h5=>?_) (fun h5=>?_)
 · refine zG fun _ hK10=>zO rfl (zO rfl (zD hK10 (zV (zJ (yT (.inl rfl) results194 (zQ rfl) (zQ rfl) fun w1 hM=>?_)))))
   exact zq (by rw [show Mn.op v a b=(0,false) from by unfold Mn.op Mn.tooBig; grind]) hM
 refine yL hK8 (zG fun _ hK11=>zE rfl (zE rfl (zB (r_muln rfl rfl (by first | omega | (have:=Mn.mul_rng (a:=a) (b:=b) (by unfold Mn.tooBig; grind); omega))) (zO rfl (zO rfl (zD hK11 (zV (yT (.inl rfl) results194 (zQ rfl) (zQ rfl) fun w1 hM=>?_))))))))
 exact zq (by rw [show Mn.op v a b=((a * b),true) from by unfold Mn.op Mn.tooBig; grind]) hM
theorem c_equalL (av : Value) (a : List Label) (bv : Value) (b : List Label) (w : World) (ha : zK (In w) 2 zk av a w) (hb : zK (In w) 2 zk bv b w)  :
    Calls prog 197 #[av,bv] w (Ret w (.bool (decide (a=b)))):=by
 obtain ⟨aA,ac,rfl,hac,ham,haA⟩:=ha.form
 obtain ⟨bA,bc,rfl,hbc,hbm,hbA⟩:=hb.form
 refine fstart (N:=26) (vals:=[.slice aA a.length ac,.slice bA b.length bc]) (S:=Mem w no [slO (In w) 2 zk (.slice aA a.length ac) a,slO (In w) 2 zk (.slice bA b.length bc) b]) func197 rfl rfl rfl (Mem.ofDats (dc (dl ha) (dc (dl hb) dn))) (zG fun _ hK1=>zO rfl (zD hK1 (zS fun _ hK2=>zG fun _ hK3=>zE rfl (zB (yg rfl underlying39) (zE rfl (zB (yg rfl underlying39) (zB (vH rfl rfl) (zD hK3 ?_))))))))
 refine za rfl (fun h1=>?_) (fun h1=>?_)
 · refine zG fun _ hK4=>zO rfl (zD hK4 (zV (zJ (zY (.inl rfl) results197 (zQ rfl) fun w1 hM=>?_))))
   exact zq (by rw [decide_eq_false (fun e=>h1 (by rw [e]))]) hM
 refine yL hK2 (zS fun _ hK5=>zG fun _ hK6=>zE rfl (zB (yg rfl underlying39) (zE rfl (zD hK6 (zl (vF (fun (k:Nat)=>[(0,.slice aA a.length ac),(1,.slice bA b.length bc),(12,iV a.length),(13,iV k)]) (fun (k:Nat)=>[slO (In w) 2 zk (.slice aA a.length ac) a,slO (In w) 2 zk (.slice bA b.length bc) b]) (fun (k:Nat)=>k≤a.length∧a.take k=b.take k) (fun (k:Nat)=>a.length - k) 0 (sc rfl (sc rfl (sc rfl (sc (ji (by omega)) sn)))) (fun _ h=>h) ?_ (fun k hI1=>?_)))))))
 · simp
 refine zG fun _ hK7=>zB (yR rfl rfl) (zD hK7 (zS fun _ hK8=>za rfl (fun h2=>?_) (fun h2=>?_)))
 · refine yL hK8 (zS fun _ hK9=>zl (zG fun _ hK10=>zE rfl (zO rfl (zD hK10 (zS fun _ hK11=>vN mix (by kernel_rfl) (fun _ h=>h.drew) (yq rfl (yq rfl ?_)))))))
   obtain ⟨ad1,hd1⟩:=haA (ne_nil (i:=k) (by first | omega | (simp <;> omega)))
   refine zt (vC (i:=k) rfl hd1 rfl (by omega) (by first | omega | (simp <;> omega)) underlying39 inf74) ?_
   obtain ⟨s1,hs1⟩:∃ x,a[k]?=some x:=⟨_,List.getElem?_eq_getElem (by first | omega | (simp <;> omega))⟩
   refine zt (uG 0 [.string s1.key,.string s1.val] rfl rfl hd1 hs1 rfl rfl agg74 inf74) (yq rfl (yq rfl ?_))
   obtain ⟨ad2,hd2⟩:=hbA (ne_nil (i:=k) (by first | omega | (simp <;> omega)))
   refine zt (vC (i:=k) rfl hd2 rfl (by omega) (by first | omega | (simp <;> omega)) underlying39 inf74) ?_
   obtain ⟨s2,hs2⟩:∃ x,b[k]?=some x:=⟨_,List.getElem?_eq_getElem (by first | omega | (simp <;> omega))⟩
   refine zt (uG 1 [.string s2.key,.string s2.val] rfl rfl hd2 hs2 rfl rfl agg74 inf74) (zt (r_neqS (a:=s1) (b:=s2) rfl rfl eqv74) (vI (yC hK11 (za rfl (fun h3=>?_) (fun h3=>?_)))))
   · refine zG fun _ hK12=>zO rfl (zD hK12 (zV (yD (zJ (yk (yD (zJ (zY (.inl rfl) results197 (zQ rfl) fun w1 hM=>?_))))))))
     exact zq (by rw [decide_eq_false (fun e=>h3 (Option.some.inj (hs1.symm.trans (by rw [e]; exact hs2))))]) hM
   refine yV (zm (yC hK9 (zL (zB (zz rfl rfl (by omega)) (zE rfl (zj (yd (k + 1) (sc rfl (sc rfl (sc rfl (sc (ji (by omega)) sn)))) (fun _ h=>h) ?_ ?_)))))))
   · exact ⟨by omega,same_step hI1.2 hs1 hs2 (Classical.not_not.1 h3)⟩
   omega
 refine yc (yH (yn (yJ (yC hK5 (zG fun _ hK13=>zO rfl (zD hK13 (zV (zY (.inl rfl) results197 (zQ rfl) fun w1 hM=>?_))))))))
 exact zq (by rw [decide_eq_true (same_done (by omega) (by omega) hI1.2)]) hM
theorem c_idxC (lv : Value) (l : List zM) (f : Nat) (fcap : Array Value) (fp : zM → Bool) (P0 : Nat → Prop) (w : World) (hP0 : ∀ b, P0 b → b < w.heap.size) (hl : zK P0 2 ye lv l w) (hla : ∀ x ∈ l, zM.Ok P0 x w) (fc : ∀ vs w, (callFunc f vs).run prog w = .ok (.enter f vs) w) (fh : ∀ x : zM, x ∈ l → ∀ w1 : World, Fr no w w1 → Calls prog f (#[.agg (ye x).toArray] ++ fcap) w1 (Ret w1 (.bool (fp x))))  :
    Calls prog 195 #[lv,.func (.func f) #[] fcap] w (Ret w (iV (Sh.idx fp l))):=by
 have hwl:∀ x ∈ l,zM.Wf x:=fun x hx=>(hla x hx).wf
 obtain ⟨lA,lc,rfl,hlc,hlm,hlA⟩:=hl.form
 refine fstart (N:=19) (vals:=[.slice lA l.length lc,.func (.func f) #[] fcap]) (S:=Mem w ⟨no,P0⟩ [slP 2 ye (.slice lA l.length lc) l,allP zM.Ok l]) func195 rfl rfl rfl (Mem.ofDatsP hP0 (dc (dlp hl) (dc (dp (all_loc zM.Ok.loc _) hla) dn))) (zG fun _ hK1=>zO rfl (zD hK1 (zS fun _ hK2=>zG fun _ hK3=>zE rfl (zB (yg rfl underlying32) (zE rfl (zD hK3 (zl (vF (fun (k:Nat)=>[(0,.slice lA l.length lc),(1,.func (.func f) #[] fcap),(7,iV l.length),(8,iV k)]) (fun (k:Nat)=>[slP 2 ye (.slice lA l.length lc) l,allP zM.Ok l]) (fun (k:Nat)=>k≤l.length∧∀ y ∈ l.take k,fp y=false) (fun (k:Nat)=>l.length - k) 0 (sc rfl (sc rfl (sc rfl (sc (ji (by omega)) sn)))) (fun _ h=>h) ?_ (fun k hI1=>?_)))))))))
 · simp
 refine zG fun _ hK4=>zB (yR rfl rfl) (zD hK4 (zS fun _ hK5=>za rfl (fun h1=>?_) (fun h1=>?_)))
 · refine yL hK5 (zS fun _ hK6=>zl (zG fun _ hK7=>zE rfl (zO rfl (zD hK7 (zG fun _ hK8=>zE rfl (zE rfl (zE rfl ?_)))))))
   obtain ⟨ad1,hd1⟩:=hlA (ne_nil (i:=k) (by first | omega | (simp <;> omega)))
   refine zB (vC (i:=k) rfl hd1 rfl (by omega) (by first | omega | (simp <;> omega)) underlying32 inf81) ?_
   obtain ⟨s1,hs1⟩:∃ x,l[k]?=some x:=⟨_,List.getElem?_eq_getElem (by first | omega | (simp <;> omega))⟩
   refine zB (v8 0 [.slice s1.sr.A s1.sr.l.length s1.sr.c,iV s1.value] rfl rfl hd1 hs1 rfl rfl agg81 inf81) (uH wn rfl rfl fc rfl (fun w1 hM=>fh s1 (List.mem_of_getElem? hs1) w1 hM.fr) (zD hK8 (yl rfl (fun h2=>?_) (fun h2=>?_))))
   · refine zG fun _ hK9=>zE rfl (zO rfl (zD hK9 (zV (yD (zJ (yk (yD (zJ (zY (.inl rfl) results195 (zQ rfl) fun w1 hM=>?_)))))))))
     exact zq (by rw [Sh.idx_at hI1.2 hs1 h2]) hM
   refine yV (zm (yC hK6 (zL (zB (zz rfl rfl (by omega)) (zE rfl (zj (yd (k + 1) (sc rfl (sc rfl (sc rfl (sc (ji (by omega)) sn)))) (fun _ h=>h) ?_ ?_)))))))
   · exact ⟨by omega,Sh.none_step hI1.2 hs1 h2⟩
   omega
 refine yc (yH (yn (yJ (yC hK2 (zG fun _ hK10=>zO rfl (zD hK10 (zV (zY (.inl rfl) results195 (zQ rfl) fun w1 hM=>?_))))))))
 exact zq (by rw [Sh.idx_none hI1.2 (by omega)]) hM
theorem c_bin2 (d : zM) (cad : Addr) (c : zM) (P0 : Nat → Prop) (w : World) (hP0 : ∀ b, P0 b → b < w.heap.size) (hd : zM.Ok P0 d w) (hcc : vb P0 cad (ye c) w) (hc : zM.Ok P0 c w)  :
    Calls prog 196 #[.agg (ye d).toArray,.pointer (some cad)] w (Ret w (.bool (decide (c.sr.l=d.sr.l)))):=by
 have hwd:=hd.wf
 have hwc:=hc.wf
 refine fstart (N:=9) (vals:=[.agg (ye d).toArray,.pointer (some ((Addr.add cad 0).add 0))]) (S:=Mem w ⟨no,P0⟩ [okP zM.Ok d,celP cad [.slice c.sr.A c.sr.l.length c.sr.c,iV c.value],okP zM.Ok c]) func196 rfl rfl rfl (Mem.ofDatsP hP0 (dc (dp (zM.Ok.loc _) hd) (dc (dp (vb.loc _ _) hcc) (dc (dp (zM.Ok.loc _) hc) dn)))) (zG fun _ hK1=>vR wn rfl rfl fun b2=>zO rfl (zD hK1 (zG fun _ hK2=>zB (y0 rfl fld81_0) (zB (yy 2 rfl rfl rfl flat39) (zB (zc rfl fld81_0) (zB (zi 0 rfl rfl rfl flat39) (yU (fun _ h=>h.cellX 3 rfl) ?_)))))))
 obtain ⟨hc1,hm1,hA1⟩:=hwc.sr
 refine yU (fun _ h=>h.cellX 2 rfl) ?_
 obtain ⟨hc2,hm2,hA2⟩:=hwd.sr
 refine yF wn rfl call197 rfl (fun w1 hM=>c_equalL _ c.sr.l _ d.sr.l w1 (hM.slp 1 rfl) (hM.slp 0 rfl)) (zO rfl (zD hK2 (zV (zY (.inl rfl) results196 (zQ rfl) fun w1 hM=>?_))))
 exact zq rfl hM
theorem gM (word : ByteArray) (vec : Bool) (n : Int) (v : Value) (l : List zM) (z : SlX Label) (a b : Int) (wp op : Nat) (Pb : Nat → Prop) (w : World) (hG : Mem w ⟨fpOf [.blk wp [.string word] 9, .blk op [.bool vec, iV n, v] 172, Row v 81 2 ye l, allP zM.Ok l, slP 2 zk (.slice z.A z.l.length z.c) z.l], Pb⟩ [.blk wp [.string word] 9, .blk op [.bool vec, iV n, v] 172, Row v 81 2 ye l, allP zM.Ok l, slP 2 zk (.slice z.A z.l.length z.c) z.l] w) (hab : -1125899906842624 ≤ a ∧ a ≤ 1125899906842624) (hbb : -1125899906842624 ≤ b ∧ b ≤ 1125899906842624) (hl1 : l.length ≤ 1048576) :
    Calls prog 193 #[.slice z.A z.l.length z.c,iV a,iV b,.pointer (some ⟨wp,0,none⟩),.pointer (some ⟨op,0,none⟩)] w (RetA w [.blk wp [.string word] 9,.blk op [.bool vec,iV n,v] 172,Row v 81 2 ye l,allP zM.Ok l,slP 2 zk (.slice z.A z.l.length z.c) z.l] Pb (fun _:Value=>.bool (Mn.op word a b).2) (fun _=>True) (fun v=>[.blk wp [.string word] 9,.blk op [.bool vec,iV n,v] 172,Row v 81 2 ye (l++[zM.mk z (Mn.op word a b).1]),allP zM.Ok (l++[zM.mk z (Mn.op word a b).1]),slP 2 zk (.slice z.A z.l.length z.c) z.l])):=by
 obtain ⟨rA,rc,rfl,hrc,hrm,hrA⟩:=row_form' (hG.row (i:=2) rfl)
 obtain ⟨hzc,hzm,hzA⟩:=zK.wf (hG.vP (i:=4) rfl)
 have hwl:∀ x ∈ l,zM.Wf x:=fun x hx=>(hG.vP (i:=3) rfl x hx).wf
 refine fstart (N:=27) (vals:=[.slice z.A z.l.length z.c,iV a,iV b,.pointer (some ⟨wp,0,none⟩),.pointer (some ⟨op,0,none⟩)]) (S:=Mem w ⟨fpOf [.blk wp [.string word] 9,.blk op [.bool vec,iV n,.slice rA l.length rc] 172,Row (.slice rA l.length rc) 81 2 ye l,allP zM.Ok l,slP 2 zk (.slice z.A z.l.length z.c) z.l],Pb⟩ [.blk wp [.string word] 9,.blk op [.bool vec,iV n,.slice rA l.length rc] 172,Row (.slice rA l.length rc) 81 2 ye l,allP zM.Ok l,slP 2 zk (.slice z.A z.l.length z.c) z.l]) func193 rfl rfl rfl hG (zG fun _ hK1=>zO rfl (zD hK1 (zG fun _ hK2=>zB (zi 0 rfl rfl rfl flat9) (zE rfl (zE rfl (yF wn rfl call194 rfl (fun w1 hM=>c_op word a b w1 (by first | assumption | omega) (by first | assumption | omega)) (zE rfl (zB (yI rfl rfl) (zB (yI rfl rfl) ?_)))))))))
 refine zO rfl (zO rfl (zD hK2 (zG fun _ hK3=>zB (zc rfl fld172_2) (zB (zi 1 rfl rfl rfl flat32) (zE rfl (zE rfl (zB (zw [.slice z.A z.l.length z.c,iV ((Mn.op word a b).1)] pl81 inf81 rfl rfl) (yt ye ([(zM.mk ⟨z.A,z.c,z.l⟩ ((Mn.op word a b).1))]:List zM) wn underlying32 inf81 rfl rfl rfl rfl (by decide) (by decide) rfl fun b23=>vD 3 l ([(zM.mk ⟨z.A,z.c,z.l⟩ ((Mn.op word a b).1))]:List zM) encCellX wn rfl rfl rfl (fun _ hM=>(RowSl encCellX hM 0 rfl)) underlying32 inf81 rfl rfl (by simp only [List.length_append,List.length_cons,List.length_nil]; omega) rfl fun A1 cp1 hc1 hm1 hA1=>yU (fun _ h=>h.allCell (n:=(Mn.op word a b).1) 4 5 rfl rfl) ?_))))))))
 have hw1:∀ x ∈ (l++([(zM.mk ⟨z.A,z.c,z.l⟩ ((Mn.op word a b).1))]:List zM)),zM.Wf x:=fun x hx=>(List.mem_append.1 hx).elim (hwl x) fun h=>by rw [List.mem_singleton.1 h]; exact ⟨⟨by omega,by omega,hzA⟩⟩
 refine zB (zc rfl fld172_2) (yo 3 wn rfl rfl rfl rfl inf32 rfl rfl (zD hK3 (zG fun _ hK4=>zE rfl (zO rfl (zD hK4 (zV (zY (.inl rfl) results193 (zQ rfl) fun w1 hM=>?_)))))))
 exact hM.vS (.slice A1 ((l++([(zM.mk ⟨z.A,z.c,z.l⟩ ((Mn.op word a b).1))]:List zM)).length) cp1) rfl trivial (fun h=>h.sel [2,3,4,0,6] (by decide) rfl)
end
section
open Tryz
open Ex
set_option linter.unusedVariables false
set_option linter.unusedSimpArgs false
set_option maxHeartbeats 2000000 in
theorem c_bask1 (box bp cost : Nat) (x : yw) (S : Nat → Prop) (ms : SlX Match) (a b n : Int) (Pb : Nat → Prop) (w : World) (hG : Mem w ⟨fpOf [.blk cost [iV n] 3, .dat S (Lent 91 93 S box bp x), slP 3 ya (.slice ms.A ms.l.length ms.c) ms.l], Pb⟩ [.blk cost [iV n] 3, .dat S (Lent 91 93 S box bp x), slP 3 ya (.slice ms.A ms.l.length ms.c) ms.l] w) (hok : ∀ s ∈ x.zA.l, s.sr.l.length ≤ 1048576) (hlen : x.zA.l.length ≤ 8) :
    Calls prog 116 #[.slice ms.A ms.l.length ms.c,iV a,iV b,.pointer (some ⟨box,0,none⟩),.pointer (some ⟨cost,0,none⟩)] w (RetA w [.blk cost [iV n] 3,.dat S (Lent 91 93 S box bp x),slP 3 ya (.slice ms.A ms.l.length ms.c) ms.l] Pb (winV (Bs.look (x.zA.l.map zF.e) ms.l a b).2) (fun z=>vu.is z (Bs.look (x.zA.l.map zF.e) ms.l a b).1) (fun z=>[.pub (fun S=>vu.Ok S z),.blk cost [iV (Bs.cost (x.zA.l.map zF.e) ms.l a b n)] 3])):=by
 obtain ⟨hwf,hsc,hsm,hsA⟩:=hG.lentWf 1 rfl
 obtain ⟨hmc,hmm,hmA⟩:=zK.wf (hG.slp 2 rfl)
 have hG:=hG.lent 1 rfl
 refine fstart (N:=68) (vals:=[.slice ms.A ms.l.length ms.c,iV a,iV b,.pointer (some ⟨box,0,none⟩),.pointer (some ⟨cost,0,none⟩)]) (S:=Mem w ⟨fpOf [.blk cost [iV n] 3,.dat S (Lent 91 93 S box bp x),slP 3 ya (.slice ms.A ms.l.length ms.c) ms.l],Pb⟩ [datB box [.pointer (some ⟨bp,0,none⟩)] 91,datB bp [.slice x.zA.A x.zA.l.length x.zA.c,iV x.zh] 93,slO S 9 zx (.slice x.zA.A x.zA.l.length x.zA.c) x.zA.l,.blk cost [iV n] 3,.dat S (Lent 91 93 S box bp x),slP 3 ya (.slice ms.A ms.l.length ms.c) ms.l]) func116 rfl rfl rfl hG (zG fun _ hK1=>vB (serE:y7→List Value) 39 1 (yU (fun _ h=>h.all0 y7.Ok.loc) (zO rfl (vB (sumE:Sum→List Value) 89 7 (zO rfl (zO rfl (zD hK1 (zS fun _ hK2=>zG fun _ hK3=>zB (vw 3 rfl rfl rfl flat91) ?_))))))))
 refine zB (zR rfl) (zB (zc rfl fld93_0) (zB (zc rfl fld25_0) (zB (vw 4 rfl rfl rfl flat23) (zB (yg rfl underlying23) (zE rfl (zD hK3 (zl (c_loop7 (fun (k:Nat) (ss:List y7) (us:List Sum) (acc:List (List Label × Sum)) (c:Int) (sv:Value) (uv:Value)=>[(0,.slice ms.A ms.l.length ms.c),(1,iV a),(2,iV b),(4,.pointer (some ⟨cost,0,none⟩)),(8,sv),(9,uv),(21,.slice x.zA.A x.zA.l.length x.zA.c),(22,iV x.zA.l.length),(23,iV k)]) (fun (k:Nat) (ss:List y7) (us:List Sum) (acc:List (List Label × Sum)) (c:Int) (sv:Value) (uv:Value)=>[Row uv 89 7 sumE us,allP y7.Ok ss,Row sv 39 1 serE ss,datB box [.pointer (some ⟨bp,0,none⟩)] 91,datB bp [.slice x.zA.A x.zA.l.length x.zA.c,iV x.zh] 93,slO S 9 zx (.slice x.zA.A x.zA.l.length x.zA.c) x.zA.l,.blk cost [iV c] 3,.dat S (Lent 91 93 S box bp x),slP 3 ya (.slice ms.A ms.l.length ms.c) ms.l]) (fun (k:Nat) (ss:List y7) (us:List Sum) (acc:List (List Label × Sum)) (c:Int) (sv:Value) (uv:Value)=>k≤x.zA.l.length∧(∀ y ∈ ss,y7.Wf y)∧ss.map (fun y=>y.sr.l)=acc.map (·.1)∧us=acc.map (·.2)∧Bs.look (x.zA.l.map zF.e) ms.l a b=Bs.pre acc (Bs.look ((x.zA.l.map zF.e).drop k) ms.l a b)∧Bs.cost (x.zA.l.map zF.e) ms.l a b n=Bs.cost ((x.zA.l.map zF.e).drop k) ms.l a b c∧(ss.length≤k∧us.length≤k)) (fun (k:Nat) (ss:List y7) (us:List Sum) (acc:List (List Label × Sum)) (c:Int) (sv:Value) (uv:Value)=>x.zA.l.length - k) 0 [] [] [] n (Zs) (Zs) (sc rfl (sc rfl (sc rfl (sc rfl (sc rfl (sc rfl (sc rfl (sc rfl (sc (ji (by omega)) sn))))))))) (fun _ h=>h) ?_ (fun k ss us acc c sv uv hI1=>?_)))))))))
 · exact ⟨Nat.zero_le _,fun x hx=>(by cases hx),rfl,rfl,Bs.pre_0 _ _ _,rfl,Nat.le_refl _,Nat.le_refl _⟩
 have hwl:=hI1.2.1
 have hll:=hI1.2.2.2.2.2.2
 refine vV 2 (l:=ss) rfl fun A1 cp1 hv1 hc1 hm1 hA1=>?_
 subst hv1
 refine vV 0 (l:=us) rfl fun A2 cp2 hv2 hc2 hm2 hA2=>?_
 subst hv2
 refine zG fun _ hK4=>zB (yR rfl rfl) (zD hK4 (zS fun _ hK5=>za rfl (fun h1=>?_) (fun h1=>?_)))
 · refine yL hK5 (zS fun _ hK6=>zl (zG fun _ hK7=>?_))
   obtain ⟨ad1,hd1⟩:=hsA (ne_nil (i:=k) (by first | omega | (simp <;> omega)))
   refine zB (vC (i:=k) rfl hd1 rfl (by omega) (by first | omega | (simp <;> omega)) underlying23 inf50) ?_
   obtain ⟨s1,hs1⟩:∃ y9,x.zA.l[k]?=some y9:=⟨_,List.getElem?_eq_getElem (by first | omega | (simp <;> omega))⟩
   refine yU (fun _ h=>h.lentAt 7 rfl hs1) ?_
   have hw1:=hwf _ (List.mem_of_getElem? hs1)
   have hs4:=hok _ (List.mem_of_getElem? hs1)
   obtain ⟨hc3,hm3,hA3⟩:=hw1.sr
   obtain ⟨hc4,hm4,hA4⟩:=hw1.raw
   obtain ⟨hc5,hm5,hA5⟩:=hw1.fine
   obtain ⟨hc6,hm6,hA6⟩:=hw1.coarse
   refine zB (uG 9 [.slice s1.sr.A s1.sr.l.length s1.sr.c,.slice s1.raw.A s1.raw.l.length s1.raw.c,.slice s1.fine.A s1.fine.l.length s1.fine.c,.slice s1.coarse.A s1.coarse.l.length s1.coarse.c,iV s1.ze,iV s1.zX,iV s1.zI,iV s1.zN,iV s1.zH] rfl rfl hd1 hs1 rfl rfl agg50 inf50) (zy wn inf50 rfl fun b12=>zn 0 wn rfl rfl rfl inf50 rfl rfl rfl (zD hK7 (zS fun _ hK8=>zG fun _ hK9=>zB (zc rfl fld50_0) (zB (zi 0 rfl rfl rfl flat39) (zE rfl (yF wn rfl call60 rfl (fun w1 hM=>c_matches _ s1.sr.l _ ms.l w1 (hM.sl 1 rfl) (hM.slp 13 rfl)) (zB (y5 rfl) (zD hK9 ?_))))))))
   refine yl rfl (fun h2=>?_) (fun h2=>?_)
   · refine yc (yH (yJ (yC hK6 (zL (zB (zz rfl rfl (by omega)) (zE rfl (zj (ui (k + 1) ss us acc c (.slice A1 ss.length cp1) (.slice A2 us.length cp2) (sc rfl (sc rfl (sc rfl (sc rfl (sc rfl (sc rfl (sc rfl (sc rfl (sc (ji (by omega)) sn))))))))) (S9 [5,6,7,8,9,10,11,12,13]) ?_ ?_))))))))
     · have hm9:¬ zZ.y4 (zF.e s1).zT ms.l=true:=by simpa [zF.e] using h2
       exact ⟨by omega,hwl,hI1.2.2.1,hI1.2.2.2.1,Bs.look_skip (by rw [List.getElem?_map,hs1]; rfl) hI1.2.2.2.2.1 hm9,Bs.cost_skip (by rw [List.getElem?_map,hs1]; rfl) hI1.2.2.2.2.2.1 hm9,by omega⟩
     omega
   refine yL hK8 (zG fun _ hK10=>zB (yM 0 [.slice s1.sr.A s1.sr.l.length s1.sr.c,.slice s1.raw.A s1.raw.l.length s1.raw.c,.slice s1.fine.A s1.fine.l.length s1.fine.c,.slice s1.coarse.A s1.coarse.l.length s1.coarse.c,iV s1.ze,iV s1.zX,iV s1.zI,iV s1.zN,iV s1.zH] rfl rfl rfl rfl agg50 inf50) (zE rfl (zE rfl (l_callLT ((Sh.choose (zF.e s1) a b).1) (fun r=>.tuple (List.toArray [r,iV ((Sh.choose (zF.e s1) a b).2)])) wn rfl rfl call117 rfl (fun w1 hM=>c_choose _ _ _ _ (zF.e s1) a b (In w1) w1 (fun _ h=>h) (hM.sl 1 rfl) (hM.sl 2 rfl) (hM.sl 3 rfl) (hM.sl 4 rfl)) fun A3 cp3 hc7 hm7 hA7=>zE rfl (zB (yI rfl rfl) (zB (yI rfl rfl) (zO rfl (zO rfl (zD hK10 ?_)))))))))
   refine zS fun _ hK11=>zG fun _ hK12=>zE rfl (zB (vH rfl rfl) (zD hK12 (za rfl (fun h3=>?_) (fun h3=>?_))))
   · refine zG fun _ hK13=>zE rfl (vB (serE:y7→List Value) 39 1 (yU (fun _ h=>h.all0 y7.Ok.loc) (zO rfl (vB (sumE:Sum→List Value) 89 7 (zO rfl (zO rfl (zD hK13 (zV (zJ (yD (zJ (e_loop7_r (yD (zJ (ua (.inl rfl) results116 (zQ rfl) (zQ rfl) (zQ rfl) fun w1 hM=>?_)))))))))))))))
     have hm9:zZ.y4 (zF.e s1).zT ms.l=true:=by simpa [zF.e] using h2
     have h9:=Bs.look_bad1 (by rw [List.getElem?_map,hs1]; rfl) hI1.2.2.2.2.1 hm9 h3
     have h8:=Bs.cost_bad1 (by rw [List.getElem?_map,hs1]; rfl) hI1.2.2.2.2.2.1 hm9 h3
     have hM:=hM.vT (vu.Ok.loc (⟨⟨none,0,[]⟩,⟨none,0,[]⟩⟩:vu)) fun Pb pp=>⟨zK.ym _ _ _ _,fun c hc=>(by cases hc),zK.ym _ _ _ _⟩
     exact hM.vS (⟨⟨none,0,[]⟩,⟨none,0,[]⟩⟩:vu) (by rw [h9]; rfl) ⟨by rw [h9]; rfl,by rw [h9]; rfl⟩ (fun h=>by rw [h8]; exact h.sel [0,16] (by decide) rfl)
   refine yL hK11 (zG fun _ hK14=>zB (yM 1 [.slice s1.sr.A s1.sr.l.length s1.sr.c,.slice s1.raw.A s1.raw.l.length s1.raw.c,.slice s1.fine.A s1.fine.l.length s1.fine.c,.slice s1.coarse.A s1.coarse.l.length s1.coarse.c,iV s1.ze,iV s1.zX,iV s1.zI,iV s1.zN,iV s1.zH] rfl rfl rfl rfl agg50 inf50) (zE rfl (yF wn rfl call118 rfl (fun w1 hM=>c_read _ _ _ _ (zF.e s1) _ ((Sh.choose (zF.e s1) a b).1) (In w1) w1 (fun _ h=>h) (hM.sl 2 rfl) (hM.sl 3 rfl) (hM.sl 4 rfl) (hM.sl 5 rfl) (RowSl encPart hM 0 rfl) (by first | omega | assumption | exact Sh.choose_len _ _ _ | simp)) (zE rfl (zB (yI rfl rfl) (zB (yI rfl rfl) (zB (yI rfl rfl) (zy wn inf89 rfl fun b15=>zn 0 wn rfl rfl rfl inf89 rfl rfl rfl (zO rfl ?_)))))))))
   refine zO rfl (zD hK14 (zS fun _ hK15=>zG fun _ hK16=>zE rfl (zB (vH rfl rfl) (zD hK16 (za rfl (fun h4=>?_) (fun h4=>?_))))))
   · refine zG fun _ hK17=>zE rfl (vB (serE:y7→List Value) 39 1 (yU (fun _ h=>h.all0 y7.Ok.loc) (zO rfl (vB (sumE:Sum→List Value) 89 7 (zO rfl (zO rfl (zD hK17 (zV (zJ (yD (zJ (e_loop7_r (yD (zJ (ua (.inl rfl) results116 (zQ rfl) (zQ rfl) (zQ rfl) fun w1 hM=>?_)))))))))))))))
     have hm9:zZ.y4 (zF.e s1).zT ms.l=true:=by simpa [zF.e] using h2
     have h9:=Bs.look_bad2 (by rw [List.getElem?_map,hs1]; rfl) hI1.2.2.2.2.1 hm9 h3 h4
     have h8:=Bs.cost_bad2 (by rw [List.getElem?_map,hs1]; rfl) hI1.2.2.2.2.2.1 hm9 h3 h4
     have hM:=hM.vT (vu.Ok.loc (⟨⟨none,0,[]⟩,⟨none,0,[]⟩⟩:vu)) fun Pb pp=>⟨zK.ym _ _ _ _,fun c hc=>(by cases hc),zK.ym _ _ _ _⟩
     exact hM.vS (⟨⟨none,0,[]⟩,⟨none,0,[]⟩⟩:vu) (by rw [h9]; rfl) ⟨by rw [h9]; rfl,by rw [h9]; rfl⟩ (fun h=>by rw [h8]; exact h.sel [0,17] (by decide) rfl)
   refine yL hK15 (zG fun _ hK18=>zB (zi 13 rfl rfl rfl flat3) (zE rfl (zB (jX rfl rfl) (yo 13 wn rfl rfl rfl rfl inf3 rfl rfl (zD hK18 (vG (Mem w ⟨fpOf [.blk cost [iV n] 3,.dat S (Lent 91 93 S box bp x),slP 3 ya (.slice ms.A ms.l.length ms.c) ms.l],Pb⟩ [.blk b15 [iV (((Sh.read (zF.e s1) ((Sh.choose (zF.e s1) a b).1)).1).count),iV (((Sh.read (zF.e s1) ((Sh.choose (zF.e s1) a b).1)).1).total),iV (((Sh.read (zF.e s1) ((Sh.choose (zF.e s1) a b).1)).1).min),iV (((Sh.read (zF.e s1) ((Sh.choose (zF.e s1) a b).1)).1).max),iV (((Sh.read (zF.e s1) ((Sh.choose (zF.e s1) a b).1)).1).first),iV (((Sh.read (zF.e s1) ((Sh.choose (zF.e s1) a b).1)).1).last),iV (((Sh.read (zF.e s1) ((Sh.choose (zF.e s1) a b).1)).1).rise)] 89,Row (.slice A3 (((Sh.choose (zF.e s1) a b).1).length) cp3) 217 3 vX ((Sh.choose (zF.e s1) a b).1),.blk b12 [.slice s1.sr.A s1.sr.l.length s1.sr.c,.slice s1.raw.A s1.raw.l.length s1.raw.c,.slice s1.fine.A s1.fine.l.length s1.fine.c,.slice s1.coarse.A s1.coarse.l.length s1.coarse.c,iV s1.ze,iV s1.zX,iV s1.zI,iV s1.zN,iV s1.zH] 50,slO S 2 zk (.slice s1.sr.A s1.sr.l.length s1.sr.c) s1.sr.l,slO S 2 zr (.slice s1.raw.A s1.raw.l.length s1.raw.c) s1.raw.l,slO S 8 zU (.slice s1.fine.A s1.fine.l.length s1.fine.c) s1.fine.l,slO S 8 zU (.slice s1.coarse.A s1.coarse.l.length s1.coarse.c) s1.coarse.l,datB box [.pointer (some ⟨bp,0,none⟩)] 91,datB bp [.slice x.zA.A x.zA.l.length x.zA.c,iV x.zh] 93,slO S 9 zx (.slice x.zA.A x.zA.l.length x.zA.c) x.zA.l,.blk cost [iV (IntKind.wrap .i64 (c + (Sh.read (zF.e s1) ((Sh.choose (zF.e s1) a b).1)).2.1))] 3,.dat S (Lent 91 93 S box bp x),slP 3 ya (.slice ms.A ms.l.length ms.c) ms.l]) mix (fun _ h=>h.drew) rfl (vE 7 [0,1,2,6,7] [0,1,2,3,4,5,6,10,11,12,13,14,15] rfl fun KS hKS=>yB (zg rfl) (yB (zc rfl fld50_0) (yB (zi 2 rfl rfl rfl flat39) ?_)))))))))
   refine yB (zg rfl) (yB (yM 0 [iV (((Sh.read (zF.e s1) ((Sh.choose (zF.e s1) a b).1)).1).count),iV (((Sh.read (zF.e s1) ((Sh.choose (zF.e s1) a b).1)).1).total),iV (((Sh.read (zF.e s1) ((Sh.choose (zF.e s1) a b).1)).1).min),iV (((Sh.read (zF.e s1) ((Sh.choose (zF.e s1) a b).1)).1).max),iV (((Sh.read (zF.e s1) ((Sh.choose (zF.e s1) a b).1)).1).first),iV (((Sh.read (zF.e s1) ((Sh.choose (zF.e s1) a b).1)).1).last),iV (((Sh.read (zF.e s1) ((Sh.choose (zF.e s1) a b).1)).1).rise)] rfl rfl rfl rfl agg89 inf89) (yZ hKS (vU (f:=6) (i:=3) (j:=8) rfl (by kernel_rfl) ?_ ?_)))
   · refine yX (i:=3) rfl fun KN hKN=>uQ s1.sr.l wn rfl call61 rfl (fun w1 hM=>uK _ s1.sr.l w1 (hM.sl 3 rfl) (by omega)) fun A4 cp4 hc8 hm8 hA8=>yP hKN [1,2,3,4,5,6,7,11,12,13,14,15,16] (vU (f:=5) (i:=4) (j:=8) rfl (by kernel_rfl) ?_ ?_)
     · refine yX (i:=4) rfl fun KN hKN=>yt serE ([(y7.mk ⟨A4,cp4,s1.sr.l⟩)]:List y7) wn underlying125 inf39 rfl rfl rfl rfl (by decide) (by decide) rfl fun b59=>yP hKN [2,3,4,5,6,7,8,12,13,14,15,16,17] (vU (f:=4) (i:=5) (j:=8) rfl (by kernel_rfl) ?_ ?_)
       · refine yX (i:=5) rfl fun KN hKN=>vD 11 ss ([(y7.mk ⟨A4,cp4,s1.sr.l⟩)]:List y7) encSerX wn rfl rfl rfl (fun _ hM=>(RowSl encSerX hM 0 rfl)) underlying125 inf39 rfl rfl (by simp only [List.length_append,List.length_cons,List.length_nil]; omega) rfl fun A5 cp5 hc9 hm9 hA9=>jP 1 15 encLabel rfl rfl rfl onlyC (yU (fun _ h=>h.allSer 10 1 rfl rfl) ?_)
         have hw2:∀ x ∈ (ss++([(y7.mk ⟨A4,cp4,s1.sr.l⟩)]:List y7)),y7.Wf x:=fun x hx=>(List.mem_append.1 hx).elim (hwl x) fun h=>by rw [List.mem_singleton.1 h]; exact ⟨⟨by omega,by omega,hA8⟩⟩
         refine yP hKN [3,4,5,6,7,8,9,13,14,15,16,17,18] (yW 3 8 (yX (i:=8) rfl fun KN hKN=>yt sumE ([((Sh.read (zF.e s1) ((Sh.choose (zF.e s1) a b).1)).1)]:List Sum) wn underlying126 inf89 rfl rfl rfl rfl (by decide) (by decide) rfl fun b63=>yP hKN [4,5,6,7,8,9,10,14,15,16,17,18,19] (yW 2 9 (yX (i:=9) rfl fun KN hKN=>vD 11 us ([((Sh.read (zF.e s1) ((Sh.choose (zF.e s1) a b).1)).1)]:List Sum) encSum wn rfl rfl rfl (fun _ hM=>(RowSl encSum hM 0 rfl)) underlying126 inf89 rfl rfl (by simp only [List.length_append,List.length_cons,List.length_nil]; omega) rfl fun A6 cp6 hc10 hm10 hA10=>yP hKN [4,5,6,7,8,9,10,14,15,16,17,18,19] (vE 0 [10,11] [4,5,6,7,8,9,10,14,15,16,17,18,19] rfl fun KS hKS=>yB (yf rfl) (yB (yf rfl) ?_))))))
         refine yZ hKS (yp (by kernel_rfl) (zm (yC hK6 (zL (zB (zz rfl rfl (by omega)) (zE rfl (zj (ui (k + 1) (ss++([(y7.mk ⟨A4,cp4,s1.sr.l⟩)]:List y7)) (us++([((Sh.read (zF.e s1) ((Sh.choose (zF.e s1) a b).1)).1)]:List Sum)) (acc++[(s1.sr.l,(Sh.read (zF.e s1) (Sh.choose (zF.e s1) a b).1).1)]) (IntKind.wrap .i64 (c + (Sh.read (zF.e s1) ((Sh.choose (zF.e s1) a b).1)).2.1)) (.slice A5 ((ss++([(y7.mk ⟨A4,cp4,s1.sr.l⟩)]:List y7)).length) cp5) (.slice A6 ((us++([((Sh.read (zF.e s1) ((Sh.choose (zF.e s1) a b).1)).1)]:List Sum)).length) cp6) (sc rfl (sc rfl (sc rfl (sc rfl (sc rfl (sc rfl (sc rfl (sc rfl (sc (ji (by omega)) sn))))))))) (S9 [11,1,13,14,15,16,17,18,19]) ?_ ?_))))))))
         · have hm9:zZ.y4 (zF.e s1).zT ms.l=true:=by simpa [zF.e] using h2
           exact ⟨by omega,hw2,by rw [List.map_append,List.map_append,← hI1.2.2.1]; rfl,by rw [List.map_append,← hI1.2.2.2.1]; rfl,Bs.look_more (by rw [List.getElem?_map,hs1]; rfl) hI1.2.2.2.2.1 hm9 h3 h4,Bs.cost_more (by rw [List.getElem?_map,hs1]; rfl) hI1.2.2.2.2.2.1 hm9 h3 h4,by simp only [List.length_append,List.length_cons,List.length_nil]; omega⟩
         omega
       refine yX (i:=8) rfl fun KN hKN=>yt sumE ([((Sh.read (zF.e s1) ((Sh.choose (zF.e s1) a b).1)).1)]:List Sum) wn underlying126 inf89 rfl rfl rfl rfl (by decide) (by decide) rfl fun b63=>yP hKN [3,4,5,6,7,8,9,13,14,15,16,17,18] (yW 3 5 (yX (i:=5) rfl fun KN hKN=>vD 12 ss ([(y7.mk ⟨A4,cp4,s1.sr.l⟩)]:List y7) encSerX wn rfl rfl rfl (fun _ hM=>(RowSl encSerX hM 1 rfl)) underlying125 inf39 rfl rfl (by simp only [List.length_append,List.length_cons,List.length_nil]; omega) rfl fun A7 cp7 hc11 hm11 hA11=>jP 2 16 encLabel rfl rfl rfl onlyC (yU (fun _ h=>h.allSer 11 2 rfl rfl) ?_)))
       have hw3:∀ x ∈ (ss++([(y7.mk ⟨A4,cp4,s1.sr.l⟩)]:List y7)),y7.Wf x:=fun x hx=>(List.mem_append.1 hx).elim (hwl x) fun h=>by rw [List.mem_singleton.1 h]; exact ⟨⟨by omega,by omega,hA8⟩⟩
       refine yP hKN [4,5,6,7,8,9,10,14,15,16,17,18,19] (yW 2 9 (yX (i:=9) rfl fun KN hKN=>vD 11 us ([((Sh.read (zF.e s1) ((Sh.choose (zF.e s1) a b).1)).1)]:List Sum) encSum wn rfl rfl rfl (fun _ hM=>(RowSl encSum hM 1 rfl)) underlying126 inf89 rfl rfl (by simp only [List.length_append,List.length_cons,List.length_nil]; omega) rfl fun A8 cp8 hc12 hm12 hA12=>yP hKN [4,5,6,7,8,9,10,14,15,16,17,18,19] (vE 0 [10,11] [4,5,6,7,8,9,10,14,15,16,17,18,19] rfl fun KS hKS=>yB (yf rfl) (yB (yf rfl) (yZ hKS (yp (by kernel_rfl) (zm (yC hK6 (zL (zB (zz rfl rfl (by omega)) ?_))))))))))
       refine zE rfl (zj (ui (k + 1) (ss++([(y7.mk ⟨A4,cp4,s1.sr.l⟩)]:List y7)) (us++([((Sh.read (zF.e s1) ((Sh.choose (zF.e s1) a b).1)).1)]:List Sum)) (acc++[(s1.sr.l,(Sh.read (zF.e s1) (Sh.choose (zF.e s1) a b).1).1)]) (IntKind.wrap .i64 (c + (Sh.read (zF.e s1) ((Sh.choose (zF.e s1) a b).1)).2.1)) (.slice A7 ((ss++([(y7.mk ⟨A4,cp4,s1.sr.l⟩)]:List y7)).length) cp7) (.slice A8 ((us++([((Sh.read (zF.e s1) ((Sh.choose (zF.e s1) a b).1)).1)]:List Sum)).length) cp8) (sc rfl (sc rfl (sc rfl (sc rfl (sc rfl (sc rfl (sc rfl (sc rfl (sc (ji (by omega)) sn))))))))) (S9 [11,0,13,14,15,16,17,18,19]) ?_ ?_))
       · have hm9:zZ.y4 (zF.e s1).zT ms.l=true:=by simpa [zF.e] using h2
         exact ⟨by omega,hw3,by rw [List.map_append,List.map_append,← hI1.2.2.1]; rfl,by rw [List.map_append,← hI1.2.2.2.1]; rfl,Bs.look_more (by rw [List.getElem?_map,hs1]; rfl) hI1.2.2.2.2.1 hm9 h3 h4,Bs.cost_more (by rw [List.getElem?_map,hs1]; rfl) hI1.2.2.2.2.2.1 hm9 h3 h4,by simp only [List.length_append,List.length_cons,List.length_nil]; omega⟩
       omega
     refine yX (i:=8) rfl fun KN hKN=>yt sumE ([((Sh.read (zF.e s1) ((Sh.choose (zF.e s1) a b).1)).1)]:List Sum) wn underlying126 inf89 rfl rfl rfl rfl (by decide) (by decide) rfl fun b63=>yP hKN [2,3,4,5,6,7,8,12,13,14,15,16,17] (yW 4 4 (yX (i:=4) rfl fun KN hKN=>yt serE ([(y7.mk ⟨A4,cp4,s1.sr.l⟩)]:List y7) wn underlying125 inf39 rfl rfl rfl rfl (by decide) (by decide) rfl fun b59=>yP hKN [3,4,5,6,7,8,9,13,14,15,16,17,18] (yW 3 5 (yX (i:=5) rfl fun KN hKN=>vD 12 ss ([(y7.mk ⟨A4,cp4,s1.sr.l⟩)]:List y7) encSerX wn rfl rfl rfl (fun _ hM=>(RowSl encSerX hM 0 rfl)) underlying125 inf39 rfl rfl (by simp only [List.length_append,List.length_cons,List.length_nil]; omega) rfl fun A9 cp9 hc13 hm13 hA13=>jP 2 16 encLabel rfl rfl rfl onlyC (yU (fun _ h=>h.allSer 11 2 rfl rfl) ?_)))))
     have hw4:∀ x ∈ (ss++([(y7.mk ⟨A4,cp4,s1.sr.l⟩)]:List y7)),y7.Wf x:=fun x hx=>(List.mem_append.1 hx).elim (hwl x) fun h=>by rw [List.mem_singleton.1 h]; exact ⟨⟨by omega,by omega,hA8⟩⟩
     refine yP hKN [4,5,6,7,8,9,10,14,15,16,17,18,19] (yW 2 9 (yX (i:=9) rfl fun KN hKN=>vD 11 us ([((Sh.read (zF.e s1) ((Sh.choose (zF.e s1) a b).1)).1)]:List Sum) encSum wn rfl rfl rfl (fun _ hM=>(RowSl encSum hM 2 rfl)) underlying126 inf89 rfl rfl (by simp only [List.length_append,List.length_cons,List.length_nil]; omega) rfl fun A10 cp10 hc14 hm14 hA14=>yP hKN [4,5,6,7,8,9,10,14,15,16,17,18,19] (vE 0 [10,11] [4,5,6,7,8,9,10,14,15,16,17,18,19] rfl fun KS hKS=>yB (yf rfl) (yB (yf rfl) (yZ hKS (yp (by kernel_rfl) (zm (yC hK6 (zL (zB (zz rfl rfl (by omega)) ?_))))))))))
     refine zE rfl (zj (ui (k + 1) (ss++([(y7.mk ⟨A4,cp4,s1.sr.l⟩)]:List y7)) (us++([((Sh.read (zF.e s1) ((Sh.choose (zF.e s1) a b).1)).1)]:List Sum)) (acc++[(s1.sr.l,(Sh.read (zF.e s1) (Sh.choose (zF.e s1) a b).1).1)]) (IntKind.wrap .i64 (c + (Sh.read (zF.e s1) ((Sh.choose (zF.e s1) a b).1)).2.1)) (.slice A9 ((ss++([(y7.mk ⟨A4,cp4,s1.sr.l⟩)]:List y7)).length) cp9) (.slice A10 ((us++([((Sh.read (zF.e s1) ((Sh.choose (zF.e s1) a b).1)).1)]:List Sum)).length) cp10) (sc rfl (sc rfl (sc rfl (sc rfl (sc rfl (sc rfl (sc rfl (sc rfl (sc (ji (by omega)) sn))))))))) (S9 [11,0,13,14,15,16,17,18,19]) ?_ ?_))
     · have hm9:zZ.y4 (zF.e s1).zT ms.l=true:=by simpa [zF.e] using h2
       exact ⟨by omega,hw4,by rw [List.map_append,List.map_append,← hI1.2.2.1]; rfl,by rw [List.map_append,← hI1.2.2.2.1]; rfl,Bs.look_more (by rw [List.getElem?_map,hs1]; rfl) hI1.2.2.2.2.1 hm9 h3 h4,Bs.cost_more (by rw [List.getElem?_map,hs1]; rfl) hI1.2.2.2.2.2.1 hm9 h3 h4,by simp only [List.length_append,List.length_cons,List.length_nil]; omega⟩
     omega
   refine yX (i:=8) rfl fun KN hKN=>yt sumE ([((Sh.read (zF.e s1) ((Sh.choose (zF.e s1) a b).1)).1)]:List Sum) wn underlying126 inf89 rfl rfl rfl rfl (by decide) (by decide) rfl fun b63=>yP hKN [1,2,3,4,5,6,7,11,12,13,14,15,16] (yW 5 3 (yX (i:=3) rfl fun KN hKN=>uQ s1.sr.l wn rfl call61 rfl (fun w1 hM=>uK _ s1.sr.l w1 (hM.sl 4 rfl) (by omega)) fun A11 cp11 hc15 hm15 hA15=>yP hKN [2,3,4,5,6,7,8,12,13,14,15,16,17] (yW 4 4 (yX (i:=4) rfl fun KN hKN=>yt serE ([(y7.mk ⟨A11,cp11,s1.sr.l⟩)]:List y7) wn underlying125 inf39 rfl rfl rfl rfl (by decide) (by decide) rfl fun b59=>yP hKN [3,4,5,6,7,8,9,13,14,15,16,17,18] (yW 3 5 ?_)))))
   refine yX (i:=5) rfl fun KN hKN=>vD 12 ss ([(y7.mk ⟨A11,cp11,s1.sr.l⟩)]:List y7) encSerX wn rfl rfl rfl (fun _ hM=>(RowSl encSerX hM 0 rfl)) underlying125 inf39 rfl rfl (by simp only [List.length_append,List.length_cons,List.length_nil]; omega) rfl fun A12 cp12 hc16 hm16 hA16=>jP 1 16 encLabel rfl rfl rfl onlyC (yU (fun _ h=>h.allSer 11 1 rfl rfl) ?_)
   have hw5:∀ x ∈ (ss++([(y7.mk ⟨A11,cp11,s1.sr.l⟩)]:List y7)),y7.Wf x:=fun x hx=>(List.mem_append.1 hx).elim (hwl x) fun h=>by rw [List.mem_singleton.1 h]; exact ⟨⟨by omega,by omega,hA15⟩⟩
   refine yP hKN [4,5,6,7,8,9,10,14,15,16,17,18,19] (yW 2 9 (yX (i:=9) rfl fun KN hKN=>vD 11 us ([((Sh.read (zF.e s1) ((Sh.choose (zF.e s1) a b).1)).1)]:List Sum) encSum wn rfl rfl rfl (fun _ hM=>(RowSl encSum hM 3 rfl)) underlying126 inf89 rfl rfl (by simp only [List.length_append,List.length_cons,List.length_nil]; omega) rfl fun A13 cp13 hc17 hm17 hA17=>yP hKN [4,5,6,7,8,9,10,14,15,16,17,18,19] (vE 0 [10,11] [4,5,6,7,8,9,10,14,15,16,17,18,19] rfl fun KS hKS=>yB (yf rfl) (yB (yf rfl) (yZ hKS (yp (by kernel_rfl) (zm (yC hK6 (zL (zB (zz rfl rfl (by omega)) ?_))))))))))
   refine zE rfl (zj (ui (k + 1) (ss++([(y7.mk ⟨A11,cp11,s1.sr.l⟩)]:List y7)) (us++([((Sh.read (zF.e s1) ((Sh.choose (zF.e s1) a b).1)).1)]:List Sum)) (acc++[(s1.sr.l,(Sh.read (zF.e s1) (Sh.choose (zF.e s1) a b).1).1)]) (IntKind.wrap .i64 (c + (Sh.read (zF.e s1) ((Sh.choose (zF.e s1) a b).1)).2.1)) (.slice A12 ((ss++([(y7.mk ⟨A11,cp11,s1.sr.l⟩)]:List y7)).length) cp12) (.slice A13 ((us++([((Sh.read (zF.e s1) ((Sh.choose (zF.e s1) a b).1)).1)]:List Sum)).length) cp13) (sc rfl (sc rfl (sc rfl (sc rfl (sc rfl (sc rfl (sc rfl (sc rfl (sc (ji (by omega)) sn))))))))) (S9 [11,0,13,14,15,16,17,18,19]) ?_ ?_))
   · have hm9:zZ.y4 (zF.e s1).zT ms.l=true:=by simpa [zF.e] using h2
     exact ⟨by omega,hw5,by rw [List.map_append,List.map_append,← hI1.2.2.1]; rfl,by rw [List.map_append,← hI1.2.2.2.1]; rfl,Bs.look_more (by rw [List.getElem?_map,hs1]; rfl) hI1.2.2.2.2.1 hm9 h3 h4,Bs.cost_more (by rw [List.getElem?_map,hs1]; rfl) hI1.2.2.2.2.2.1 hm9 h3 h4,by simp only [List.length_append,List.length_cons,List.length_nil]; omega⟩
   omega
 refine yc (yH (e_loop7_x (yJ (yC hK2 (zG fun _ hK19=>zE rfl (zE rfl (zO rfl (zO rfl (zO rfl (zD hK19 (zV (ua (.inl rfl) results116 (zQ rfl) (zQ rfl) (zQ rfl) fun w1 hM=>?_))))))))))))
 have hM:=hM.uk encSerX (i:=2) (j:=6) rfl rfl (by decide) onlyC
 have hM:=hM.uk encSum (i:=0) (j:=6) rfl rfl (by decide) onlyC
 have h9:=Bs.look_end hI1.2.2.2.2.1 (by rw [List.length_map]; omega)
 have h8:=Bs.cost_end hI1.2.2.2.2.2.1 (by rw [List.length_map]; omega)
 have hM:=hM.vT (vu.Ok.loc (⟨⟨A1,cp1,ss⟩,⟨A2,cp2,us⟩⟩:vu)) fun Pb pp=>⟨pp.sl 2 rfl,pp.at_ 1 _ rfl,pp.sl 0 rfl⟩
 exact hM.vS (⟨⟨A1,cp1,ss⟩,⟨A2,cp2,us⟩⟩:vu) (by rw [h9]) ⟨by rw [h9]; exact hI1.2.2.1,by rw [h9]; exact hI1.2.2.2.1⟩ (fun h=>by rw [h8]; exact h.sel [0,7] (by decide) rfl)
end
section
open Tryz
open Ex
set_option linter.unusedVariables false
set_option linter.unusedSimpArgs false
set_option maxHeartbeats 2000000 in
theorem c_bin (wd : ByteArray) (a : yO) (b : yO) (P0 : Nat → Prop) (w : World) (hP0 : ∀ b, P0 b → b < w.heap.size) (ha : yO.Ok P0 a w) (hb : yO.Ok P0 b w) (hba : Mn.Bnd a.e) (hbb : Mn.Bnd b.e) (hla : a.cells.l.length ≤ 1048576) (hlb : b.cells.l.length ≤ 1048576) :
    Calls prog 157 #[.string wd,.agg (uU a).toArray,.agg (uU b).toArray] w (RetE w P0 (fun z:yO=>.tuple #[.agg (uU z).toArray,iV (Mn.bin wd a.e b.e).2]) (fun z=>z.e=(Mn.bin wd a.e b.e).1) (fun z S=>yO.Ok S z)):=by
 have hwa:=ha.wf
 have hwb:=hb.wf
 have hna:=hba.1
 have hnb:=hbb.1
 have hna2:-1125899906842624≤a.n∧a.n≤1125899906842624:=hba.1
 have hnb2:-1125899906842624≤b.n∧b.n≤1125899906842624:=hbb.1
 refine fstart (N:=119) (vals:=[.string wd,.agg (uU a).toArray,.agg (uU b).toArray]) (S:=Mem w ⟨no,P0⟩ [okP yO.Ok a,okP yO.Ok b]) func157 rfl rfl rfl (Mem.ofDatsP hP0 (dc (dp (yO.Ok.loc _) ha) (dc (dp (yO.Ok.loc _) hb) dn))) (zG fun _ hK1=>jF wn rfl rfl rfl fun b3=>vR wn rfl rfl fun b4=>vR wn rfl rfl fun b5=>zy wn inf172 rfl fun b6=>zO rfl (zD hK1 (zG fun _ hK2=>zB (zc rfl fld172_0) (zB (zi 2 rfl rfl rfl flat4) (zE rfl ?_)))))
 refine uP (t:=20) rfl (fun h1=>?_) (fun h1=>?_)
 · refine zW (zW (zB (zP rfl rfl) (zB (zw [.bool true,iV 0,Zs] pl172 inf172 rfl rfl) (zy wn inf172 rfl fun b8=>zn 0 wn rfl rfl rfl inf172 rfl rfl rfl (zD hK2 (zG fun _ hK3=>zB (ve rfl rfl) (zO rfl (zD hK3 (zG fun _ hK4=>?_)))))))))
   refine zO rfl (zD hK4 (zS fun _ hK5=>zl (zG fun _ hK6=>zB (zc rfl fld172_0) (zB (zi 0 rfl rfl rfl flat4) (zB (y5 rfl) (zO rfl (zD hK6 (yu rfl rfl (zG fun _ hK7=>?_)))))))))
   refine zB (zc rfl fld172_0) (zB (zi 2 rfl rfl rfl flat4) (zB (y5 rfl) (zO rfl (zD hK7 (yl rfl (fun h2=>?_) (fun h2=>?_))))))
   · refine zG fun _ hK8=>zB (zc rfl fld172_2) (zB (zi 3 rfl rfl rfl flat32) (zB (yg rfl underlying32) (zE rfl (zD hK8 (zl (jT (fun _ h=>h.uM zM 81 2 ye) (jZ (fun _ h=>h.all0 zM.Ok.loc) (uI (fun (k:Nat) (cs:List zM) (ok:Bool) (ov:Value)=>[(5,.pointer (some ⟨b5,0,none⟩)),(6,.pointer (some ⟨b6,0,none⟩)),(8,.pointer (some ⟨b8,0,none⟩)),(9,.func (.func 193) #[] #[.pointer (some ⟨b3,0,none⟩),.pointer (some ⟨b8,0,none⟩)]),(10,.bool ok),(74,.slice a.cells.A a.cells.l.length a.cells.c),(75,iV a.cells.l.length),(76,iV k)]) (fun (k:Nat) (cs:List zM) (ok:Bool) (ov:Value)=>[allP zM.Ok cs,Row ov 81 2 ye cs,.blk b8 [.bool true,iV 0,ov] 172,.blk b6 [.bool false,iV 0,Zs] 172,.blk b5 [.bool b.vec,iV b.n,.slice b.cells.A b.cells.l.length b.cells.c] 172,.blk b4 [.bool a.vec,iV a.n,.slice a.cells.A a.cells.l.length a.cells.c] 172,.blk b3 [.string wd] 9,okP yO.Ok a,okP yO.Ok b]) (fun (k:Nat) (cs:List zM) (ok:Bool) (ov:Value)=>k≤a.cells.l.length∧(∀ x ∈ cs,zM.Wf x)∧cs.map zM.e=Mn.done wd (Mn.p1 a b k)∧ok=Mn.fine wd (Mn.p1 a b k)∧cs.length≤k) (fun (k:Nat) (cs:List zM) (ok:Bool) (ov:Value)=>a.cells.l.length - k) 0 [] true (Zs) (sc rfl (sc rfl (sc rfl (sc rfl (sc rfl (sc rfl (sc rfl (sc (ji (by omega)) sn)))))))) (fun _ h=>h) ?_ (fun k cs ok ov hI1=>?_)))))))))
     · exact ⟨Nat.zero_le _,fun x hx=>(by cases hx),rfl,rfl,Nat.le_refl _⟩
     have hwf:=hI1.2.1
     have hlen:=hI1.2.2.2.2
     refine vV 1 (l:=cs) rfl fun A1 cp1 hv1 hc1 hm1 hA1=>?_
     subst hv1
     refine zG fun _ hK9=>zB (yR rfl rfl) (zD hK9 (zS fun _ hK10=>za rfl (fun h3=>?_) (fun h3=>?_)))
     · refine yL hK10 (zS fun _ hK11=>zl (zG fun _ hK12=>yU (fun _ h=>h.valX 7 rfl) ?_))
       obtain ⟨hc2,hm2,hA2⟩:=hwa.cells
       obtain ⟨ad1,hd1⟩:=hA2 (ne_nil (i:=k) (by first | omega | (simp <;> omega)))
       refine zB (vC (i:=k) rfl hd1 rfl (by omega) (by first | omega | (simp <;> omega)) underlying32 inf81) ?_
       obtain ⟨s1,hs1⟩:∃ x,a.cells.l[k]?=some x:=⟨_,List.getElem?_eq_getElem (by first | omega | (simp <;> omega))⟩
       have hb_s1:=Mn.Bnd.at_ hba hs1
       refine zB (v8 0 [.slice s1.sr.A s1.sr.l.length s1.sr.c,iV s1.value] rfl rfl hd1 hs1 rfl rfl agg81 inf81) (zy wn inf81 rfl fun b12=>zn 0 wn rfl rfl rfl inf81 rfl rfl rfl (zD hK12 (zL (zE rfl (zB (zc rfl fld81_0) (zB (zi 0 rfl rfl rfl flat39) (zB (zc rfl fld81_1) (zB (zi 0 rfl rfl rfl flat3) (zB (zc rfl fld172_1) (zB (zi 7 rfl rfl rfl flat3) ?_))))))))))
       have hw1:=hwa.all _ (List.mem_of_getElem? hs1)
       refine yU (fun _ h=>h.one 2 zM.Ok.loc rfl hs1) (yU (fun _ h=>h.cellX 0 rfl) ?_)
       obtain ⟨hc3,hm3,hA3⟩:=hw1.sr
       refine vK (α:=Value) [.blk b3 [.string wd] 9,.blk b8 [.bool true,iV 0,.slice A1 cs.length cp1] 172,Row (.slice A1 cs.length cp1) 81 2 ye cs,allP zM.Ok cs,slP 2 zk (.slice s1.sr.A s1.sr.l.length s1.sr.c) s1.sr.l] [okP zM.Ok s1,.blk b12 [.slice s1.sr.A s1.sr.l.length s1.sr.c,iV s1.value] 81,slP 2 ye (.slice a.cells.A a.cells.l.length a.cells.c) a.cells.l,allP zM.Ok a.cells.l,.blk b6 [.bool false,iV 0,Zs] 172,.blk b5 [.bool b.vec,iV b.n,.slice b.cells.A b.cells.l.length b.cells.c] 172,.blk b4 [.bool a.vec,iV a.n,.slice a.cells.A a.cells.l.length a.cells.c] 172,okP yO.Ok a,okP yO.Ok b] (fun _=>.bool (Mn.op wd s1.value b.n).2) (fun z1=>True) (fun z1=>[.blk b3 [.string wd] 9,.blk b8 [.bool true,iV 0,z1] 172,Row z1 81 2 ye (cs++[zM.mk s1.sr (Mn.op wd s1.value b.n).1]),allP zM.Ok (cs++[zM.mk s1.sr (Mn.op wd s1.value b.n).1]),slP 2 zk (.slice s1.sr.A s1.sr.l.length s1.sr.c) s1.sr.l]) _ (fun _=>rfl) (S9 [11,7,6,5,0,1,2,3,4,8,9,10,12,13]) (fun _=>rfl) wn rfl rfl call193 rfl (fun w1 Pb hG=>gM wd true 0 _ _ s1.sr s1.value b.n _ _ Pb w1 hG (by first | omega | assumption) (by first | omega | assumption) (by omega)) fun z1 hz1=>jG 2 (l:=(cs++[zM.mk s1.sr (Mn.op wd s1.value b.n).1])) rfl fun A2 cp2 hv2 hc4 hm4 hA4=>?_
       subst hv2
       have hw2:∀ x ∈ (cs++[zM.mk s1.sr (Mn.op wd s1.value b.n).1]),zM.Wf x:=fun x hx=>(List.mem_append.1 hx).elim (hwf x) fun h=>by rw [List.mem_singleton.1 h]; exact ⟨hw1.sr⟩
       refine zE rfl (uP (t:=88) rfl (fun h4=>?_) (fun h4=>?_))
       · refine zd (zg rfl) (zB (zP rfl rfl) (zO rfl (zj (zm (yC hK11 (zL (zB (zz rfl rfl (by omega)) (zE rfl (zj (vW (k + 1) (cs++[zM.mk s1.sr (Mn.op wd s1.value b.n).1]) ok (.slice A2 ((cs++[zM.mk s1.sr (Mn.op wd s1.value b.n).1]).length) cp2) (sc rfl (sc rfl (sc rfl (sc rfl (sc rfl (sc rfl (sc rfl (sc (ji (by omega)) sn)))))))) (S9 [3,2,1,9,10,11,0,12,13]) ?_ ?_))))))))))
         · exact ⟨by omega,hw2,Mn.done_at hI1.2.2.1 (Mn.p1_at hs1),Mn.fine_t hI1.2.2.2.1 (Mn.p1_at hs1) h4,by simp only [List.length_append,List.length_cons,List.length_nil]; omega⟩
         omega
       refine zW (zB (zP rfl rfl) (zO rfl (zj (zm (yC hK11 (zL (zB (zz rfl rfl (by omega)) (zE rfl (zj (vW (k + 1) (cs++[zM.mk s1.sr (Mn.op wd s1.value b.n).1]) false (.slice A2 ((cs++[zM.mk s1.sr (Mn.op wd s1.value b.n).1]).length) cp2) (sc rfl (sc rfl (sc rfl (sc rfl (sc rfl (sc rfl (sc rfl (sc (ji (by omega)) sn)))))))) (S9 [3,2,1,9,10,11,0,12,13]) ?_ ?_))))))))))
       · exact ⟨by omega,hw2,Mn.done_at hI1.2.2.1 (Mn.p1_at hs1),Mn.fine_f (Mn.p1_at hs1) h4,by simp only [List.length_append,List.length_cons,List.length_nil]; omega⟩
       omega
     refine yc (yH (v7 (yJ (zm (yC hK5 (zS fun _ hK13=>zG fun _ hK14=>zE rfl (zB (y5 rfl) (zD hK14 (yl rfl (fun h5=>?_) (fun h5=>?_))))))))))
     · refine zG fun _ hK15=>zB (zw [.bool false,iV 0,Zs] pl172 inf172 rfl rfl) (zn 3 wn rfl rfl rfl inf172 rfl rfl rfl (zO rfl (zD hK15 (zV (zJ (yT (.inl rfl) results157 (zo 3 rfl rfl agg172 inf172 rfl) (zQ rfl) fun w1 hM=>?_))))))
       have hb9:=Mn.bin_vec (w:=wd) (.inl (by simpa using h1)) (Mn.p1_end (by simpa using h2) (by omega)) hI1.2.2.1 hI1.2.2.2.1
       rw [if_neg (by simpa using h5)] at hb9
       exact hM.uE (⟨false,0,⟨none,0,[]⟩⟩:yO) (by first | (rw [hb9]; done) | (rw [hb9]; rfl)) (by first | (rw [hb9]; done) | (rw [hb9]; rfl) | (have e9:=h1; rw [hb9]; simp [yO.e] at e9 ⊢; exact e9) | (have e9:=h2; rw [hb9]; simp [yO.e] at e9 ⊢; exact e9)) fun Pb pp=>⟨zK.ym _ _ _ _,fun c hc=>by cases hc⟩
     refine yL hK13 (zG fun _ hK16=>zB (yM 2 [.bool true,iV 0,.slice A1 cs.length cp1] rfl rfl rfl rfl agg172 inf172) (zn 3 wn rfl rfl rfl inf172 rfl rfl rfl (zO rfl (zD hK16 (zV (yT (.inl rfl) results157 (zo 3 rfl rfl agg172 inf172 rfl) (zQ rfl) fun w1 hM=>?_))))))
     have hb9:=Mn.bin_vec (w:=wd) (.inl (by simpa using h1)) (Mn.p1_end (by simpa using h2) (by omega)) hI1.2.2.1 hI1.2.2.2.1
     rw [if_pos (by simpa using h5)] at hb9
     have hM:=hM.yb encCellX (i:=1) rfl rfl
     exact hM.uE (⟨true,0,⟨A1,cp1,cs⟩⟩:yO) (by first | (rw [hb9]; done) | (rw [hb9]; rfl)) (by first | (rw [hb9]; done) | (rw [hb9]; rfl) | (have e9:=h1; rw [hb9]; simp [yO.e] at e9 ⊢; exact e9) | (have e9:=h2; rw [hb9]; simp [yO.e] at e9 ⊢; exact e9)) fun Pb pp=>⟨pp.sl 1 rfl,pp.at_ 0 _ rfl⟩
   refine zG fun _ hK17=>zB (zc rfl fld172_0) (zB (zi 3 rfl rfl rfl flat4) (zB (y5 rfl) (zO rfl (zD hK17 (yu rfl (by simpa using h1) (zG fun _ hK18=>zB (zc rfl fld172_2) (zB (zi 3 rfl rfl rfl flat32) (zB (yg rfl underlying32) (zE rfl ?_)))))))))
   refine zD hK18 (zl (jT (fun _ h=>h.uM zM 81 2 ye) (jZ (fun _ h=>h.all0 zM.Ok.loc) (uI (fun (k:Nat) (cs:List zM) (ok:Bool) (ov:Value)=>[(5,.pointer (some ⟨b5,0,none⟩)),(6,.pointer (some ⟨b6,0,none⟩)),(8,.pointer (some ⟨b8,0,none⟩)),(9,.func (.func 193) #[] #[.pointer (some ⟨b3,0,none⟩),.pointer (some ⟨b8,0,none⟩)]),(10,.bool ok),(27,.slice a.cells.A a.cells.l.length a.cells.c),(28,iV a.cells.l.length),(29,iV k)]) (fun (k:Nat) (cs:List zM) (ok:Bool) (ov:Value)=>[allP zM.Ok cs,Row ov 81 2 ye cs,.blk b8 [.bool true,iV 0,ov] 172,.blk b6 [.bool false,iV 0,Zs] 172,.blk b5 [.bool b.vec,iV b.n,.slice b.cells.A b.cells.l.length b.cells.c] 172,.blk b4 [.bool a.vec,iV a.n,.slice a.cells.A a.cells.l.length a.cells.c] 172,.blk b3 [.string wd] 9,okP yO.Ok a,okP yO.Ok b]) (fun (k:Nat) (cs:List zM) (ok:Bool) (ov:Value)=>k≤a.cells.l.length∧(∀ x ∈ cs,zM.Wf x)∧cs.map zM.e=Mn.done wd (Mn.p3 a b k)∧ok=Mn.fine wd (Mn.p3 a b k)∧cs.length≤k) (fun (k:Nat) (cs:List zM) (ok:Bool) (ov:Value)=>a.cells.l.length - k) 0 [] true (Zs) (sc rfl (sc rfl (sc rfl (sc rfl (sc rfl (sc rfl (sc rfl (sc (ji (by omega)) sn)))))))) (fun _ h=>h) ?_ (fun k cs ok ov hI2=>?_)))))
   · exact ⟨Nat.zero_le _,fun x hx=>(by cases hx),rfl,rfl,Nat.le_refl _⟩
   have hwf:=hI2.2.1
   have hlen:=hI2.2.2.2.2
   refine vV 1 (l:=cs) rfl fun A3 cp3 hv3 hc5 hm5 hA5=>?_
   subst hv3
   refine zG fun _ hK19=>zB (yR rfl rfl) (zD hK19 (zS fun _ hK20=>za rfl (fun h6=>?_) (fun h6=>?_)))
   · refine yL hK20 (zS fun _ hK21=>zl (zG fun _ hK22=>yU (fun _ h=>h.valX 7 rfl) ?_))
     obtain ⟨hc6,hm6,hA6⟩:=hwa.cells
     obtain ⟨ad2,hd2⟩:=hA6 (ne_nil (i:=k) (by first | omega | (simp <;> omega)))
     refine zB (vC (i:=k) rfl hd2 rfl (by omega) (by first | omega | (simp <;> omega)) underlying32 inf81) ?_
     obtain ⟨s2,hs2⟩:∃ x,a.cells.l[k]?=some x:=⟨_,List.getElem?_eq_getElem (by first | omega | (simp <;> omega))⟩
     have hb_s2:=Mn.Bnd.at_ hba hs2
     refine zB (v8 0 [.slice s2.sr.A s2.sr.l.length s2.sr.c,iV s2.value] rfl rfl hd2 hs2 rfl rfl agg81 inf81) (zy wn inf81 rfl fun b16=>zn 0 wn rfl rfl rfl inf81 rfl rfl rfl (zD hK22 (zG fun _ hK23=>zB (zc rfl fld172_2) (zB (zi 7 rfl rfl rfl flat32) (zB (ve rfl rfl) ?_)))))
     have hw3:=hwa.all _ (List.mem_of_getElem? hs2)
     refine yU (fun _ h=>h.one 2 zM.Ok.loc rfl hs2) (l_sealB 1 rfl rfl (yU (fun _ h=>h.valX 12 rfl) ?_))
     obtain ⟨hc7,hm7,hA7⟩:=hwb.cells
     refine yF wn rfl call195 rfl (fun w1 hM=>c_idxC _ b.cells.l 196 #[.pointer (some ⟨b16,0,none⟩)] (fun d:zM=>decide (s2.sr.l=d.sr.l)) (In w1) w1 (fun _ h=>h) (hM.slp 0 rfl) (hM.vP (i:=1) rfl) call196 (fun d hd w2 hf=>by simpa using c_bin2 d _ s2 (In w2) w2 (fun _ h=>h) (zM.Ok.loc d (In w1) (In w2) w1 w2 (fun b hb=>Nat.lt_of_lt_of_le hb hf.size) (fun b hb=>hf.block b hb id) (hM.vP (i:=1) rfl d hd)) (vb.loc _ _ (In w1) (In w2) w1 w2 (fun b hb=>Nat.lt_of_lt_of_le hb hf.size) (fun b hb=>hf.block b hb id) (hM.vP (i:=3) rfl)) (zM.Ok.loc s2 (In w1) (In w2) w1 w2 (fun b hb=>Nat.lt_of_lt_of_le hb hf.size) (fun b hb=>hf.block b hb id) (hM.vP (i:=2) rfl)))) (zO rfl (zD hK23 (zG fun _ hK24=>zE rfl (zB (vn rfl rfl) (zD hK24 (za rfl (fun h7=>?_) (fun h7=>?_)))))))
     · obtain ⟨j,y,hj1,hy1,hpy1,hbe1⟩:=(Sh.idx_cases (fun d:zM=>decide (s2.sr.l=d.sr.l)) b.cells.l).resolve_left (fun h=>by have:=h.1; omega)
       have hjl:=(List.getElem?_eq_some_iff.1 hy1).1
       have hb_y:=Mn.Bnd.at_ hbb hy1
       refine vY 11 mix (by kernel_rfl) (fun _ h=>h.drew) fun _ hT1=>yq rfl (zt (y0 (ad:=⟨b16,0,none⟩) (i:=0) (o:=0) rfl fld81_0) (zt (yy 3 rfl rfl rfl flat39) (zt (y0 (ad:=⟨b16,0,none⟩) (i:=0) (o:=0) rfl fld81_1) (zt (yy 3 rfl rfl rfl flat3) (zt (zc rfl fld172_2) (zt (zi 10 rfl rfl rfl flat32) (yq rfl ?_)))))))
       obtain ⟨ad3,hd3⟩:=hA7 (ne_nil (i:=j) (by first | omega | (simp <;> omega)))
       refine zt (vC (i:=j) rfl hd3 rfl (by omega) (by first | omega | (simp <;> omega)) underlying32 inf81) (zt (y0 rfl fld81_1) (zt (gD 0 rfl rfl hd3 hy1 rfl flat3) (vx hT1 (yU (fun _ h=>h.cellX 2 rfl) ?_))))
       obtain ⟨hc8,hm8,hA8⟩:=hw3.sr
       refine vK (α:=Value) [.blk b3 [.string wd] 9,.blk b8 [.bool true,iV 0,.slice A3 cs.length cp3] 172,Row (.slice A3 cs.length cp3) 81 2 ye cs,allP zM.Ok cs,slP 2 zk (.slice s2.sr.A s2.sr.l.length s2.sr.c) s2.sr.l] [slP 2 ye (.slice b.cells.A b.cells.l.length b.cells.c) b.cells.l,allP zM.Ok b.cells.l,okP zM.Ok s2,celP ⟨b16,0,none⟩ [.slice s2.sr.A s2.sr.l.length s2.sr.c,iV s2.value],slP 2 ye (.slice a.cells.A a.cells.l.length a.cells.c) a.cells.l,allP zM.Ok a.cells.l,.blk b6 [.bool false,iV 0,Zs] 172,.blk b5 [.bool b.vec,iV b.n,.slice b.cells.A b.cells.l.length b.cells.c] 172,.blk b4 [.bool a.vec,iV a.n,.slice a.cells.A a.cells.l.length a.cells.c] 172,okP yO.Ok a,okP yO.Ok b] (fun _=>.bool (Mn.op wd s2.value y.value).2) (fun z2=>True) (fun z2=>[.blk b3 [.string wd] 9,.blk b8 [.bool true,iV 0,z2] 172,Row z2 81 2 ye (cs++[zM.mk s2.sr (Mn.op wd s2.value y.value).1]),allP zM.Ok (cs++[zM.mk s2.sr (Mn.op wd s2.value y.value).1]),slP 2 zk (.slice s2.sr.A s2.sr.l.length s2.sr.c) s2.sr.l]) _ (fun _=>rfl) (S9 [13,9,8,7,0,1,2,3,4,5,6,10,11,12,14,15]) (fun _=>rfl) wn rfl rfl call193 rfl (fun w1 Pb hG=>gM wd true 0 _ _ s2.sr s2.value y.value _ _ Pb w1 hG (by first | omega | assumption) (by first | omega | assumption) (by omega)) fun z2 hz2=>jG 2 (l:=(cs++[zM.mk s2.sr (Mn.op wd s2.value y.value).1])) rfl fun A4 cp4 hv4 hc9 hm9 hA9=>?_
       subst hv4
       have hw4:∀ x ∈ (cs++[zM.mk s2.sr (Mn.op wd s2.value y.value).1]),zM.Wf x:=fun x hx=>(List.mem_append.1 hx).elim (hwf x) fun h=>by rw [List.mem_singleton.1 h]; exact ⟨hw3.sr⟩
       refine zE rfl (uP (t:=51) rfl (fun h8=>?_) (fun h8=>?_))
       · refine zd (zg rfl) (zB (zP rfl rfl) (zO rfl (zj (zm (yC hK21 (zL (zB (zz rfl rfl (by omega)) (zE rfl (zj (vW (k + 1) (cs++[zM.mk s2.sr (Mn.op wd s2.value y.value).1]) ok (.slice A4 ((cs++[zM.mk s2.sr (Mn.op wd s2.value y.value).1]).length) cp4) (sc rfl (sc rfl (sc rfl (sc rfl (sc rfl (sc rfl (sc rfl (sc (ji (by omega)) sn)))))))) (S9 [3,2,1,11,12,13,0,14,15]) ?_ ?_))))))))))
         · exact ⟨by omega,hw4,Mn.done_at hI2.2.2.1 (Mn.p3_at hs2 hy1 hpy1 hbe1),Mn.fine_t hI2.2.2.2.1 (Mn.p3_at hs2 hy1 hpy1 hbe1) h8,by simp only [List.length_append,List.length_cons,List.length_nil]; omega⟩
         omega
       refine zW (zB (zP rfl rfl) (zO rfl (zj (zm (yC hK21 (zL (zB (zz rfl rfl (by omega)) (zE rfl (zj (vW (k + 1) (cs++[zM.mk s2.sr (Mn.op wd s2.value y.value).1]) false (.slice A4 ((cs++[zM.mk s2.sr (Mn.op wd s2.value y.value).1]).length) cp4) (sc rfl (sc rfl (sc rfl (sc rfl (sc rfl (sc rfl (sc rfl (sc (ji (by omega)) sn)))))))) (S9 [3,2,1,11,12,13,0,14,15]) ?_ ?_))))))))))
       · exact ⟨by omega,hw4,Mn.done_at hI2.2.2.1 (Mn.p3_at hs2 hy1 hpy1 hbe1),Mn.fine_f (Mn.p3_at hs2 hy1 hpy1 hbe1) h8,by simp only [List.length_append,List.length_cons,List.length_nil]; omega⟩
       omega
     have hno1:=((Sh.idx_cases (fun d:zM=>decide (s2.sr.l=d.sr.l)) b.cells.l).resolve_right (fun h=>by obtain ⟨j,y,hj,_⟩:=h; omega)).2
     refine yV (zm (yC hK21 (zL (zB (zz rfl rfl (by omega)) (zE rfl (zj (vW (k + 1) cs ok (.slice A3 cs.length cp3) (sc rfl (sc rfl (sc rfl (sc rfl (sc rfl (sc rfl (sc rfl (sc (ji (by omega)) sn)))))))) (S9 [6,7,8,9,10,11,12,13,14]) ?_ ?_)))))))
     · exact ⟨by omega,hI2.2.1,by rw [Mn.p3_no hs2 hno1]; exact hI2.2.2.1,by rw [Mn.p3_no hs2 hno1]; exact hI2.2.2.2.1,by omega⟩
     omega
   refine yc (yH (v7 (yJ (zm (yC hK5 (zS fun _ hK25=>zG fun _ hK26=>zE rfl (zB (y5 rfl) (zD hK26 (yl rfl (fun h9=>?_) (fun h9=>?_))))))))))
   · refine zG fun _ hK27=>zB (zw [.bool false,iV 0,Zs] pl172 inf172 rfl rfl) (zn 3 wn rfl rfl rfl inf172 rfl rfl rfl (zO rfl (zD hK27 (zV (zJ (yT (.inl rfl) results157 (zo 3 rfl rfl agg172 inf172 rfl) (zQ rfl) fun w1 hM=>?_))))))
     have hb9:=Mn.bin_vec (w:=wd) (.inl (by simpa using h1)) (Mn.p3_end (by simpa using h2) (by simpa using h1) (by omega)) hI2.2.2.1 hI2.2.2.2.1
     rw [if_neg (by simpa using h9)] at hb9
     exact hM.uE (⟨false,0,⟨none,0,[]⟩⟩:yO) (by first | (rw [hb9]; done) | (rw [hb9]; rfl)) (by first | (rw [hb9]; done) | (rw [hb9]; rfl) | (have e9:=h1; rw [hb9]; simp [yO.e] at e9 ⊢; exact e9) | (have e9:=h2; rw [hb9]; simp [yO.e] at e9 ⊢; exact e9)) fun Pb pp=>⟨zK.ym _ _ _ _,fun c hc=>by cases hc⟩
   refine yL hK25 (zG fun _ hK28=>zB (yM 2 [.bool true,iV 0,.slice A3 cs.length cp3] rfl rfl rfl rfl agg172 inf172) (zn 3 wn rfl rfl rfl inf172 rfl rfl rfl (zO rfl (zD hK28 (zV (yT (.inl rfl) results157 (zo 3 rfl rfl agg172 inf172 rfl) (zQ rfl) fun w1 hM=>?_))))))
   have hb9:=Mn.bin_vec (w:=wd) (.inl (by simpa using h1)) (Mn.p3_end (by simpa using h2) (by simpa using h1) (by omega)) hI2.2.2.1 hI2.2.2.2.1
   rw [if_pos (by simpa using h9)] at hb9
   have hM:=hM.yb encCellX (i:=1) rfl rfl
   exact hM.uE (⟨true,0,⟨A3,cp3,cs⟩⟩:yO) (by first | (rw [hb9]; done) | (rw [hb9]; rfl)) (by first | (rw [hb9]; done) | (rw [hb9]; rfl) | (have e9:=h1; rw [hb9]; simp [yO.e] at e9 ⊢; exact e9) | (have e9:=h2; rw [hb9]; simp [yO.e] at e9 ⊢; exact e9)) fun Pb pp=>⟨pp.sl 1 rfl,pp.at_ 0 _ rfl⟩
 refine zd (zc rfl fld172_0) (zd (zi 1 rfl rfl rfl flat4) (zB (zP rfl rfl) (zB (zw [.bool b.vec,iV 0,Zs] pl172 inf172 rfl rfl) (zy wn inf172 rfl fun b8=>zn 0 wn rfl rfl rfl inf172 rfl rfl rfl (zD hK2 (zG fun _ hK29=>zB (ve rfl rfl) (zO rfl (zD hK29 (zG fun _ hK30=>?_)))))))))
 refine zO rfl (zD hK30 (zS fun _ hK31=>zl (zG fun _ hK32=>zB (zc rfl fld172_0) (zB (zi 0 rfl rfl rfl flat4) (zB (y5 rfl) (zO rfl (zD hK32 (yl rfl (fun h10=>?_) (fun h10=>?_)))))))))
 · refine zL (zB (zi 4 rfl rfl rfl flat9) (zB (zc rfl fld172_1) (zB (zi 3 rfl rfl rfl flat3) (zB (zc rfl fld172_1) (zB (zi 2 rfl rfl rfl flat3) (yF wn rfl call194 rfl (fun w1 hM=>c_op wd a.n b.n w1 (by first | assumption | omega) (by first | assumption | omega)) (zE rfl (zB (yI rfl rfl) (zB (yI rfl rfl) (zB (zc rfl fld172_1) (yo 0 wn rfl rfl rfl rfl inf3 rfl rfl ?_)))))))))))
   refine zO rfl (zj (zm (yC hK31 (zS fun _ hK33=>zG fun _ hK34=>zE rfl (zB (y5 rfl) (zD hK34 (yl rfl (fun h11=>?_) (fun h11=>?_))))))))
   · refine zG fun _ hK35=>zB (zw [.bool false,iV 0,Zs] pl172 inf172 rfl rfl) (zn 1 wn rfl rfl rfl inf172 rfl rfl rfl (zO rfl (zD hK35 (zV (zJ (yT (.inl rfl) results157 (zo 1 rfl rfl agg172 inf172 rfl) (zQ rfl) fun w1 hM=>?_))))))
     have hb9:=Mn.bin_num (w:=wd) (a:=a) (b:=b) (by simpa using h1) (by simpa using h10)
     rw [if_neg (by simpa using h11)] at hb9
     exact hM.uE (⟨false,0,⟨none,0,[]⟩⟩:yO) (by first | (rw [hb9]; done) | (rw [hb9]; rfl)) (by first | (rw [hb9]; done) | (rw [hb9]; rfl) | (have e9:=h1; rw [hb9]; simp [yO.e] at e9 ⊢; exact e9) | (have e9:=h10; rw [hb9]; simp [yO.e] at e9 ⊢; exact e9)) fun Pb pp=>⟨zK.ym _ _ _ _,fun c hc=>by cases hc⟩
   refine yL hK33 (zG fun _ hK36=>zB (yM 0 [.bool b.vec,iV ((Mn.op wd a.n b.n).1),Zs] rfl rfl rfl rfl agg172 inf172) (zn 1 wn rfl rfl rfl inf172 rfl rfl rfl (zO rfl (zD hK36 (zV (yT (.inl rfl) results157 (zo 1 rfl rfl agg172 inf172 rfl) (zQ rfl) fun w1 hM=>?_))))))
   have hb9:=Mn.bin_num (w:=wd) (a:=a) (b:=b) (by simpa using h1) (by simpa using h10)
   rw [if_pos (by simpa using h11)] at hb9
   exact hM.uE (⟨b.vec,(Mn.op wd a.n b.n).1,⟨none,0,[]⟩⟩:yO) (by first | (rw [hb9]; done) | (rw [hb9]; rfl)) (by first | (rw [hb9]; done) | (rw [hb9]; rfl) | (have e9:=h1; rw [hb9]; simp [yO.e] at e9 ⊢; exact e9) | (have e9:=h10; rw [hb9]; simp [yO.e] at e9 ⊢; exact e9)) fun Pb pp=>⟨zK.ym _ _ _ _,fun c hc=>by cases hc⟩
 refine zG fun _ hK37=>zB (zc rfl fld172_0) (zB (zi 2 rfl rfl rfl flat4) (zB (y5 rfl) (zO rfl (zD hK37 (yu rfl (by simpa using h10) (zG fun _ hK38=>zB (zc rfl fld172_0) (zB (zi 3 rfl rfl rfl flat4) (zB (y5 rfl) (zO rfl ?_)))))))))
 refine zD hK38 (y6 rfl (by simpa using h1) (zG fun _ hK39=>zB (zc rfl fld172_2) (zB (zi 2 rfl rfl rfl flat32) (zB (yg rfl underlying32) (zE rfl (zD hK39 (zl (jT (fun _ h=>h.uM zM 81 2 ye) (jZ (fun _ h=>h.all0 zM.Ok.loc) (uI (fun (k:Nat) (cs:List zM) (ok:Bool) (ov:Value)=>[(4,.pointer (some ⟨b4,0,none⟩)),(6,.pointer (some ⟨b6,0,none⟩)),(8,.pointer (some ⟨b8,0,none⟩)),(9,.func (.func 193) #[] #[.pointer (some ⟨b3,0,none⟩),.pointer (some ⟨b8,0,none⟩)]),(10,.bool ok),(97,.slice b.cells.A b.cells.l.length b.cells.c),(98,iV b.cells.l.length),(99,iV k)]) (fun (k:Nat) (cs:List zM) (ok:Bool) (ov:Value)=>[allP zM.Ok cs,Row ov 81 2 ye cs,.blk b8 [.bool b.vec,iV 0,ov] 172,.blk b6 [.bool false,iV 0,Zs] 172,.blk b5 [.bool b.vec,iV b.n,.slice b.cells.A b.cells.l.length b.cells.c] 172,.blk b4 [.bool a.vec,iV a.n,.slice a.cells.A a.cells.l.length a.cells.c] 172,.blk b3 [.string wd] 9,okP yO.Ok a,okP yO.Ok b]) (fun (k:Nat) (cs:List zM) (ok:Bool) (ov:Value)=>k≤b.cells.l.length∧(∀ x ∈ cs,zM.Wf x)∧cs.map zM.e=Mn.done wd (Mn.p2 a b k)∧ok=Mn.fine wd (Mn.p2 a b k)∧cs.length≤k) (fun (k:Nat) (cs:List zM) (ok:Bool) (ov:Value)=>b.cells.l.length - k) 0 [] true (Zs) (sc rfl (sc rfl (sc rfl (sc rfl (sc rfl (sc rfl (sc rfl (sc (ji (by omega)) sn)))))))) (fun _ h=>h) ?_ (fun k cs ok ov hI3=>?_)))))))))))
 · exact ⟨Nat.zero_le _,fun x hx=>(by cases hx),rfl,rfl,Nat.le_refl _⟩
 have hwf:=hI3.2.1
 have hlen:=hI3.2.2.2.2
 refine vV 1 (l:=cs) rfl fun A5 cp5 hv5 hc10 hm10 hA10=>?_
 subst hv5
 refine zG fun _ hK40=>zB (yR rfl rfl) (zD hK40 (zS fun _ hK41=>za rfl (fun h12=>?_) (fun h12=>?_)))
 · refine yL hK41 (zS fun _ hK42=>zl (zG fun _ hK43=>yU (fun _ h=>h.valX 8 rfl) ?_))
   obtain ⟨hc11,hm11,hA11⟩:=hwb.cells
   obtain ⟨ad4,hd4⟩:=hA11 (ne_nil (i:=k) (by first | omega | (simp <;> omega)))
   refine zB (vC (i:=k) rfl hd4 rfl (by omega) (by first | omega | (simp <;> omega)) underlying32 inf81) ?_
   obtain ⟨s3,hs3⟩:∃ x,b.cells.l[k]?=some x:=⟨_,List.getElem?_eq_getElem (by first | omega | (simp <;> omega))⟩
   have hb_s3:=Mn.Bnd.at_ hbb hs3
   refine zB (v8 0 [.slice s3.sr.A s3.sr.l.length s3.sr.c,iV s3.value] rfl rfl hd4 hs3 rfl rfl agg81 inf81) (zy wn inf81 rfl fun b14=>zn 0 wn rfl rfl rfl inf81 rfl rfl rfl (zD hK43 (zL (zE rfl (zB (zc rfl fld81_0) (zB (zi 0 rfl rfl rfl flat39) (zB (zc rfl fld172_1) (zB (zi 8 rfl rfl rfl flat3) (zB (zc rfl fld81_1) (zB (zi 0 rfl rfl rfl flat3) ?_))))))))))
   have hw5:=hwb.all _ (List.mem_of_getElem? hs3)
   refine yU (fun _ h=>h.one 2 zM.Ok.loc rfl hs3) (yU (fun _ h=>h.cellX 0 rfl) ?_)
   obtain ⟨hc12,hm12,hA12⟩:=hw5.sr
   refine vK (α:=Value) [.blk b3 [.string wd] 9,.blk b8 [.bool b.vec,iV 0,.slice A5 cs.length cp5] 172,Row (.slice A5 cs.length cp5) 81 2 ye cs,allP zM.Ok cs,slP 2 zk (.slice s3.sr.A s3.sr.l.length s3.sr.c) s3.sr.l] [okP zM.Ok s3,.blk b14 [.slice s3.sr.A s3.sr.l.length s3.sr.c,iV s3.value] 81,slP 2 ye (.slice b.cells.A b.cells.l.length b.cells.c) b.cells.l,allP zM.Ok b.cells.l,.blk b6 [.bool false,iV 0,Zs] 172,.blk b5 [.bool b.vec,iV b.n,.slice b.cells.A b.cells.l.length b.cells.c] 172,.blk b4 [.bool a.vec,iV a.n,.slice a.cells.A a.cells.l.length a.cells.c] 172,okP yO.Ok a,okP yO.Ok b] (fun _=>.bool (Mn.op wd a.n s3.value).2) (fun z3=>True) (fun z3=>[.blk b3 [.string wd] 9,.blk b8 [.bool b.vec,iV 0,z3] 172,Row z3 81 2 ye (cs++[zM.mk s3.sr (Mn.op wd a.n s3.value).1]),allP zM.Ok (cs++[zM.mk s3.sr (Mn.op wd a.n s3.value).1]),slP 2 zk (.slice s3.sr.A s3.sr.l.length s3.sr.c) s3.sr.l]) _ (fun _=>rfl) (S9 [11,7,6,5,0,1,2,3,4,8,9,10,12,13]) (fun _=>rfl) wn rfl rfl call193 rfl (fun w1 Pb hG=>gM wd b.vec 0 _ _ s3.sr a.n s3.value _ _ Pb w1 hG (by first | omega | assumption) (by first | omega | assumption) (by omega)) fun z3 hz3=>jG 2 (l:=(cs++[zM.mk s3.sr (Mn.op wd a.n s3.value).1])) rfl fun A6 cp6 hv6 hc13 hm13 hA13=>?_
   subst hv6
   have hw6:∀ x ∈ (cs++[zM.mk s3.sr (Mn.op wd a.n s3.value).1]),zM.Wf x:=fun x hx=>(List.mem_append.1 hx).elim (hwf x) fun h=>by rw [List.mem_singleton.1 h]; exact ⟨hw5.sr⟩
   refine zE rfl (uP (t:=111) rfl (fun h13=>?_) (fun h13=>?_))
   · refine zd (zg rfl) (zB (zP rfl rfl) (zO rfl (zj (zm (yC hK42 (zL (zB (zz rfl rfl (by omega)) (zE rfl (zj (vW (k + 1) (cs++[zM.mk s3.sr (Mn.op wd a.n s3.value).1]) ok (.slice A6 ((cs++[zM.mk s3.sr (Mn.op wd a.n s3.value).1]).length) cp6) (sc rfl (sc rfl (sc rfl (sc rfl (sc rfl (sc rfl (sc rfl (sc (ji (by omega)) sn)))))))) (S9 [3,2,1,9,10,11,0,12,13]) ?_ ?_))))))))))
     · exact ⟨by omega,hw6,Mn.done_at hI3.2.2.1 (Mn.p2_at hs3),Mn.fine_t hI3.2.2.2.1 (Mn.p2_at hs3) h13,by simp only [List.length_append,List.length_cons,List.length_nil]; omega⟩
     omega
   refine zW (zB (zP rfl rfl) (zO rfl (zj (zm (yC hK42 (zL (zB (zz rfl rfl (by omega)) (zE rfl (zj (vW (k + 1) (cs++[zM.mk s3.sr (Mn.op wd a.n s3.value).1]) false (.slice A6 ((cs++[zM.mk s3.sr (Mn.op wd a.n s3.value).1]).length) cp6) (sc rfl (sc rfl (sc rfl (sc rfl (sc rfl (sc rfl (sc rfl (sc (ji (by omega)) sn)))))))) (S9 [3,2,1,9,10,11,0,12,13]) ?_ ?_))))))))))
   · exact ⟨by omega,hw6,Mn.done_at hI3.2.2.1 (Mn.p2_at hs3),Mn.fine_f (Mn.p2_at hs3) h13,by simp only [List.length_append,List.length_cons,List.length_nil]; omega⟩
   omega
 refine yc (yH (v7 (yJ (zm (yC hK31 (zS fun _ hK44=>zG fun _ hK45=>zE rfl (zB (y5 rfl) (zD hK45 (yl rfl (fun h14=>?_) (fun h14=>?_))))))))))
 · refine zG fun _ hK46=>zB (zw [.bool false,iV 0,Zs] pl172 inf172 rfl rfl) (zn 3 wn rfl rfl rfl inf172 rfl rfl rfl (zO rfl (zD hK46 (zV (zJ (yT (.inl rfl) results157 (zo 3 rfl rfl agg172 inf172 rfl) (zQ rfl) fun w1 hM=>?_))))))
   have hb9:=Mn.bin_vec (w:=wd) (.inr (by simpa using h10)) (Mn.p2_end (by simpa using h10) (by simpa using h1) (by omega)) hI3.2.2.1 hI3.2.2.2.1
   rw [if_neg (by simpa using h14)] at hb9
   exact hM.uE (⟨false,0,⟨none,0,[]⟩⟩:yO) (by first | (rw [hb9]; done) | (rw [hb9]; rfl)) (by first | (rw [hb9]; done) | (rw [hb9]; rfl) | (have e9:=h1; rw [hb9]; simp [yO.e] at e9 ⊢; exact e9) | (have e9:=h10; rw [hb9]; simp [yO.e] at e9 ⊢; exact e9)) fun Pb pp=>⟨zK.ym _ _ _ _,fun c hc=>by cases hc⟩
 refine yL hK44 (zG fun _ hK47=>zB (yM 2 [.bool b.vec,iV 0,.slice A5 cs.length cp5] rfl rfl rfl rfl agg172 inf172) (zn 3 wn rfl rfl rfl inf172 rfl rfl rfl (zO rfl (zD hK47 (zV (yT (.inl rfl) results157 (zo 3 rfl rfl agg172 inf172 rfl) (zQ rfl) fun w1 hM=>?_))))))
 have hb9:=Mn.bin_vec (w:=wd) (.inr (by simpa using h10)) (Mn.p2_end (by simpa using h10) (by simpa using h1) (by omega)) hI3.2.2.1 hI3.2.2.2.1
 rw [if_pos (by simpa using h14)] at hb9
 have hM:=hM.yb encCellX (i:=1) rfl rfl
 exact hM.uE (⟨b.vec,0,⟨A5,cp5,cs⟩⟩:yO) (by first | (rw [hb9]; done) | (rw [hb9]; rfl)) (by first | (rw [hb9]; done) | (rw [hb9]; rfl) | (have e9:=h1; rw [hb9]; simp [yO.e] at e9 ⊢; exact e9) | (have e9:=h10; rw [hb9]; simp [yO.e] at e9 ⊢; exact e9)) fun Pb pp=>⟨pp.sl 1 rfl,pp.at_ 0 _ rfl⟩
set_option maxHeartbeats 1000000 in
theorem c_insertC (sv vv : Value) (l : List zM) (x : zM) (i : Nat) (Pb : Nat → Prop) (w : World) (hG : Mem w ⟨fpOf [Row sv 81 2 ye l, Row vv 81 2 ye [x]], Pb⟩ [Row sv 81 2 ye l, Row vv 81 2 ye [x]] w) (hil : i ≤ l.length) (hl1 : l.length ≤ 1048576) :
    Calls prog 191 #[sv,iV i,vv] w (RetA w [Row sv 81 2 ye l,Row vv 81 2 ye [x]] Pb (fun z:Value=>z) (fun _=>True) (fun z=>[Row z 81 2 ye (l.take i++x::l.drop i)])):=by
 obtain ⟨sA,sc,rfl,hsc,hsm,hsA⟩:=row_form' (hG.row (i:=0) rfl)
 obtain ⟨vA,vc,hv0,hvc,hvm,hvA⟩:=row_form' (hG.row (i:=1) rfl)
 have hv0:vv=.slice vA 1 vc:=hv0
 have hvc:1≤vc:=hvc
 subst hv0
 refine fstart (N:=95) (vals:=[.slice sA l.length sc,iV i,.slice vA 1 vc]) (S:=Mem w ⟨fpOf [Row (.slice sA l.length sc) 81 2 ye l,Row (.slice vA 1 vc) 81 2 ye [x]],Pb⟩ [Row (.slice sA l.length sc) 81 2 ye l,Row (.slice vA 1 vc) 81 2 ye [x]]) func191 rfl rfl rfl hG (zG fun _ hK1=>zO rfl (zD hK1 (zG fun _ hK2=>zE rfl (zE rfl (zB (jm (lo:=i) (hi:=l.length) rfl (lo1 rfl (by omega)) hi0 (by first | omega | (simp <;> omega)) (by first | omega | (simp <;> omega)) (by first | omega | (simp <;> omega)) underlying32 inf81) (zD hK2 (zG fun _ hK3=>zE rfl (zB (yg rfl underlying32) ?_))))))))
 refine zO rfl (zD hK3 (zS fun _ hK4=>zG fun _ hK5=>zE rfl (zB (yj rfl rfl) (zD hK5 (yu rfl (decide_eq_false (by decide)) (yL hK4 (zG fun _ hK6=>zE rfl (zB (yg rfl underlying32) ?_))))))))
 refine zO rfl (zD hK6 (zS fun _ hK7=>zG fun _ hK8=>zE rfl (zE rfl (zB (yj rfl rfl) (zD hK8 (za rfl (fun h1=>?_) (fun h1=>?_)))))))
 · refine zG fun _ hK9=>zE rfl (zE rfl (vD 0 l [x] encCellX wn rfl rfl rfl (fun _ hM=>(RowSl encCellX hM 1 rfl)) underlying32 inf81 rfl rfl (by simp only [List.length_append,List.length_cons,List.length_nil]; omega) rfl fun A1 cp1 hc1 hm1 hA1=>zO rfl (zD hK9 (zV (zJ (zY (.inl rfl) results191 (zQ rfl) fun w1 hM=>?_))))))
   exact hM.vS (.slice A1 ((l++[x]).length) cp1) rfl trivial (fun h=>row_as (v:=.slice A1 ((l++[x]).length) cp1) (n:=(l++[x]).length) (by rw [ins_len hil,List.length_append]; rfl) (ins_end (by omega)) (h.sel [0] (by decide) rfl))
 refine yL hK7 (zS fun _ hK10=>zG fun _ hK11=>?_)
 obtain ⟨sad,hsd⟩:=hsA (ne_nil (i:=i) (by omega))
 obtain ⟨vad,hvd⟩:=hvA (by simp)
 refine zE rfl (zE rfl (zB (zz rfl rfl (by omega)) (zE rfl (zB (r_cap rfl underlying32) (zB (y8 rfl rfl) (zD hK11 (za rfl (fun h2=>?_) (fun h2=>?_))))))))
 · refine zG fun _ hK12=>zE rfl (zE rfl (zB (gN (by rw [subA_zero,Nat.sub_zero,Nat.sub_zero]) (vp (lo:=0) (hi:=i) rfl lo0 (hi1 rfl (by omega)) (by omega) (by omega) underlying32 inf81)) (zE rfl (zE rfl (zB (zz rfl rfl (by omega)) (zE rfl (zB (vl rfl rfl (by omega)) (l_appZ (enc:=ye) (l.take i++List.replicate (l.length + 1 - i) (zM.mk ⟨none,0,[]⟩ 0)) (l.length + 1) (kk:=l.length + 1 - i) (olds:=(l.take i).flatMap ye) wn rfl rfl (by omega) (by omega) (by rw [flat_len encCellX.len,List.length_take]; omega) (fun h=>by rw [hsd] at h; cases h) (fun ad h=>by rw [hsd] at h; injection h with h; subst h; exact fun w hS p u hu=>rowCells 0 rfl hsd w hS p u (by have:=flat_pre (k:=2) hu; rwa [Nat.zero_mul,Nat.zero_add] at this)) (by omega) (by omega) rfl (by decide) underlying32 underlying3 inf81 rfl (by rw [List.flatMap_append]; exact congrArg _ (zero_cells _)) (by omega) rfl fun b1 C1 hc2 hm2=>zO rfl (zD hK12 ?_)))))))))
   refine zG fun _ hK13=>zE rfl (zE rfl (zB (vp (lo:=i) (hi:=(l.length + 1)) rfl (lo1 rfl (by omega)) hi0 (by omega) (by omega) underlying32 inf81) (zE rfl (uq 0 (j:=i) (l.take i++List.replicate (l.length + 1 - i) (zM.mk ⟨none,0,[]⟩ 0)) [x] encCellX wn rfl (subA_some rfl (by omega)) rfl hvd rfl rfl underlying32 inf81 (by simp only [List.length_drop,List.length_cons,List.length_nil]; show _=min _ _; omega) (by simp only [List.length_append,List.length_take,List.length_drop,List.length_replicate,List.length_cons,List.length_nil]; omega) (by simp only [List.length_append,List.length_take,List.length_drop,List.length_replicate,List.length_cons,List.length_nil]; omega) (rowCells 2 rfl hvd) rfl (zD hK13 (zS fun _ hK14=>vY 8 mix (by kernel_rfl) (fun _ h=>h.drew) fun _ hT1=>yq rfl (yq rfl (yq rfl ?_))))))))
   refine zt (zz rfl rfl (by omega)) (zt (vp (lo:=(i + 1)) (hi:=(l.length + 1)) rfl (lo1 rfl (by omega)) hi0 (by omega) (by omega) underlying32 inf81) (yq rfl (yq rfl (zt (vp (lo:=i) (hi:=l.length) rfl (lo1 rfl (by omega)) hi0 (by omega) (by omega) underlying32 inf81) (vx hT1 (uq 0 (j:=(i + 1)) ((l.take i++List.replicate (l.length + 1 - i) (zM.mk ⟨none,0,[]⟩ 0)).take i++[x]++(l.take i++List.replicate (l.length + 1 - i) (zM.mk ⟨none,0,[]⟩ 0)).drop (i + [x].length)) (l.drop i) encCellX wn rfl (subA_some rfl (by omega)) rfl (subA_some hsd (by omega)) rfl rfl underlying32 inf81 (by simp only [List.length_drop,List.length_cons,List.length_nil]; show _=min _ _; omega) (by simp only [List.length_append,List.length_take,List.length_drop,List.length_replicate,List.length_cons,List.length_nil]; omega) (by simp only [List.length_append,List.length_take,List.length_drop,List.length_replicate,List.length_cons,List.length_nil]; omega) (subCells (rowCells 1 rfl hsd) fun p u hu=>flat_suf encCellX.len (by omega) hu) rfl (zD hK14 (zG fun _ hK15=>zE rfl (zO rfl (zD hK15 ?_))))))))))
   refine zV (zJ (zY (.inl rfl) results191 (zQ rfl) fun w1 hM=>?_))
   exact hM.vS (.slice (some ⟨b1,0,none⟩) (l.length + 1) C1) rfl trivial (fun h=>row_as (ins_len (by omega)) (ins_grow (by omega) (List.length_replicate)) (h.sel [0] (by decide) rfl))
 refine yL hK10 (zG fun _ hK16=>zE rfl (zE rfl (zE rfl (zB (zz rfl rfl (by omega)) (zB (gN (by rw [subA_zero,Nat.sub_zero,Nat.sub_zero]) (vp (lo:=0) (hi:=(l.length + 1)) rfl lo0 (hi1 rfl (by omega)) (by omega) (by omega) underlying32 inf81)) (l_more 0 1 rfl hsd (by omega) fun ys hys=>zO rfl (zD hK16 (zS fun _ hK17=>zG fun _ hK18=>?_))))))))
 refine zE rfl (zE rfl (zE rfl (zE rfl (zB (zz rfl rfl (by omega)) (zB (vp (lo:=(i + 1)) (hi:=(l.length + 1)) rfl (lo1 rfl (by omega)) hi0 (by omega) (by omega) underlying32 inf81) (zB (r_ext rfl (over_apart (T':=4) (fn:=Tryz.f215) (qa:=1) (qb:=0) (by decide) rfl rfl (by omega) (by omega) (by decide) sad hsd (subA_some hsd (by omega)) func215 (by kernel_rfl) (by kernel_rfl) (by kernel_rfl) (by kernel_rfl) underlying32 inf81)) (zB (y5 rfl) (zD hK18 (y6 rfl rfl (zS fun _ hK19=>vY 8 mix (by kernel_rfl) (fun _ h=>h.drew) fun _ hT2=>?_))))))))))
 refine yq rfl (yq rfl (yq rfl (zt (zz rfl rfl (by omega)) (zt (vp (lo:=(i + 1)) (hi:=(l.length + 1)) rfl (lo1 rfl (by omega)) hi0 (by omega) (by omega) underlying32 inf81) (yq rfl (yq rfl (zt (vp (lo:=i) (hi:=(l.length + 1)) rfl (lo1 rfl (by omega)) hi0 (by omega) (by omega) underlying32 inf81) (vx hT2 (jr 0 (ad:=sad) (j:=i + 1) (cs:=(l.drop i).flatMap ye) _ wn rfl (subA_some hsd (by omega)) rfl (subA_some hsd (by omega)) rfl hsd underlying32 inf81 (by rw [flat_len encCellX.len,List.length_drop]; show _=min _ _ * 2; omega) (by rw [flat_len encCellX.len,List.length_drop]; omega) (subCells (rowCells 0 rfl hsd) fun p u hu=>by have:=flat_suf encCellX.len (by omega) hu; rw [List.getElem?_append_left (List.getElem?_eq_some_iff.1 this).1]; exact this) (fun u hu=>by obtain ⟨a,_,ha⟩:=List.mem_flatMap.1 hu; exact encCellX.one a u ha) (ins_shift encCellX.len (by omega) hys) rfl ?_)))))))))
 refine zD hK19 (zG fun _ hK20=>zE rfl (zE rfl (zB (vp (lo:=i) (hi:=(l.length + 1)) rfl (lo1 rfl (by omega)) hi0 (by omega) (by omega) underlying32 inf81) (zE rfl (uq 0 (j:=i) (l.take (i + 1)++l.drop i) [x] encCellX wn rfl (subA_some hsd (by omega)) rfl hvd rfl hsd underlying32 inf81 (by simp only [List.length_drop,List.length_cons,List.length_nil]; show _=min _ _; omega) (by simp only [List.length_append,List.length_take,List.length_drop,List.length_replicate,List.length_cons,List.length_nil]; omega) (by simp only [List.length_append,List.length_take,List.length_drop,List.length_replicate,List.length_cons,List.length_nil]; omega) (rowCells 1 rfl hvd) rfl (zD hK20 (zG fun _ hK21=>zE rfl (zO rfl (zD hK21 ?_)))))))))
 refine zV (zJ (zY (.inl rfl) results191 (zQ rfl) fun w1 hM=>?_))
 exact hM.vS (.slice sA (l.length + 1) sc) rfl trivial (fun h=>row_as (ins_len (by omega)) (ins_place (by omega)) (h.sel [0] (by decide) rfl))
theorem c_all1 (d : zM) (tv : Value) (t : List Label) (P0 : Nat → Prop) (w : World) (hP0 : ∀ b, P0 b → b < w.heap.size) (hd : zM.Ok P0 d w) (ht : zK P0 2 zk tv t w)  :
    Calls prog 190 #[.agg (ye d).toArray,tv] w (Ret w (iV (zZ.compare d.sr.l t))):=by
 have hwd:=hd.wf
 obtain ⟨tA,tc,rfl,htc,htm,htA⟩:=ht.form
 refine fstart (N:=9) (vals:=[.agg (ye d).toArray,.slice tA t.length tc]) (S:=Mem w ⟨no,P0⟩ [okP zM.Ok d,slP 2 zk (.slice tA t.length tc) t]) func190 rfl rfl rfl (Mem.ofDatsP hP0 (dc (dp (zM.Ok.loc _) hd) (dc (dlp ht) dn))) (zG fun _ hK1=>vR wn rfl rfl fun b2=>zO rfl (zD hK1 (zG fun _ hK2=>zB (zc rfl fld81_0) (zB (zi 0 rfl rfl rfl flat39) (zE rfl (yU (fun _ h=>h.cellX 1 rfl) ?_))))))
 obtain ⟨hc1,hm1,hA1⟩:=hwd.sr
 refine yF wn rfl call22 rfl (fun w1 hM=>c_compare _ d.sr.l _ t w1 (hM.slp 0 rfl) (hM.slp 3 rfl)) (zO rfl (zD hK2 (zV (zY (.inl rfl) results190 (zQ rfl) fun w1 hM=>?_))))
 exact zq rfl hM
theorem c_bsC (clv : Value) (cl : List zM) (tv : Value) (t : List Label) (P0 : Nat → Prop) (w : World) (hP0 : ∀ b, P0 b → b < w.heap.size) (hcl : zK P0 2 ye clv cl w) (hcla : ∀ x ∈ cl, zM.Ok P0 x w) (ht : zK P0 2 zk tv t w) (has : Mn.Asc (cl.map zM.e)) (hl1 : cl.length ≤ 1048576) :
    Calls prog 189 #[clv,tv,.func (.func 190) #[] #[]] w (Ret w (.tuple #[iV (Mn.pos (cl.map zM.e) t:Nat),.bool (Mn.has (cl.map zM.e) t)])):=by
 have hwcl:∀ x ∈ cl,zM.Wf x:=fun x hx=>(hcla x hx).wf
 obtain ⟨clA,clc,rfl,hclc,hclm,hclA⟩:=hcl.form
 obtain ⟨tA,tc,rfl,htc,htm,htA⟩:=ht.form
 refine fstart (N:=49) (vals:=[.slice clA cl.length clc,.slice tA t.length tc,.func (.func 190) #[] #[]]) (S:=Mem w ⟨no,P0⟩ [slP 2 ye (.slice clA cl.length clc) cl,allP zM.Ok cl,slP 2 zk (.slice tA t.length tc) t]) func189 rfl rfl rfl (Mem.ofDatsP hP0 (dc (dlp hcl) (dc (dp (all_loc zM.Ok.loc _) hcla) (dc (dlp ht) dn)))) (zG fun _ hK1=>zO rfl (zO rfl (zD hK1 (zG fun _ hK2=>zE rfl (zB (yg rfl underlying32) (zO rfl (zD hK2 (zG fun _ hK3=>zE rfl ?_))))))))
 refine zO rfl (zO rfl (zD hK3 (zS fun _ hK4=>zl (uO (fun (i:Nat) (j:Nat)=>[(0,.slice clA cl.length clc),(1,.slice tA t.length tc),(2,.func (.func 190) #[] #[]),(8,iV cl.length),(9,iV i),(10,iV j)]) (fun (i:Nat) (j:Nat)=>[slP 2 ye (.slice clA cl.length clc) cl,allP zM.Ok cl,slP 2 zk (.slice tA t.length tc) t]) (fun (i:Nat) (j:Nat)=>i≤j∧j≤cl.length∧(∀ (q:Nat) (y:Cell),(cl.map zM.e)[q]?=some y→q < i→zZ.compare y.sr t < 0)∧(∀ (q:Nat) (y:Cell),(cl.map zM.e)[q]?=some y→j≤q→¬ zZ.compare y.sr t < 0)) (fun (i:Nat) (j:Nat)=>j - i) 0 cl.length (sc rfl (sc rfl (sc rfl (sc rfl (sc (ji (by omega)) (sc rfl sn)))))) (fun _ h=>h) ?_ (fun i j hI1=>?_)))))
 · exact ⟨Nat.zero_le _,Nat.le_refl _,fun q y _ h=>absurd h (Nat.not_lt_zero _),fun q y h h2=>by have:=(List.getElem?_eq_some_iff.1 h).1; simp only [List.length_map] at this; omega⟩
 refine zS fun _ hK5=>zG fun _ hK6=>zE rfl (zE rfl (zB (yR rfl rfl) (zD hK6 (za rfl (fun h1=>?_) (fun h1=>?_)))))
 · refine yL hK5 (zl (zG fun _ hK7=>zE rfl (zE rfl (zB (zz rfl rfl (by omega)) (zB (r_natu64 (a:=(i + j)) rfl (by omega) (by omega) (by rw [underlying3]; rfl) underlying228) (zB (r_shr (u:=(i + j)) (j:=1) rfl rfl (by omega) (by omega)) (zB (r_int64 (a:=((i + j) / 2 ^ 1)) rfl (by omega) (by rw [underlying228]; rfl) underlying3) (zO rfl (zD hK7 (zG fun _ hK8=>?_))))))))))
   refine zE rfl (zE rfl (zE rfl ?_))
   obtain ⟨ad1,hd1⟩:=hclA (ne_nil (i:=((i + j) / 2 ^ 1)) (by first | omega | (simp <;> omega)))
   refine zB (vC (i:=((i + j) / 2 ^ 1)) rfl hd1 rfl (by omega) (by first | omega | (simp <;> omega)) underlying32 inf81) ?_
   obtain ⟨s1,hs1⟩:∃ x,cl[((i + j) / 2 ^ 1)]?=some x:=⟨_,List.getElem?_eq_getElem (by first | omega | (simp <;> omega))⟩
   refine zB (v8 0 [.slice s1.sr.A s1.sr.l.length s1.sr.c,iV s1.value] rfl rfl hd1 hs1 rfl rfl agg81 inf81) (zE rfl ?_)
   have hw1:=hwcl _ (List.mem_of_getElem? hs1)
   refine yU (fun _ h=>h.one 1 zM.Ok.loc rfl hs1) (u6 wn rfl rfl call190 rfl (fun w1 hM=>c_all1 s1 _ t (In w1) w1 (fun _ h=>h) (hM.vP (i:=0) rfl) (hM.slp 3 rfl)) (zB (yR rfl rfl) (zD hK8 (za rfl (fun h2=>?_) (fun h2=>?_)))))
   · refine zL (zE rfl (zB (zz rfl rfl (by omega)) (zO rfl (zj (zm (vZ (((i + j) / 2 ^ 1) + 1) j (sc rfl (sc rfl (sc rfl (sc rfl (sc (ji (by omega)) (sc rfl sn)))))) (S9 [1,2,3]) ?_ ?_))))))
     · exact ⟨by omega,by omega,Mn.asc_lt (x:=zM.e s1) has (by rw [List.getElem?_map,hs1]; rfl) h2,hI1.2.2.2⟩
     omega
   refine zL (zE rfl (zO rfl (zj (zm (vZ i ((i + j) / 2 ^ 1) (sc rfl (sc rfl (sc rfl (sc rfl (sc rfl (sc (ji (by omega)) sn)))))) (S9 [1,2,3]) ?_ ?_)))))
   · exact ⟨by omega,by omega,hI1.2.2.1,Mn.asc_ge (x:=zM.e s1) has (by rw [List.getElem?_map,hs1]; rfl) h2⟩
   omega
 refine yc (yH (vz (yJ (yC hK4 (zG fun _ hK9=>zE rfl (zE rfl (zE rfl (zB (yR rfl rfl) (zE rfl (yQ (t:=39) rfl (fun h3=>?_) (fun h3=>?_)))))))))))
 · refine zd (zg rfl) (zd (zg rfl) (zd (zg rfl) ?_))
   obtain ⟨ad2,hd2⟩:=hclA (ne_nil (i:=i) (by first | omega | (simp <;> omega)))
   refine zd (vC (i:=i) rfl hd2 rfl (by omega) (by first | omega | (simp <;> omega)) underlying32 inf81) ?_
   obtain ⟨s2,hs2⟩:∃ x,cl[i]?=some x:=⟨_,List.getElem?_eq_getElem (by first | omega | (simp <;> omega))⟩
   refine zd (v8 0 [.slice s2.sr.A s2.sr.l.length s2.sr.c,iV s2.value] rfl rfl hd2 hs2 rfl rfl agg81 inf81) (zd (zg rfl) ?_)
   have hw2:=hwcl _ (List.mem_of_getElem? hs2)
   refine yU (fun _ h=>h.one 1 zM.Ok.loc rfl hs2) (u6 (wg rfl rfl rfl) rfl rfl call190 rfl (fun w1 hM=>c_all1 s2 _ t (In w1) w1 (fun _ h=>h) (hM.vP (i:=0) rfl) (hM.slp 3 rfl)) (zd (yj rfl rfl) (zB (zP rfl rfl) (zO rfl (zO rfl (zD hK9 (zV (yT (.inl rfl) results189 (zQ rfl) (zQ rfl) fun w1 hM=>?_))))))))
   have hp9:Mn.pos (cl.map zM.e) t=i:=Mn.pos_eq (by simp only [List.length_map]; omega) hI1.2.2.1 (by have:i=j:=(by omega); rw [this]; exact hI1.2.2.2)
   have hh9:Mn.has (cl.map zM.e) t=decide (zZ.compare s2.sr.l t=0):=Mn.bs_has (x:=zM.e s2) has (by rw [List.getElem?_map,hs2]; rfl) hI1.2.2.1 (by have:j=i:=(by omega); exact hI1.2.2.2 i _ (by rw [List.getElem?_map,hs2]; rfl) (by omega))
   exact zq (by rw [hp9,hh9]) hM
 refine zW (zW (zW (zW (zW (zW (zW (zW (zB (zP rfl rfl) (zO rfl (zO rfl (zD hK9 ?_)))))))))))
 refine zV (yT (.inl rfl) results189 (zQ rfl) (zQ rfl) fun w1 hM=>?_)
 have hp9:Mn.pos (cl.map zM.e) t=i:=Mn.pos_eq (by simp only [List.length_map]; omega) hI1.2.2.1 (by have:i=j:=(by omega); rw [this]; exact hI1.2.2.2)
 have hh9:Mn.has (cl.map zM.e) t=false:=Mn.bs_no (i:=i) (by simp only [List.length_map]; omega) hI1.2.2.1
 exact zq (by rw [hp9,hh9]) hM
set_option maxHeartbeats 2000000 in
theorem c_mall (wd : ByteArray) (by_v : Value) (by_ : List ByteArray) (lv : Value) (l : List zM) (P0 : Nat → Prop) (w : World) (hP0 : ∀ b, P0 b → b < w.heap.size) (hby_ : zK P0 1 strE by_v by_ w) (hl : zK P0 2 ye lv l w) (hla : ∀ x ∈ l, zM.Ok P0 x w) (hbl : ∀ c ∈ l, -1125899906842624 ≤ c.value ∧ c.value ≤ 1125899906842624) (hsm : ∀ c ∈ l, c.sr.l.length ≤ 1048576) (hll : l.length ≤ 1048576) :
    Calls prog 156 #[.string wd,by_v,lv] w (RetE w P0 (fun z:yO=>.tuple #[.agg (uU z).toArray,iV (Mn.all wd by_ (l.map zM.e)).2]) (fun z=>z.e=(Mn.all wd by_ (l.map zM.e)).1) (fun z S=>yO.Ok S z)):=by
 obtain ⟨by_A,by_c,rfl,hby_c,hby_m,hby_A⟩:=hby_.form
 have hwl:∀ x ∈ l,zM.Wf x:=fun x hx=>(hla x hx).wf
 obtain ⟨lA,lc,rfl,hlc,hlm,hlA⟩:=hl.form
 refine fstart (N:=93) (vals:=[.string wd,.slice by_A by_.length by_c,.slice lA l.length lc]) (S:=Mem w ⟨no,P0⟩ [slP 1 strE (.slice by_A by_.length by_c) by_,slP 2 ye (.slice lA l.length lc) l,allP zM.Ok l]) func156 rfl rfl rfl (Mem.ofDatsP hP0 (dc (dlp hby_) (dc (dlp hl) (dc (dp (all_loc zM.Ok.loc _) hla) dn)))) (zG fun _ hK1=>zy wn inf172 rfl fun b6=>zO rfl (zD hK1 (zG fun _ hK2=>zB (zw [.bool true,iV 0,Zs] pl172 inf172 rfl rfl) (zy wn inf172 rfl fun b8=>zn 0 wn rfl rfl rfl inf172 rfl rfl rfl (zD hK2 (zS fun _ hK3=>zG fun _ hK4=>?_))))))
 refine zE rfl (zB (yg rfl underlying32) (zE rfl (zD hK4 (zl (jT (fun _ h=>h.uM zM 81 2 ye) (jZ (fun _ h=>h.all0 zM.Ok.loc) (u7 (fun (k:Nat) (cs:List zM) (ov:Value)=>[(0,.string wd),(1,.slice by_A by_.length by_c),(6,.pointer (some ⟨b6,0,none⟩)),(8,.pointer (some ⟨b8,0,none⟩)),(17,.slice lA l.length lc),(18,iV l.length),(19,iV k)]) (fun (k:Nat) (cs:List zM) (ov:Value)=>[allP zM.Ok cs,Row ov 81 2 ye cs,.blk b8 [.bool true,iV 0,ov] 172,.blk b6 [.bool false,iV 0,Zs] 172,slP 1 strE (.slice by_A by_.length by_c) by_,slP 2 ye (.slice lA l.length lc) l,allP zM.Ok l]) (fun (k:Nat) (cs:List zM) (ov:Value)=>k≤l.length∧(∀ x ∈ cs,zM.Wf x)∧Mn.allFrom wd by_ [] (l.map zM.e)=Mn.allFrom wd by_ (cs.map zM.e) ((l.drop k).map zM.e)∧Mn.Asc (cs.map zM.e)∧Mn.Fit (cs.map zM.e)∧cs.length≤k) (fun (k:Nat) (cs:List zM) (ov:Value)=>l.length - k) 0 [] (Zs) (sc rfl (sc rfl (sc rfl (sc rfl (sc rfl (sc rfl (sc (ji (by omega)) sn))))))) (fun _ h=>h) ?_ (fun k cs ov hI1=>?_))))))))
 · exact ⟨Nat.zero_le _,fun x hx=>(by cases hx),by rw [List.drop_zero]; rfl,List.Pairwise.nil,fun x hx=>(by cases hx),Nat.le_refl _⟩
 have hwf:=hI1.2.1
 have hasc:=hI1.2.2.2.1
 have hfit:=hI1.2.2.2.2.1
 have hlen:=hI1.2.2.2.2.2
 refine vV 1 (l:=cs) rfl fun A1 cp1 hv1 hc1 hm1 hA1=>?_
 subst hv1
 refine zG fun _ hK5=>zB (yR rfl rfl) (zD hK5 (zS fun _ hK6=>za rfl (fun h1=>?_) (fun h1=>?_)))
 · refine yL hK6 (zS fun _ hK7=>zl (zG fun _ hK8=>?_))
   obtain ⟨ad1,hd1⟩:=hlA (ne_nil (i:=k) (by first | omega | (simp <;> omega)))
   refine zB (vC (i:=k) rfl hd1 rfl (by omega) (by first | omega | (simp <;> omega)) underlying32 inf81) ?_
   obtain ⟨s1,hs1⟩:∃ x,l[k]?=some x:=⟨_,List.getElem?_eq_getElem (by first | omega | (simp <;> omega))⟩
   have hb_s1:=hbl _ (List.mem_of_getElem? hs1)
   have hs_s1:=hsm _ (List.mem_of_getElem? hs1)
   refine zB (v8 5 [.slice s1.sr.A s1.sr.l.length s1.sr.c,iV s1.value] rfl rfl hd1 hs1 rfl rfl agg81 inf81) (zy wn inf81 rfl fun b10=>zn 0 wn rfl rfl rfl inf81 rfl rfl rfl (zD hK8 (zG fun _ hK9=>zB (zc rfl fld81_0) (zB (zi 0 rfl rfl rfl flat39) (zE rfl ?_)))))
   have hw1:=hwl _ (List.mem_of_getElem? hs1)
   refine yU (fun _ h=>h.one 7 zM.Ok.loc rfl hs1) (yU (fun _ h=>h.cellX 0 rfl) ?_)
   obtain ⟨hc2,hm2,hA2⟩:=hw1.sr
   refine uQ (zZ.only s1.sr.l by_) wn rfl call188 rfl (fun w1 hM=>c_only _ s1.sr.l _ by_ w1 (hM.slp 0 rfl) (hM.slp 7 rfl) (by first | assumption | omega)) fun A2 cp2 hc3 hm3 hA3=>zO rfl (zD hK9 (zG fun _ hK10=>zB (zc rfl fld81_1) (zB (zi 3 rfl rfl rfl flat3) (zO rfl (zD hK10 (vm [(0,.string wd),(1,.slice by_A by_.length by_c),(6,.pointer (some ⟨b6,0,none⟩)),(8,.pointer (some ⟨b8,0,none⟩)),(11,.slice A2 ((zZ.only s1.sr.l by_).length) cp2),(12,iV (if wd=⟨#[99,111,117,110,116]⟩ then 1 else s1.value)),(17,.slice lA l.length lc),(18,iV l.length),(19,iV k)] (Mem w ⟨no,P0⟩ [Row (.slice A2 ((zZ.only s1.sr.l by_).length) cp2) 74 2 zk (zZ.only s1.sr.l by_),slP 2 zk (.slice s1.sr.A s1.sr.l.length s1.sr.c) s1.sr.l,okP zM.Ok s1,.blk b10 [.slice s1.sr.A s1.sr.l.length s1.sr.c,iV s1.value] 81,allP zM.Ok cs,Row (.slice A1 cs.length cp1) 81 2 ye cs,.blk b8 [.bool true,iV 0,.slice A1 cs.length cp1] 172,.blk b6 [.bool false,iV 0,Zs] 172,slP 1 strE (.slice by_A by_.length by_c) by_,slP 2 ye (.slice lA l.length lc) l,allP zM.Ok l]) (fun _ hK11=>?_) ?_))))))
   · refine zG fun _ hK12=>zE rfl (zB (vd rfl rfl) (zD hK12 (za rfl (fun h2=>?_) (fun h2=>?_))))
     · refine zL (zO rfl ?_)
       refine zj (yi hK11 (sc rfl (sc rfl (sc rfl (sc rfl (sc rfl (sc (by first | (simp only [if_pos h2]; done) | (simp only [if_pos h2]; rfl)) (sc rfl (sc rfl (sc rfl sn))))))))) (fun _ h=>h))
     refine yV (yi hK11 (sc rfl (sc rfl (sc rfl (sc rfl (sc rfl (sc (by first | (simp only [if_neg h2]; done) | (simp only [if_neg h2]; rfl)) (sc rfl (sc rfl (sc rfl sn))))))))) (fun _ h=>h))
   refine zG fun _ hK13=>?_
   have hux:-1125899906842624≤(if wd=⟨#[99,111,117,110,116]⟩ then 1 else s1.value)∧(if wd=⟨#[99,111,117,110,116]⟩ then 1 else s1.value)≤1125899906842624:=Mn.unit_rng (w:=wd) hb_s1
   refine zB (zc rfl fld172_2) (zB (zi 6 rfl rfl rfl flat32) (zE rfl (yF wn rfl call189 rfl (fun w1 hM=>c_bsC _ cs _ (zZ.only s1.sr.l by_) (In w1) w1 (fun _ h=>h) (RowSl encCellX hM 5 rfl) (hM.vP (i:=4) rfl) (RowSl encLabel hM 0 rfl) hasc (by omega)) (zE rfl (zB (yI rfl rfl) (zB (yI rfl rfl) (zO rfl (zO rfl (zD hK13 (zS fun _ hK14=>zG fun _ hK15=>?_))))))))))
   refine zE rfl (zB (y5 rfl) (zD hK15 (yl rfl (fun h3=>?_) (fun h3=>?_))))
   · have hhas:Mn.has (cs.map zM.e) (zZ.only s1.sr.l by_)=false:=by simpa using h3
     refine zG fun _ hK16=>zB (zc rfl fld172_2) (zB (zi 6 rfl rfl rfl flat32) (zE rfl (zE rfl (zE rfl (zB (zw [.slice A2 ((zZ.only s1.sr.l by_).length) cp2,iV (if wd=⟨#[99,111,117,110,116]⟩ then 1 else s1.value)] pl81 inf81 rfl rfl) (yt ye ([(zM.mk ⟨A2,cp2,(zZ.only s1.sr.l by_)⟩ (if wd=⟨#[99,111,117,110,116]⟩ then 1 else s1.value))]:List zM) wn underlying32 inf81 rfl rfl rfl rfl (by decide) (by decide) rfl fun b46=>jd 1 encLabel rfl rfl (vK (α:=Value) [Row (.slice A1 cs.length cp1) 81 2 ye cs,Row (.slice (some ⟨b46,0,none⟩) 1 1) 81 2 ye ([(zM.mk ⟨A2,cp2,(zZ.only s1.sr.l by_)⟩ (if wd=⟨#[99,111,117,110,116]⟩ then 1 else s1.value))]:List zM)] [slP 2 zk (.slice A2 ((zZ.only s1.sr.l by_).length) cp2) (zZ.only s1.sr.l by_),slP 2 zk (.slice s1.sr.A s1.sr.l.length s1.sr.c) s1.sr.l,okP zM.Ok s1,.blk b10 [.slice s1.sr.A s1.sr.l.length s1.sr.c,iV s1.value] 81,allP zM.Ok cs,.blk b8 [.bool true,iV 0,.slice A1 cs.length cp1] 172,.blk b6 [.bool false,iV 0,Zs] 172,slP 1 strE (.slice by_A by_.length by_c) by_,slP 2 ye (.slice lA l.length lc) l,allP zM.Ok l] (fun z=>z) (fun z1=>True) (fun z1=>[Row z1 81 2 ye (cs.take (Mn.pos (cs.map zM.e) (zZ.only s1.sr.l by_))++(zM.mk ⟨A2,cp2,(zZ.only s1.sr.l by_)⟩ (if wd=⟨#[99,111,117,110,116]⟩ then 1 else s1.value))::cs.drop (Mn.pos (cs.map zM.e) (zZ.only s1.sr.l by_)))]) _ (fun _=>rfl) (S9 [6,0,1,2,3,4,5,7,8,9,10,11]) (fun _=>rfl) wn rfl rfl call191 rfl (fun w1 Pb hG=>c_insertC _ _ cs (zM.mk ⟨A2,cp2,(zZ.only s1.sr.l by_)⟩ (if wd=⟨#[99,111,117,110,116]⟩ then 1 else s1.value)) (Mn.pos (cs.map zM.e) (zZ.only s1.sr.l by_)) Pb w1 hG Mn.pos_le' (by omega)) fun z1 hz1=>jG 0 (l:=(cs.take (Mn.pos (cs.map zM.e) (zZ.only s1.sr.l by_))++(zM.mk ⟨A2,cp2,(zZ.only s1.sr.l by_)⟩ (if wd=⟨#[99,111,117,110,116]⟩ then 1 else s1.value))::cs.drop (Mn.pos (cs.map zM.e) (zZ.only s1.sr.l by_)))) rfl fun A3 cp3 hv2 hc4 hm4 hA4=>?_)))))))
     subst hv2
     refine yU (fun _ h=>h.allIns (l':=(cs.take (Mn.pos (cs.map zM.e) (zZ.only s1.sr.l by_))++(zM.mk ⟨A2,cp2,(zZ.only s1.sr.l by_)⟩ (if wd=⟨#[99,111,117,110,116]⟩ then 1 else s1.value))::cs.drop (Mn.pos (cs.map zM.e) (zZ.only s1.sr.l by_)))) 5 1 rfl rfl ins_of) ?_
     have hw2:∀ y ∈ (cs.take (Mn.pos (cs.map zM.e) (zZ.only s1.sr.l by_))++(zM.mk ⟨A2,cp2,(zZ.only s1.sr.l by_)⟩ (if wd=⟨#[99,111,117,110,116]⟩ then 1 else s1.value))::cs.drop (Mn.pos (cs.map zM.e) (zZ.only s1.sr.l by_))),zM.Wf y:=fun y hy=>(ins_of y hy).elim (hwf y) fun e=>⟨by rw [e]; exact (show Ex.Wf ⟨A2,cp2,(zZ.only s1.sr.l by_)⟩ from ⟨by omega,by omega,hA3⟩)⟩
     refine zB (zc rfl fld172_2) (yo 7 wn rfl rfl rfl rfl inf32 rfl rfl (zD hK16 (yc (yH (yJ (yC hK7 (zL (zB (zz rfl rfl (by omega)) (zE rfl (zj (vJ (k + 1) (cs.take (Mn.pos (cs.map zM.e) (zZ.only s1.sr.l by_))++(zM.mk ⟨A2,cp2,(zZ.only s1.sr.l by_)⟩ (if wd=⟨#[99,111,117,110,116]⟩ then 1 else s1.value))::cs.drop (Mn.pos (cs.map zM.e) (zZ.only s1.sr.l by_))) (.slice A3 ((cs.take (Mn.pos (cs.map zM.e) (zZ.only s1.sr.l by_))++(zM.mk ⟨A2,cp2,(zZ.only s1.sr.l by_)⟩ (if wd=⟨#[99,111,117,110,116]⟩ then 1 else s1.value))::cs.drop (Mn.pos (cs.map zM.e) (zZ.only s1.sr.l by_))).length) cp3) (sc rfl (sc rfl (sc rfl (sc rfl (sc rfl (sc rfl (sc (ji (by omega)) sn))))))) (S9 [0,1,7,8,9,10,11]) ?_ ?_)))))))))))
     · obtain ⟨g1,g2,g3⟩:=Mn.all_ins (w:=wd) (by_:=by_) (s:=zZ.only s1.sr.l by_) (c:=zM.e s1) (r:=(l.drop (k + 1)).map zM.e) (x:=(if wd=⟨#[99,111,117,110,116]⟩ then 1 else s1.value)) (z:=(zM.mk ⟨A2,cp2,(zZ.only s1.sr.l by_)⟩ (if wd=⟨#[99,111,117,110,116]⟩ then 1 else s1.value))) rfl rfl rfl hhas hfit hb_s1
       exact ⟨by omega,hw2,by rw [hI1.2.2.1,Mn.drop_map hs1,g3,← g1],by rw [g1]; exact Mn.put_asc hasc,by rw [g1]; exact g2,by rw [ins_len Mn.pos_le']; omega⟩
     omega
   have hhas:Mn.has (cs.map zM.e) (zZ.only s1.sr.l by_)=true:=by simpa using h3
   have hpl:=Mn.pos_lt hasc hhas
   refine yL hK14 (zG fun _ hK17=>zB (zc rfl fld172_2) (zB (zi 6 rfl rfl rfl flat32) (zE rfl ?_)))
   obtain ⟨ad2,hd2⟩:=hA1 (ne_nil (i:=(Mn.pos (cs.map zM.e) (zZ.only s1.sr.l by_))) (by first | omega | (simp <;> omega)))
   refine zB (vC (i:=(Mn.pos (cs.map zM.e) (zZ.only s1.sr.l by_))) rfl hd2 rfl (by omega) (by first | omega | (simp <;> omega)) underlying32 inf81) (zO rfl (zD hK17 (zS fun _ hK18=>zG fun _ hK19=>zE rfl (zD hK19 (zl (zG fun _ hK20=>zB (vd rfl rfl) (zO rfl (zD hK20 ?_))))))))
   refine za rfl (fun h4=>?_) (fun h4=>?_)
   · refine zL (zE rfl (zE rfl (zB (zR rfl) (zB (y0 rfl fld81_1) ?_))))
     obtain ⟨s2,hs2⟩:∃ x,cs[(Mn.pos (cs.map zM.e) (zZ.only s1.sr.l by_))]?=some x:=⟨_,List.getElem?_eq_getElem (by first | omega | (simp <;> omega))⟩
     have hb_s2:=Mn.Fit.at_ hfit hs2
     refine zB (uz 5 encCellX rfl rfl hd2 hs2 rfl flat3) (zE rfl (zB (uh rfl rfl) (zB (zR rfl) (zB (y0 rfl fld81_1) (uw 5 (vs:=[iV (if s2.value < (if wd=⟨#[99,111,117,110,116]⟩ then 1 else s1.value) then (if wd=⟨#[99,111,117,110,116]⟩ then 1 else s1.value) else s2.value)]) (zM.mk ⟨s2.sr.A,s2.sr.c,s2.sr.l⟩ (if s2.value < (if wd=⟨#[99,111,117,110,116]⟩ then 1 else s1.value) then (if wd=⟨#[99,111,117,110,116]⟩ then 1 else s1.value) else s2.value)) encCellX wn rfl rfl rfl rfl hd2 hs2 inf3 rfl rfl rfl rfl (yU (fun _ h=>h.allOf (l':=(cs.set (Mn.pos (cs.map zM.e) (zZ.only s1.sr.l by_)) (zM.mk ⟨s2.sr.A,s2.sr.c,s2.sr.l⟩ (if s2.value < (if wd=⟨#[99,111,117,110,116]⟩ then 1 else s1.value) then (if wd=⟨#[99,111,117,110,116]⟩ then 1 else s1.value) else s2.value)))) 4 rfl (set_of hs2 rfl)) ?_))))))
     have hw3:∀ x ∈ (cs.set (Mn.pos (cs.map zM.e) (zZ.only s1.sr.l by_)) (zM.mk ⟨s2.sr.A,s2.sr.c,s2.sr.l⟩ (if s2.value < (if wd=⟨#[99,111,117,110,116]⟩ then 1 else s1.value) then (if wd=⟨#[99,111,117,110,116]⟩ then 1 else s1.value) else s2.value))),zM.Wf x:=fun x hx=>by obtain ⟨y,hy,e⟩:=set_of (z:=(zM.mk ⟨s2.sr.A,s2.sr.c,s2.sr.l⟩ (if s2.value < (if wd=⟨#[99,111,117,110,116]⟩ then 1 else s1.value) then (if wd=⟨#[99,111,117,110,116]⟩ then 1 else s1.value) else s2.value))) hs2 rfl x hx; exact ⟨by rw [e]; exact (hwf y hy).sr⟩
     refine zj (zm (yC hK18 (zG fun _ hK21=>zE rfl (zB (zR rfl) (zB (y0 rfl fld81_1) (zB (uz 6 encCellX rfl rfl hd2 (set_at hs2) rfl flat3) (yF wn rfl call192 rfl (fun w1 hM=>jV ((zM.mk ⟨s2.sr.A,s2.sr.c,s2.sr.l⟩ (if s2.value < (if wd=⟨#[99,111,117,110,116]⟩ then 1 else s1.value) then (if wd=⟨#[99,111,117,110,116]⟩ then 1 else s1.value) else s2.value)).value) w1) (zB (y5 rfl) (zD hK21 (yl rfl (fun h5=>?_) (fun h5=>?_)))))))))))
     · refine zG fun _ hK22=>zB (zw [.bool false,iV 0,Zs] pl172 inf172 rfl rfl) (zn 8 wn rfl rfl rfl inf172 rfl rfl rfl (zO rfl (zD hK22 (zV (yD (zJ (uD (yD (zJ (yT (.inl rfl) results156 (zo 8 rfl rfl agg172 inf172 rfl) (zQ rfl) fun w1 hM=>?_))))))))))
       obtain ⟨g1,_,g2⟩:=Mn.all_set (w:=wd) (by_:=by_) (s:=zZ.only s1.sr.l by_) (c:=zM.e s1) (r:=(l.drop (k + 1)).map zM.e) (x:=(if wd=⟨#[99,111,117,110,116]⟩ then 1 else s1.value)) (z:=(zM.mk ⟨s2.sr.A,s2.sr.c,s2.sr.l⟩ (if s2.value < (if wd=⟨#[99,111,117,110,116]⟩ then 1 else s1.value) then (if wd=⟨#[99,111,117,110,116]⟩ then 1 else s1.value) else s2.value))) rfl rfl hasc hhas hfit hs2 rfl (by show _=Mn.comb wd s2.value (if wd=⟨#[99,111,117,110,116]⟩ then 1 else s1.value); unfold Mn.comb; grind)
       have hb9:Mn.all wd by_ (l.map zM.e)=(Mn.zero,3):=by rw [Mn.all,hI1.2.2.1,Mn.drop_map hs1,g2 (by simpa using h5)]
       exact hM.uE (⟨false,0,⟨none,0,[]⟩⟩:yO) (by first | (rw [hb9]; done) | (rw [hb9]; rfl)) (by first | (rw [hb9]; done) | (rw [hb9]; rfl)) fun Pb pp=>⟨zK.ym _ _ _ _,fun c hc=>by cases hc⟩
     refine yV (zm (yC hK7 (zL (zB (zz rfl rfl (by omega)) (zE rfl (zj (vJ (k + 1) (cs.set (Mn.pos (cs.map zM.e) (zZ.only s1.sr.l by_)) (zM.mk ⟨s2.sr.A,s2.sr.c,s2.sr.l⟩ (if s2.value < (if wd=⟨#[99,111,117,110,116]⟩ then 1 else s1.value) then (if wd=⟨#[99,111,117,110,116]⟩ then 1 else s1.value) else s2.value))) (.slice A1 cs.length cp1) (sc rfl (sc rfl (sc rfl (sc rfl (sc rfl (sc rfl (sc (ji (by omega)) sn))))))) (S9 [0,6,7,8,9,10,11]) ?_ ?_)))))))
     · obtain ⟨g1,g2,_⟩:=Mn.all_set (w:=wd) (by_:=by_) (s:=zZ.only s1.sr.l by_) (c:=zM.e s1) (r:=(l.drop (k + 1)).map zM.e) (x:=(if wd=⟨#[99,111,117,110,116]⟩ then 1 else s1.value)) (z:=(zM.mk ⟨s2.sr.A,s2.sr.c,s2.sr.l⟩ (if s2.value < (if wd=⟨#[99,111,117,110,116]⟩ then 1 else s1.value) then (if wd=⟨#[99,111,117,110,116]⟩ then 1 else s1.value) else s2.value))) rfl rfl hasc hhas hfit hs2 rfl (by show _=Mn.comb wd s2.value (if wd=⟨#[99,111,117,110,116]⟩ then 1 else s1.value); unfold Mn.comb; grind)
       obtain ⟨g3,g4⟩:=g2 (by simpa using h5)
       exact ⟨by omega,hw3,by rw [hI1.2.2.1,Mn.drop_map hs1,g4,← g1],by rw [g1]; exact Mn.put_asc hasc,by rw [g1]; exact g3,by rw [List.length_set]; omega⟩
     omega
   refine zG fun _ hK23=>zB (vd rfl rfl) (zO rfl (zD hK23 (za rfl (fun h6=>?_) (fun h6=>?_))))
   · refine zL (zE rfl (zE rfl (zB (zR rfl) (zB (y0 rfl fld81_1) ?_))))
     obtain ⟨s3,hs3⟩:∃ x,cs[(Mn.pos (cs.map zM.e) (zZ.only s1.sr.l by_))]?=some x:=⟨_,List.getElem?_eq_getElem (by first | omega | (simp <;> omega))⟩
     have hb_s3:=Mn.Fit.at_ hfit hs3
     refine zB (uz 5 encCellX rfl rfl hd2 hs3 rfl flat3) (zE rfl (zB (jY rfl rfl) (zB (zR rfl) (zB (y0 rfl fld81_1) (uw 5 (vs:=[iV (if (if wd=⟨#[99,111,117,110,116]⟩ then 1 else s1.value) < s3.value then (if wd=⟨#[99,111,117,110,116]⟩ then 1 else s1.value) else s3.value)]) (zM.mk ⟨s3.sr.A,s3.sr.c,s3.sr.l⟩ (if (if wd=⟨#[99,111,117,110,116]⟩ then 1 else s1.value) < s3.value then (if wd=⟨#[99,111,117,110,116]⟩ then 1 else s1.value) else s3.value)) encCellX wn rfl rfl rfl rfl hd2 hs3 inf3 rfl rfl rfl rfl (yU (fun _ h=>h.allOf (l':=(cs.set (Mn.pos (cs.map zM.e) (zZ.only s1.sr.l by_)) (zM.mk ⟨s3.sr.A,s3.sr.c,s3.sr.l⟩ (if (if wd=⟨#[99,111,117,110,116]⟩ then 1 else s1.value) < s3.value then (if wd=⟨#[99,111,117,110,116]⟩ then 1 else s1.value) else s3.value)))) 4 rfl (set_of hs3 rfl)) ?_))))))
     have hw4:∀ x ∈ (cs.set (Mn.pos (cs.map zM.e) (zZ.only s1.sr.l by_)) (zM.mk ⟨s3.sr.A,s3.sr.c,s3.sr.l⟩ (if (if wd=⟨#[99,111,117,110,116]⟩ then 1 else s1.value) < s3.value then (if wd=⟨#[99,111,117,110,116]⟩ then 1 else s1.value) else s3.value))),zM.Wf x:=fun x hx=>by obtain ⟨y,hy,e⟩:=set_of (z:=(zM.mk ⟨s3.sr.A,s3.sr.c,s3.sr.l⟩ (if (if wd=⟨#[99,111,117,110,116]⟩ then 1 else s1.value) < s3.value then (if wd=⟨#[99,111,117,110,116]⟩ then 1 else s1.value) else s3.value))) hs3 rfl x hx; exact ⟨by rw [e]; exact (hwf y hy).sr⟩
     refine zj (zm (yC hK18 (zG fun _ hK24=>zE rfl (zB (zR rfl) (zB (y0 rfl fld81_1) (zB (uz 6 encCellX rfl rfl hd2 (set_at hs3) rfl flat3) (yF wn rfl call192 rfl (fun w1 hM=>jV ((zM.mk ⟨s3.sr.A,s3.sr.c,s3.sr.l⟩ (if (if wd=⟨#[99,111,117,110,116]⟩ then 1 else s1.value) < s3.value then (if wd=⟨#[99,111,117,110,116]⟩ then 1 else s1.value) else s3.value)).value) w1) (zB (y5 rfl) (zD hK24 (yl rfl (fun h7=>?_) (fun h7=>?_)))))))))))
     · refine zG fun _ hK25=>zB (zw [.bool false,iV 0,Zs] pl172 inf172 rfl rfl) (zn 8 wn rfl rfl rfl inf172 rfl rfl rfl (zO rfl (zD hK25 (zV (yD (zJ (uD (yD (zJ (yT (.inl rfl) results156 (zo 8 rfl rfl agg172 inf172 rfl) (zQ rfl) fun w1 hM=>?_))))))))))
       obtain ⟨g1,_,g2⟩:=Mn.all_set (w:=wd) (by_:=by_) (s:=zZ.only s1.sr.l by_) (c:=zM.e s1) (r:=(l.drop (k + 1)).map zM.e) (x:=(if wd=⟨#[99,111,117,110,116]⟩ then 1 else s1.value)) (z:=(zM.mk ⟨s3.sr.A,s3.sr.c,s3.sr.l⟩ (if (if wd=⟨#[99,111,117,110,116]⟩ then 1 else s1.value) < s3.value then (if wd=⟨#[99,111,117,110,116]⟩ then 1 else s1.value) else s3.value))) rfl rfl hasc hhas hfit hs3 rfl (by show _=Mn.comb wd s3.value (if wd=⟨#[99,111,117,110,116]⟩ then 1 else s1.value); unfold Mn.comb; grind)
       have hb9:Mn.all wd by_ (l.map zM.e)=(Mn.zero,3):=by rw [Mn.all,hI1.2.2.1,Mn.drop_map hs1,g2 (by simpa using h7)]
       exact hM.uE (⟨false,0,⟨none,0,[]⟩⟩:yO) (by first | (rw [hb9]; done) | (rw [hb9]; rfl)) (by first | (rw [hb9]; done) | (rw [hb9]; rfl)) fun Pb pp=>⟨zK.ym _ _ _ _,fun c hc=>by cases hc⟩
     refine yV (zm (yC hK7 (zL (zB (zz rfl rfl (by omega)) (zE rfl (zj (vJ (k + 1) (cs.set (Mn.pos (cs.map zM.e) (zZ.only s1.sr.l by_)) (zM.mk ⟨s3.sr.A,s3.sr.c,s3.sr.l⟩ (if (if wd=⟨#[99,111,117,110,116]⟩ then 1 else s1.value) < s3.value then (if wd=⟨#[99,111,117,110,116]⟩ then 1 else s1.value) else s3.value))) (.slice A1 cs.length cp1) (sc rfl (sc rfl (sc rfl (sc rfl (sc rfl (sc rfl (sc (ji (by omega)) sn))))))) (S9 [0,6,7,8,9,10,11]) ?_ ?_)))))))
     · obtain ⟨g1,g2,_⟩:=Mn.all_set (w:=wd) (by_:=by_) (s:=zZ.only s1.sr.l by_) (c:=zM.e s1) (r:=(l.drop (k + 1)).map zM.e) (x:=(if wd=⟨#[99,111,117,110,116]⟩ then 1 else s1.value)) (z:=(zM.mk ⟨s3.sr.A,s3.sr.c,s3.sr.l⟩ (if (if wd=⟨#[99,111,117,110,116]⟩ then 1 else s1.value) < s3.value then (if wd=⟨#[99,111,117,110,116]⟩ then 1 else s1.value) else s3.value))) rfl rfl hasc hhas hfit hs3 rfl (by show _=Mn.comb wd s3.value (if wd=⟨#[99,111,117,110,116]⟩ then 1 else s1.value); unfold Mn.comb; grind)
       obtain ⟨g3,g4⟩:=g2 (by simpa using h7)
       exact ⟨by omega,hw4,by rw [hI1.2.2.1,Mn.drop_map hs1,g4,← g1],by rw [g1]; exact Mn.put_asc hasc,by rw [g1]; exact g3,by rw [List.length_set]; omega⟩
     omega
   refine zL (zE rfl (zB (zR rfl) (zB (y0 rfl fld81_1) ?_)))
   obtain ⟨s4,hs4⟩:∃ x,cs[(Mn.pos (cs.map zM.e) (zZ.only s1.sr.l by_))]?=some x:=⟨_,List.getElem?_eq_getElem (by first | omega | (simp <;> omega))⟩
   have hb_s4:=Mn.Fit.at_ hfit hs4
   refine zB (uz 5 encCellX rfl rfl hd2 hs4 rfl flat3) (zE rfl (zB (zz rfl rfl (by omega)) (zB (zR rfl) (zB (y0 rfl fld81_1) (uw 5 (vs:=[iV (s4.value + (if wd=⟨#[99,111,117,110,116]⟩ then 1 else s1.value))]) (zM.mk ⟨s4.sr.A,s4.sr.c,s4.sr.l⟩ (s4.value + (if wd=⟨#[99,111,117,110,116]⟩ then 1 else s1.value))) encCellX wn rfl rfl rfl rfl hd2 hs4 inf3 rfl rfl rfl rfl (yU (fun _ h=>h.allOf (l':=(cs.set (Mn.pos (cs.map zM.e) (zZ.only s1.sr.l by_)) (zM.mk ⟨s4.sr.A,s4.sr.c,s4.sr.l⟩ (s4.value + (if wd=⟨#[99,111,117,110,116]⟩ then 1 else s1.value))))) 4 rfl (set_of hs4 rfl)) ?_))))))
   have hw5:∀ x ∈ (cs.set (Mn.pos (cs.map zM.e) (zZ.only s1.sr.l by_)) (zM.mk ⟨s4.sr.A,s4.sr.c,s4.sr.l⟩ (s4.value + (if wd=⟨#[99,111,117,110,116]⟩ then 1 else s1.value)))),zM.Wf x:=fun x hx=>by obtain ⟨y,hy,e⟩:=set_of (z:=(zM.mk ⟨s4.sr.A,s4.sr.c,s4.sr.l⟩ (s4.value + (if wd=⟨#[99,111,117,110,116]⟩ then 1 else s1.value)))) hs4 rfl x hx; exact ⟨by rw [e]; exact (hwf y hy).sr⟩
   refine zj (zm (yC hK18 (zG fun _ hK26=>zE rfl (zB (zR rfl) (zB (y0 rfl fld81_1) (zB (uz 6 encCellX rfl rfl hd2 (set_at hs4) rfl flat3) (yF wn rfl call192 rfl (fun w1 hM=>jV ((zM.mk ⟨s4.sr.A,s4.sr.c,s4.sr.l⟩ (s4.value + (if wd=⟨#[99,111,117,110,116]⟩ then 1 else s1.value))).value) w1) (zB (y5 rfl) (zD hK26 (yl rfl (fun h8=>?_) (fun h8=>?_)))))))))))
   · refine zG fun _ hK27=>zB (zw [.bool false,iV 0,Zs] pl172 inf172 rfl rfl) (zn 8 wn rfl rfl rfl inf172 rfl rfl rfl (zO rfl (zD hK27 (zV (yD (zJ (uD (yD (zJ (yT (.inl rfl) results156 (zo 8 rfl rfl agg172 inf172 rfl) (zQ rfl) fun w1 hM=>?_))))))))))
     obtain ⟨g1,_,g2⟩:=Mn.all_set (w:=wd) (by_:=by_) (s:=zZ.only s1.sr.l by_) (c:=zM.e s1) (r:=(l.drop (k + 1)).map zM.e) (x:=(if wd=⟨#[99,111,117,110,116]⟩ then 1 else s1.value)) (z:=(zM.mk ⟨s4.sr.A,s4.sr.c,s4.sr.l⟩ (s4.value + (if wd=⟨#[99,111,117,110,116]⟩ then 1 else s1.value)))) rfl rfl hasc hhas hfit hs4 rfl (by show _=Mn.comb wd s4.value (if wd=⟨#[99,111,117,110,116]⟩ then 1 else s1.value); unfold Mn.comb; grind)
     have hb9:Mn.all wd by_ (l.map zM.e)=(Mn.zero,3):=by rw [Mn.all,hI1.2.2.1,Mn.drop_map hs1,g2 (by simpa using h8)]
     exact hM.uE (⟨false,0,⟨none,0,[]⟩⟩:yO) (by first | (rw [hb9]; done) | (rw [hb9]; rfl)) (by first | (rw [hb9]; done) | (rw [hb9]; rfl)) fun Pb pp=>⟨zK.ym _ _ _ _,fun c hc=>by cases hc⟩
   refine yV (zm (yC hK7 (zL (zB (zz rfl rfl (by omega)) (zE rfl (zj (vJ (k + 1) (cs.set (Mn.pos (cs.map zM.e) (zZ.only s1.sr.l by_)) (zM.mk ⟨s4.sr.A,s4.sr.c,s4.sr.l⟩ (s4.value + (if wd=⟨#[99,111,117,110,116]⟩ then 1 else s1.value)))) (.slice A1 cs.length cp1) (sc rfl (sc rfl (sc rfl (sc rfl (sc rfl (sc rfl (sc (ji (by omega)) sn))))))) (S9 [0,6,7,8,9,10,11]) ?_ ?_)))))))
   · obtain ⟨g1,g2,_⟩:=Mn.all_set (w:=wd) (by_:=by_) (s:=zZ.only s1.sr.l by_) (c:=zM.e s1) (r:=(l.drop (k + 1)).map zM.e) (x:=(if wd=⟨#[99,111,117,110,116]⟩ then 1 else s1.value)) (z:=(zM.mk ⟨s4.sr.A,s4.sr.c,s4.sr.l⟩ (s4.value + (if wd=⟨#[99,111,117,110,116]⟩ then 1 else s1.value)))) rfl rfl hasc hhas hfit hs4 rfl (by show _=Mn.comb wd s4.value (if wd=⟨#[99,111,117,110,116]⟩ then 1 else s1.value); unfold Mn.comb; grind)
     obtain ⟨g3,g4⟩:=g2 (by simpa using h8)
     exact ⟨by omega,hw5,by rw [hI1.2.2.1,Mn.drop_map hs1,g4,← g1],by rw [g1]; exact Mn.put_asc hasc,by rw [g1]; exact g3,by rw [List.length_set]; omega⟩
   omega
 refine yc (yH (uV (yJ (yC hK3 (zG fun _ hK28=>zB (yM 2 [.bool true,iV 0,.slice A1 cs.length cp1] rfl rfl rfl rfl agg172 inf172) (zn 3 wn rfl rfl rfl inf172 rfl rfl rfl (zO rfl (zD hK28 (zV (yT (.inl rfl) results156 (zo 3 rfl rfl agg172 inf172 rfl) (zQ rfl) fun w1 hM=>?_))))))))))
 have hb9:Mn.all wd by_ (l.map zM.e)=(⟨true,0,cs.map zM.e⟩,0):=by rw [Mn.all,hI1.2.2.1,Mn.drop_end (by omega),Mn.allFrom]
 have hM:=hM.yb encCellX (i:=1) rfl rfl
 exact hM.uE (⟨true,0,⟨A1,cp1,cs⟩⟩:yO) (by first | (rw [hb9]; done) | (rw [hb9]; rfl)) (by first | (rw [hb9]; done) | (rw [hb9]; rfl)) fun Pb pp=>⟨pp.sl 1 rfl,pp.at_ 0 _ rfl⟩
end
section
open Tryz
open Ex
set_option linter.unusedVariables false
set_option linter.unusedSimpArgs false
set_option maxHeartbeats 1000000 in
theorem c_gwindow (vad ead : Addr) (time n : Int) (f : Nat) (fcap : Array Value) (o : Int → Own) (S : Nat → Prop) (C : World → Prop) (lk : Look) (sk : Sk) (e : zC) (Pb : Nat → Prop) (w : World) (hG : Mem w ⟨fpOf [(o n), .dat S C, celP vad [iV time, .func (.func f) #[] fcap], celP ead [iV e.kind, iV e.n, iV e.range, .string e.word, .slice e.ms.A e.ms.l.length e.ms.c, .slice e.by_.A e.by_.l.length e.by_.c, .slice e.kids.A e.kids.l.length e.kids.c], okP zC.Ok e], Pb⟩ [(o n), .dat S C, celP vad [iV time, .func (.func f) #[] fcap], celP ead [iV e.kind, iV e.n, iV e.range, .string e.word, .slice e.ms.A e.ms.l.length e.ms.c, .slice e.by_.A e.by_.l.length e.by_.c, .slice e.kids.A e.kids.l.length e.kids.c], okP zC.Ok e] w) (hf : WinG prog f fcap o S C lk sk) (hg : Mn.GoodLook lk) (ht : 0 ≤ time ∧ time ≤ 1000000) (hr : 1 ≤ e.range ∧ e.range ≤ 100000) :
    Calls prog 155 #[.pointer (some ((Addr.add vad 0).add 0)),.pointer (some ((Addr.add ead 0).add 0))] w (RetA w [(o n),.dat S C,celP vad [iV time,.func (.func f) #[] fcap],celP ead [iV e.kind,iV e.n,iV e.range,.string e.word,.slice e.ms.A e.ms.l.length e.ms.c,.slice e.by_.A e.by_.l.length e.by_.c,.slice e.kids.A e.kids.l.length e.kids.c],okP zC.Ok e] Pb (fun z:yO=>.tuple #[.agg (uU z).toArray,iV (Mn.window lk time e.word e.ms.l e.range).2]) (fun z=>z.e=(Mn.window lk time e.word e.ms.l e.range).1) (fun z=>[okP yO.Ok z,o (sk e.ms.l (Mn.frm time e.range) time n),celP vad [iV time,.func (.func f) #[] fcap],celP ead (yh e),okP zC.Ok e])):=by
 have hwe:=(hG.vP (i:=4) rfl).wf
 refine fstart (N:=76) (vals:=[.pointer (some ((Addr.add vad 0).add 0)),.pointer (some ((Addr.add ead 0).add 0))]) (S:=Mem w ⟨fpOf [(o n),.dat S C,celP vad [iV time,.func (.func f) #[] fcap],celP ead [iV e.kind,iV e.n,iV e.range,.string e.word,.slice e.ms.A e.ms.l.length e.ms.c,.slice e.by_.A e.by_.l.length e.by_.c,.slice e.kids.A e.kids.l.length e.kids.c],okP zC.Ok e],Pb⟩ [(o n),.dat S C,celP vad [iV time,.func (.func f) #[] fcap],celP ead [iV e.kind,iV e.n,iV e.range,.string e.word,.slice e.ms.A e.ms.l.length e.ms.c,.slice e.by_.A e.by_.l.length e.by_.c,.slice e.kids.A e.kids.l.length e.kids.c],okP zC.Ok e]) func155 rfl rfl rfl hG (zG fun _ hK1=>zy wn inf172 rfl fun b4=>zO rfl (zD hK1 (zS fun _ hK2=>vG (Mem w ⟨fpOf [(o n),.dat S C,celP vad [iV time,.func (.func f) #[] fcap],celP ead [iV e.kind,iV e.n,iV e.range,.string e.word,.slice e.ms.A e.ms.l.length e.ms.c,.slice e.by_.A e.by_.l.length e.by_.c,.slice e.kids.A e.kids.l.length e.kids.c],okP zC.Ok e],Pb⟩ [.blk b4 [.bool false,iV 0,Zs] 172,.dat S C,celP vad [iV time,.func (.func f) #[] fcap],celP ead [iV e.kind,iV e.n,iV e.range,.string e.word,.slice e.ms.A e.ms.l.length e.ms.c,.slice e.by_.A e.by_.l.length e.by_.c,.slice e.kids.A e.kids.l.length e.kids.c],okP zC.Ok e]) mix (fun _ h=>h.drew) rfl (vE 8 [0,1,2,3,4,5,6,7,8,9,10,11,12,13,14,15,16,17,18,19,20,21] [0,2,3,4,5] rfl fun KS hKS=>yB (zg rfl) (yB (zR rfl) (yB (y0 rfl fld176_1) (yB (yy 2 rfl rfl rfl flat170) ?_)))))))
 refine yB (zg rfl) (yB (zR rfl) (yB (y0 rfl fld59_4) (yB (yy 3 rfl rfl rfl flat55) (yB (zg rfl) (yB (zR rfl) (yB (y0 rfl fld176_0) (yB (yy 2 rfl rfl rfl flat3) (yB (zg rfl) (yB (zR rfl) (yB (y0 rfl fld59_2) (yB (yy 3 rfl rfl rfl flat3) ?_)))))))))))
 refine yB (vl rfl rfl (by omega)) (yB (uh rfl rfl) (yB (zg rfl) (yB (zR rfl) (yB (y0 rfl fld176_0) (yB (yy 2 rfl rfl rfl flat3) (yZ hKS (yW 7 22 (yX (i:=22) rfl fun KN hKN=>yU (fun _ h=>h.exprX 5 rfl) ?_))))))))
 obtain ⟨hc1,hm1,hA1⟩:=hwe.ms
 obtain ⟨hc2,hm2,hA2⟩:=hwe.by_
 obtain ⟨hc3,hm3,hA3⟩:=hwe.kids
 refine yU (fun _ h=>(h.dup 6 rfl rfl).dup 1 rfl rfl) (l_callA [(o n),.dat S C,slP 3 ya (.slice e.ms.A e.ms.l.length e.ms.c) e.ms.l] [slP 3 ya (.slice e.ms.A e.ms.l.length e.ms.c) e.ms.l,slP 1 strE (.slice e.by_.A e.by_.l.length e.by_.c) e.by_.l,slP 7 yh (.slice e.kids.A e.kids.l.length e.kids.c) e.kids.l,allP zC.Ok e.kids.l,.blk b4 [.bool false,iV 0,Zs] 172,.dat S C,celP vad [iV time,.func (.func f) #[] fcap],celP ead [iV e.kind,iV e.n,iV e.range,.string e.word,.slice e.ms.A e.ms.l.length e.ms.c,.slice e.by_.A e.by_.l.length e.by_.c,.slice e.kids.A e.kids.l.length e.kids.c],okP zC.Ok e] (winV (lk e.ms.l (Mn.frm time e.range) time).2) (fun z=>vu.is z (lk e.ms.l (Mn.frm time e.range) time).1) (fun z=>[.pub (fun S=>vu.Ok S z),o (sk e.ms.l (Mn.frm time e.range) time n)]) (S9 [7,1,0,2,3,4,5,6,8,9,10,11]) (fun _=>hq2 (hf.ok _)) wn rfl rfl hf.call rfl (fun w1 Pb hG=>hf.run ⟨e.ms.A,e.ms.c,e.ms.l⟩ (Mn.frm time e.range) time n w1 Pb hG (Mn.frm_nn _ _) ht.2) fun z1 hz1=>vh 0 rfl (fun S w h=>vu.Ok.wf h) fun hw1=>yU (fun _ h=>h.winX 0 rfl) ?_)
 obtain ⟨hc4,hm4,hA4⟩:=hw1.sr
 obtain ⟨hc5,hm5,hA5⟩:=hw1.sm
 refine yP hKN [9,10,11,12,13] (vE 0 [23,24,25,26,27,28,29] [9,10,11,12,13] rfl fun KS hKS=>yB (zg rfl) (yB (yI rfl rfl) (yB (yI rfl rfl) (yB (yI rfl rfl) (yB (yf rfl) (yB (yf rfl) (yB (yf rfl) (yZ hKS (yp (by kernel_rfl) (yC hK2 (zS fun _ hK3=>?_)))))))))))
 refine zG fun _ hK4=>zE rfl (zB (vH rfl rfl) (zD hK4 (za rfl (fun h1=>?_) (fun h1=>?_))))
 · refine zG fun _ hK5=>zB (zw [.bool false,iV 0,Zs] pl172 inf172 rfl rfl) (zE rfl (zn 9 wn rfl rfl rfl inf172 rfl rfl rfl (zO rfl (zD hK5 (zV (zJ (yT (.inl rfl) results155 (zo 9 rfl rfl agg172 inf172 rfl) (zQ rfl) fun w1 hM=>?_)))))))
   have hb9:Mn.window lk time e.word e.ms.l e.range=(Mn.zero,(lk e.ms.l (Mn.frm time e.range) time).2):=by rw [Mn.window,if_pos (by simpa using h1)]
   have hn9:(sk e.ms.l (Mn.frm time e.range) time n)=sk e.ms.l (Mn.frm time e.range) time n:=rfl
   have hM:=hM.vT (yO.Ok.loc (⟨false,0,⟨none,0,[]⟩⟩:yO)) fun Pb pp=>⟨zK.ym _ _ _ _,fun c hc=>by cases hc⟩
   exact hM.vS (⟨false,0,⟨none,0,[]⟩⟩:yO) (by first | (rw [hb9]; done) | (rw [hb9]; rfl)) (by first | (rw [hb9]; done) | (rw [hb9]; rfl)) (fun h=>by rw [← hn9]; exact h.sel [0,5,12,13,14] (by decide) rfl)
 refine yL hK3 (zG fun _ hK6=>zB (zw [.bool true,iV 0,Zs] pl172 inf172 rfl rfl) (zy wn inf172 rfl fun b9=>zn 0 wn rfl rfl rfl inf172 rfl rfl rfl (zD hK6 (zS fun _ hK7=>zG fun _ hK8=>zE rfl (zB (yg rfl underlying125) (zE rfl (zD hK8 ?_)))))))
 refine zl ?_
 have hl1:z1.sr.l.length=(lk e.ms.l (Mn.frm time e.range) time).1.length:=by have:=congrArg List.length hz1.1; simpa using this
 have hl2:z1.sm.l.length=(lk e.ms.l (Mn.frm time e.range) time).1.length:=by have:=congrArg List.length hz1.2; simpa using this
 have hl3:=(hg e.ms.l (Mn.frm time e.range) time).1
 refine jT (fun _ h=>h.uM zM 81 2 ye) (jZ (fun _ h=>h.all0 zM.Ok.loc) (u7 (fun (k:Nat) (cs:List zM) (ov:Value)=>[(1,.pointer (some ((Addr.add ead 0).add 0))),(4,.pointer (some ⟨b4,0,none⟩)),(7,.slice z1.sm.A z1.sm.l.length z1.sm.c),(9,.pointer (some ⟨b9,0,none⟩)),(46,.slice z1.sr.A z1.sr.l.length z1.sr.c),(47,iV z1.sr.l.length),(48,iV k)]) (fun (k:Nat) (cs:List zM) (ov:Value)=>[allP zM.Ok cs,Row ov 81 2 ye cs,.blk b9 [.bool true,iV 0,ov] 172,slP 1 serE (.slice z1.sr.A z1.sr.l.length z1.sr.c) z1.sr.l,allP y7.Ok z1.sr.l,slP 7 sumE (.slice z1.sm.A z1.sm.l.length z1.sm.c) z1.sm.l,.pub (fun S=>vu.Ok S z1),(o (sk e.ms.l (Mn.frm time e.range) time n)),slP 3 ya (.slice e.ms.A e.ms.l.length e.ms.c) e.ms.l,slP 1 strE (.slice e.by_.A e.by_.l.length e.by_.c) e.by_.l,slP 7 yh (.slice e.kids.A e.kids.l.length e.kids.c) e.kids.l,allP zC.Ok e.kids.l,.blk b4 [.bool false,iV 0,Zs] 172,.dat S C,celP vad [iV time,.func (.func f) #[] fcap],celP ead [iV e.kind,iV e.n,iV e.range,.string e.word,.slice e.ms.A e.ms.l.length e.ms.c,.slice e.by_.A e.by_.l.length e.by_.c,.slice e.kids.A e.kids.l.length e.kids.c],okP zC.Ok e]) (fun (k:Nat) (cs:List zM) (ov:Value)=>k≤z1.sr.l.length∧(∀ x ∈ cs,zM.Wf x)∧cs.map zM.e=Mn.winCells e.word ((lk e.ms.l (Mn.frm time e.range) time).1.take k)∧cs.length≤k) (fun (k:Nat) (cs:List zM) (ov:Value)=>z1.sr.l.length - k) 0 [] (Zs) (sc rfl (sc rfl (sc rfl (sc rfl (sc rfl (sc rfl (sc (ji (by omega)) sn))))))) (fun _ h=>h) ?_ (fun k cs ov hI1=>?_)))
 · exact ⟨Nat.zero_le _,fun x hx=>(by cases hx),rfl,Nat.le_refl _⟩
 have hwf:=hI1.2.1
 have hlen:=hI1.2.2.2
 refine vV 1 (l:=cs) rfl fun A1 cp1 hv1 hc6 hm6 hA6=>?_
 subst hv1
 refine zG fun _ hK9=>zB (yR rfl rfl) (zD hK9 (zS fun _ hK10=>za rfl (fun h2=>?_) (fun h2=>?_)))
 · refine yL hK10 (zS fun _ hK11=>zl (zG fun _ hK12=>zE rfl ?_))
   obtain ⟨ad1,hd1⟩:=hA4 (ne_nil (i:=k) (by first | omega | (simp <;> omega)))
   refine zB (vC (i:=k) rfl hd1 rfl (by omega) (by first | omega | (simp <;> omega)) underlying125 inf39) ?_
   obtain ⟨s1,hs1⟩:∃ x,z1.sr.l[k]?=some x:=⟨_,List.getElem?_eq_getElem (by first | omega | (simp <;> omega))⟩
   refine zB (gD 3 rfl rfl hd1 hs1 rfl flat39) (zO rfl (zO rfl (zD hK12 (zS fun _ hK13=>vN mix (by kernel_rfl) (fun _ h=>h.drew) (yq rfl (zt (zR rfl) (zt (y0 rfl fld59_3) (zt (yy 15 rfl rfl rfl flat9) (yq rfl (yq rfl ?_))))))))))
   obtain ⟨ad2,hd2⟩:=hA5 (ne_nil (i:=k) (by first | omega | (simp <;> omega)))
   refine zt (vC (i:=k) rfl hd2 rfl (by omega) (by first | omega | (simp <;> omega)) underlying126 inf89) ?_
   obtain ⟨s2,hs2⟩:∃ x,z1.sm.l[k]?=some x:=⟨_,List.getElem?_eq_getElem (by first | omega | (simp <;> omega))⟩
   refine zt (v8 5 [iV s2.count,iV s2.total,iV s2.min,iV s2.max,iV s2.first,iV s2.last,iV s2.rise] rfl rfl hd2 hs2 rfl rfl agg89 inf89) (vO wn rfl call35 rfl (fun w1 hM=>c_Value e.word s2 w1) (yq rfl (zt (yI rfl rfl) (zt (yI rfl rfl) (zt (yf rfl) (zt (yf rfl) (vI (yC hK13 (zG fun _ hK14=>zE rfl (zD hK14 (yl rfl (fun h3=>?_) (fun h3=>?_))))))))))))
   · refine zL (zB (zc rfl fld172_2) (zB (zi 2 rfl rfl rfl flat32) (zE rfl (zE rfl (zB (zw [.slice s1.sr.A s1.sr.l.length s1.sr.c,iV ((Agg.value e.word s2).1)] pl81 inf81 rfl rfl) (yt ye ([(zM.mk ⟨s1.sr.A,s1.sr.c,s1.sr.l⟩ ((Agg.value e.word s2).1))]:List zM) wn underlying32 inf81 rfl rfl rfl rfl (by decide) (by decide) rfl fun b71=>vD 2 cs ([(zM.mk ⟨s1.sr.A,s1.sr.c,s1.sr.l⟩ ((Agg.value e.word s2).1))]:List zM) encCellX wn rfl rfl rfl (fun _ hM=>(RowSl encCellX hM 0 rfl)) underlying32 inf81 rfl rfl (by simp only [List.length_append,List.length_cons,List.length_nil]; omega) rfl fun A2 cp2 hc7 hm7 hA7=>?_))))))
     have hw3:=hw1.all _ (List.mem_of_getElem? hs1)
     refine yU (fun _ h=>h.one 5 y7.Ok.loc rfl hs1) (yU (fun _ h=>h.serX 0 rfl) ?_)
     obtain ⟨hc8,hm8,hA8⟩:=hw3.sr
     refine yU (fun _ h=>h.allCell (n:=(Agg.value e.word s2).1) 3 0 rfl rfl) ?_
     have hw2:∀ x ∈ (cs++([(zM.mk ⟨s1.sr.A,s1.sr.c,s1.sr.l⟩ ((Agg.value e.word s2).1))]:List zM)),zM.Wf x:=fun x hx=>(List.mem_append.1 hx).elim (hwf x) fun h=>by rw [List.mem_singleton.1 h]; exact ⟨⟨by omega,by omega,hA8⟩⟩
     refine zB (zc rfl fld172_2) (yo 6 wn rfl rfl rfl rfl inf32 rfl rfl (zj (zm (yC hK11 (zL (zB (zz rfl rfl (by omega)) (zE rfl (zj (vJ (k + 1) (cs++([(zM.mk ⟨s1.sr.A,s1.sr.c,s1.sr.l⟩ ((Agg.value e.word s2).1))]:List zM)) (.slice A2 ((cs++([(zM.mk ⟨s1.sr.A,s1.sr.c,s1.sr.l⟩ ((Agg.value e.word s2).1))]:List zM)).length) cp2) (sc rfl (sc rfl (sc rfl (sc rfl (sc rfl (sc rfl (sc (ji (by omega)) sn))))))) (S9 [0,5,6,7,8,9,10,11,12,13,14,15,16,17,18,19,20]) ?_ ?_)))))))))
     · exact ⟨by omega,hw2,by rw [Mn.winCells_at (s:=s1.sr.l) (m:=s2) (by rw [← hz1.1,List.getElem?_map,hs1]; rfl) (by rw [← hz1.2]; exact hs2),if_pos h3,List.map_append,hI1.2.2.1]; rfl,by simp only [List.length_append,List.length_cons,List.length_nil]; omega⟩
     omega
   refine yV (zm (yC hK11 (zL (zB (zz rfl rfl (by omega)) (zE rfl (zj (vJ (k + 1) cs (.slice A1 cs.length cp1) (sc rfl (sc rfl (sc rfl (sc rfl (sc rfl (sc rfl (sc (ji (by omega)) sn))))))) (fun _ h=>h) ?_ ?_)))))))
   · exact ⟨by omega,hwf,by rw [Mn.winCells_at (s:=s1.sr.l) (m:=s2) (by rw [← hz1.1,List.getElem?_map,hs1]; rfl) (by rw [← hz1.2]; exact hs2),if_neg (by simpa using h3),List.append_nil]; exact hI1.2.2.1,by omega⟩
   omega
 refine yc (yH (uV (yJ (yC hK7 (zG fun _ hK15=>zB (yM 2 [.bool true,iV 0,.slice A1 cs.length cp1] rfl rfl rfl rfl agg172 inf172) (zn 12 wn rfl rfl rfl inf172 rfl rfl rfl (zO rfl (zD hK15 (zV (yT (.inl rfl) results155 (zo 12 rfl rfl agg172 inf172 rfl) (zQ rfl) fun w1 hM=>?_))))))))))
 have hb9:Mn.window lk time e.word e.ms.l e.range=(⟨true,0,cs.map zM.e⟩,0):=by rw [Mn.window,if_neg (by simpa using h1),hI1.2.2.1,List.take_of_length_le (by omega)]
 have hM:=hM.uk encCellX (i:=1) (j:=7) rfl rfl (by decide) (fun b hb=>hf.fpc _ _ b (only5 b hb))
 have hn9:(sk e.ms.l (Mn.frm time e.range) time n)=sk e.ms.l (Mn.frm time e.range) time n:=rfl
 have hM:=hM.vT (yO.Ok.loc (⟨true,0,⟨A1,cp1,cs⟩⟩:yO)) fun Pb pp=>⟨pp.sl 1 rfl,pp.at_ 0 _ rfl⟩
 exact hM.vS (⟨true,0,⟨A1,cp1,cs⟩⟩:yO) (by first | (rw [hb9]; done) | (rw [hb9]; rfl)) (by first | (rw [hb9]; done) | (rw [hb9]; rfl)) (fun h=>by rw [← hn9]; exact h.sel [0,8,15,16,17] (by decide) rfl)
def uu (e : zC) : Prop := ∀ (vad ead : Addr) (time n : Int) (f : Nat) (fcap : Array Value) (o : Int → Own) (S : Nat → Prop) (C : World → Prop) (lk : Look) (sk : Sk) (Pb : Nat → Prop) (w : World) (hG : Mem w ⟨fpOf [(o n), .dat S C, celP vad [iV time, .func (.func f) #[] fcap], celP ead [iV e.kind, iV e.n, iV e.range, .string e.word, .slice e.ms.A e.ms.l.length e.ms.c, .slice e.by_.A e.by_.l.length e.by_.c, .slice e.kids.A e.kids.l.length e.kids.c], okP zC.Ok e], Pb⟩ [(o n), .dat S C, celP vad [iV time, .func (.func f) #[] fcap], celP ead [iV e.kind, iV e.n, iV e.range, .string e.word, .slice e.ms.A e.ms.l.length e.ms.c, .slice e.by_.A e.by_.l.length e.by_.c, .slice e.kids.A e.kids.l.length e.kids.c], okP zC.Ok e] w) (hf : WinG prog f fcap o S C lk sk) (hg : Mn.GoodLook lk) (ht : 0 ≤ time ∧ time ≤ 1000000) (hr : Mn.right e.e),
    Calls prog 103 #[.pointer (some ((Addr.add vad 0).add 0)),.pointer (some ((Addr.add ead 0).add 0))] w (RetA w [(o n),.dat S C,celP vad [iV time,.func (.func f) #[] fcap],celP ead [iV e.kind,iV e.n,iV e.range,.string e.word,.slice e.ms.A e.ms.l.length e.ms.c,.slice e.by_.A e.by_.l.length e.by_.c,.slice e.kids.A e.kids.l.length e.kids.c],okP zC.Ok e] Pb (fun z:yO=>.tuple #[.agg (uU z).toArray,iV (Mn.eval lk time e.e).2]) (fun z=>z.e=(Mn.eval lk time e.e).1) (fun z=>[okP yO.Ok z,o (Mn.evalN lk sk time e.e n),celP vad [iV time,.func (.func f) #[] fcap],celP ead (yh e),okP zC.Ok e]))
set_option maxHeartbeats 2000000 in
theorem c_gexpr (vad ead : Addr) (time n : Int) (f : Nat) (fcap : Array Value) (o : Int → Own) (S : Nat → Prop) (C : World → Prop) (lk : Look) (sk : Sk) (e : zC) (Pb : Nat → Prop) (w : World) (hG : Mem w ⟨fpOf [(o n), .dat S C, celP vad [iV time, .func (.func f) #[] fcap], celP ead [iV e.kind, iV e.n, iV e.range, .string e.word, .slice e.ms.A e.ms.l.length e.ms.c, .slice e.by_.A e.by_.l.length e.by_.c, .slice e.kids.A e.kids.l.length e.kids.c], okP zC.Ok e], Pb⟩ [(o n), .dat S C, celP vad [iV time, .func (.func f) #[] fcap], celP ead [iV e.kind, iV e.n, iV e.range, .string e.word, .slice e.ms.A e.ms.l.length e.ms.c, .slice e.by_.A e.by_.l.length e.by_.c, .slice e.kids.A e.kids.l.length e.kids.c], okP zC.Ok e] w) (hf : WinG prog f fcap o S C lk sk) (hg : Mn.GoodLook lk) (ht : 0 ≤ time ∧ time ≤ 1000000) (hr : Mn.right e.e) (ih : ∀ k : zC, SizeOf.sizeOf k < SizeOf.sizeOf e → uu k) :
    Calls prog 103 #[.pointer (some ((Addr.add vad 0).add 0)),.pointer (some ((Addr.add ead 0).add 0))] w (RetA w [(o n),.dat S C,celP vad [iV time,.func (.func f) #[] fcap],celP ead [iV e.kind,iV e.n,iV e.range,.string e.word,.slice e.ms.A e.ms.l.length e.ms.c,.slice e.by_.A e.by_.l.length e.by_.c,.slice e.kids.A e.kids.l.length e.kids.c],okP zC.Ok e] Pb (fun z:yO=>.tuple #[.agg (uU z).toArray,iV (Mn.eval lk time e.e).2]) (fun z=>z.e=(Mn.eval lk time e.e).1) (fun z=>[okP yO.Ok z,o (Mn.evalN lk sk time e.e n),celP vad [iV time,.func (.func f) #[] fcap],celP ead (yh e),okP zC.Ok e])):=by
 have hwe:=(hG.vP (i:=4) rfl).wf
 have hre:=(Mn.right_e hr).1
 have hrk:=(Mn.right_e hr).2
 refine fstart (N:=89) (vals:=[.pointer (some ((Addr.add vad 0).add 0)),.pointer (some ((Addr.add ead 0).add 0))]) (S:=Mem w ⟨fpOf [(o n),.dat S C,celP vad [iV time,.func (.func f) #[] fcap],celP ead [iV e.kind,iV e.n,iV e.range,.string e.word,.slice e.ms.A e.ms.l.length e.ms.c,.slice e.by_.A e.by_.l.length e.by_.c,.slice e.kids.A e.kids.l.length e.kids.c],okP zC.Ok e],Pb⟩ [(o n),.dat S C,celP vad [iV time,.func (.func f) #[] fcap],celP ead [iV e.kind,iV e.n,iV e.range,.string e.word,.slice e.ms.A e.ms.l.length e.ms.c,.slice e.by_.A e.by_.l.length e.by_.c,.slice e.kids.A e.kids.l.length e.kids.c],okP zC.Ok e]) func103 rfl rfl rfl hG (zG fun _ hK1=>zy wn inf172 rfl fun b4=>zO rfl (zD hK1 (zS fun _ hK2=>zG fun _ hK3=>zE rfl (zB (zR rfl) (zB (y0 rfl fld59_0) (zB (yy 4 rfl rfl rfl flat3) (zD hK3 ?_)))))))
 refine zl (zG fun _ hK4=>zB (yj rfl rfl) (zO rfl (zD hK4 (za rfl (fun h1=>?_) (fun h1=>?_)))))
 · refine zG fun _ hK5=>zE rfl (zB (zR rfl) (zB (y0 rfl fld59_1) (zB (yy 4 rfl rfl rfl flat3) (zB (zw [.bool false,iV e.n,Zs] pl172 inf172 rfl rfl) (zn 0 wn rfl rfl rfl inf172 rfl rfl rfl (zO rfl (zD hK5 (zV (yD (zJ (yT (.inl rfl) results103 (zo 0 rfl rfl agg172 inf172 rfl) (zQ rfl) fun w1 hM=>?_)))))))))))
   have hb9:Mn.eval lk time e.e=(⟨false,e.n,[]⟩,0):=by rw [Mn.eval_e,if_pos h1]
   have hn9:n=Mn.evalN lk sk time e.e n:=by rw [Mn.evalN_e lk sk time e n,if_pos h1]
   have hM:=hM.vT (yO.Ok.loc (⟨false,e.n,⟨none,0,[]⟩⟩:yO)) fun Pb pp=>⟨zK.ym _ _ _ _,fun c hc=>by cases hc⟩
   exact hM.vS (⟨false,e.n,⟨none,0,[]⟩⟩:yO) (by first | (rw [hb9]; done) | (rw [hb9]; rfl)) (by first | (rw [hb9]; done) | (rw [hb9]; rfl)) (fun h=>by rw [← hn9]; exact h.sel [0,2,4,5,6] (by decide) rfl)
 refine zG fun _ hK6=>zB (yj rfl rfl) (zO rfl (zD hK6 (za rfl (fun h2=>?_) (fun h2=>?_))))
 · refine zG fun _ hK7=>zE rfl (zE rfl (yU (fun _ h=>h.dup 2 rfl rfl) (vK (α:=yO) [(o n),.dat S C,celP vad [iV time,.func (.func f) #[] fcap],celP ead [iV e.kind,iV e.n,iV e.range,.string e.word,.slice e.ms.A e.ms.l.length e.ms.c,.slice e.by_.A e.by_.l.length e.by_.c,.slice e.kids.A e.kids.l.length e.kids.c],okP zC.Ok e] [.blk b4 [.bool false,iV 0,Zs] 172,.dat S C] (fun z=>.tuple #[.agg (uU z).toArray,iV (Mn.window lk time e.word e.ms.l e.range).2]) (fun z=>z.e=(Mn.window lk time e.word e.ms.l e.range).1) (fun z1=>[okP yO.Ok z1,(o (sk e.ms.l (Mn.frm time e.range) time n)),celP vad [iV time,.func (.func f) #[] fcap],celP ead [iV e.kind,iV e.n,iV e.range,.string e.word,.slice e.ms.A e.ms.l.length e.ms.c,.slice e.by_.A e.by_.l.length e.by_.c,.slice e.kids.A e.kids.l.length e.kids.c],okP zC.Ok e]) _ (fun _=>rfl) (S9 [2,0,4,5,6,1,3]) (fun _=>hq5 (hf.ok _)) wn rfl rfl call155 rfl (fun w1 Pb hG=>c_gwindow vad ead time n f fcap o S C lk sk e Pb w1 hG hf hg ht (by omega)) fun z1 hz1=>vh 0 rfl (fun S w h=>yO.Ok.wf h) fun hw1=>zB (yI rfl rfl) (zB (yI rfl rfl) (zn 5 wn rfl rfl rfl inf172 rfl rfl rfl (zO rfl (zD hK7 (zV (yD (zJ (yT (.inl rfl) results103 (zo 5 rfl rfl agg172 inf172 rfl) (zQ rfl) fun w1 hM=>?_)))))))))))
   have hb9:Mn.eval lk time e.e=Mn.window lk time e.word e.ms.l e.range:=by rw [Mn.eval_e,if_neg h1,if_pos h2]
   have hn9:(sk e.ms.l (Mn.frm time e.range) time n)=Mn.evalN lk sk time e.e n:=by rw [Mn.evalN_e lk sk time e n,if_neg h1,if_pos h2]
   have hM:=hM.vT (yO.Ok.loc z1) fun Pb pp=>pp.at_ 0 _ rfl
   exact hM.vS z1 (by first | (rw [hb9]; done) | (rw [hb9]; rfl)) (by rw [hb9]; exact hz1) (fun h=>by rw [← hn9]; exact h.sel [0,2,3,4,5] (by decide) rfl)
 refine yV (zm (yC hK2 (zG fun _ hK8=>vB (uU:yO→List Value) 172 3 (yU (fun _ h=>h.all0 yO.Ok.loc) (zO rfl (zD hK8 (zS fun _ hK9=>zG fun _ hK10=>zE rfl (zB (zR rfl) (zB (y0 rfl fld59_6) (zB (yy 6 rfl rfl rfl flat57) ?_))))))))))
 refine zB (yg rfl underlying57) (zE rfl (zD hK10 (zl (uI (fun (k:Nat) (vs:List yO) (m:Int) (vv:Value)=>[(0,.pointer (some ((Addr.add vad 0).add 0))),(1,.pointer (some ((Addr.add ead 0).add 0))),(4,.pointer (some ⟨b4,0,none⟩)),(6,vv),(32,iV e.kids.l.length),(33,iV k)]) (fun (k:Nat) (vs:List yO) (m:Int) (vv:Value)=>[allP yO.Ok vs,Row vv 172 3 uU vs,.blk b4 [.bool false,iV 0,Zs] 172,(o m),.dat S C,celP vad [iV time,.func (.func f) #[] fcap],celP ead [iV e.kind,iV e.n,iV e.range,.string e.word,.slice e.ms.A e.ms.l.length e.ms.c,.slice e.by_.A e.by_.l.length e.by_.c,.slice e.kids.A e.kids.l.length e.kids.c],okP zC.Ok e]) (fun (k:Nat) (vs:List yO) (m:Int) (vv:Value)=>k≤e.kids.l.length∧(∀ x ∈ vs,yO.Wf x)∧Mn.evals lk time (e.kids.l.map zC.e)=(vs.map yO.e++(Mn.evals lk time ((e.kids.l.drop k).map zC.e)).1,(Mn.evals lk time ((e.kids.l.drop k).map zC.e)).2)∧vs.length=k∧Mn.evalsN lk sk time (e.kids.l.map zC.e) n=Mn.evalsN lk sk time ((e.kids.l.drop k).map zC.e) m) (fun (k:Nat) (vs:List yO) (m:Int) (vv:Value)=>e.kids.l.length - k) 0 [] n (Zs) (sc rfl (sc rfl (sc rfl (sc rfl (sc rfl (sc (ji (by omega)) sn)))))) (fun _ h=>h) ?_ (fun k vs m vv hI1=>?_)))))
 · exact ⟨Nat.zero_le _,fun x hx=>(by cases hx),Mn.evals_0 _ _ _,rfl,rfl⟩
 have hwf:=hI1.2.1
 have hlen:=hI1.2.2.2.1
 refine vV 1 (l:=vs) rfl fun A1 cp1 hv1 hc1 hm1 hA1=>?_
 subst hv1
 refine zG fun _ hK11=>zB (yR rfl rfl) (zD hK11 (zS fun _ hK12=>za rfl (fun h3=>?_) (fun h3=>?_)))
 · refine yL hK12 (zS fun _ hK13=>zl (zG fun _ hK14=>zE rfl (zO rfl (zD hK14 (zG fun _ hK15=>zE rfl (zE rfl (zB (zR rfl) (zB (y0 rfl fld59_6) ?_))))))))
   refine zB (yy 6 rfl rfl rfl flat57) (zE rfl (yU (fun _ h=>h.exprX 7 rfl) ?_))
   obtain ⟨hc2,hm2,hA2⟩:=hwe.ms
   obtain ⟨hc3,hm3,hA3⟩:=hwe.by_
   obtain ⟨hc4,hm4,hA4⟩:=hwe.kids
   obtain ⟨ad1,hd1⟩:=hA4 (ne_nil (i:=k) (by first | omega | (simp <;> omega)))
   refine zB (vC (i:=k) rfl hd1 rfl (by omega) (by first | omega | (simp <;> omega)) underlying57 inf59) ?_
   obtain ⟨s1,hs1⟩:∃ x,e.kids.l[k]?=some x:=⟨_,List.getElem?_eq_getElem (by first | omega | (simp <;> omega))⟩
   refine yU (fun _ h=>h.celAt 2 rfl hd1 hs1) ?_
   have hw2:=hwe.all _ (List.mem_of_getElem? hs1)
   refine yU (fun _ h=>h.one 4 zC.Ok.loc rfl hs1) (yU (fun _ h=>h.dup 10 rfl rfl) (vK (α:=yO) [(o m),.dat S C,celP vad [iV time,.func (.func f) #[] fcap],celP (Addr.add ad1 (k * 7)) [iV s1.kind,iV s1.n,iV s1.range,.string s1.word,.slice s1.ms.A s1.ms.l.length s1.ms.c,.slice s1.by_.A s1.by_.l.length s1.by_.c,.slice s1.kids.A s1.kids.l.length s1.kids.c],okP zC.Ok s1] [slP 3 ya (.slice e.ms.A e.ms.l.length e.ms.c) e.ms.l,slP 1 strE (.slice e.by_.A e.by_.l.length e.by_.c) e.by_.l,slP 7 yh (.slice e.kids.A e.kids.l.length e.kids.c) e.kids.l,allP zC.Ok e.kids.l,allP yO.Ok vs,Row (.slice A1 vs.length cp1) 172 3 uU vs,.blk b4 [.bool false,iV 0,Zs] 172,.dat S C,celP ead [iV e.kind,iV e.n,iV e.range,.string e.word,.slice e.ms.A e.ms.l.length e.ms.c,.slice e.by_.A e.by_.l.length e.by_.c,.slice e.kids.A e.kids.l.length e.kids.c],okP zC.Ok e] (fun z=>.tuple #[.agg (uU z).toArray,iV (Mn.eval lk time s1.e).2]) (fun z=>z.e=(Mn.eval lk time s1.e).1) (fun z2=>[okP yO.Ok z2,(o (Mn.evalN lk sk time s1.e m)),celP vad [iV time,.func (.func f) #[] fcap],celP (Addr.add ad1 (k * 7)) [iV s1.kind,iV s1.n,iV s1.range,.string s1.word,.slice s1.ms.A s1.ms.l.length s1.ms.c,.slice s1.by_.A s1.by_.l.length s1.by_.c,.slice s1.kids.A s1.kids.l.length s1.kids.c],okP zC.Ok s1]) _ (fun _=>rfl) (S9 [10,0,12,2,1,3,4,5,6,7,8,9,11,13,14]) (fun _=>hq5 (hf.ok _)) wn rfl rfl call103 rfl (fun w1 Pb hG=>ih s1 (zC.kid_lt (List.mem_of_getElem? hs1)) vad (Addr.add ad1 (k * 7)) time m f fcap o S C lk sk Pb w1 hG hf hg ht (hrk _ (List.mem_of_getElem? (by assumption)))) fun z2 hz2=>vh 0 rfl (fun S w h=>yO.Ok.wf h) fun hw3=>zE rfl (zB (yI rfl rfl) (zB (yI rfl rfl) (zy wn inf172 rfl fun b8=>zn 0 wn rfl rfl rfl inf172 rfl rfl rfl (zO rfl (zD hK15 (zS fun _ hK16=>?_))))))))
   refine zG fun _ hK17=>zE rfl (zB (vH rfl rfl) (zD hK17 (za rfl (fun h4=>?_) (fun h4=>?_))))
   · refine zG fun _ hK18=>zB (zw [.bool false,iV 0,Zs] pl172 inf172 rfl rfl) (zE rfl (zn 12 wn rfl rfl rfl inf172 rfl rfl rfl (zO rfl (zD hK18 (zV (zJ (yD (zJ (e_loop4_r (yD (zJ (yT (.inl rfl) results103 (zo 12 rfl rfl agg172 inf172 rfl) (zQ rfl) fun w1 hM=>?_))))))))))))
     have hv9:=Mn.evals_bad hI1.2.2.1 hs1 h4
     have hb9:Mn.eval lk time e.e=(Mn.zero,(Mn.eval lk time s1.e).2):=by rw [Mn.eval_e,if_neg h1,if_neg h2,if_pos (by rw [hv9]; exact h4),hv9]
     have hn9:(Mn.evalN lk sk time s1.e m)=Mn.evalN lk sk time e.e n:=by rw [Mn.evalN_e lk sk time e n,if_neg h1,if_neg h2]; exact (Mn.evalsN_bad hI1.2.2.2.2 hs1 h4).symm
     have hM:=hM.vT (yO.Ok.loc (⟨false,0,⟨none,0,[]⟩⟩:yO)) fun Pb pp=>⟨zK.ym _ _ _ _,fun c hc=>by cases hc⟩
     exact hM.vS (⟨false,0,⟨none,0,[]⟩⟩:yO) (by first | (rw [hb9]; done) | (rw [hb9]; rfl)) (by first | (rw [hb9]; done) | (rw [hb9]; rfl)) (fun h=>by rw [← hn9]; exact h.sel [0,3,4,15,16] (by decide) rfl)
   refine yL hK16 (zL (zE rfl (zB (yM 0 [.bool z2.vec,iV z2.n,.slice z2.cells.A z2.cells.l.length z2.cells.c] rfl rfl rfl rfl agg172 inf172) (yt uU ([z2]:List yO) wn underlying224 inf172 rfl rfl rfl rfl (by decide) (by decide) rfl fun b53=>vD 12 vs ([z2]:List yO) encValX wn rfl rfl rfl (fun _ hM=>(RowSl encValX hM 0 rfl)) underlying224 inf172 rfl rfl (by simp only [List.length_append,List.length_cons,List.length_nil]; omega) rfl fun A2 cp2 hc5 hm5 hA5=>yU (fun _ h=>h.allSnoc 11 2 yO.Ok.loc rfl rfl) ?_))))
   have hw4:∀ x ∈ (vs++([z2]:List yO)),yO.Wf x:=fun x hx=>(List.mem_append.1 hx).elim (hwf x) fun h=>by rw [List.mem_singleton.1 h]; exact hw3
   refine zO rfl (zj (zm (yC hK13 (zL (zB (zz rfl rfl (by omega)) (zE rfl (zj (vW (k + 1) (vs++([z2]:List yO)) (Mn.evalN lk sk time s1.e m) (.slice A2 ((vs++([z2]:List yO)).length) cp2) (sc rfl (sc rfl (sc rfl (sc rfl (sc rfl (sc (ji (by omega)) sn)))))) (S9 [0,13,14,4,15,5,16,17]) ?_ ?_))))))))
   · exact ⟨by omega,hw4,Mn.evals_next hI1.2.2.1 hs1 hz2 (by have:=h4; omega),by simp only [List.length_append,List.length_cons,List.length_nil]; omega,Mn.evalsN_next hI1.2.2.2.2 hs1 (by have:=h4; omega)⟩
   omega
 refine yc (yH (v7 (yJ (yC hK9 (zS fun _ hK19=>zG fun _ hK20=>?_)))))
 have hev:=Mn.evals_end hI1.2.2.1 (by omega)
 have hgs:=Mn.good_of hg hev hrk
 refine zE rfl (zB (zR rfl) (zB (y0 rfl fld59_0) (zB (yy 6 rfl rfl rfl flat3) (zB (yj rfl rfl) (zD hK20 (za rfl (fun h5=>?_) (fun h5=>?_)))))))
 · refine zS fun _ hK21=>vG (Mem w ⟨fpOf [(o n),.dat S C,celP vad [iV time,.func (.func f) #[] fcap],celP ead [iV e.kind,iV e.n,iV e.range,.string e.word,.slice e.ms.A e.ms.l.length e.ms.c,.slice e.by_.A e.by_.l.length e.by_.c,.slice e.kids.A e.kids.l.length e.kids.c],okP zC.Ok e],Pb⟩ [allP yO.Ok vs,Row (.slice A1 vs.length cp1) 172 3 uU vs,(o m),.dat S C,celP vad [iV time,.func (.func f) #[] fcap],celP ead [iV e.kind,iV e.n,iV e.range,.string e.word,.slice e.ms.A e.ms.l.length e.ms.c,.slice e.by_.A e.by_.l.length e.by_.c,.slice e.kids.A e.kids.l.length e.kids.c],okP zC.Ok e]) mix (fun _ h=>h.drew) rfl (vE 5 [0,1,2,3,4,5,6,7,8,9,10,11] [0,1,3,4,5,6,7] rfl fun KS hKS=>yB (zg rfl) (yB (zR rfl) (yB (y0 rfl fld59_3) (yB (yy 5 rfl rfl rfl flat9) (yB (zg rfl) (yB (zR rfl) (yB (y0 rfl fld59_5) (yB (yy 5 rfl rfl rfl flat56) (yB (zg rfl) ?_)))))))))
   obtain ⟨ad2,hd2⟩:=hA1 (ne_nil (i:=0) (by first | omega | (simp <;> omega)))
   refine yB (vC (i:=0) rfl hd2 rfl (by omega) (by first | omega | (simp <;> omega)) underlying224 inf172) (yB (y0 rfl fld172_2) ?_)
   obtain ⟨s2,hs2⟩:∃ x,vs[0]?=some x:=⟨_,List.getElem?_eq_getElem (by first | omega | (simp <;> omega))⟩
   obtain ⟨hx1_s2,hx2_s2,hx3_s2,hx4_s2⟩:=(hgs _ (List.mem_of_getElem? hs2)).x
   refine yB (uz 1 encValX rfl rfl hd2 hs2 rfl flat32) (yZ hKS (yW 4 12 (yX (i:=12) rfl fun KN hKN=>yU (fun _ h=>h.exprX 7 rfl) ?_)))
   obtain ⟨hc6,hm6,hA6⟩:=hwe.ms
   obtain ⟨hc7,hm7,hA7⟩:=hwe.by_
   obtain ⟨hc8,hm8,hA8⟩:=hwe.kids
   have hw5:=hwf _ (List.mem_of_getElem? hs2)
   refine yU (fun _ h=>h.one 4 yO.Ok.loc rfl hs2) (yU (fun _ h=>h.valX 0 rfl) ?_)
   obtain ⟨hc9,hm9,hA9⟩:=hw5.cells
   refine vL (β:=yO) (fun z=>.tuple #[.agg (uU z).toArray,iV ((Mn.all e.word e.by_.l (s2.cells.l.map zM.e)).2)]) (fun z=>z.e=(Mn.all e.word e.by_.l (s2.cells.l.map zM.e)).1) (fun z S=>yO.Ok S z) (fun z=>yO.Ok.loc z) wn rfl call156 rfl (fun w1 Pb hM pp=>c_mall e.word _ e.by_.l _ s2.cells.l Pb w1 pp.lt (pp.sl 4 rfl) (pp.sl 0 rfl) (pp.at_ 1 _ rfl) (by assumption) (by assumption) (by assumption)) fun z3 hz3=>vh 0 rfl (fun S w h=>yO.Ok.wf h) fun hw6=>yP hKN [8,9,11,12,13,14,15] (vE 2 [13,14] [8,9,11,12,13,14,15] rfl fun KS hKS=>yB (yI rfl rfl) (yB (yI rfl rfl) (yZ hKS (yW 1 15 (yX (i:=15) rfl fun KN hKN=>zn 10 wn rfl rfl rfl inf172 rfl rfl rfl (yP hKN [8,9,11,12,13,14,15] (vE 0 [16] [8,9,11,12,13,14,15] rfl fun KS hKS=>?_)))))))
   refine yB (yf rfl) (yZ hKS (yp (by kernel_rfl) (yC hK21 (zV (zJ (yT (.inl rfl) results103 (zo 10 rfl rfl agg172 inf172 rfl) (zQ rfl) fun w1 hM=>?_))))))
   have hb9:Mn.eval lk time e.e=Mn.all e.word e.by_.l (s2.cells.l.map zM.e):=by rw [Mn.eval_e,if_neg h1,if_neg h2,if_neg (by rw [hev]; simp),hev,Mn.close_all h5 hs2]
   have hn9:m=Mn.evalN lk sk time e.e n:=by rw [Mn.evalN_e lk sk time e n,if_neg h1,if_neg h2]; exact (Mn.evalsN_end hI1.2.2.2.2 (by omega)).symm
   have hM:=hM.vT (yO.Ok.loc z3) fun Pb pp=>pp.at_ 0 _ rfl
   exact hM.vS z3 (by first | (rw [hb9]; done) | (rw [hb9]; rfl)) (by rw [hb9]; exact hz3) (fun h=>by rw [← hn9]; exact h.sel [0,12,14,15,16] (by decide) rfl)
 refine yL hK19 (zS fun _ hK22=>vG (Mem w ⟨fpOf [(o n),.dat S C,celP vad [iV time,.func (.func f) #[] fcap],celP ead [iV e.kind,iV e.n,iV e.range,.string e.word,.slice e.ms.A e.ms.l.length e.ms.c,.slice e.by_.A e.by_.l.length e.by_.c,.slice e.kids.A e.kids.l.length e.kids.c],okP zC.Ok e],Pb⟩ [allP yO.Ok vs,Row (.slice A1 vs.length cp1) 172 3 uU vs,(o m),.dat S C,celP vad [iV time,.func (.func f) #[] fcap],celP ead [iV e.kind,iV e.n,iV e.range,.string e.word,.slice e.ms.A e.ms.l.length e.ms.c,.slice e.by_.A e.by_.l.length e.by_.c,.slice e.kids.A e.kids.l.length e.kids.c],okP zC.Ok e]) mix (fun _ h=>h.drew) rfl (vE 5 [0,1,2,3,4,5,6,7,8,9] [0,1,3,4,5,6,7] rfl fun KS hKS=>yB (zg rfl) (yB (zR rfl) (yB (y0 rfl fld59_3) (yB (yy 5 rfl rfl rfl flat9) (yB (zg rfl) ?_))))))
 obtain ⟨ad3,hd3⟩:=hA1 (ne_nil (i:=0) (by first | omega | (simp <;> omega)))
 refine yB (vC (i:=0) rfl hd3 rfl (by omega) (by first | omega | (simp <;> omega)) underlying224 inf172) ?_
 obtain ⟨s3,hs3⟩:∃ x,vs[0]?=some x:=⟨_,List.getElem?_eq_getElem (by first | omega | (simp <;> omega))⟩
 obtain ⟨hx1_s3,hx2_s3,hx3_s3,hx4_s3⟩:=(hgs _ (List.mem_of_getElem? hs3)).x
 refine yB (u9 1 [.bool s3.vec,iV s3.n,.slice s3.cells.A s3.cells.l.length s3.cells.c] encValX rfl rfl hd3 hs3 rfl rfl agg172 inf172) (yB (zg rfl) (yB (vC (i:=1) rfl hd3 rfl (by omega) (by first | omega | (simp <;> omega)) underlying224 inf172) ?_))
 obtain ⟨s4,hs4⟩:∃ x,vs[1]?=some x:=⟨_,List.getElem?_eq_getElem (by first | omega | (simp <;> omega))⟩
 obtain ⟨hx1_s4,hx2_s4,hx3_s4,hx4_s4⟩:=(hgs _ (List.mem_of_getElem? hs4)).x
 refine yB (u9 1 [.bool s4.vec,iV s4.n,.slice s4.cells.A s4.cells.l.length s4.cells.c] encValX rfl rfl hd3 hs4 rfl rfl agg172 inf172) (yZ hKS (yW 4 10 (yX (i:=10) rfl fun KN hKN=>?_)))
 have hw7:=hwf _ (List.mem_of_getElem? hs3)
 refine yU (fun _ h=>h.one 0 yO.Ok.loc rfl hs3) ?_
 have hw8:=hwf _ (List.mem_of_getElem? hs4)
 refine yU (fun _ h=>h.one 1 yO.Ok.loc rfl hs4) (vL (β:=yO) (fun z=>.tuple #[.agg (uU z).toArray,iV ((Mn.bin e.word s3.e s4.e).2)]) (fun z=>z.e=(Mn.bin e.word s3.e s4.e).1) (fun z S=>yO.Ok S z) (fun z=>yO.Ok.loc z) wn rfl call157 rfl (fun w1 Pb hM pp=>c_bin e.word s3 s4 Pb w1 pp.lt (pp.at_ 1 _ rfl) (pp.at_ 0 _ rfl) (by assumption) (by assumption) (by assumption) (by assumption)) fun z4 hz4=>vh 0 rfl (fun S w h=>yO.Ok.wf h) fun hw9=>yP hKN [3,4,6,7,8,9,10] (vE 2 [11,12] [3,4,6,7,8,9,10] rfl fun KS hKS=>yB (yI rfl rfl) (yB (yI rfl rfl) (yZ hKS (yW 1 13 (yX (i:=13) rfl fun KN hKN=>zn 5 wn rfl rfl rfl inf172 rfl rfl rfl (yP hKN [3,4,6,7,8,9,10] ?_)))))))
 refine vE 0 [14] [3,4,6,7,8,9,10] rfl fun KS hKS=>yB (yf rfl) (yZ hKS (yp (by kernel_rfl) (yC hK22 (zV (yT (.inl rfl) results103 (zo 5 rfl rfl agg172 inf172 rfl) (zQ rfl) fun w1 hM=>?_)))))
 have hb9:Mn.eval lk time e.e=Mn.bin e.word s3.e s4.e:=by rw [Mn.eval_e,if_neg h1,if_neg h2,if_neg (by rw [hev]; simp),hev,Mn.close_bin h5 hs3 hs4]
 have hn9:m=Mn.evalN lk sk time e.e n:=by rw [Mn.evalN_e lk sk time e n,if_neg h1,if_neg h2]; exact (Mn.evalsN_end hI1.2.2.2.2 (by omega)).symm
 have hM:=hM.vT (yO.Ok.loc z4) fun Pb pp=>pp.at_ 0 _ rfl
 exact hM.vS z4 (by first | (rw [hb9]; done) | (rw [hb9]; rfl)) (by rw [hb9]; exact hz4) (fun h=>by rw [← hn9]; exact h.sel [0,7,9,10,11] (by decide) rfl)
theorem c_gexpr_step (e:zC) (ih:∀ k:zC,SizeOf.sizeOf k < SizeOf.sizeOf e→uu k):uu e:=fun vad ead time n f fcap o S C lk sk Pb w hG hf hg ht hr=>c_gexpr vad ead time n f fcap o S C lk sk e Pb w hG hf hg ht hr ih
theorem c_gexpr_all (e:zC):uu e:=recX c_gexpr_step e
theorem c_geval (time n : Int) (f : Nat) (fcap : Array Value) (o : Int → Own) (S : Nat → Prop) (C : World → Prop) (lk : Look) (sk : Sk) (e : zC) (Pb : Nat → Prop) (w : World) (hG : Mem w ⟨fpOf [(o n), .dat S C, okP zC.Ok e], Pb⟩ [(o n), .dat S C, okP zC.Ok e] w) (hf : WinG prog f fcap o S C lk sk) (hg : Mn.GoodLook lk) (ht : 0 ≤ time ∧ time ≤ 1000000) (hr : Mn.right e.e) :
    Calls prog 58 #[.agg (List.toArray [iV e.kind,iV e.n,iV e.range,.string e.word,.slice e.ms.A e.ms.l.length e.ms.c,.slice e.by_.A e.by_.l.length e.by_.c,.slice e.kids.A e.kids.l.length e.kids.c]),iV time,.func (.func f) #[] fcap] w (RetA w [(o n),.dat S C,okP zC.Ok e] Pb (celsV (Mn.out (Mn.eval lk time e.e)).2) (fun z=>z.l.map zM.e=(Mn.out (Mn.eval lk time e.e)).1) (fun z=>[okP CelsX.Ok z,o (Mn.evalN lk sk time e.e n),okP zC.Ok e])):=by
 have hwe:=(hG.vP (i:=2) rfl).wf
 refine fstart (N:=30) (vals:=[.agg (List.toArray [iV e.kind,iV e.n,iV e.range,.string e.word,.slice e.ms.A e.ms.l.length e.ms.c,.slice e.by_.A e.by_.l.length e.by_.c,.slice e.kids.A e.kids.l.length e.kids.c]),iV time,.func (.func f) #[] fcap]) (S:=Mem w ⟨fpOf [(o n),.dat S C,okP zC.Ok e],Pb⟩ [(o n),.dat S C,okP zC.Ok e]) func58 rfl rfl rfl hG (zG fun _ hK1=>vR wn rfl rfl fun b3=>zO rfl (zO rfl (zD hK1 (zG fun _ hK2=>zE rfl (zE rfl (zB (zw [iV time,.func (.func f) #[] fcap] pl176 inf176 rfl rfl) (vR wn rfl rfl fun b14=>l_sealBO 1 2 rfl rfl rfl (fun b hb=>hf.fpc _ _ b (only3 b hb)) ?_)))))))
 refine l_sealBO 0 2 rfl rfl rfl (fun b hb=>hf.fpc _ _ b (only3 b hb)) (yU (fun _ h=>h.dup 3 rfl rfl) (vK (α:=yO) [(o n),.dat S C,celP ⟨b14,0,none⟩ [iV time,.func (.func f) #[] fcap],celP ⟨b3,0,none⟩ [iV e.kind,iV e.n,iV e.range,.string e.word,.slice e.ms.A e.ms.l.length e.ms.c,.slice e.by_.A e.by_.l.length e.by_.c,.slice e.kids.A e.kids.l.length e.kids.c],okP zC.Ok e] [.dat S C] (fun z=>.tuple #[.agg (uU z).toArray,iV (Mn.eval lk time e.e).2]) (fun z=>z.e=(Mn.eval lk time e.e).1) (fun z1=>[okP yO.Ok z1,(o (Mn.evalN lk sk time e.e n)),celP ⟨b14,0,none⟩ [iV time,.func (.func f) #[] fcap],celP ⟨b3,0,none⟩ [iV e.kind,iV e.n,iV e.range,.string e.word,.slice e.ms.A e.ms.l.length e.ms.c,.slice e.by_.A e.by_.l.length e.by_.c,.slice e.kids.A e.kids.l.length e.kids.c],okP zC.Ok e]) _ (fun _=>rfl) (S9 [3,0,1,2,5,4]) (fun _=>hq5 (hf.ok _)) wn rfl rfl call103 rfl (fun w1 Pb hG=>c_gexpr_all e ⟨b14,0,none⟩ ⟨b3,0,none⟩ time n f fcap o S C lk sk Pb w1 hG hf hg ht hr) fun z1 hz1=>vh 0 rfl (fun S w h=>yO.Ok.wf h) fun hw1=>zE rfl (zB (yI rfl rfl) (zB (yI rfl rfl) (zy wn inf172 rfl fun b8=>zn 0 wn rfl rfl rfl inf172 rfl rfl rfl (zO rfl (zD hK2 (zS fun _ hK3=>?_))))))))
 refine zG fun _ hK4=>zE rfl (zB (vH rfl rfl) (zD hK4 (za rfl (fun h1=>?_) (fun h1=>?_))))
 · refine zG fun _ hK5=>zE rfl (zO rfl (zO rfl (zD hK5 (zV (zJ (yT (.inl rfl) results58 (zQ rfl) (zQ rfl) fun w1 hM=>?_))))))
   have hb9:Mn.out (Mn.eval lk time e.e)=([],(Mn.eval lk time e.e).2):=by rw [Mn.out,if_pos (by simpa using h1)]
   have hM:=hM.vT (CelsX.Ok.loc (⟨none,0,[]⟩:SlX zM)) fun Pb pp=>⟨zK.ym _ _ _ _,fun c hc=>(by cases hc)⟩
   exact hM.vS (⟨none,0,[]⟩:SlX zM) (by first | (rw [hb9]; done) | (rw [hb9]; rfl)) (by first | (rw [hb9]; done) | (rw [hb9]; rfl)) (fun h=>h.sel [0,3,6] (by decide) rfl)
 refine yL hK3 (zS fun _ hK6=>zG fun _ hK7=>zB (zc rfl fld172_0) (zB (zi 0 rfl rfl rfl flat4) (zB (y5 rfl) (zD hK7 (yl rfl (fun h2=>?_) (fun h2=>?_))))))
 · refine zG fun _ hK8=>zB (zc rfl fld172_1) (zB (zi 0 rfl rfl rfl flat3) (zB (zw [Zs,iV z1.n] pl81 inf81 rfl rfl) (yt ye ([(zM.mk ⟨none,0,[]⟩ z1.n)]:List zM) wn underlying32 inf81 rfl rfl rfl rfl (by decide) (by decide) rfl fun b27=>zO rfl (zO rfl (zD hK8 (zV (zJ (yT (.inl rfl) results58 (zQ rfl) (zQ rfl) fun w1 hM=>?_))))))))
   have hv9:(Mn.eval lk time e.e).1.vec=z1.vec:=by rw [← hz1]; rfl
   have hn9:(Mn.eval lk time e.e).1.n=z1.n:=by rw [← hz1]; rfl
   have hb9:Mn.out (Mn.eval lk time e.e)=([⟨[],z1.n⟩],0):=by rw [Mn.out,if_neg (by simpa using h1),if_neg (by rw [hv9]; simpa using h2),hn9]
   have hM:=hM.uk encCellX (i:=0) (j:=3) rfl rfl (by decide) (fun b hb=>hf.fpc _ _ b (only3 b hb))
   have hM:=hM.vT (CelsX.Ok.loc (⟨(some ⟨b27,0,none⟩),1,([(zM.mk ⟨none,0,[]⟩ z1.n)]:List zM)⟩:SlX zM)) fun Pb pp=>⟨pp.sl 0 rfl,fun c hc=>by obtain rfl:=List.mem_singleton.1 hc; exact ⟨zK.ym _ _ _ _⟩⟩
   exact hM.vS (⟨(some ⟨b27,0,none⟩),1,([(zM.mk ⟨none,0,[]⟩ z1.n)]:List zM)⟩:SlX zM) (by first | (rw [hb9]; done) | (rw [hb9]; rfl)) (by first | (rw [hb9]; done) | (rw [hb9]; rfl)) (fun h=>h.sel [0,4,7] (by decide) rfl)
 refine yL hK6 (zG fun _ hK9=>zB (zc rfl fld172_2) (zB (zi 0 rfl rfl rfl flat32) (zO rfl (zO rfl (zD hK9 (zV (yT (.inl rfl) results58 (zQ rfl) (zQ rfl) fun w1 hM=>?_)))))))
 have hv9:(Mn.eval lk time e.e).1.vec=z1.vec:=by rw [← hz1]; rfl
 have hn9:(Mn.eval lk time e.e).1.cells=z1.cells.l.map zM.e:=by rw [← hz1]; rfl
 have hb9:Mn.out (Mn.eval lk time e.e)=(z1.cells.l.map zM.e,0):=by rw [Mn.out,if_neg (by simpa using h1),if_pos (by rw [hv9]; simpa using h2),hn9]
 have hM:=hM.vT (CelsX.Ok.loc z1.cells) fun Pb pp=>⟨(pp.at_ 1 _ rfl).cells,(pp.at_ 1 _ rfl).all⟩
 exact hM.vS z1.cells (by first | (rw [hb9]; done) | (rw [hb9]; rfl)) (by first | (rw [hb9]; done) | (rw [hb9]; rfl)) (fun h=>h.sel [0,3,6] (by decide) rfl)
end
end Go.Proofs.YtgojhpocpajmlaaGreatDoor
