/- Laws and walks for the proof of TopWords, packed by program; each theorem bears its own conditions. -/
import Derived.Defers
import Derived.Recover
import Derived.Test.YtgojhpocpajmlaaGreatDoorKWrd4
namespace Go.Proofs.YtgojhpocpajmlaaGreatDoor
section
open Tryz
open Ex
attribute [local irreducible] WC WL WQ WE WS
set_option linter.unusedVariables false
set_option linter.unusedSimpArgs false
set_option maxHeartbeats 2000000 in
theorem c_bin (wd:ByteArray) (a:zd) (b:zd) (P0:Nat→Prop) (w:World) (hP0:∀ b,P0 b→b < w.heap.size) (ha:zd.Ok P0 a w) (hb:zd.Ok P0 b w) (hba:Mn.Bnd a.e) (hbb:Mn.Bnd b.e) (hla:a.cells.l.length≤1048576) (hlb:b.cells.l.length≤1048576) :
    Calls prog 157 #[.string wd,.agg (vn a).toArray,.agg (vn b).toArray] w (RetE w P0 (fun z:zd=>.tuple #[.agg (vn z).toArray,iV (Mn.bin wd a.e b.e).2]) (fun z=>z.e=(Mn.bin wd a.e b.e).1) (fun z S=>zd.Ok S z)):=by
 have hwa:=ha.wf
 have hwb:=hb.wf
 have hna:=hba.1
 have hnb:=hbb.1
 have hna2:-1125899906842624≤a.n∧a.n≤1125899906842624:=hba.1
 have hnb2:-1125899906842624≤b.n∧b.n≤1125899906842624:=hbb.1
 refine zq (N:=119) func157 (Mem.ofDatsP hP0 (dc (dp (zd.Ok.loc _) ha) (dc (dp (zd.Ok.loc _) hb) dn))) ?_
 refine (go 2) (jl fun b3=>yu fun b4=>yu fun b5=>zw fun b6=>?_)
 refine (go 8) (jB 20 (fun h1=>?_) fun h1=>?_)
 ·refine (go 4) (zw fun b8=>?_)
  refine (go 5) ?_
  refine za (yj rfl rfl) ?_
  refine (go 14) ?_
  refine za (yE rfl) ?_
  refine (go 8) ?_
  refine za (yE rfl) ?_
  refine (go 3) (yg (fun h2=>?_) fun h2=>?_)
  ·refine (go 9) ?_
   refine un (fun _ h=>h.vW zG 81 2 zx) (ux (fun _ h=>h.all0 zG.Ok.loc) (vO (fun (k:Nat) (cs:List zG) (ok:Bool) (ov:Value)=>[(5,.pointer (some ⟨b5,0,none⟩)),(6,.pointer (some ⟨b6,0,none⟩)),(8,.pointer (some ⟨b8,0,none⟩)),(9,.func (.func 193) #[] #[.pointer (some ⟨b3,0,none⟩),.pointer (some ⟨b8,0,none⟩)]),(10,.bool ok),(74,.slice a.cells.A a.cells.l.length a.cells.c),(75,iV a.cells.l.length),(76,iV k)]) (fun (k:Nat) (cs:List zG) (ok:Bool) (ov:Value)=>[allP zG.Ok cs,Row ov 81 2 zx cs,.blk b8 [.bool true,iV 0,ov] 172,.blk b6 [.bool false,iV 0,Zs] 172,.blk b5 [.bool b.vec,iV b.n,.slice b.cells.A b.cells.l.length b.cells.c] 172,.blk b4 [.bool a.vec,iV a.n,.slice a.cells.A a.cells.l.length a.cells.c] 172,.blk b3 [.string wd] 9,okP zd.Ok a,okP zd.Ok b]) (fun (k:Nat) (cs:List zG) (ok:Bool) (ov:Value)=>k≤a.cells.l.length∧(∀ x ∈ cs,zG.Wf x)∧cs.map zG.e=Mn.done wd (Mn.p1 a b k)∧ok=Mn.fine wd (Mn.p1 a b k)∧cs.length≤k) (fun (k:Nat) (cs:List zG) (ok:Bool) (ov:Value)=>a.cells.l.length - k) 0 [] true (Zs) (sc rfl (sc rfl (sc rfl (sc rfl (sc rfl (sc rfl (sc rfl (sc (ji qO) sn)))))))) (fun _ h=>h) ?_ (fun k cs ok ov hI1=>?_)))
   ·exact ⟨Nat.zero_le _,fun x hx=>(by cases hx),rfl,rfl,Nat.le_refl _⟩
   have hwf:=hI1.2.1
   have hlen:=hI1.2.2.2.2
   refine yW 1 (l:=cs) rfl fun A1 cp1 hv1 hc1 hm1 hA1=>?_
   subst hv1
   refine (go 6) (zW (fun h3=>?_) fun h3=>?_)
   ·refine (go 6) ?_
    refine zc (fun _ h=>h.valX 7 rfl) ?_
    obtain ⟨hc2,hm2,hA2⟩:=hwa.cells
    obtain ⟨ad1,s1,hd1,hs1⟩:=elx hA2 k
    refine (go 1) ?_
    have hb_s1:=Mn.Bnd.at_ hba hs1
    refine (go 1) (zw fun b12=>?_)
    refine (go 11) ?_
    have hw1:=hwa.all _ (List.mem_of_getElem? hs1)
    refine zc (fun _ h=>h.one 2 zG.Ok.loc rfl hs1) (zc (fun _ h=>h.cellX 0 rfl) ?_)
    obtain ⟨hc3,hm3,hA3⟩:=hw1.sr
    refine zg (α:=Value) [.blk b3 [.string wd] 9,.blk b8 [.bool true,iV 0,.slice A1 cs.length cp1] 172,Row (.slice A1 cs.length cp1) 81 2 zx cs,allP zG.Ok cs,slP 2 zS (.slice s1.sr.A s1.sr.l.length s1.sr.c) s1.sr.l] [okP zG.Ok s1,.blk b12 [.slice s1.sr.A s1.sr.l.length s1.sr.c,iV s1.value] 81,slP 2 zx (.slice a.cells.A a.cells.l.length a.cells.c) a.cells.l,allP zG.Ok a.cells.l,.blk b6 [.bool false,iV 0,Zs] 172,.blk b5 [.bool b.vec,iV b.n,.slice b.cells.A b.cells.l.length b.cells.c] 172,.blk b4 [.bool a.vec,iV a.n,.slice a.cells.A a.cells.l.length a.cells.c] 172,okP zd.Ok a,okP zd.Ok b] (fun _=>.bool (Mn.op wd s1.value b.n).2) (fun z1=>True) (fun z1=>[.blk b3 [.string wd] 9,.blk b8 [.bool true,iV 0,z1] 172,Row z1 81 2 zx (cs++[zG.mk s1.sr (Mn.op wd s1.value b.n).1]),allP zG.Ok (cs++[zG.mk s1.sr (Mn.op wd s1.value b.n).1]),slP 2 zS (.slice s1.sr.A s1.sr.l.length s1.sr.c) s1.sr.l]) _ (fun _=>rfl) (S9 [11,7,6,5,0,1,2,3,4,8,9,10,12,13]) (fun _=>rfl) wn rfl rfl call193 rfl (fun w1 Pb hG=>jv wd true 0 _ _ s1.sr s1.value b.n _ _ Pb w1 hG (by first | omega | assumption) (by first | omega | assumption) qO) fun z1 hz1=>yP 2 (l:=(cs++[zG.mk s1.sr (Mn.op wd s1.value b.n).1])) rfl fun A2 cp2 hv2 hc4 hm4 hA4=>?_
    subst hv2
    have hw2:∀ x ∈ (cs++[zG.mk s1.sr (Mn.op wd s1.value b.n).1]),zG.Wf x:=fun x hx=>(List.mem_append.1 hx).elim (hwf x) fun h=>by rw [List.mem_singleton.1 h]; exact ⟨hw1.sr⟩
    refine (go 1) (jB 88 (fun h4=>?_) fun h4=>?_)
    ·refine (go 9) ?_
     refine zT (yb (k + 1) (cs++[zG.mk s1.sr (Mn.op wd s1.value b.n).1]) ok (.slice A2 ((cs++[zG.mk s1.sr (Mn.op wd s1.value b.n).1]).length) cp2) (sc rfl (sc rfl (sc rfl (sc rfl (sc rfl (sc rfl (sc rfl (sc (ji qO) sn)))))))) (S9 [3,2,1,9,10,11,0,12,13]) ?_ ?_)
     ·exact ⟨by omega,hw2,Mn.done_at hI1.2.2.1 (Mn.p1_at hs1),Mn.fine_t hI1.2.2.2.1 (Mn.p1_at hs1) h4,by simp only [qL]; omega⟩
     omega
    refine (go 9) ?_
    refine zT (yb (k + 1) (cs++[zG.mk s1.sr (Mn.op wd s1.value b.n).1]) false (.slice A2 ((cs++[zG.mk s1.sr (Mn.op wd s1.value b.n).1]).length) cp2) (sc rfl (sc rfl (sc rfl (sc rfl (sc rfl (sc rfl (sc rfl (sc (ji qO) sn)))))))) (S9 [3,2,1,9,10,11,0,12,13]) ?_ ?_)
    ·exact ⟨by omega,hw2,Mn.done_at hI1.2.2.1 (Mn.p1_at hs1),Mn.fine_f (Mn.p1_at hs1) h4,by simp only [qL]; omega⟩
    omega
   refine (go 10) ?_
   refine za (yE rfl) ?_
   refine (go 2) (yg (fun h5=>?_) fun h5=>?_)
   ·refine (go 9) (yL results157 fun w1 hM=>?_)
    have hb9:=Mn.bin_vec (w:=wd) (.inl (by simpa using h1)) (Mn.p1_end (by simpa using h2) qO) hI1.2.2.1 hI1.2.2.2.1
    rw [if_neg (by simpa using h5)] at hb9
    exact hM.vD (⟨false,0,⟨none,0,[]⟩⟩:zd) (by first | (rw [hb9]; done) | (rw [hb9]; rfl)) (by first | (rw [hb9]; done) | (rw [hb9]; rfl) | (have e9:=h1; rw [hb9]; simp [zd.e] at e9 ⊢; exact e9) | (have e9:=h2; rw [hb9]; simp [zd.e] at e9 ⊢; exact e9)) fun Pb pp=>⟨zD.zu _ _ _ _,fun c hc=>by cases hc⟩
   refine (go 10) (yL results157 fun w1 hM=>?_)
   have hb9:=Mn.bin_vec (w:=wd) (.inl (by simpa using h1)) (Mn.p1_end (by simpa using h2) qO) hI1.2.2.1 hI1.2.2.2.1
   rw [if_pos (by simpa using h5)] at hb9
   have hM:=hM.zo encCellX (i:=1) rfl rfl
   exact hM.vD (⟨true,0,⟨A1,cp1,cs⟩⟩:zd) (by first | (rw [hb9]; done) | (rw [hb9]; rfl)) (by first | (rw [hb9]; done) | (rw [hb9]; rfl) | (have e9:=h1; rw [hb9]; simp [zd.e] at e9 ⊢; exact e9) | (have e9:=h2; rw [hb9]; simp [zd.e] at e9 ⊢; exact e9)) fun Pb pp=>⟨pp.sl 1 rfl,pp.at_ 0 _ rfl⟩
  refine (go 4) ?_
  refine za (yE rfl) ?_
  refine (go 3) ?_
  refine yU rfl (by simpa using h1) ?_
  refine (go 9) ?_
  refine un (fun _ h=>h.vW zG 81 2 zx) (ux (fun _ h=>h.all0 zG.Ok.loc) (vO (fun (k:Nat) (cs:List zG) (ok:Bool) (ov:Value)=>[(5,.pointer (some ⟨b5,0,none⟩)),(6,.pointer (some ⟨b6,0,none⟩)),(8,.pointer (some ⟨b8,0,none⟩)),(9,.func (.func 193) #[] #[.pointer (some ⟨b3,0,none⟩),.pointer (some ⟨b8,0,none⟩)]),(10,.bool ok),(27,.slice a.cells.A a.cells.l.length a.cells.c),(28,iV a.cells.l.length),(29,iV k)]) (fun (k:Nat) (cs:List zG) (ok:Bool) (ov:Value)=>[allP zG.Ok cs,Row ov 81 2 zx cs,.blk b8 [.bool true,iV 0,ov] 172,.blk b6 [.bool false,iV 0,Zs] 172,.blk b5 [.bool b.vec,iV b.n,.slice b.cells.A b.cells.l.length b.cells.c] 172,.blk b4 [.bool a.vec,iV a.n,.slice a.cells.A a.cells.l.length a.cells.c] 172,.blk b3 [.string wd] 9,okP zd.Ok a,okP zd.Ok b]) (fun (k:Nat) (cs:List zG) (ok:Bool) (ov:Value)=>k≤a.cells.l.length∧(∀ x ∈ cs,zG.Wf x)∧cs.map zG.e=Mn.done wd (Mn.p3 a b k)∧ok=Mn.fine wd (Mn.p3 a b k)∧cs.length≤k) (fun (k:Nat) (cs:List zG) (ok:Bool) (ov:Value)=>a.cells.l.length - k) 0 [] true (Zs) (sc rfl (sc rfl (sc rfl (sc rfl (sc rfl (sc rfl (sc rfl (sc (ji qO) sn)))))))) (fun _ h=>h) ?_ (fun k cs ok ov hI2=>?_)))
  ·exact ⟨Nat.zero_le _,fun x hx=>(by cases hx),rfl,rfl,Nat.le_refl _⟩
  have hwf:=hI2.2.1
  have hlen:=hI2.2.2.2.2
  refine yW 1 (l:=cs) rfl fun A3 cp3 hv3 hc5 hm5 hA5=>?_
  subst hv3
  refine (go 6) (zW (fun h6=>?_) fun h6=>?_)
  ·refine (go 6) ?_
   refine zc (fun _ h=>h.valX 7 rfl) ?_
   obtain ⟨hc6,hm6,hA6⟩:=hwa.cells
   obtain ⟨ad2,s2,hd2,hs2⟩:=elx hA6 k
   refine (go 1) ?_
   have hb_s2:=Mn.Bnd.at_ hba hs2
   refine (go 1) (zw fun b16=>?_)
   refine (go 7) ?_
   refine za (yj rfl rfl) ?_
   have hw3:=hwa.all _ (List.mem_of_getElem? hs2)
   refine zc (fun _ h=>h.one 2 zG.Ok.loc rfl hs2) (jA 1 rfl rfl (zc (fun _ h=>h.valX 12 rfl) ?_))
   obtain ⟨hc7,hm7,hA7⟩:=hwb.cells
   refine yF call195 wn rfl (fun w1 hM=>c_idxC _ b.cells.l 196 #[.pointer (some ⟨b16,0,none⟩)] (fun d:zG=>decide (s2.sr.l=d.sr.l)) (In w1) w1 (fun _ h=>h) (hM.slp 0 rfl) (hM.yS (i:=1) rfl) call196 (fun d hd w2 hf=>by simpa using c_bin2 d _ s2 (In w2) w2 (fun _ h=>h) (zG.Ok.loc d (In w1) (In w2) w1 w2 (fun b hb=>Nat.lt_of_lt_of_le hb hf.size) (fun b hb=>hf.block b hb id) (hM.yS (i:=1) rfl d hd)) (yf.loc _ _ (In w1) (In w2) w1 w2 (fun b hb=>Nat.lt_of_lt_of_le hb hf.size) (fun b hb=>hf.block b hb id) (hM.yS (i:=3) rfl)) (zG.Ok.loc s2 (In w1) (In w2) w1 w2 (fun b hb=>Nat.lt_of_lt_of_le hb hf.size) (fun b hb=>hf.block b hb id) (hM.yS (i:=2) rfl)))) ?_
   refine (go 9) (zW (fun h7=>?_) fun h7=>?_)
   ·obtain ⟨j,y,hj1,hy1,hpy1,hbe1⟩:=(Sh.idx_cases (fun d:zG=>decide (s2.sr.l=d.sr.l)) b.cells.l).resolve_left (fun h=>by have:=h.1; omega)
    have hjl:=(List.getElem?_eq_some_iff.1 hy1).1
    have hb_y:=Mn.Bnd.at_ hbb hy1
    refine vE 11 ?_
    refine (go 1) ?_
    refine yZ (uz (ad:=⟨b16,0,none⟩) (i:=0) (o:=0) rfl fld81_0) ?_
    refine (go 1) ?_
    refine yZ (uz (ad:=⟨b16,0,none⟩) (i:=0) (o:=0) rfl fld81_1) ?_
    refine (go 4) ?_
    obtain ⟨ad3,hd3⟩:=hA7 (ne_nil (i:=j) qI)
    refine yZ (yz (i:=j) rfl hd3 rfl qO qI underlying32 inf81) ?_
    refine (go 3) ?_
    refine zc (fun _ h=>h.cellX 2 rfl) ?_
    obtain ⟨hc8,hm8,hA8⟩:=hw3.sr
    refine zg (α:=Value) [.blk b3 [.string wd] 9,.blk b8 [.bool true,iV 0,.slice A3 cs.length cp3] 172,Row (.slice A3 cs.length cp3) 81 2 zx cs,allP zG.Ok cs,slP 2 zS (.slice s2.sr.A s2.sr.l.length s2.sr.c) s2.sr.l] [slP 2 zx (.slice b.cells.A b.cells.l.length b.cells.c) b.cells.l,allP zG.Ok b.cells.l,okP zG.Ok s2,celP ⟨b16,0,none⟩ [.slice s2.sr.A s2.sr.l.length s2.sr.c,iV s2.value],slP 2 zx (.slice a.cells.A a.cells.l.length a.cells.c) a.cells.l,allP zG.Ok a.cells.l,.blk b6 [.bool false,iV 0,Zs] 172,.blk b5 [.bool b.vec,iV b.n,.slice b.cells.A b.cells.l.length b.cells.c] 172,.blk b4 [.bool a.vec,iV a.n,.slice a.cells.A a.cells.l.length a.cells.c] 172,okP zd.Ok a,okP zd.Ok b] (fun _=>.bool (Mn.op wd s2.value y.value).2) (fun z2=>True) (fun z2=>[.blk b3 [.string wd] 9,.blk b8 [.bool true,iV 0,z2] 172,Row z2 81 2 zx (cs++[zG.mk s2.sr (Mn.op wd s2.value y.value).1]),allP zG.Ok (cs++[zG.mk s2.sr (Mn.op wd s2.value y.value).1]),slP 2 zS (.slice s2.sr.A s2.sr.l.length s2.sr.c) s2.sr.l]) _ (fun _=>rfl) (S9 [13,9,8,7,0,1,2,3,4,5,6,10,11,12,14,15]) (fun _=>rfl) wn rfl rfl call193 rfl (fun w1 Pb hG=>jv wd true 0 _ _ s2.sr s2.value y.value _ _ Pb w1 hG (by first | omega | assumption) (by first | omega | assumption) qO) fun z2 hz2=>yP 2 (l:=(cs++[zG.mk s2.sr (Mn.op wd s2.value y.value).1])) rfl fun A4 cp4 hv4 hc9 hm9 hA9=>?_
    subst hv4
    have hw4:∀ x ∈ (cs++[zG.mk s2.sr (Mn.op wd s2.value y.value).1]),zG.Wf x:=fun x hx=>(List.mem_append.1 hx).elim (hwf x) fun h=>by rw [List.mem_singleton.1 h]; exact ⟨hw3.sr⟩
    refine (go 1) (jB 51 (fun h8=>?_) fun h8=>?_)
    ·refine (go 9) ?_
     refine zT (yb (k + 1) (cs++[zG.mk s2.sr (Mn.op wd s2.value y.value).1]) ok (.slice A4 ((cs++[zG.mk s2.sr (Mn.op wd s2.value y.value).1]).length) cp4) (sc rfl (sc rfl (sc rfl (sc rfl (sc rfl (sc rfl (sc rfl (sc (ji qO) sn)))))))) (S9 [3,2,1,11,12,13,0,14,15]) ?_ ?_)
     ·exact ⟨by omega,hw4,Mn.done_at hI2.2.2.1 (Mn.p3_at hs2 hy1 hpy1 hbe1),Mn.fine_t hI2.2.2.2.1 (Mn.p3_at hs2 hy1 hpy1 hbe1) h8,by simp only [qL]; omega⟩
     omega
    refine (go 9) ?_
    refine zT (yb (k + 1) (cs++[zG.mk s2.sr (Mn.op wd s2.value y.value).1]) false (.slice A4 ((cs++[zG.mk s2.sr (Mn.op wd s2.value y.value).1]).length) cp4) (sc rfl (sc rfl (sc rfl (sc rfl (sc rfl (sc rfl (sc rfl (sc (ji qO) sn)))))))) (S9 [3,2,1,11,12,13,0,14,15]) ?_ ?_)
    ·exact ⟨by omega,hw4,Mn.done_at hI2.2.2.1 (Mn.p3_at hs2 hy1 hpy1 hbe1),Mn.fine_f (Mn.p3_at hs2 hy1 hpy1 hbe1) h8,by simp only [qL]; omega⟩
    omega
   have hno1:=((Sh.idx_cases (fun d:zG=>decide (s2.sr.l=d.sr.l)) b.cells.l).resolve_right (fun h=>by obtain ⟨j,y,hj,_⟩:=h; omega)).2
   refine (go 6) ?_
   refine zT (yb (k + 1) cs ok (.slice A3 cs.length cp3) (sc rfl (sc rfl (sc rfl (sc rfl (sc rfl (sc rfl (sc rfl (sc (ji qO) sn)))))))) (S9 [6,7,8,9,10,11,12,13,14]) ?_ ?_)
   ·exact ⟨by omega,hI2.2.1,by rw [Mn.p3_no hs2 hno1]; exact hI2.2.2.1,by rw [Mn.p3_no hs2 hno1]; exact hI2.2.2.2.1,by omega⟩
   omega
  refine (go 10) ?_
  refine za (yE rfl) ?_
  refine (go 2) (yg (fun h9=>?_) fun h9=>?_)
  ·refine (go 9) (yL results157 fun w1 hM=>?_)
   have hb9:=Mn.bin_vec (w:=wd) (.inl (by simpa using h1)) (Mn.p3_end (by simpa using h2) (by simpa using h1) qO) hI2.2.2.1 hI2.2.2.2.1
   rw [if_neg (by simpa using h9)] at hb9
   exact hM.vD (⟨false,0,⟨none,0,[]⟩⟩:zd) (by first | (rw [hb9]; done) | (rw [hb9]; rfl)) (by first | (rw [hb9]; done) | (rw [hb9]; rfl) | (have e9:=h1; rw [hb9]; simp [zd.e] at e9 ⊢; exact e9) | (have e9:=h2; rw [hb9]; simp [zd.e] at e9 ⊢; exact e9)) fun Pb pp=>⟨zD.zu _ _ _ _,fun c hc=>by cases hc⟩
  refine (go 10) (yL results157 fun w1 hM=>?_)
  have hb9:=Mn.bin_vec (w:=wd) (.inl (by simpa using h1)) (Mn.p3_end (by simpa using h2) (by simpa using h1) qO) hI2.2.2.1 hI2.2.2.2.1
  rw [if_pos (by simpa using h9)] at hb9
  have hM:=hM.zo encCellX (i:=1) rfl rfl
  exact hM.vD (⟨true,0,⟨A3,cp3,cs⟩⟩:zd) (by first | (rw [hb9]; done) | (rw [hb9]; rfl)) (by first | (rw [hb9]; done) | (rw [hb9]; rfl) | (have e9:=h1; rw [hb9]; simp [zd.e] at e9 ⊢; exact e9) | (have e9:=h2; rw [hb9]; simp [zd.e] at e9 ⊢; exact e9)) fun Pb pp=>⟨pp.sl 1 rfl,pp.at_ 0 _ rfl⟩
 refine (go 4) (zw fun b8=>?_)
 refine (go 5) ?_
 refine za (yj rfl rfl) ?_
 refine (go 14) ?_
 refine za (yE rfl) ?_
 refine (go 3) (yg (fun h10=>?_) fun h10=>?_)
 ·refine (go 6) ?_
  refine yF call194 wn rfl (fun w1 hM=>c_op wd a.n b.n w1 (by first | assumption | omega) (by first | assumption | omega)) ?_
  refine (go 13) ?_
  refine za (yE rfl) ?_
  refine (go 2) (yg (fun h11=>?_) fun h11=>?_)
  ·refine (go 9) (yL results157 fun w1 hM=>?_)
   have hb9:=Mn.bin_num (w:=wd) (a:=a) (b:=b) (by simpa using h1) (by simpa using h10)
   rw [if_neg (by simpa using h11)] at hb9
   exact hM.vD (⟨false,0,⟨none,0,[]⟩⟩:zd) (by first | (rw [hb9]; done) | (rw [hb9]; rfl)) (by first | (rw [hb9]; done) | (rw [hb9]; rfl) | (have e9:=h1; rw [hb9]; simp [zd.e] at e9 ⊢; exact e9) | (have e9:=h10; rw [hb9]; simp [zd.e] at e9 ⊢; exact e9)) fun Pb pp=>⟨zD.zu _ _ _ _,fun c hc=>by cases hc⟩
  refine (go 10) (yL results157 fun w1 hM=>?_)
  have hb9:=Mn.bin_num (w:=wd) (a:=a) (b:=b) (by simpa using h1) (by simpa using h10)
  rw [if_pos (by simpa using h11)] at hb9
  exact hM.vD (⟨b.vec,(Mn.op wd a.n b.n).1,⟨none,0,[]⟩⟩:zd) (by first | (rw [hb9]; done) | (rw [hb9]; rfl)) (by first | (rw [hb9]; done) | (rw [hb9]; rfl) | (have e9:=h1; rw [hb9]; simp [zd.e] at e9 ⊢; exact e9) | (have e9:=h10; rw [hb9]; simp [zd.e] at e9 ⊢; exact e9)) fun Pb pp=>⟨zD.zu _ _ _ _,fun c hc=>by cases hc⟩
 refine (go 4) ?_
 refine za (yE rfl) ?_
 refine (go 3) ?_
 refine yU rfl (by simpa using h10) ?_
 refine (go 4) ?_
 refine za (yE rfl) ?_
 refine (go 3) ?_
 refine yx rfl (by simpa using h1) ?_
 refine (go 9) ?_
 refine un (fun _ h=>h.vW zG 81 2 zx) (ux (fun _ h=>h.all0 zG.Ok.loc) (vO (fun (k:Nat) (cs:List zG) (ok:Bool) (ov:Value)=>[(4,.pointer (some ⟨b4,0,none⟩)),(6,.pointer (some ⟨b6,0,none⟩)),(8,.pointer (some ⟨b8,0,none⟩)),(9,.func (.func 193) #[] #[.pointer (some ⟨b3,0,none⟩),.pointer (some ⟨b8,0,none⟩)]),(10,.bool ok),(97,.slice b.cells.A b.cells.l.length b.cells.c),(98,iV b.cells.l.length),(99,iV k)]) (fun (k:Nat) (cs:List zG) (ok:Bool) (ov:Value)=>[allP zG.Ok cs,Row ov 81 2 zx cs,.blk b8 [.bool b.vec,iV 0,ov] 172,.blk b6 [.bool false,iV 0,Zs] 172,.blk b5 [.bool b.vec,iV b.n,.slice b.cells.A b.cells.l.length b.cells.c] 172,.blk b4 [.bool a.vec,iV a.n,.slice a.cells.A a.cells.l.length a.cells.c] 172,.blk b3 [.string wd] 9,okP zd.Ok a,okP zd.Ok b]) (fun (k:Nat) (cs:List zG) (ok:Bool) (ov:Value)=>k≤b.cells.l.length∧(∀ x ∈ cs,zG.Wf x)∧cs.map zG.e=Mn.done wd (Mn.p2 a b k)∧ok=Mn.fine wd (Mn.p2 a b k)∧cs.length≤k) (fun (k:Nat) (cs:List zG) (ok:Bool) (ov:Value)=>b.cells.l.length - k) 0 [] true (Zs) (sc rfl (sc rfl (sc rfl (sc rfl (sc rfl (sc rfl (sc rfl (sc (ji qO) sn)))))))) (fun _ h=>h) ?_ (fun k cs ok ov hI3=>?_)))
 ·exact ⟨Nat.zero_le _,fun x hx=>(by cases hx),rfl,rfl,Nat.le_refl _⟩
 have hwf:=hI3.2.1
 have hlen:=hI3.2.2.2.2
 refine yW 1 (l:=cs) rfl fun A5 cp5 hv5 hc10 hm10 hA10=>?_
 subst hv5
 refine (go 6) (zW (fun h12=>?_) fun h12=>?_)
 ·refine (go 6) ?_
  refine zc (fun _ h=>h.valX 8 rfl) ?_
  obtain ⟨hc11,hm11,hA11⟩:=hwb.cells
  obtain ⟨ad4,s3,hd4,hs3⟩:=elx hA11 k
  refine (go 1) ?_
  have hb_s3:=Mn.Bnd.at_ hbb hs3
  refine (go 1) (zw fun b14=>?_)
  refine (go 11) ?_
  have hw5:=hwb.all _ (List.mem_of_getElem? hs3)
  refine zc (fun _ h=>h.one 2 zG.Ok.loc rfl hs3) (zc (fun _ h=>h.cellX 0 rfl) ?_)
  obtain ⟨hc12,hm12,hA12⟩:=hw5.sr
  refine zg (α:=Value) [.blk b3 [.string wd] 9,.blk b8 [.bool b.vec,iV 0,.slice A5 cs.length cp5] 172,Row (.slice A5 cs.length cp5) 81 2 zx cs,allP zG.Ok cs,slP 2 zS (.slice s3.sr.A s3.sr.l.length s3.sr.c) s3.sr.l] [okP zG.Ok s3,.blk b14 [.slice s3.sr.A s3.sr.l.length s3.sr.c,iV s3.value] 81,slP 2 zx (.slice b.cells.A b.cells.l.length b.cells.c) b.cells.l,allP zG.Ok b.cells.l,.blk b6 [.bool false,iV 0,Zs] 172,.blk b5 [.bool b.vec,iV b.n,.slice b.cells.A b.cells.l.length b.cells.c] 172,.blk b4 [.bool a.vec,iV a.n,.slice a.cells.A a.cells.l.length a.cells.c] 172,okP zd.Ok a,okP zd.Ok b] (fun _=>.bool (Mn.op wd a.n s3.value).2) (fun z3=>True) (fun z3=>[.blk b3 [.string wd] 9,.blk b8 [.bool b.vec,iV 0,z3] 172,Row z3 81 2 zx (cs++[zG.mk s3.sr (Mn.op wd a.n s3.value).1]),allP zG.Ok (cs++[zG.mk s3.sr (Mn.op wd a.n s3.value).1]),slP 2 zS (.slice s3.sr.A s3.sr.l.length s3.sr.c) s3.sr.l]) _ (fun _=>rfl) (S9 [11,7,6,5,0,1,2,3,4,8,9,10,12,13]) (fun _=>rfl) wn rfl rfl call193 rfl (fun w1 Pb hG=>jv wd b.vec 0 _ _ s3.sr a.n s3.value _ _ Pb w1 hG (by first | omega | assumption) (by first | omega | assumption) qO) fun z3 hz3=>yP 2 (l:=(cs++[zG.mk s3.sr (Mn.op wd a.n s3.value).1])) rfl fun A6 cp6 hv6 hc13 hm13 hA13=>?_
  subst hv6
  have hw6:∀ x ∈ (cs++[zG.mk s3.sr (Mn.op wd a.n s3.value).1]),zG.Wf x:=fun x hx=>(List.mem_append.1 hx).elim (hwf x) fun h=>by rw [List.mem_singleton.1 h]; exact ⟨hw5.sr⟩
  refine (go 1) (jB 111 (fun h13=>?_) fun h13=>?_)
  ·refine (go 9) ?_
   refine zT (yb (k + 1) (cs++[zG.mk s3.sr (Mn.op wd a.n s3.value).1]) ok (.slice A6 ((cs++[zG.mk s3.sr (Mn.op wd a.n s3.value).1]).length) cp6) (sc rfl (sc rfl (sc rfl (sc rfl (sc rfl (sc rfl (sc rfl (sc (ji qO) sn)))))))) (S9 [3,2,1,9,10,11,0,12,13]) ?_ ?_)
   ·exact ⟨by omega,hw6,Mn.done_at hI3.2.2.1 (Mn.p2_at hs3),Mn.fine_t hI3.2.2.2.1 (Mn.p2_at hs3) h13,by simp only [qL]; omega⟩
   omega
  refine (go 9) ?_
  refine zT (yb (k + 1) (cs++[zG.mk s3.sr (Mn.op wd a.n s3.value).1]) false (.slice A6 ((cs++[zG.mk s3.sr (Mn.op wd a.n s3.value).1]).length) cp6) (sc rfl (sc rfl (sc rfl (sc rfl (sc rfl (sc rfl (sc rfl (sc (ji qO) sn)))))))) (S9 [3,2,1,9,10,11,0,12,13]) ?_ ?_)
  ·exact ⟨by omega,hw6,Mn.done_at hI3.2.2.1 (Mn.p2_at hs3),Mn.fine_f (Mn.p2_at hs3) h13,by simp only [qL]; omega⟩
  omega
 refine (go 10) ?_
 refine za (yE rfl) ?_
 refine (go 2) (yg (fun h14=>?_) fun h14=>?_)
 ·refine (go 9) (yL results157 fun w1 hM=>?_)
  have hb9:=Mn.bin_vec (w:=wd) (.inr (by simpa using h10)) (Mn.p2_end (by simpa using h10) (by simpa using h1) qO) hI3.2.2.1 hI3.2.2.2.1
  rw [if_neg (by simpa using h14)] at hb9
  exact hM.vD (⟨false,0,⟨none,0,[]⟩⟩:zd) (by first | (rw [hb9]; done) | (rw [hb9]; rfl)) (by first | (rw [hb9]; done) | (rw [hb9]; rfl) | (have e9:=h1; rw [hb9]; simp [zd.e] at e9 ⊢; exact e9) | (have e9:=h10; rw [hb9]; simp [zd.e] at e9 ⊢; exact e9)) fun Pb pp=>⟨zD.zu _ _ _ _,fun c hc=>by cases hc⟩
 refine (go 10) (yL results157 fun w1 hM=>?_)
 have hb9:=Mn.bin_vec (w:=wd) (.inr (by simpa using h10)) (Mn.p2_end (by simpa using h10) (by simpa using h1) qO) hI3.2.2.1 hI3.2.2.2.1
 rw [if_pos (by simpa using h14)] at hb9
 have hM:=hM.zo encCellX (i:=1) rfl rfl
 exact hM.vD (⟨b.vec,0,⟨A5,cp5,cs⟩⟩:zd) (by first | (rw [hb9]; done) | (rw [hb9]; rfl)) (by first | (rw [hb9]; done) | (rw [hb9]; rfl) | (have e9:=h1; rw [hb9]; simp [zd.e] at e9 ⊢; exact e9) | (have e9:=h10; rw [hb9]; simp [zd.e] at e9 ⊢; exact e9)) fun Pb pp=>⟨pp.sl 1 rfl,pp.at_ 0 _ rfl⟩
set_option maxHeartbeats 1000000 in
theorem c_insertC (sv vv:Value) (l:List zG) (x:zG) (i:Nat) (Pb:Nat→Prop) (w:World) (hG:Mem w ⟨fpOf [Row sv 81 2 zx l,Row vv 81 2 zx [x]],Pb⟩ [Row sv 81 2 zx l,Row vv 81 2 zx [x]] w) (hil:i≤l.length) (hl1:l.length≤1048576) :
    Calls prog 191 #[sv,iV i,vv] w (RetA w [Row sv 81 2 zx l,Row vv 81 2 zx [x]] Pb (fun z:Value=>z) (fun _=>True) (fun z=>[Row z 81 2 zx (l.take i++x::l.drop i)])):=by
 obtain ⟨sA,sc,rfl,hsc,hsm,hsA⟩:=row_form' (hG.row (i:=0) rfl)
 obtain ⟨vA,vc,hv0,hvc,hvm,hvA⟩:=row_form' (hG.row (i:=1) rfl)
 have hv0:vv=.slice vA 1 vc:=hv0
 have hvc:1≤vc:=hvc
 subst hv0
 refine zq (N:=95) func191 hG ?_
 refine (go 9) ?_
 refine za (jK (lo:=i) (hi:=l.length) rfl (lo1 rfl qO) hi0 qI qI qI underlying32 inf81) ?_
 refine (go 16) ?_
 refine yU rfl (decide_eq_false qD) ?_
 refine (go 17) (zW (fun h1=>?_) fun h1=>?_)
 ·refine (go 4) ?_
  refine yH 0 l [x] encCellX wn rfl rfl rfl (fun _ hM=>(RowSl encCellX hM 1 rfl)) underlying32 inf81 rfl rfl (by simp only [qL]; omega) rfl fun A1 cp1 hc1 hm1 hA1=>?_
  refine (go 5) (zX results191 fun w1 hM=>?_)
  exact hM.yR (.slice A1 ((l++[x]).length) cp1) rfl trivial (fun h=>row_as (v:=.slice A1 ((l++[x]).length) cp1) (n:=(l++[x]).length) (by rw [ins_len hil,List.length_append]; rfl) (ins_end qO) (h.sel [0] qD rfl))
 refine (go 5) ?_
 obtain ⟨sad,hsd⟩:=hsA (ne_nil (i:=i) qO)
 obtain ⟨vad,hvd⟩:=hvA qS
 refine (go 4) ?_
 refine za (r_cap rfl underlying32) ?_
 refine (go 3) (zW (fun h2=>?_) fun h2=>?_)
 ·refine (go 4) ?_
  refine za (jx (by rw [subA_zero,Nat.sub_zero,Nat.sub_zero]) (yt (lo:=0) (hi:=i) rfl lo0 (hi1 rfl qO) qO qO underlying32 inf81)) ?_
  refine (go 5) ?_
  refine l_appZ (enc:=zx) (l.take i++List.replicate (l.length + 1 - i) (zG.mk ⟨none,0,[]⟩ 0)) (l.length + 1) (kk:=l.length + 1 - i) (olds:=(l.take i).flatMap zx) wn rfl rfl qO qO (by rw [flat_len encCellX.len,List.length_take]; omega) (fun h=>by rw [hsd] at h; cases h) (fun ad h=>by rw [hsd] at h; injection h with h; subst h; exact fun w hS p u hu=>rowCells 0 rfl hsd w hS p u (by have:=flat_pre (k:=2) hu; rwa [Nat.zero_mul,Nat.zero_add] at this)) qO qO rfl qD underlying32 underlying3 inf81 rfl (by rw [List.flatMap_append]; exact congrArg _ (zero_cells _)) qO rfl fun b1 C1 hc2 hm2=>?_
  refine (go 7) ?_
  refine za (yt (lo:=i) (hi:=(l.length + 1)) rfl (lo1 rfl qO) hi0 qO qO underlying32 inf81) ?_
  refine (go 1) ?_
  refine uA 0 (j:=i) (l.take i++List.replicate (l.length + 1 - i) (zG.mk ⟨none,0,[]⟩ 0)) [x] encCellX wn rfl (subA_some rfl qO) rfl hvd rfl rfl underlying32 inf81 (by simp only [List.length_drop,List.length_cons,List.length_nil]; show _=min _ _; omega) (by simp only [List.length_append,List.length_take,List.length_drop,List.length_replicate,List.length_cons,List.length_nil]; omega) (by simp only [List.length_append,List.length_take,List.length_drop,List.length_replicate,List.length_cons,List.length_nil]; omega) (rowCells 2 rfl hvd) rfl ?_
  refine (go 3) (vE 8 ?_)
  refine (go 4) ?_
  refine yZ (yt (lo:=(i + 1)) (hi:=(l.length + 1)) rfl (lo1 rfl qO) hi0 qO qO underlying32 inf81) ?_
  refine (go 2) ?_
  refine yZ (yt (lo:=i) (hi:=l.length) rfl (lo1 rfl qO) hi0 qO qO underlying32 inf81) ?_
  refine (go 1) ?_
  refine uA 0 (j:=(i + 1)) ((l.take i++List.replicate (l.length + 1 - i) (zG.mk ⟨none,0,[]⟩ 0)).take i++[x]++(l.take i++List.replicate (l.length + 1 - i) (zG.mk ⟨none,0,[]⟩ 0)).drop (i + [x].length)) (l.drop i) encCellX wn rfl (subA_some rfl qO) rfl (subA_some hsd qO) rfl rfl underlying32 inf81 (by simp only [List.length_drop,List.length_cons,List.length_nil]; show _=min _ _; omega) (by simp only [List.length_append,List.length_take,List.length_drop,List.length_replicate,List.length_cons,List.length_nil]; omega) (by simp only [List.length_append,List.length_take,List.length_drop,List.length_replicate,List.length_cons,List.length_nil]; omega) (subCells (rowCells 1 rfl hsd) fun p u hu=>flat_suf encCellX.len qO hu) rfl ?_
  refine (go 10) (zX results191 fun w1 hM=>?_)
  exact hM.yR (.slice (some ⟨b1,0,none⟩) (l.length + 1) C1) rfl trivial (fun h=>row_as (ins_len qO) (ins_grow qO (List.length_replicate)) (h.sel [0] qD rfl))
 refine (go 8) ?_
 refine za (jx (by rw [subA_zero,Nat.sub_zero,Nat.sub_zero]) (yt (lo:=0) (hi:=(l.length + 1)) rfl lo0 (hi1 rfl qO) qO qO underlying32 inf81)) (l_more 0 1 rfl hsd qO fun ys hys=>?_)
 refine (go 11) ?_
 refine za (yt (lo:=(i + 1)) (hi:=(l.length + 1)) rfl (lo1 rfl qO) hi0 qO qO underlying32 inf81) (za (r_ext rfl (over_apart (T':=4) (fn:=Tryz.f215) (qa:=1) (qb:=0) qD rfl rfl qO qO qD sad hsd (subA_some hsd qO) func215 (by kernel_rfl) (by kernel_rfl) (by kernel_rfl) (by kernel_rfl) underlying32 inf81)) (za (yE rfl) ?_))
 refine (go 4) (vE 8 ?_)
 refine (go 4) ?_
 refine yZ (yt (lo:=(i + 1)) (hi:=(l.length + 1)) rfl (lo1 rfl qO) hi0 qO qO underlying32 inf81) ?_
 refine (go 2) ?_
 refine yZ (yt (lo:=i) (hi:=(l.length + 1)) rfl (lo1 rfl qO) hi0 qO qO underlying32 inf81) ?_
 refine (go 1) ?_
 refine jS 0 (ad:=sad) (j:=i + 1) (cs:=(l.drop i).flatMap zx) _ wn rfl (subA_some hsd qO) rfl (subA_some hsd qO) rfl hsd underlying32 inf81 (by rw [flat_len encCellX.len,List.length_drop]; show _=min _ _ * 2; omega) (by rw [flat_len encCellX.len,List.length_drop]; omega) (subCells (rowCells 0 rfl hsd) fun p u hu=>by have:=flat_suf encCellX.len qO hu; rw [List.getElem?_append_left (List.getElem?_eq_some_iff.1 this).1]; exact this) (fun u hu=>by obtain ⟨a,_,ha⟩:=List.mem_flatMap.1 hu; exact encCellX.one a u ha) (ins_shift encCellX.len qO hys) rfl ?_
 refine (go 6) ?_
 refine za (yt (lo:=i) (hi:=(l.length + 1)) rfl (lo1 rfl qO) hi0 qO qO underlying32 inf81) ?_
 refine (go 1) ?_
 refine uA 0 (j:=i) (l.take (i + 1)++l.drop i) [x] encCellX wn rfl (subA_some hsd qO) rfl hvd rfl hsd underlying32 inf81 (by simp only [List.length_drop,List.length_cons,List.length_nil]; show _=min _ _; omega) (by simp only [List.length_append,List.length_take,List.length_drop,List.length_replicate,List.length_cons,List.length_nil]; omega) (by simp only [List.length_append,List.length_take,List.length_drop,List.length_replicate,List.length_cons,List.length_nil]; omega) (rowCells 1 rfl hvd) rfl ?_
 refine (go 10) (zX results191 fun w1 hM=>?_)
 exact hM.yR (.slice sA (l.length + 1) sc) rfl trivial (fun h=>row_as (ins_len qO) (ins_place qO) (h.sel [0] qD rfl))
theorem c_all1 (d:zG) (tv:Value) (t:List Label) (P0:Nat→Prop) (w:World) (hP0:∀ b,P0 b→b < w.heap.size) (hd:zG.Ok P0 d w) (ht:zD P0 2 zS tv t w)  :
    Calls prog 190 #[.agg (zx d).toArray,tv] w (Ret w (iV (zI.compare d.sr.l t))):=by
 have hwd:=hd.wf
 obtain ⟨tA,tc,rfl,htc,htm,htA⟩:=ht.form
 refine zq (N:=9) func190 (Mem.ofDatsP hP0 (dc (dp (zG.Ok.loc _) hd) (dc (dlp ht) dn))) ?_
 refine (go 2) (yu fun b2=>?_)
 refine (go 8) ?_
 refine zc (fun _ h=>h.cellX 1 rfl) ?_
 obtain ⟨hc1,hm1,hA1⟩:=hwd.sr
 refine yF call22 wn rfl (fun w1 hM=>c_compare _ d.sr.l _ t w1 (hM.slp 0 rfl) (hM.slp 3 rfl)) ?_
 refine (go 4) (zX results190 fun w1 hM=>?_)
 exact zP rfl hM
theorem c_bsC (clv:Value) (cl:List zG) (tv:Value) (t:List Label) (P0:Nat→Prop) (w:World) (hP0:∀ b,P0 b→b < w.heap.size) (hcl:zD P0 2 zx clv cl w) (hcla:∀ x ∈ cl,zG.Ok P0 x w) (ht:zD P0 2 zS tv t w) (has:Mn.Asc (cl.map zG.e)) (hl1:cl.length≤1048576) :
    Calls prog 189 #[clv,tv,.func (.func 190) #[] #[]] w (Ret w (.tuple #[iV (Mn.pos (cl.map zG.e) t:Nat),.bool (Mn.has (cl.map zG.e) t)])):=by
 have hwcl:∀ x ∈ cl,zG.Wf x:=fun x hx=>(hcla x hx).wf
 obtain ⟨clA,clc,rfl,hclc,hclm,hclA⟩:=hcl.form
 obtain ⟨tA,tc,rfl,htc,htm,htA⟩:=ht.form
 refine zq (N:=49) func189 (Mem.ofDatsP hP0 (dc (dlp hcl) (dc (dp (all_loc zG.Ok.loc _) hcla) (dc (dlp ht) dn)))) ?_
 refine (go 22) ?_
 refine va (fun (i:Nat) (j:Nat)=>[(0,.slice clA cl.length clc),(1,.slice tA t.length tc),(2,.func (.func 190) #[] #[]),(8,iV cl.length),(9,iV i),(10,iV j)]) (fun (i:Nat) (j:Nat)=>[slP 2 zx (.slice clA cl.length clc) cl,allP zG.Ok cl,slP 2 zS (.slice tA t.length tc) t]) (fun (i:Nat) (j:Nat)=>i≤j∧j≤cl.length∧(∀ (q:Nat) (y:Cell),(cl.map zG.e)[q]?=some y→q < i→zI.compare y.sr t < 0)∧(∀ (q:Nat) (y:Cell),(cl.map zG.e)[q]?=some y→j≤q→¬ zI.compare y.sr t < 0)) (fun (i:Nat) (j:Nat)=>j - i) 0 cl.length (sc rfl (sc rfl (sc rfl (sc rfl (sc (ji qO) (sc rfl sn)))))) (fun _ h=>h) ?_ (fun i j hI1=>?_)
 ·exact ⟨Nat.zero_le _,Nat.le_refl _,fun q y _ h=>absurd h (Nat.not_lt_zero _),fun q y h h2=>by have:=(List.getElem?_eq_some_iff.1 h).1; simp only [List.length_map] at this; omega⟩
 refine (go 8) (zW (fun h1=>?_) fun h1=>?_)
 ·refine (go 8) ?_
  refine za (r_natu64 (a:=(i + j)) rfl qO qO (by rw [underlying3]; rfl) underlying228) (za (r_shr (u:=(i + j)) (j:=1) rfl rfl qO qO) (za (r_int64 (a:=((i + j) / 2 ^ 1)) rfl qO (by rw [underlying228]; rfl) underlying3) ?_))
  refine (go 8) ?_
  obtain ⟨ad1,s1,hd1,hs1⟩:=elx hclA ((i + j) / 2 ^ 1)
  refine za (yz (i:=((i + j) / 2 ^ 1)) rfl hd1 rfl qO qI underlying32 inf81) ?_
  refine (go 2) ?_
  have hw1:=hwcl _ (List.mem_of_getElem? hs1)
  refine zc (fun _ h=>h.one 1 zG.Ok.loc rfl hs1) (uN wn rfl rfl call190 rfl (fun w1 hM=>c_all1 s1 _ t (In w1) w1 (fun _ h=>h) (hM.yS (i:=0) rfl) (hM.slp 3 rfl)) ?_)
  refine (go 3) (zW (fun h2=>?_) fun h2=>?_)
  ·refine (go 4) ?_
   refine zT (yK (yd (((i + j) / 2 ^ 1) + 1) j (sc rfl (sc rfl (sc rfl (sc rfl (sc (ji qO) (sc rfl sn)))))) (S9 [1,2,3]) ?_ ?_))
   ·exact ⟨by omega,by omega,Mn.asc_lt (x:=zG.e s1) has (by rw [List.getElem?_map,hs1]; rfl) h2,hI1.2.2.2⟩
   omega
  refine (go 3) ?_
  refine zT (yK (yd i ((i + j) / 2 ^ 1) (sc rfl (sc rfl (sc rfl (sc rfl (sc rfl (sc (ji qO) sn)))))) (S9 [1,2,3]) ?_ ?_))
  ·exact ⟨by omega,by omega,hI1.2.2.1,Mn.asc_ge (x:=zG.e s1) has (by rw [List.getElem?_map,hs1]; rfl) h2⟩
  omega
 refine (go 12) (yO 39 (fun h3=>?_) fun h3=>?_)
 ·refine (go 3) ?_
  obtain ⟨ad2,s2,hd2,hs2⟩:=elx hclA i
  refine (go 3) ?_
  have hw2:=hwcl _ (List.mem_of_getElem? hs2)
  refine zc (fun _ h=>h.one 1 zG.Ok.loc rfl hs2) (uN (wg rfl rfl rfl) rfl rfl call190 rfl (fun w1 hM=>c_all1 s2 _ t (In w1) w1 (fun _ h=>h) (hM.yS (i:=0) rfl) (hM.slp 3 rfl)) ?_)
  refine (go 7) (yL results189 fun w1 hM=>?_)
  have hp9:Mn.pos (cl.map zG.e) t=i:=Mn.pos_eq (by simp only [List.length_map]; omega) hI1.2.2.1 (by have:i=j:=qO; rw [this]; exact hI1.2.2.2)
  have hh9:Mn.has (cl.map zG.e) t=decide (zI.compare s2.sr.l t=0):=Mn.bs_has (x:=zG.e s2) has (by rw [List.getElem?_map,hs2]; rfl) hI1.2.2.1 (by have:j=i:=qO; exact hI1.2.2.2 i _ (by rw [List.getElem?_map,hs2]; rfl) qO)
  exact zP (by rw [hp9,hh9]) hM
 refine (go 14) (yL results189 fun w1 hM=>?_)
 have hp9:Mn.pos (cl.map zG.e) t=i:=Mn.pos_eq (by simp only [List.length_map]; omega) hI1.2.2.1 (by have:i=j:=qO; rw [this]; exact hI1.2.2.2)
 have hh9:Mn.has (cl.map zG.e) t=false:=Mn.bs_no (i:=i) (by simp only [List.length_map]; omega) hI1.2.2.1
 exact zP (by rw [hp9,hh9]) hM
set_option maxHeartbeats 2000000 in
theorem c_mall (wd:ByteArray) (by_v:Value) (by_:List ByteArray) (lv:Value) (l:List zG) (P0:Nat→Prop) (w:World) (hP0:∀ b,P0 b→b < w.heap.size) (hby_:zD P0 1 strE by_v by_ w) (hl:zD P0 2 zx lv l w) (hla:∀ x ∈ l,zG.Ok P0 x w) (hbl:∀ c ∈ l,-1125899906842624≤c.value∧c.value≤1125899906842624) (hsm:∀ c ∈ l,c.sr.l.length≤1048576) (hll:l.length≤1048576) :
    Calls prog 156 #[.string wd,by_v,lv] w (RetE w P0 (fun z:zd=>.tuple #[.agg (vn z).toArray,iV (Mn.all wd by_ (l.map zG.e)).2]) (fun z=>z.e=(Mn.all wd by_ (l.map zG.e)).1) (fun z S=>zd.Ok S z)):=by
 obtain ⟨by_A,by_c,rfl,hby_c,hby_m,hby_A⟩:=hby_.form
 have hwl:∀ x ∈ l,zG.Wf x:=fun x hx=>(hla x hx).wf
 obtain ⟨lA,lc,rfl,hlc,hlm,hlA⟩:=hl.form
 refine zq (N:=93) func156 (Mem.ofDatsP hP0 (dc (dlp hby_) (dc (dlp hl) (dc (dp (all_loc zG.Ok.loc _) hla) dn)))) ?_
 refine (go 2) (zw fun b6=>?_)
 refine (go 6) (zw fun b8=>?_)
 refine (go 12) ?_
 refine un (fun _ h=>h.vW zG 81 2 zx) (ux (fun _ h=>h.all0 zG.Ok.loc) (vb (fun (k:Nat) (cs:List zG) (ov:Value)=>[(0,.string wd),(1,.slice by_A by_.length by_c),(6,.pointer (some ⟨b6,0,none⟩)),(8,.pointer (some ⟨b8,0,none⟩)),(17,.slice lA l.length lc),(18,iV l.length),(19,iV k)]) (fun (k:Nat) (cs:List zG) (ov:Value)=>[allP zG.Ok cs,Row ov 81 2 zx cs,.blk b8 [.bool true,iV 0,ov] 172,.blk b6 [.bool false,iV 0,Zs] 172,slP 1 strE (.slice by_A by_.length by_c) by_,slP 2 zx (.slice lA l.length lc) l,allP zG.Ok l]) (fun (k:Nat) (cs:List zG) (ov:Value)=>k≤l.length∧(∀ x ∈ cs,zG.Wf x)∧Mn.allFrom wd by_ [] (l.map zG.e)=Mn.allFrom wd by_ (cs.map zG.e) ((l.drop k).map zG.e)∧Mn.Asc (cs.map zG.e)∧Mn.Fit (cs.map zG.e)∧cs.length≤k) (fun (k:Nat) (cs:List zG) (ov:Value)=>l.length - k) 0 [] (Zs) (sc rfl (sc rfl (sc rfl (sc rfl (sc rfl (sc rfl (sc (ji qO) sn))))))) (fun _ h=>h) ?_ (fun k cs ov hI1=>?_)))
 ·exact ⟨Nat.zero_le _,fun x hx=>(by cases hx),by rw [List.drop_zero]; rfl,List.Pairwise.nil,fun x hx=>(by cases hx),Nat.le_refl _⟩
 have hwf:=hI1.2.1
 have hasc:=hI1.2.2.2.1
 have hfit:=hI1.2.2.2.2.1
 have hlen:=hI1.2.2.2.2.2
 refine yW 1 (l:=cs) rfl fun A1 cp1 hv1 hc1 hm1 hA1=>?_
 subst hv1
 refine (go 6) (zW (fun h1=>?_) fun h1=>?_)
 ·refine (go 6) ?_
  obtain ⟨ad1,s1,hd1,hs1⟩:=elx hlA k
  refine (go 1) ?_
  have hb_s1:=hbl _ (List.mem_of_getElem? hs1)
  have hs_s1:=hsm _ (List.mem_of_getElem? hs1)
  refine (go 1) (zw fun b10=>?_)
  refine (go 8) ?_
  have hw1:=hwl _ (List.mem_of_getElem? hs1)
  refine zc (fun _ h=>h.one 7 zG.Ok.loc rfl hs1) (zc (fun _ h=>h.cellX 0 rfl) ?_)
  obtain ⟨hc2,hm2,hA2⟩:=hw1.sr
  refine vP (zI.only s1.sr.l by_) wn rfl call188 rfl (fun w1 hM=>c_only _ s1.sr.l _ by_ w1 (hM.slp 0 rfl) (hM.slp 7 rfl) (by first | assumption | omega)) fun A2 cp2 hc3 hm3 hA3=>?_
  refine (go 10) ?_
  refine yq [(0,.string wd),(1,.slice by_A by_.length by_c),(6,.pointer (some ⟨b6,0,none⟩)),(8,.pointer (some ⟨b8,0,none⟩)),(11,.slice A2 ((zI.only s1.sr.l by_).length) cp2),(12,iV (if wd=⟨#[99,111,117,110,116]⟩ then 1 else s1.value)),(17,.slice lA l.length lc),(18,iV l.length),(19,iV k)] (Mem w ⟨no,P0⟩ [Row (.slice A2 ((zI.only s1.sr.l by_).length) cp2) 74 2 zS (zI.only s1.sr.l by_),slP 2 zS (.slice s1.sr.A s1.sr.l.length s1.sr.c) s1.sr.l,okP zG.Ok s1,.blk b10 [.slice s1.sr.A s1.sr.l.length s1.sr.c,iV s1.value] 81,allP zG.Ok cs,Row (.slice A1 cs.length cp1) 81 2 zx cs,.blk b8 [.bool true,iV 0,.slice A1 cs.length cp1] 172,.blk b6 [.bool false,iV 0,Zs] 172,slP 1 strE (.slice by_A by_.length by_c) by_,slP 2 zx (.slice lA l.length lc) l,allP zG.Ok l]) (fun _ hK11=>?_) ?_
  ·refine (go 6) (zW (fun h2=>?_) fun h2=>?_)
   ·refine (go 2) ?_
    refine zT (zt hK11 (sc rfl (sc rfl (sc rfl (sc rfl (sc rfl (sc (by first | (simp only [if_pos h2]; done) | (simp only [if_pos h2]; rfl)) (sc rfl (sc rfl (sc rfl sn))))))))) (fun _ h=>h))
   refine uH (zt hK11 (sc rfl (sc rfl (sc rfl (sc rfl (sc rfl (sc (by first | (simp only [if_neg h2]; done) | (simp only [if_neg h2]; rfl)) (sc rfl (sc rfl (sc rfl sn))))))))) (fun _ h=>h))
  refine (go 2) ?_
  have hux:-1125899906842624≤(if wd=⟨#[99,111,117,110,116]⟩ then 1 else s1.value)∧(if wd=⟨#[99,111,117,110,116]⟩ then 1 else s1.value)≤1125899906842624:=Mn.unit_rng (w:=wd) hb_s1
  refine (go 3) ?_
  refine yF call189 wn rfl (fun w1 hM=>c_bsC _ cs _ (zI.only s1.sr.l by_) (In w1) w1 (fun _ h=>h) (RowSl encCellX hM 5 rfl) (hM.yS (i:=4) rfl) (RowSl encLabel hM 0 rfl) hasc qO) ?_
  refine (go 11) ?_
  refine za (yE rfl) ?_
  refine (go 2) (yg (fun h3=>?_) fun h3=>?_)
  ·have hhas:Mn.has (cs.map zG.e) (zI.only s1.sr.l by_)=false:=by simpa using h3
   refine (go 8) ?_
   refine zy zx ([(zG.mk ⟨A2,cp2,(zI.only s1.sr.l by_)⟩ (if wd=⟨#[99,111,117,110,116]⟩ then 1 else s1.value))]:List zG) wn underlying32 inf81 rfl rfl rfl rfl qD qD rfl fun b46=>jP 1 encLabel rfl rfl (zg (α:=Value) [Row (.slice A1 cs.length cp1) 81 2 zx cs,Row (.slice (some ⟨b46,0,none⟩) 1 1) 81 2 zx ([(zG.mk ⟨A2,cp2,(zI.only s1.sr.l by_)⟩ (if wd=⟨#[99,111,117,110,116]⟩ then 1 else s1.value))]:List zG)] [slP 2 zS (.slice A2 ((zI.only s1.sr.l by_).length) cp2) (zI.only s1.sr.l by_),slP 2 zS (.slice s1.sr.A s1.sr.l.length s1.sr.c) s1.sr.l,okP zG.Ok s1,.blk b10 [.slice s1.sr.A s1.sr.l.length s1.sr.c,iV s1.value] 81,allP zG.Ok cs,.blk b8 [.bool true,iV 0,.slice A1 cs.length cp1] 172,.blk b6 [.bool false,iV 0,Zs] 172,slP 1 strE (.slice by_A by_.length by_c) by_,slP 2 zx (.slice lA l.length lc) l,allP zG.Ok l] (fun z=>z) (fun z1=>True) (fun z1=>[Row z1 81 2 zx (cs.take (Mn.pos (cs.map zG.e) (zI.only s1.sr.l by_))++(zG.mk ⟨A2,cp2,(zI.only s1.sr.l by_)⟩ (if wd=⟨#[99,111,117,110,116]⟩ then 1 else s1.value))::cs.drop (Mn.pos (cs.map zG.e) (zI.only s1.sr.l by_)))]) _ (fun _=>rfl) (S9 [6,0,1,2,3,4,5,7,8,9,10,11]) (fun _=>rfl) wn rfl rfl call191 rfl (fun w1 Pb hG=>c_insertC _ _ cs (zG.mk ⟨A2,cp2,(zI.only s1.sr.l by_)⟩ (if wd=⟨#[99,111,117,110,116]⟩ then 1 else s1.value)) (Mn.pos (cs.map zG.e) (zI.only s1.sr.l by_)) Pb w1 hG Mn.pos_le' qO) fun z1 hz1=>yP 0 (l:=(cs.take (Mn.pos (cs.map zG.e) (zI.only s1.sr.l by_))++(zG.mk ⟨A2,cp2,(zI.only s1.sr.l by_)⟩ (if wd=⟨#[99,111,117,110,116]⟩ then 1 else s1.value))::cs.drop (Mn.pos (cs.map zG.e) (zI.only s1.sr.l by_)))) rfl fun A3 cp3 hv2 hc4 hm4 hA4=>?_)
   subst hv2
   refine zc (fun _ h=>h.allIns (l':=(cs.take (Mn.pos (cs.map zG.e) (zI.only s1.sr.l by_))++(zG.mk ⟨A2,cp2,(zI.only s1.sr.l by_)⟩ (if wd=⟨#[99,111,117,110,116]⟩ then 1 else s1.value))::cs.drop (Mn.pos (cs.map zG.e) (zI.only s1.sr.l by_)))) 5 1 rfl rfl ins_of) ?_
   have hw2:∀ y ∈ (cs.take (Mn.pos (cs.map zG.e) (zI.only s1.sr.l by_))++(zG.mk ⟨A2,cp2,(zI.only s1.sr.l by_)⟩ (if wd=⟨#[99,111,117,110,116]⟩ then 1 else s1.value))::cs.drop (Mn.pos (cs.map zG.e) (zI.only s1.sr.l by_))),zG.Wf y:=fun y hy=>(ins_of y hy).elim (hwf y) fun e=>⟨by rw [e]; exact (show Ex.Wf ⟨A2,cp2,(zI.only s1.sr.l by_)⟩ from ⟨by omega,by omega,hA3⟩)⟩
   refine (go 11) ?_
   refine zT (yG (k + 1) (cs.take (Mn.pos (cs.map zG.e) (zI.only s1.sr.l by_))++(zG.mk ⟨A2,cp2,(zI.only s1.sr.l by_)⟩ (if wd=⟨#[99,111,117,110,116]⟩ then 1 else s1.value))::cs.drop (Mn.pos (cs.map zG.e) (zI.only s1.sr.l by_))) (.slice A3 ((cs.take (Mn.pos (cs.map zG.e) (zI.only s1.sr.l by_))++(zG.mk ⟨A2,cp2,(zI.only s1.sr.l by_)⟩ (if wd=⟨#[99,111,117,110,116]⟩ then 1 else s1.value))::cs.drop (Mn.pos (cs.map zG.e) (zI.only s1.sr.l by_))).length) cp3) (sc rfl (sc rfl (sc rfl (sc rfl (sc rfl (sc rfl (sc (ji qO) sn))))))) (S9 [0,1,7,8,9,10,11]) ?_ ?_)
   ·obtain ⟨g1,g2,g3⟩:=Mn.all_ins (w:=wd) (by_:=by_) (s:=zI.only s1.sr.l by_) (c:=zG.e s1) (r:=(l.drop (k + 1)).map zG.e) (x:=(if wd=⟨#[99,111,117,110,116]⟩ then 1 else s1.value)) (z:=(zG.mk ⟨A2,cp2,(zI.only s1.sr.l by_)⟩ (if wd=⟨#[99,111,117,110,116]⟩ then 1 else s1.value))) rfl rfl rfl hhas hfit hb_s1
    exact ⟨by omega,hw2,by rw [hI1.2.2.1,Mn.drop_map hs1,g3,← g1],by rw [g1]; exact Mn.put_asc hasc,by rw [g1]; exact g2,by rw [ins_len Mn.pos_le']; omega⟩
   omega
  have hhas:Mn.has (cs.map zG.e) (zI.only s1.sr.l by_)=true:=by simpa using h3
  have hpl:=Mn.pos_lt hasc hhas
  refine (go 7) ?_
  obtain ⟨ad2,hd2⟩:=hA1 (ne_nil (i:=(Mn.pos (cs.map zG.e) (zI.only s1.sr.l by_))) qI)
  refine za (yz (i:=(Mn.pos (cs.map zG.e) (zI.only s1.sr.l by_))) rfl hd2 rfl qO qI underlying32 inf81) ?_
  refine (go 16) (zW (fun h4=>?_) fun h4=>?_)
  ·refine (go 5) ?_
   obtain ⟨s2,hs2⟩:=gx cs ((Mn.pos (cs.map zG.e) (zI.only s1.sr.l by_)))
   have hb_s2:=Mn.Fit.at_ hfit hs2
   refine za (uE 5 encCellX rfl rfl hd2 hs2 rfl flat3) ?_
   refine (go 4) ?_
   refine uF 5 (vs:=[iV (if s2.value < (if wd=⟨#[99,111,117,110,116]⟩ then 1 else s1.value) then (if wd=⟨#[99,111,117,110,116]⟩ then 1 else s1.value) else s2.value)]) (zG.mk ⟨s2.sr.A,s2.sr.c,s2.sr.l⟩ (if s2.value < (if wd=⟨#[99,111,117,110,116]⟩ then 1 else s1.value) then (if wd=⟨#[99,111,117,110,116]⟩ then 1 else s1.value) else s2.value)) encCellX wn rfl rfl rfl rfl hd2 hs2 inf3 rfl rfl rfl rfl (zc (fun _ h=>h.allOf (l':=(cs.set (Mn.pos (cs.map zG.e) (zI.only s1.sr.l by_)) (zG.mk ⟨s2.sr.A,s2.sr.c,s2.sr.l⟩ (if s2.value < (if wd=⟨#[99,111,117,110,116]⟩ then 1 else s1.value) then (if wd=⟨#[99,111,117,110,116]⟩ then 1 else s1.value) else s2.value)))) 4 rfl (set_of hs2 rfl)) ?_)
   have hw3:∀ x ∈ (cs.set (Mn.pos (cs.map zG.e) (zI.only s1.sr.l by_)) (zG.mk ⟨s2.sr.A,s2.sr.c,s2.sr.l⟩ (if s2.value < (if wd=⟨#[99,111,117,110,116]⟩ then 1 else s1.value) then (if wd=⟨#[99,111,117,110,116]⟩ then 1 else s1.value) else s2.value))),zG.Wf x:=fun x hx=>by obtain ⟨y,hy,e⟩:=set_of (z:=(zG.mk ⟨s2.sr.A,s2.sr.c,s2.sr.l⟩ (if s2.value < (if wd=⟨#[99,111,117,110,116]⟩ then 1 else s1.value) then (if wd=⟨#[99,111,117,110,116]⟩ then 1 else s1.value) else s2.value))) hs2 rfl x hx; exact ⟨by rw [e]; exact (hwf y hy).sr⟩
   refine (go 8) ?_
   refine za (uE 6 encCellX rfl rfl hd2 (set_at hs2) rfl flat3) (yF call192 wn rfl (fun w1 hM=>ut ((zG.mk ⟨s2.sr.A,s2.sr.c,s2.sr.l⟩ (if s2.value < (if wd=⟨#[99,111,117,110,116]⟩ then 1 else s1.value) then (if wd=⟨#[99,111,117,110,116]⟩ then 1 else s1.value) else s2.value)).value) w1) (za (yE rfl) ?_))
   refine (go 2) (yg (fun h5=>?_) fun h5=>?_)
   ·refine (go 13) (yL results156 fun w1 hM=>?_)
    obtain ⟨g1,_,g2⟩:=Mn.all_set (w:=wd) (by_:=by_) (s:=zI.only s1.sr.l by_) (c:=zG.e s1) (r:=(l.drop (k + 1)).map zG.e) (x:=(if wd=⟨#[99,111,117,110,116]⟩ then 1 else s1.value)) (z:=(zG.mk ⟨s2.sr.A,s2.sr.c,s2.sr.l⟩ (if s2.value < (if wd=⟨#[99,111,117,110,116]⟩ then 1 else s1.value) then (if wd=⟨#[99,111,117,110,116]⟩ then 1 else s1.value) else s2.value))) rfl rfl hasc hhas hfit hs2 rfl (by show _=Mn.comb wd s2.value (if wd=⟨#[99,111,117,110,116]⟩ then 1 else s1.value); unfold Mn.comb; grind)
    have hb9:Mn.all wd by_ (l.map zG.e)=(Mn.zero,3):=by rw [Mn.all,hI1.2.2.1,Mn.drop_map hs1,g2 (by simpa using h5)]
    exact hM.vD (⟨false,0,⟨none,0,[]⟩⟩:zd) (by first | (rw [hb9]; done) | (rw [hb9]; rfl)) (by first | (rw [hb9]; done) | (rw [hb9]; rfl)) fun Pb pp=>⟨zD.zu _ _ _ _,fun c hc=>by cases hc⟩
   refine (go 6) ?_
   refine zT (yG (k + 1) (cs.set (Mn.pos (cs.map zG.e) (zI.only s1.sr.l by_)) (zG.mk ⟨s2.sr.A,s2.sr.c,s2.sr.l⟩ (if s2.value < (if wd=⟨#[99,111,117,110,116]⟩ then 1 else s1.value) then (if wd=⟨#[99,111,117,110,116]⟩ then 1 else s1.value) else s2.value))) (.slice A1 cs.length cp1) (sc rfl (sc rfl (sc rfl (sc rfl (sc rfl (sc rfl (sc (ji qO) sn))))))) (S9 [0,6,7,8,9,10,11]) ?_ ?_)
   ·obtain ⟨g1,g2,_⟩:=Mn.all_set (w:=wd) (by_:=by_) (s:=zI.only s1.sr.l by_) (c:=zG.e s1) (r:=(l.drop (k + 1)).map zG.e) (x:=(if wd=⟨#[99,111,117,110,116]⟩ then 1 else s1.value)) (z:=(zG.mk ⟨s2.sr.A,s2.sr.c,s2.sr.l⟩ (if s2.value < (if wd=⟨#[99,111,117,110,116]⟩ then 1 else s1.value) then (if wd=⟨#[99,111,117,110,116]⟩ then 1 else s1.value) else s2.value))) rfl rfl hasc hhas hfit hs2 rfl (by show _=Mn.comb wd s2.value (if wd=⟨#[99,111,117,110,116]⟩ then 1 else s1.value); unfold Mn.comb; grind)
    obtain ⟨g3,g4⟩:=g2 (by simpa using h5)
    exact ⟨by omega,hw3,by rw [hI1.2.2.1,Mn.drop_map hs1,g4,← g1],by rw [g1]; exact Mn.put_asc hasc,by rw [g1]; exact g3,by rw [List.length_set]; omega⟩
   omega
  refine (go 6) (zW (fun h6=>?_) fun h6=>?_)
  ·refine (go 5) ?_
   obtain ⟨s3,hs3⟩:=gx cs ((Mn.pos (cs.map zG.e) (zI.only s1.sr.l by_)))
   have hb_s3:=Mn.Fit.at_ hfit hs3
   refine za (uE 5 encCellX rfl rfl hd2 hs3 rfl flat3) ?_
   refine (go 4) ?_
   refine uF 5 (vs:=[iV (if (if wd=⟨#[99,111,117,110,116]⟩ then 1 else s1.value) < s3.value then (if wd=⟨#[99,111,117,110,116]⟩ then 1 else s1.value) else s3.value)]) (zG.mk ⟨s3.sr.A,s3.sr.c,s3.sr.l⟩ (if (if wd=⟨#[99,111,117,110,116]⟩ then 1 else s1.value) < s3.value then (if wd=⟨#[99,111,117,110,116]⟩ then 1 else s1.value) else s3.value)) encCellX wn rfl rfl rfl rfl hd2 hs3 inf3 rfl rfl rfl rfl (zc (fun _ h=>h.allOf (l':=(cs.set (Mn.pos (cs.map zG.e) (zI.only s1.sr.l by_)) (zG.mk ⟨s3.sr.A,s3.sr.c,s3.sr.l⟩ (if (if wd=⟨#[99,111,117,110,116]⟩ then 1 else s1.value) < s3.value then (if wd=⟨#[99,111,117,110,116]⟩ then 1 else s1.value) else s3.value)))) 4 rfl (set_of hs3 rfl)) ?_)
   have hw4:∀ x ∈ (cs.set (Mn.pos (cs.map zG.e) (zI.only s1.sr.l by_)) (zG.mk ⟨s3.sr.A,s3.sr.c,s3.sr.l⟩ (if (if wd=⟨#[99,111,117,110,116]⟩ then 1 else s1.value) < s3.value then (if wd=⟨#[99,111,117,110,116]⟩ then 1 else s1.value) else s3.value))),zG.Wf x:=fun x hx=>by obtain ⟨y,hy,e⟩:=set_of (z:=(zG.mk ⟨s3.sr.A,s3.sr.c,s3.sr.l⟩ (if (if wd=⟨#[99,111,117,110,116]⟩ then 1 else s1.value) < s3.value then (if wd=⟨#[99,111,117,110,116]⟩ then 1 else s1.value) else s3.value))) hs3 rfl x hx; exact ⟨by rw [e]; exact (hwf y hy).sr⟩
   refine (go 8) ?_
   refine za (uE 6 encCellX rfl rfl hd2 (set_at hs3) rfl flat3) (yF call192 wn rfl (fun w1 hM=>ut ((zG.mk ⟨s3.sr.A,s3.sr.c,s3.sr.l⟩ (if (if wd=⟨#[99,111,117,110,116]⟩ then 1 else s1.value) < s3.value then (if wd=⟨#[99,111,117,110,116]⟩ then 1 else s1.value) else s3.value)).value) w1) (za (yE rfl) ?_))
   refine (go 2) (yg (fun h7=>?_) fun h7=>?_)
   ·refine (go 13) (yL results156 fun w1 hM=>?_)
    obtain ⟨g1,_,g2⟩:=Mn.all_set (w:=wd) (by_:=by_) (s:=zI.only s1.sr.l by_) (c:=zG.e s1) (r:=(l.drop (k + 1)).map zG.e) (x:=(if wd=⟨#[99,111,117,110,116]⟩ then 1 else s1.value)) (z:=(zG.mk ⟨s3.sr.A,s3.sr.c,s3.sr.l⟩ (if (if wd=⟨#[99,111,117,110,116]⟩ then 1 else s1.value) < s3.value then (if wd=⟨#[99,111,117,110,116]⟩ then 1 else s1.value) else s3.value))) rfl rfl hasc hhas hfit hs3 rfl (by show _=Mn.comb wd s3.value (if wd=⟨#[99,111,117,110,116]⟩ then 1 else s1.value); unfold Mn.comb; grind)
    have hb9:Mn.all wd by_ (l.map zG.e)=(Mn.zero,3):=by rw [Mn.all,hI1.2.2.1,Mn.drop_map hs1,g2 (by simpa using h7)]
    exact hM.vD (⟨false,0,⟨none,0,[]⟩⟩:zd) (by first | (rw [hb9]; done) | (rw [hb9]; rfl)) (by first | (rw [hb9]; done) | (rw [hb9]; rfl)) fun Pb pp=>⟨zD.zu _ _ _ _,fun c hc=>by cases hc⟩
   refine (go 6) ?_
   refine zT (yG (k + 1) (cs.set (Mn.pos (cs.map zG.e) (zI.only s1.sr.l by_)) (zG.mk ⟨s3.sr.A,s3.sr.c,s3.sr.l⟩ (if (if wd=⟨#[99,111,117,110,116]⟩ then 1 else s1.value) < s3.value then (if wd=⟨#[99,111,117,110,116]⟩ then 1 else s1.value) else s3.value))) (.slice A1 cs.length cp1) (sc rfl (sc rfl (sc rfl (sc rfl (sc rfl (sc rfl (sc (ji qO) sn))))))) (S9 [0,6,7,8,9,10,11]) ?_ ?_)
   ·obtain ⟨g1,g2,_⟩:=Mn.all_set (w:=wd) (by_:=by_) (s:=zI.only s1.sr.l by_) (c:=zG.e s1) (r:=(l.drop (k + 1)).map zG.e) (x:=(if wd=⟨#[99,111,117,110,116]⟩ then 1 else s1.value)) (z:=(zG.mk ⟨s3.sr.A,s3.sr.c,s3.sr.l⟩ (if (if wd=⟨#[99,111,117,110,116]⟩ then 1 else s1.value) < s3.value then (if wd=⟨#[99,111,117,110,116]⟩ then 1 else s1.value) else s3.value))) rfl rfl hasc hhas hfit hs3 rfl (by show _=Mn.comb wd s3.value (if wd=⟨#[99,111,117,110,116]⟩ then 1 else s1.value); unfold Mn.comb; grind)
    obtain ⟨g3,g4⟩:=g2 (by simpa using h7)
    exact ⟨by omega,hw4,by rw [hI1.2.2.1,Mn.drop_map hs1,g4,← g1],by rw [g1]; exact Mn.put_asc hasc,by rw [g1]; exact g3,by rw [List.length_set]; omega⟩
   omega
  refine (go 4) ?_
  obtain ⟨s4,hs4⟩:=gx cs ((Mn.pos (cs.map zG.e) (zI.only s1.sr.l by_)))
  have hb_s4:=Mn.Fit.at_ hfit hs4
  refine za (uE 5 encCellX rfl rfl hd2 hs4 rfl flat3) ?_
  refine (go 4) ?_
  refine uF 5 (vs:=[iV (s4.value + (if wd=⟨#[99,111,117,110,116]⟩ then 1 else s1.value))]) (zG.mk ⟨s4.sr.A,s4.sr.c,s4.sr.l⟩ (s4.value + (if wd=⟨#[99,111,117,110,116]⟩ then 1 else s1.value))) encCellX wn rfl rfl rfl rfl hd2 hs4 inf3 rfl rfl rfl rfl (zc (fun _ h=>h.allOf (l':=(cs.set (Mn.pos (cs.map zG.e) (zI.only s1.sr.l by_)) (zG.mk ⟨s4.sr.A,s4.sr.c,s4.sr.l⟩ (s4.value + (if wd=⟨#[99,111,117,110,116]⟩ then 1 else s1.value))))) 4 rfl (set_of hs4 rfl)) ?_)
  have hw5:∀ x ∈ (cs.set (Mn.pos (cs.map zG.e) (zI.only s1.sr.l by_)) (zG.mk ⟨s4.sr.A,s4.sr.c,s4.sr.l⟩ (s4.value + (if wd=⟨#[99,111,117,110,116]⟩ then 1 else s1.value)))),zG.Wf x:=fun x hx=>by obtain ⟨y,hy,e⟩:=set_of (z:=(zG.mk ⟨s4.sr.A,s4.sr.c,s4.sr.l⟩ (s4.value + (if wd=⟨#[99,111,117,110,116]⟩ then 1 else s1.value)))) hs4 rfl x hx; exact ⟨by rw [e]; exact (hwf y hy).sr⟩
  refine (go 8) ?_
  refine za (uE 6 encCellX rfl rfl hd2 (set_at hs4) rfl flat3) (yF call192 wn rfl (fun w1 hM=>ut ((zG.mk ⟨s4.sr.A,s4.sr.c,s4.sr.l⟩ (s4.value + (if wd=⟨#[99,111,117,110,116]⟩ then 1 else s1.value))).value) w1) (za (yE rfl) ?_))
  refine (go 2) (yg (fun h8=>?_) fun h8=>?_)
  ·refine (go 13) (yL results156 fun w1 hM=>?_)
   obtain ⟨g1,_,g2⟩:=Mn.all_set (w:=wd) (by_:=by_) (s:=zI.only s1.sr.l by_) (c:=zG.e s1) (r:=(l.drop (k + 1)).map zG.e) (x:=(if wd=⟨#[99,111,117,110,116]⟩ then 1 else s1.value)) (z:=(zG.mk ⟨s4.sr.A,s4.sr.c,s4.sr.l⟩ (s4.value + (if wd=⟨#[99,111,117,110,116]⟩ then 1 else s1.value)))) rfl rfl hasc hhas hfit hs4 rfl (by show _=Mn.comb wd s4.value (if wd=⟨#[99,111,117,110,116]⟩ then 1 else s1.value); unfold Mn.comb; grind)
   have hb9:Mn.all wd by_ (l.map zG.e)=(Mn.zero,3):=by rw [Mn.all,hI1.2.2.1,Mn.drop_map hs1,g2 (by simpa using h8)]
   exact hM.vD (⟨false,0,⟨none,0,[]⟩⟩:zd) (by first | (rw [hb9]; done) | (rw [hb9]; rfl)) (by first | (rw [hb9]; done) | (rw [hb9]; rfl)) fun Pb pp=>⟨zD.zu _ _ _ _,fun c hc=>by cases hc⟩
  refine (go 6) ?_
  refine zT (yG (k + 1) (cs.set (Mn.pos (cs.map zG.e) (zI.only s1.sr.l by_)) (zG.mk ⟨s4.sr.A,s4.sr.c,s4.sr.l⟩ (s4.value + (if wd=⟨#[99,111,117,110,116]⟩ then 1 else s1.value)))) (.slice A1 cs.length cp1) (sc rfl (sc rfl (sc rfl (sc rfl (sc rfl (sc rfl (sc (ji qO) sn))))))) (S9 [0,6,7,8,9,10,11]) ?_ ?_)
  ·obtain ⟨g1,g2,_⟩:=Mn.all_set (w:=wd) (by_:=by_) (s:=zI.only s1.sr.l by_) (c:=zG.e s1) (r:=(l.drop (k + 1)).map zG.e) (x:=(if wd=⟨#[99,111,117,110,116]⟩ then 1 else s1.value)) (z:=(zG.mk ⟨s4.sr.A,s4.sr.c,s4.sr.l⟩ (s4.value + (if wd=⟨#[99,111,117,110,116]⟩ then 1 else s1.value)))) rfl rfl hasc hhas hfit hs4 rfl (by show _=Mn.comb wd s4.value (if wd=⟨#[99,111,117,110,116]⟩ then 1 else s1.value); unfold Mn.comb; grind)
   obtain ⟨g3,g4⟩:=g2 (by simpa using h8)
   exact ⟨by omega,hw5,by rw [hI1.2.2.1,Mn.drop_map hs1,g4,← g1],by rw [g1]; exact Mn.put_asc hasc,by rw [g1]; exact g3,by rw [List.length_set]; omega⟩
  omega
 refine (go 13) (yL results156 fun w1 hM=>?_)
 have hb9:Mn.all wd by_ (l.map zG.e)=(⟨true,0,cs.map zG.e⟩,0):=by rw [Mn.all,hI1.2.2.1,Mn.drop_end qO,Mn.allFrom]
 have hM:=hM.zo encCellX (i:=1) rfl rfl
 exact hM.vD (⟨true,0,⟨A1,cp1,cs⟩⟩:zd) (by first | (rw [hb9]; done) | (rw [hb9]; rfl)) (by first | (rw [hb9]; done) | (rw [hb9]; rfl)) fun Pb pp=>⟨pp.sl 1 rfl,pp.at_ 0 _ rfl⟩
end
section
open Tryz
open Ex
attribute [local irreducible] WC WL WQ WE WS
set_option linter.unusedVariables false
set_option linter.unusedSimpArgs false
set_option maxHeartbeats 1000000 in
theorem c_gwindow (vad ead:Addr) (time n:Int) (f:Nat) (fcap:Array Value) (o:Int→Own) (S:Nat→Prop) (C:World→Prop) (lk:Look) (sk:Sk) (e:zB) (Pb:Nat→Prop) (w:World) (hG:Mem w ⟨fpOf [(o n),.dat S C,celP vad [iV time,.func (.func f) #[] fcap],celP ead [iV e.kind,iV e.n,iV e.range,.string e.word,.slice e.ms.A e.ms.l.length e.ms.c,.slice e.by_.A e.by_.l.length e.by_.c,.slice e.kids.A e.kids.l.length e.kids.c],okP zB.Ok e],Pb⟩ [(o n),.dat S C,celP vad [iV time,.func (.func f) #[] fcap],celP ead [iV e.kind,iV e.n,iV e.range,.string e.word,.slice e.ms.A e.ms.l.length e.ms.c,.slice e.by_.A e.by_.l.length e.by_.c,.slice e.kids.A e.kids.l.length e.kids.c],okP zB.Ok e] w) (hf:WinG prog f fcap o S C lk sk) (hg:Mn.GoodLook lk) (ht:0≤time∧time≤1000000) (hr:1≤e.range∧e.range≤100000) :
    Calls prog 155 #[.pointer (some ((Addr.add vad 0).add 0)),.pointer (some ((Addr.add ead 0).add 0))] w (RetA w [(o n),.dat S C,celP vad [iV time,.func (.func f) #[] fcap],celP ead [iV e.kind,iV e.n,iV e.range,.string e.word,.slice e.ms.A e.ms.l.length e.ms.c,.slice e.by_.A e.by_.l.length e.by_.c,.slice e.kids.A e.kids.l.length e.kids.c],okP zB.Ok e] Pb (fun z:zd=>.tuple #[.agg (vn z).toArray,iV (Mn.window lk time e.word e.ms.l e.range).2]) (fun z=>z.e=(Mn.window lk time e.word e.ms.l e.range).1) (fun z=>[okP zd.Ok z,o (sk e.ms.l (Mn.frm time e.range) time n),celP vad [iV time,.func (.func f) #[] fcap],celP ead (zk e),okP zB.Ok e])):=by
 have hwe:=(hG.yS (i:=4) rfl).wf
 refine zq (N:=76) (vals:=[.pointer (some ((Addr.add vad 0).add 0)),.pointer (some ((Addr.add ead 0).add 0))]) func155 hG ?_
 refine (go 2) (zw fun b4=>?_)
 refine (go 4) ?_
 refine yM (Mem w ⟨fpOf [(o n),.dat S C,celP vad [iV time,.func (.func f) #[] fcap],celP ead [iV e.kind,iV e.n,iV e.range,.string e.word,.slice e.ms.A e.ms.l.length e.ms.c,.slice e.by_.A e.by_.l.length e.by_.c,.slice e.kids.A e.kids.l.length e.kids.c],okP zB.Ok e],Pb⟩ [.blk b4 [.bool false,iV 0,Zs] 172,.dat S C,celP vad [iV time,.func (.func f) #[] fcap],celP ead [iV e.kind,iV e.n,iV e.range,.string e.word,.slice e.ms.A e.ms.l.length e.ms.c,.slice e.by_.A e.by_.l.length e.by_.c,.slice e.kids.A e.kids.l.length e.kids.c],okP zB.Ok e]) mix (fun _ h=>h.drew) rfl (yN 8 [0,1,2,3,4,5,6,7,8,9,10,11,12,13,14,15,16,17,18,19,20,21] [0,2,3,4,5] rfl fun KS hKS=>?_)
 refine (go 22) ?_
 refine zi hKS (zf 7 22 (zh (i:=22) rfl fun KN hKN=>zc (fun _ h=>h.exprX 5 rfl) ?_))
 obtain ⟨hc1,hm1,hA1⟩:=hwe.ms
 obtain ⟨hc2,hm2,hA2⟩:=hwe.by_
 obtain ⟨hc3,hm3,hA3⟩:=hwe.kids
 refine zc (fun _ h=>(h.dup 6 rfl rfl).dup 1 rfl rfl) (l_callA [(o n),.dat S C,slP 3 zl (.slice e.ms.A e.ms.l.length e.ms.c) e.ms.l] [slP 3 zl (.slice e.ms.A e.ms.l.length e.ms.c) e.ms.l,slP 1 strE (.slice e.by_.A e.by_.l.length e.by_.c) e.by_.l,slP 7 zk (.slice e.kids.A e.kids.l.length e.kids.c) e.kids.l,allP zB.Ok e.kids.l,.blk b4 [.bool false,iV 0,Zs] 172,.dat S C,celP vad [iV time,.func (.func f) #[] fcap],celP ead [iV e.kind,iV e.n,iV e.range,.string e.word,.slice e.ms.A e.ms.l.length e.ms.c,.slice e.by_.A e.by_.l.length e.by_.c,.slice e.kids.A e.kids.l.length e.kids.c],okP zB.Ok e] (winV (lk e.ms.l (Mn.frm time e.range) time).2) (fun z=>yw.is z (lk e.ms.l (Mn.frm time e.range) time).1) (fun z=>[.pub (fun S=>yw.Ok S z),o (sk e.ms.l (Mn.frm time e.range) time n)]) (S9 [7,1,0,2,3,4,5,6,8,9,10,11]) (fun _=>hq2 (hf.ok _)) wn rfl rfl hf.call rfl (fun w1 Pb hG=>hf.run ⟨e.ms.A,e.ms.c,e.ms.l⟩ (Mn.frm time e.range) time n w1 Pb hG (Mn.frm_nn _ _) ht.2) fun z1 hz1=>yn 0 rfl (fun S w h=>yw.Ok.wf h) fun hw1=>zc (fun _ h=>h.winX 0 rfl) ?_)
 obtain ⟨hc4,hm4,hA4⟩:=hw1.sr
 obtain ⟨hc5,hm5,hA5⟩:=hw1.sm
 refine (go 1) ?_
 refine hKN _ _ (S9 [9,10,11,12,13]) (yN 0 [23,24,25,26,27,28,29] [9,10,11,12,13] rfl fun KS hKS=>?_)
 refine (go 7) ?_
 refine zi hKS ?_
 refine zz (by kernel_rfl) ((go 1) ?_)
 refine (go 7) (zW (fun h1=>?_) fun h1=>?_)
 ·refine (go 10) (yL results155 fun w1 hM=>?_)
  have hb9:Mn.window lk time e.word e.ms.l e.range=(Mn.zero,(lk e.ms.l (Mn.frm time e.range) time).2):=by rw [Mn.window,if_pos (by simpa using h1)]
  have hn9:(sk e.ms.l (Mn.frm time e.range) time n)=sk e.ms.l (Mn.frm time e.range) time n:=rfl
  have hM:=hM.yX (zd.Ok.loc (⟨false,0,⟨none,0,[]⟩⟩:zd)) fun Pb pp=>⟨zD.zu _ _ _ _,fun c hc=>by cases hc⟩
  exact hM.yR (⟨false,0,⟨none,0,[]⟩⟩:zd) (by first | (rw [hb9]; done) | (rw [hb9]; rfl)) (by first | (rw [hb9]; done) | (rw [hb9]; rfl)) (fun h=>by rw [← hn9]; exact h.sel [0,5,12,13,14] qD rfl)
 refine (go 5) (zw fun b9=>?_)
 refine (go 12) ?_
 have hl1:z1.sr.l.length=(lk e.ms.l (Mn.frm time e.range) time).1.length:=by have:=congrArg List.length hz1.1; simpa using this
 have hl2:z1.sm.l.length=(lk e.ms.l (Mn.frm time e.range) time).1.length:=by have:=congrArg List.length hz1.2; simpa using this
 have hl3:=(hg e.ms.l (Mn.frm time e.range) time).1
 refine un (fun _ h=>h.vW zG 81 2 zx) (ux (fun _ h=>h.all0 zG.Ok.loc) (vb (fun (k:Nat) (cs:List zG) (ov:Value)=>[(1,.pointer (some ((Addr.add ead 0).add 0))),(4,.pointer (some ⟨b4,0,none⟩)),(7,.slice z1.sm.A z1.sm.l.length z1.sm.c),(9,.pointer (some ⟨b9,0,none⟩)),(46,.slice z1.sr.A z1.sr.l.length z1.sr.c),(47,iV z1.sr.l.length),(48,iV k)]) (fun (k:Nat) (cs:List zG) (ov:Value)=>[allP zG.Ok cs,Row ov 81 2 zx cs,.blk b9 [.bool true,iV 0,ov] 172,slP 1 serE (.slice z1.sr.A z1.sr.l.length z1.sr.c) z1.sr.l,allP yI.Ok z1.sr.l,slP 7 sumE (.slice z1.sm.A z1.sm.l.length z1.sm.c) z1.sm.l,.pub (fun S=>yw.Ok S z1),(o (sk e.ms.l (Mn.frm time e.range) time n)),slP 3 zl (.slice e.ms.A e.ms.l.length e.ms.c) e.ms.l,slP 1 strE (.slice e.by_.A e.by_.l.length e.by_.c) e.by_.l,slP 7 zk (.slice e.kids.A e.kids.l.length e.kids.c) e.kids.l,allP zB.Ok e.kids.l,.blk b4 [.bool false,iV 0,Zs] 172,.dat S C,celP vad [iV time,.func (.func f) #[] fcap],celP ead [iV e.kind,iV e.n,iV e.range,.string e.word,.slice e.ms.A e.ms.l.length e.ms.c,.slice e.by_.A e.by_.l.length e.by_.c,.slice e.kids.A e.kids.l.length e.kids.c],okP zB.Ok e]) (fun (k:Nat) (cs:List zG) (ov:Value)=>k≤z1.sr.l.length∧(∀ x ∈ cs,zG.Wf x)∧cs.map zG.e=Mn.winCells e.word ((lk e.ms.l (Mn.frm time e.range) time).1.take k)∧cs.length≤k) (fun (k:Nat) (cs:List zG) (ov:Value)=>z1.sr.l.length - k) 0 [] (Zs) (sc rfl (sc rfl (sc rfl (sc rfl (sc rfl (sc rfl (sc (ji qO) sn))))))) (fun _ h=>h) ?_ (fun k cs ov hI1=>?_)))
 ·exact ⟨Nat.zero_le _,fun x hx=>(by cases hx),rfl,Nat.le_refl _⟩
 have hwf:=hI1.2.1
 have hlen:=hI1.2.2.2
 refine yW 1 (l:=cs) rfl fun A1 cp1 hv1 hc6 hm6 hA6=>?_
 subst hv1
 refine (go 6) (zW (fun h2=>?_) fun h2=>?_)
 ·refine (go 7) ?_
  obtain ⟨ad1,s1,hd1,hs1⟩:=elx hA4 k
  refine (go 14) ?_
  obtain ⟨ad2,s2,hd2,hs2⟩:=elx hA5 k
  refine (go 2) ?_
  refine yQ wn rfl call35 rfl (fun w1 hM=>c_Value e.word s2 w1) ?_
  refine (go 12) (yg (fun h3=>?_) fun h3=>?_)
  ·refine (go 6) ?_
   refine zy zx ([(zG.mk ⟨s1.sr.A,s1.sr.c,s1.sr.l⟩ ((Agg.value e.word s2).1))]:List zG) wn underlying32 inf81 rfl rfl rfl rfl qD qD rfl fun b71=>yH 2 cs ([(zG.mk ⟨s1.sr.A,s1.sr.c,s1.sr.l⟩ ((Agg.value e.word s2).1))]:List zG) encCellX wn rfl rfl rfl (fun _ hM=>(RowSl encCellX hM 0 rfl)) underlying32 inf81 rfl rfl (by simp only [qL]; omega) rfl fun A2 cp2 hc7 hm7 hA7=>?_
   have hw3:=hw1.all _ (List.mem_of_getElem? hs1)
   refine zc (fun _ h=>h.one 5 yI.Ok.loc rfl hs1) (zc (fun _ h=>h.serX 0 rfl) ?_)
   obtain ⟨hc8,hm8,hA8⟩:=hw3.sr
   refine zc (fun _ h=>h.allCell (n:=(Agg.value e.word s2).1) 3 0 rfl rfl) ?_
   have hw2:∀ x ∈ (cs++([(zG.mk ⟨s1.sr.A,s1.sr.c,s1.sr.l⟩ ((Agg.value e.word s2).1))]:List zG)),zG.Wf x:=fun x hx=>(List.mem_append.1 hx).elim (hwf x) fun h=>by rw [List.mem_singleton.1 h]; exact ⟨⟨by omega,by omega,hA8⟩⟩
   refine (go 8) ?_
   refine zT (yG (k + 1) (cs++([(zG.mk ⟨s1.sr.A,s1.sr.c,s1.sr.l⟩ ((Agg.value e.word s2).1))]:List zG)) (.slice A2 ((cs++([(zG.mk ⟨s1.sr.A,s1.sr.c,s1.sr.l⟩ ((Agg.value e.word s2).1))]:List zG)).length) cp2) (sc rfl (sc rfl (sc rfl (sc rfl (sc rfl (sc rfl (sc (ji qO) sn))))))) (S9 [0,5,6,7,8,9,10,11,12,13,14,15,16,17,18,19,20]) ?_ ?_)
   ·exact ⟨by omega,hw2,by rw [Mn.winCells_at (s:=s1.sr.l) (m:=s2) (by rw [← hz1.1,List.getElem?_map,hs1]; rfl) (by rw [← hz1.2]; exact hs2),if_pos h3,List.map_append,hI1.2.2.1]; rfl,by simp only [qL]; omega⟩
   omega
  refine (go 6) ?_
  refine zT (yG (k + 1) cs (.slice A1 cs.length cp1) (sc rfl (sc rfl (sc rfl (sc rfl (sc rfl (sc rfl (sc (ji qO) sn))))))) (fun _ h=>h) ?_ ?_)
  ·exact ⟨by omega,hwf,by rw [Mn.winCells_at (s:=s1.sr.l) (m:=s2) (by rw [← hz1.1,List.getElem?_map,hs1]; rfl) (by rw [← hz1.2]; exact hs2),if_neg (by simpa using h3),List.append_nil]; exact hI1.2.2.1,by omega⟩
  omega
 refine (go 13) (yL results155 fun w1 hM=>?_)
 have hb9:Mn.window lk time e.word e.ms.l e.range=(⟨true,0,cs.map zG.e⟩,0):=by rw [Mn.window,if_neg (by simpa using h1),hI1.2.2.1,List.take_of_length_le qO]
 have hM:=hM.vy encCellX (i:=1) (j:=7) rfl rfl qD (fun b hb=>hf.fpc _ _ b (only5 b hb))
 have hn9:(sk e.ms.l (Mn.frm time e.range) time n)=sk e.ms.l (Mn.frm time e.range) time n:=rfl
 have hM:=hM.yX (zd.Ok.loc (⟨true,0,⟨A1,cp1,cs⟩⟩:zd)) fun Pb pp=>⟨pp.sl 1 rfl,pp.at_ 0 _ rfl⟩
 exact hM.yR (⟨true,0,⟨A1,cp1,cs⟩⟩:zd) (by first | (rw [hb9]; done) | (rw [hb9]; rfl)) (by first | (rw [hb9]; done) | (rw [hb9]; rfl)) (fun h=>by rw [← hn9]; exact h.sel [0,8,15,16,17] qD rfl)
def uD (e:zB):Prop:=∀ (vad ead:Addr) (time n:Int) (f:Nat) (fcap:Array Value) (o:Int→Own) (S:Nat→Prop) (C:World→Prop) (lk:Look) (sk:Sk) (Pb:Nat→Prop) (w:World) (hG:Mem w ⟨fpOf [(o n),.dat S C,celP vad [iV time,.func (.func f) #[] fcap],celP ead [iV e.kind,iV e.n,iV e.range,.string e.word,.slice e.ms.A e.ms.l.length e.ms.c,.slice e.by_.A e.by_.l.length e.by_.c,.slice e.kids.A e.kids.l.length e.kids.c],okP zB.Ok e],Pb⟩ [(o n),.dat S C,celP vad [iV time,.func (.func f) #[] fcap],celP ead [iV e.kind,iV e.n,iV e.range,.string e.word,.slice e.ms.A e.ms.l.length e.ms.c,.slice e.by_.A e.by_.l.length e.by_.c,.slice e.kids.A e.kids.l.length e.kids.c],okP zB.Ok e] w) (hf:WinG prog f fcap o S C lk sk) (hg:Mn.GoodLook lk) (ht:0≤time∧time≤1000000) (hr:Mn.right e.e),
    Calls prog 103 #[.pointer (some ((Addr.add vad 0).add 0)),.pointer (some ((Addr.add ead 0).add 0))] w (RetA w [(o n),.dat S C,celP vad [iV time,.func (.func f) #[] fcap],celP ead [iV e.kind,iV e.n,iV e.range,.string e.word,.slice e.ms.A e.ms.l.length e.ms.c,.slice e.by_.A e.by_.l.length e.by_.c,.slice e.kids.A e.kids.l.length e.kids.c],okP zB.Ok e] Pb (fun z:zd=>.tuple #[.agg (vn z).toArray,iV (Mn.eval lk time e.e).2]) (fun z=>z.e=(Mn.eval lk time e.e).1) (fun z=>[okP zd.Ok z,o (Mn.evalN lk sk time e.e n),celP vad [iV time,.func (.func f) #[] fcap],celP ead (zk e),okP zB.Ok e]))
set_option maxHeartbeats 2000000 in
theorem c_gexpr (vad ead:Addr) (time n:Int) (f:Nat) (fcap:Array Value) (o:Int→Own) (S:Nat→Prop) (C:World→Prop) (lk:Look) (sk:Sk) (e:zB) (Pb:Nat→Prop) (w:World) (hG:Mem w ⟨fpOf [(o n),.dat S C,celP vad [iV time,.func (.func f) #[] fcap],celP ead [iV e.kind,iV e.n,iV e.range,.string e.word,.slice e.ms.A e.ms.l.length e.ms.c,.slice e.by_.A e.by_.l.length e.by_.c,.slice e.kids.A e.kids.l.length e.kids.c],okP zB.Ok e],Pb⟩ [(o n),.dat S C,celP vad [iV time,.func (.func f) #[] fcap],celP ead [iV e.kind,iV e.n,iV e.range,.string e.word,.slice e.ms.A e.ms.l.length e.ms.c,.slice e.by_.A e.by_.l.length e.by_.c,.slice e.kids.A e.kids.l.length e.kids.c],okP zB.Ok e] w) (hf:WinG prog f fcap o S C lk sk) (hg:Mn.GoodLook lk) (ht:0≤time∧time≤1000000) (hr:Mn.right e.e) (ih:∀ k:zB,SizeOf.sizeOf k < SizeOf.sizeOf e→uD k) :
    Calls prog 103 #[.pointer (some ((Addr.add vad 0).add 0)),.pointer (some ((Addr.add ead 0).add 0))] w (RetA w [(o n),.dat S C,celP vad [iV time,.func (.func f) #[] fcap],celP ead [iV e.kind,iV e.n,iV e.range,.string e.word,.slice e.ms.A e.ms.l.length e.ms.c,.slice e.by_.A e.by_.l.length e.by_.c,.slice e.kids.A e.kids.l.length e.kids.c],okP zB.Ok e] Pb (fun z:zd=>.tuple #[.agg (vn z).toArray,iV (Mn.eval lk time e.e).2]) (fun z=>z.e=(Mn.eval lk time e.e).1) (fun z=>[okP zd.Ok z,o (Mn.evalN lk sk time e.e n),celP vad [iV time,.func (.func f) #[] fcap],celP ead (zk e),okP zB.Ok e])):=by
 have hwe:=(hG.yS (i:=4) rfl).wf
 have hre:=(Mn.right_e hr).1
 have hrk:=(Mn.right_e hr).2
 refine zq (N:=89) (vals:=[.pointer (some ((Addr.add vad 0).add 0)),.pointer (some ((Addr.add ead 0).add 0))]) func103 hG ?_
 refine (go 2) (zw fun b4=>?_)
 refine (go 19) (zW (fun h1=>?_) fun h1=>?_)
 ·refine (go 14) (yL results103 fun w1 hM=>?_)
  have hb9:Mn.eval lk time e.e=(⟨false,e.n,[]⟩,0):=by rw [Mn.eval_e,if_pos h1]
  have hn9:n=Mn.evalN lk sk time e.e n:=by rw [Mn.evalN_e lk sk time e n,if_pos h1]
  have hM:=hM.yX (zd.Ok.loc (⟨false,e.n,⟨none,0,[]⟩⟩:zd)) fun Pb pp=>⟨zD.zu _ _ _ _,fun c hc=>by cases hc⟩
  exact hM.yR (⟨false,e.n,⟨none,0,[]⟩⟩:zd) (by first | (rw [hb9]; done) | (rw [hb9]; rfl)) (by first | (rw [hb9]; done) | (rw [hb9]; rfl)) (fun h=>by rw [← hn9]; exact h.sel [0,2,4,5,6] qD rfl)
 refine (go 6) (zW (fun h2=>?_) fun h2=>?_)
 ·refine (go 4) ?_
  refine zc (fun _ h=>h.dup 2 rfl rfl) (zg (α:=zd) [(o n),.dat S C,celP vad [iV time,.func (.func f) #[] fcap],celP ead [iV e.kind,iV e.n,iV e.range,.string e.word,.slice e.ms.A e.ms.l.length e.ms.c,.slice e.by_.A e.by_.l.length e.by_.c,.slice e.kids.A e.kids.l.length e.kids.c],okP zB.Ok e] [.blk b4 [.bool false,iV 0,Zs] 172,.dat S C] (fun z=>.tuple #[.agg (vn z).toArray,iV (Mn.window lk time e.word e.ms.l e.range).2]) (fun z=>z.e=(Mn.window lk time e.word e.ms.l e.range).1) (fun z1=>[okP zd.Ok z1,(o (sk e.ms.l (Mn.frm time e.range) time n)),celP vad [iV time,.func (.func f) #[] fcap],celP ead [iV e.kind,iV e.n,iV e.range,.string e.word,.slice e.ms.A e.ms.l.length e.ms.c,.slice e.by_.A e.by_.l.length e.by_.c,.slice e.kids.A e.kids.l.length e.kids.c],okP zB.Ok e]) _ (fun _=>rfl) (S9 [2,0,4,5,6,1,3]) (fun _=>hq5 (hf.ok _)) wn rfl rfl call155 rfl (fun w1 Pb hG=>c_gwindow vad ead time n f fcap o S C lk sk e Pb w1 hG hf hg ht qO) fun z1 hz1=>yn 0 rfl (fun S w h=>zd.Ok.wf h) fun hw1=>?_)
  refine (go 9) (yL results103 fun w1 hM=>?_)
  have hb9:Mn.eval lk time e.e=Mn.window lk time e.word e.ms.l e.range:=by rw [Mn.eval_e,if_neg h1,if_pos h2]
  have hn9:(sk e.ms.l (Mn.frm time e.range) time n)=Mn.evalN lk sk time e.e n:=by rw [Mn.evalN_e lk sk time e n,if_neg h1,if_pos h2]
  have hM:=hM.yX (zd.Ok.loc z1) fun Pb pp=>pp.at_ 0 _ rfl
  exact hM.yR z1 (by first | (rw [hb9]; done) | (rw [hb9]; rfl)) (by rw [hb9]; exact hz1) (fun h=>by rw [← hn9]; exact h.sel [0,2,3,4,5] qD rfl)
 refine (go 5) ?_
 refine yD (vn:zd→List Value) 172 3 (zc (fun _ h=>h.all0 zd.Ok.loc) ?_)
 refine (go 15) ?_
 refine vO (fun (k:Nat) (vs:List zd) (m:Int) (vv:Value)=>[(0,.pointer (some ((Addr.add vad 0).add 0))),(1,.pointer (some ((Addr.add ead 0).add 0))),(4,.pointer (some ⟨b4,0,none⟩)),(6,vv),(32,iV e.kids.l.length),(33,iV k)]) (fun (k:Nat) (vs:List zd) (m:Int) (vv:Value)=>[allP zd.Ok vs,Row vv 172 3 vn vs,.blk b4 [.bool false,iV 0,Zs] 172,(o m),.dat S C,celP vad [iV time,.func (.func f) #[] fcap],celP ead [iV e.kind,iV e.n,iV e.range,.string e.word,.slice e.ms.A e.ms.l.length e.ms.c,.slice e.by_.A e.by_.l.length e.by_.c,.slice e.kids.A e.kids.l.length e.kids.c],okP zB.Ok e]) (fun (k:Nat) (vs:List zd) (m:Int) (vv:Value)=>k≤e.kids.l.length∧(∀ x ∈ vs,zd.Wf x)∧Mn.evals lk time (e.kids.l.map zB.e)=(vs.map zd.e++(Mn.evals lk time ((e.kids.l.drop k).map zB.e)).1,(Mn.evals lk time ((e.kids.l.drop k).map zB.e)).2)∧vs.length=k∧Mn.evalsN lk sk time (e.kids.l.map zB.e) n=Mn.evalsN lk sk time ((e.kids.l.drop k).map zB.e) m) (fun (k:Nat) (vs:List zd) (m:Int) (vv:Value)=>e.kids.l.length - k) 0 [] n (Zs) (sc rfl (sc rfl (sc rfl (sc rfl (sc rfl (sc (ji qO) sn)))))) (fun _ h=>h) ?_ (fun k vs m vv hI1=>?_)
 ·exact ⟨Nat.zero_le _,fun x hx=>(by cases hx),Mn.evals_0 _ _ _,rfl,rfl⟩
 have hwf:=hI1.2.1
 have hlen:=hI1.2.2.2.1
 refine yW 1 (l:=vs) rfl fun A1 cp1 hv1 hc1 hm1 hA1=>?_
 subst hv1
 refine (go 6) (zW (fun h3=>?_) fun h3=>?_)
 ·refine (go 18) ?_
  refine zc (fun _ h=>h.exprX 7 rfl) ?_
  obtain ⟨hc2,hm2,hA2⟩:=hwe.ms
  obtain ⟨hc3,hm3,hA3⟩:=hwe.by_
  obtain ⟨hc4,hm4,hA4⟩:=hwe.kids
  obtain ⟨ad1,s1,hd1,hs1⟩:=elx hA4 k
  refine (go 1) ?_
  refine zc (fun _ h=>h.celAt 2 rfl hd1 hs1) ?_
  have hw2:=hwe.all _ (List.mem_of_getElem? hs1)
  refine zc (fun _ h=>h.one 4 zB.Ok.loc rfl hs1) (zc (fun _ h=>h.dup 10 rfl rfl) (zg (α:=zd) [(o m),.dat S C,celP vad [iV time,.func (.func f) #[] fcap],celP (Addr.add ad1 (k * 7)) [iV s1.kind,iV s1.n,iV s1.range,.string s1.word,.slice s1.ms.A s1.ms.l.length s1.ms.c,.slice s1.by_.A s1.by_.l.length s1.by_.c,.slice s1.kids.A s1.kids.l.length s1.kids.c],okP zB.Ok s1] [slP 3 zl (.slice e.ms.A e.ms.l.length e.ms.c) e.ms.l,slP 1 strE (.slice e.by_.A e.by_.l.length e.by_.c) e.by_.l,slP 7 zk (.slice e.kids.A e.kids.l.length e.kids.c) e.kids.l,allP zB.Ok e.kids.l,allP zd.Ok vs,Row (.slice A1 vs.length cp1) 172 3 vn vs,.blk b4 [.bool false,iV 0,Zs] 172,.dat S C,celP ead [iV e.kind,iV e.n,iV e.range,.string e.word,.slice e.ms.A e.ms.l.length e.ms.c,.slice e.by_.A e.by_.l.length e.by_.c,.slice e.kids.A e.kids.l.length e.kids.c],okP zB.Ok e] (fun z=>.tuple #[.agg (vn z).toArray,iV (Mn.eval lk time s1.e).2]) (fun z=>z.e=(Mn.eval lk time s1.e).1) (fun z2=>[okP zd.Ok z2,(o (Mn.evalN lk sk time s1.e m)),celP vad [iV time,.func (.func f) #[] fcap],celP (Addr.add ad1 (k * 7)) [iV s1.kind,iV s1.n,iV s1.range,.string s1.word,.slice s1.ms.A s1.ms.l.length s1.ms.c,.slice s1.by_.A s1.by_.l.length s1.by_.c,.slice s1.kids.A s1.kids.l.length s1.kids.c],okP zB.Ok s1]) _ (fun _=>rfl) (S9 [10,0,12,2,1,3,4,5,6,7,8,9,11,13,14]) (fun _=>hq5 (hf.ok _)) wn rfl rfl call103 rfl (fun w1 Pb hG=>ih s1 (zB.kid_lt (List.mem_of_getElem? hs1)) vad (Addr.add ad1 (k * 7)) time m f fcap o S C lk sk Pb w1 hG hf hg ht (hrk _ (List.mem_of_getElem? (by assumption)))) fun z2 hz2=>yn 0 rfl (fun S w h=>zd.Ok.wf h) fun hw3=>?_))
  refine (go 3) (zw fun b8=>?_)
  refine (go 11) (zW (fun h4=>?_) fun h4=>?_)
  ·refine (go 15) (yL results103 fun w1 hM=>?_)
   have hv9:=Mn.evals_bad hI1.2.2.1 hs1 h4
   have hb9:Mn.eval lk time e.e=(Mn.zero,(Mn.eval lk time s1.e).2):=by rw [Mn.eval_e,if_neg h1,if_neg h2,if_pos (by rw [hv9]; exact h4),hv9]
   have hn9:(Mn.evalN lk sk time s1.e m)=Mn.evalN lk sk time e.e n:=by rw [Mn.evalN_e lk sk time e n,if_neg h1,if_neg h2]; exact (Mn.evalsN_bad hI1.2.2.2.2 hs1 h4).symm
   have hM:=hM.yX (zd.Ok.loc (⟨false,0,⟨none,0,[]⟩⟩:zd)) fun Pb pp=>⟨zD.zu _ _ _ _,fun c hc=>by cases hc⟩
   exact hM.yR (⟨false,0,⟨none,0,[]⟩⟩:zd) (by first | (rw [hb9]; done) | (rw [hb9]; rfl)) (by first | (rw [hb9]; done) | (rw [hb9]; rfl)) (fun h=>by rw [← hn9]; exact h.sel [0,3,4,15,16] qD rfl)
  refine (go 5) ?_
  refine zy vn ([z2]:List zd) wn underlying224 inf172 rfl rfl rfl rfl qD qD rfl fun b53=>yH 12 vs ([z2]:List zd) encValX wn rfl rfl rfl (fun _ hM=>(RowSl encValX hM 0 rfl)) underlying224 inf172 rfl rfl (by simp only [qL]; omega) rfl fun A2 cp2 hc5 hm5 hA5=>zc (fun _ h=>h.allSnoc 11 2 zd.Ok.loc rfl rfl) ?_
  have hw4:∀ x ∈ (vs++([z2]:List zd)),zd.Wf x:=fun x hx=>(List.mem_append.1 hx).elim (hwf x) fun h=>by rw [List.mem_singleton.1 h]; exact hw3
  refine (go 7) ?_
  refine zT (yb (k + 1) (vs++([z2]:List zd)) (Mn.evalN lk sk time s1.e m) (.slice A2 ((vs++([z2]:List zd)).length) cp2) (sc rfl (sc rfl (sc rfl (sc rfl (sc rfl (sc (ji qO) sn)))))) (S9 [0,13,14,4,15,5,16,17]) ?_ ?_)
  ·exact ⟨by omega,hw4,Mn.evals_next hI1.2.2.1 hs1 hz2 (by have:=h4; omega),by simp only [qL]; omega,Mn.evalsN_next hI1.2.2.2.2 hs1 (by have:=h4; omega)⟩
  omega
 refine (go 8) ?_
 have hev:=Mn.evals_end hI1.2.2.1 qO
 have hgs:=Mn.good_of hg hev hrk
 refine (go 7) (zW (fun h5=>?_) fun h5=>?_)
 ·refine (go 1) ?_
  refine yM (Mem w ⟨fpOf [(o n),.dat S C,celP vad [iV time,.func (.func f) #[] fcap],celP ead [iV e.kind,iV e.n,iV e.range,.string e.word,.slice e.ms.A e.ms.l.length e.ms.c,.slice e.by_.A e.by_.l.length e.by_.c,.slice e.kids.A e.kids.l.length e.kids.c],okP zB.Ok e],Pb⟩ [allP zd.Ok vs,Row (.slice A1 vs.length cp1) 172 3 vn vs,(o m),.dat S C,celP vad [iV time,.func (.func f) #[] fcap],celP ead [iV e.kind,iV e.n,iV e.range,.string e.word,.slice e.ms.A e.ms.l.length e.ms.c,.slice e.by_.A e.by_.l.length e.by_.c,.slice e.kids.A e.kids.l.length e.kids.c],okP zB.Ok e]) mix (fun _ h=>h.drew) rfl (yN 5 [0,1,2,3,4,5,6,7,8,9,10,11] [0,1,3,4,5,6,7] rfl fun KS hKS=>?_)
  refine (go 9) ?_
  obtain ⟨ad2,s2,hd2,hs2⟩:=elx hA1 0
  refine (go 2) ?_
  obtain ⟨hx1_s2,hx2_s2,hx3_s2,hx4_s2⟩:=(hgs _ (List.mem_of_getElem? hs2)).x
  refine uq (uE 1 encValX rfl rfl hd2 hs2 rfl flat32) (zi hKS (zf 4 12 (zh (i:=12) rfl fun KN hKN=>zc (fun _ h=>h.exprX 7 rfl) ?_)))
  obtain ⟨hc6,hm6,hA6⟩:=hwe.ms
  obtain ⟨hc7,hm7,hA7⟩:=hwe.by_
  obtain ⟨hc8,hm8,hA8⟩:=hwe.kids
  have hw5:=hwf _ (List.mem_of_getElem? hs2)
  refine zc (fun _ h=>h.one 4 zd.Ok.loc rfl hs2) (zc (fun _ h=>h.valX 0 rfl) ?_)
  obtain ⟨hc9,hm9,hA9⟩:=hw5.cells
  refine yY (β:=zd) (fun z=>.tuple #[.agg (vn z).toArray,iV ((Mn.all e.word e.by_.l (s2.cells.l.map zG.e)).2)]) (fun z=>z.e=(Mn.all e.word e.by_.l (s2.cells.l.map zG.e)).1) (fun z S=>zd.Ok S z) (fun z=>zd.Ok.loc z) wn rfl call156 rfl (fun w1 Pb hM pp=>c_mall e.word _ e.by_.l _ s2.cells.l Pb w1 pp.lt (pp.sl 4 rfl) (pp.sl 0 rfl) (pp.at_ 1 _ rfl) (by assumption) (by assumption) (by assumption)) fun z3 hz3=>yn 0 rfl (fun S w h=>zd.Ok.wf h) fun hw6=>?_
  refine (go 1) ?_
  refine hKN _ _ (S9 [8,9,11,12,13,14,15]) (yN 2 [13,14] [8,9,11,12,13,14,15] rfl fun KS hKS=>?_)
  refine (go 2) ?_
  refine zi hKS (zf 1 15 (zh (i:=15) rfl fun KN hKN=>?_))
  refine (go 2) ?_
  refine hKN _ _ (S9 [8,9,11,12,13,14,15]) (yN 0 [16] [8,9,11,12,13,14,15] rfl fun KS hKS=>?_)
  refine (go 1) ?_
  refine zi hKS ?_
  refine zz (by kernel_rfl) ((go 1) ?_)
  refine (go 2) (yL results103 fun w1 hM=>?_)
  have hb9:Mn.eval lk time e.e=Mn.all e.word e.by_.l (s2.cells.l.map zG.e):=by rw [Mn.eval_e,if_neg h1,if_neg h2,if_neg (by rw [hev]; simp),hev,Mn.close_all h5 hs2]
  have hn9:m=Mn.evalN lk sk time e.e n:=by rw [Mn.evalN_e lk sk time e n,if_neg h1,if_neg h2]; exact (Mn.evalsN_end hI1.2.2.2.2 qO).symm
  have hM:=hM.yX (zd.Ok.loc z3) fun Pb pp=>pp.at_ 0 _ rfl
  exact hM.yR z3 (by first | (rw [hb9]; done) | (rw [hb9]; rfl)) (by rw [hb9]; exact hz3) (fun h=>by rw [← hn9]; exact h.sel [0,12,14,15,16] qD rfl)
 refine (go 3) ?_
 refine yM (Mem w ⟨fpOf [(o n),.dat S C,celP vad [iV time,.func (.func f) #[] fcap],celP ead [iV e.kind,iV e.n,iV e.range,.string e.word,.slice e.ms.A e.ms.l.length e.ms.c,.slice e.by_.A e.by_.l.length e.by_.c,.slice e.kids.A e.kids.l.length e.kids.c],okP zB.Ok e],Pb⟩ [allP zd.Ok vs,Row (.slice A1 vs.length cp1) 172 3 vn vs,(o m),.dat S C,celP vad [iV time,.func (.func f) #[] fcap],celP ead [iV e.kind,iV e.n,iV e.range,.string e.word,.slice e.ms.A e.ms.l.length e.ms.c,.slice e.by_.A e.by_.l.length e.by_.c,.slice e.kids.A e.kids.l.length e.kids.c],okP zB.Ok e]) mix (fun _ h=>h.drew) rfl (yN 5 [0,1,2,3,4,5,6,7,8,9] [0,1,3,4,5,6,7] rfl fun KS hKS=>?_)
 refine (go 5) ?_
 obtain ⟨ad3,s3,hd3,hs3⟩:=elx hA1 0
 refine (go 1) ?_
 obtain ⟨hx1_s3,hx2_s3,hx3_s3,hx4_s3⟩:=(hgs _ (List.mem_of_getElem? hs3)).x
 refine uq (uO 1 [.bool s3.vec,iV s3.n,.slice s3.cells.A s3.cells.l.length s3.cells.c] encValX rfl rfl hd3 hs3 rfl rfl agg172 inf172) ?_
 refine (go 2) ?_
 obtain ⟨s4,hs4⟩:=gx vs 1
 obtain ⟨hx1_s4,hx2_s4,hx3_s4,hx4_s4⟩:=(hgs _ (List.mem_of_getElem? hs4)).x
 refine uq (uO 1 [.bool s4.vec,iV s4.n,.slice s4.cells.A s4.cells.l.length s4.cells.c] encValX rfl rfl hd3 hs4 rfl rfl agg172 inf172) (zi hKS (zf 4 10 (zh (i:=10) rfl fun KN hKN=>?_)))
 have hw7:=hwf _ (List.mem_of_getElem? hs3)
 refine zc (fun _ h=>h.one 0 zd.Ok.loc rfl hs3) ?_
 have hw8:=hwf _ (List.mem_of_getElem? hs4)
 refine zc (fun _ h=>h.one 1 zd.Ok.loc rfl hs4) (yY (β:=zd) (fun z=>.tuple #[.agg (vn z).toArray,iV ((Mn.bin e.word s3.e s4.e).2)]) (fun z=>z.e=(Mn.bin e.word s3.e s4.e).1) (fun z S=>zd.Ok S z) (fun z=>zd.Ok.loc z) wn rfl call157 rfl (fun w1 Pb hM pp=>c_bin e.word s3 s4 Pb w1 pp.lt (pp.at_ 1 _ rfl) (pp.at_ 0 _ rfl) (by assumption) (by assumption) (by assumption) (by assumption)) fun z4 hz4=>yn 0 rfl (fun S w h=>zd.Ok.wf h) fun hw9=>?_)
 refine (go 1) ?_
 refine hKN _ _ (S9 [3,4,6,7,8,9,10]) (yN 2 [11,12] [3,4,6,7,8,9,10] rfl fun KS hKS=>?_)
 refine (go 2) ?_
 refine zi hKS (zf 1 13 (zh (i:=13) rfl fun KN hKN=>?_))
 refine (go 2) ?_
 refine hKN _ _ (S9 [3,4,6,7,8,9,10]) (yN 0 [14] [3,4,6,7,8,9,10] rfl fun KS hKS=>?_)
 refine (go 1) ?_
 refine zi hKS ?_
 refine zz (by kernel_rfl) ((go 1) ?_)
 refine (go 1) (yL results103 fun w1 hM=>?_)
 have hb9:Mn.eval lk time e.e=Mn.bin e.word s3.e s4.e:=by rw [Mn.eval_e,if_neg h1,if_neg h2,if_neg (by rw [hev]; simp),hev,Mn.close_bin h5 hs3 hs4]
 have hn9:m=Mn.evalN lk sk time e.e n:=by rw [Mn.evalN_e lk sk time e n,if_neg h1,if_neg h2]; exact (Mn.evalsN_end hI1.2.2.2.2 qO).symm
 have hM:=hM.yX (zd.Ok.loc z4) fun Pb pp=>pp.at_ 0 _ rfl
 exact hM.yR z4 (by first | (rw [hb9]; done) | (rw [hb9]; rfl)) (by rw [hb9]; exact hz4) (fun h=>by rw [← hn9]; exact h.sel [0,7,9,10,11] qD rfl)
theorem c_gexpr_step (e:zB) (ih:∀ k:zB,SizeOf.sizeOf k < SizeOf.sizeOf e→uD k):uD e:=fun vad ead time n f fcap o S C lk sk Pb w hG hf hg ht hr=>c_gexpr vad ead time n f fcap o S C lk sk e Pb w hG hf hg ht hr ih
theorem c_gexpr_all (e:zB):uD e:=recX c_gexpr_step e
theorem c_geval (time n:Int) (f:Nat) (fcap:Array Value) (o:Int→Own) (S:Nat→Prop) (C:World→Prop) (lk:Look) (sk:Sk) (e:zB) (Pb:Nat→Prop) (w:World) (hG:Mem w ⟨fpOf [(o n),.dat S C,okP zB.Ok e],Pb⟩ [(o n),.dat S C,okP zB.Ok e] w) (hf:WinG prog f fcap o S C lk sk) (hg:Mn.GoodLook lk) (ht:0≤time∧time≤1000000) (hr:Mn.right e.e) :
    Calls prog 58 #[.agg (List.toArray [iV e.kind,iV e.n,iV e.range,.string e.word,.slice e.ms.A e.ms.l.length e.ms.c,.slice e.by_.A e.by_.l.length e.by_.c,.slice e.kids.A e.kids.l.length e.kids.c]),iV time,.func (.func f) #[] fcap] w (RetA w [(o n),.dat S C,okP zB.Ok e] Pb (celsV (Mn.out (Mn.eval lk time e.e)).2) (fun z=>z.l.map zG.e=(Mn.out (Mn.eval lk time e.e)).1) (fun z=>[okP CelsX.Ok z,o (Mn.evalN lk sk time e.e n),okP zB.Ok e])):=by
 have hwe:=(hG.yS (i:=2) rfl).wf
 refine zq (N:=30) func58 hG ?_
 refine (go 2) (yu fun b3=>?_)
 refine (go 9) (yu fun b14=>?_)
 refine l_sealBO 1 2 rfl rfl rfl (fun b hb=>hf.fpc _ _ b (only3 b hb)) (l_sealBO 0 2 rfl rfl rfl (fun b hb=>hf.fpc _ _ b (only3 b hb)) (zc (fun _ h=>h.dup 3 rfl rfl) (zg (α:=zd) [(o n),.dat S C,celP ⟨b14,0,none⟩ [iV time,.func (.func f) #[] fcap],celP ⟨b3,0,none⟩ [iV e.kind,iV e.n,iV e.range,.string e.word,.slice e.ms.A e.ms.l.length e.ms.c,.slice e.by_.A e.by_.l.length e.by_.c,.slice e.kids.A e.kids.l.length e.kids.c],okP zB.Ok e] [.dat S C] (fun z=>.tuple #[.agg (vn z).toArray,iV (Mn.eval lk time e.e).2]) (fun z=>z.e=(Mn.eval lk time e.e).1) (fun z1=>[okP zd.Ok z1,(o (Mn.evalN lk sk time e.e n)),celP ⟨b14,0,none⟩ [iV time,.func (.func f) #[] fcap],celP ⟨b3,0,none⟩ [iV e.kind,iV e.n,iV e.range,.string e.word,.slice e.ms.A e.ms.l.length e.ms.c,.slice e.by_.A e.by_.l.length e.by_.c,.slice e.kids.A e.kids.l.length e.kids.c],okP zB.Ok e]) _ (fun _=>rfl) (S9 [3,0,1,2,5,4]) (fun _=>hq5 (hf.ok _)) wn rfl rfl call103 rfl (fun w1 Pb hG=>c_gexpr_all e ⟨b14,0,none⟩ ⟨b3,0,none⟩ time n f fcap o S C lk sk Pb w1 hG hf hg ht hr) fun z1 hz1=>yn 0 rfl (fun S w h=>zd.Ok.wf h) fun hw1=>?_)))
 refine (go 3) (zw fun b8=>?_)
 refine (go 11) (zW (fun h1=>?_) fun h1=>?_)
 ·refine (go 9) (yL results58 fun w1 hM=>?_)
  have hb9:Mn.out (Mn.eval lk time e.e)=([],(Mn.eval lk time e.e).2):=by rw [Mn.out,if_pos (by simpa using h1)]
  have hM:=hM.yX (CelsX.Ok.loc (⟨none,0,[]⟩:SlX zG)) fun Pb pp=>⟨zD.zu _ _ _ _,fun c hc=>(by cases hc)⟩
  exact hM.yR (⟨none,0,[]⟩:SlX zG) (by first | (rw [hb9]; done) | (rw [hb9]; rfl)) (by first | (rw [hb9]; done) | (rw [hb9]; rfl)) (fun h=>h.sel [0,3,6] qD rfl)
 refine (go 7) ?_
 refine za (yE rfl) ?_
 refine (go 2) (yg (fun h2=>?_) fun h2=>?_)
 ·refine (go 5) ?_
  refine zy zx ([(zG.mk ⟨none,0,[]⟩ z1.n)]:List zG) wn underlying32 inf81 rfl rfl rfl rfl qD qD rfl fun b27=>?_
  refine (go 6) (yL results58 fun w1 hM=>?_)
  have hv9:(Mn.eval lk time e.e).1.vec=z1.vec:=by rw [← hz1]; rfl
  have hn9:(Mn.eval lk time e.e).1.n=z1.n:=by rw [← hz1]; rfl
  have hb9:Mn.out (Mn.eval lk time e.e)=([⟨[],z1.n⟩],0):=by rw [Mn.out,if_neg (by simpa using h1),if_neg (by rw [hv9]; simpa using h2),hn9]
  have hM:=hM.vy encCellX (i:=0) (j:=3) rfl rfl qD (fun b hb=>hf.fpc _ _ b (only3 b hb))
  have hM:=hM.yX (CelsX.Ok.loc (⟨(some ⟨b27,0,none⟩),1,([(zG.mk ⟨none,0,[]⟩ z1.n)]:List zG)⟩:SlX zG)) fun Pb pp=>⟨pp.sl 0 rfl,fun c hc=>by obtain rfl:=List.mem_singleton.1 hc; exact ⟨zD.zu _ _ _ _⟩⟩
  exact hM.yR (⟨(some ⟨b27,0,none⟩),1,([(zG.mk ⟨none,0,[]⟩ z1.n)]:List zG)⟩:SlX zG) (by first | (rw [hb9]; done) | (rw [hb9]; rfl)) (by first | (rw [hb9]; done) | (rw [hb9]; rfl)) (fun h=>h.sel [0,4,7] qD rfl)
 refine (go 11) (yL results58 fun w1 hM=>?_)
 have hv9:(Mn.eval lk time e.e).1.vec=z1.vec:=by rw [← hz1]; rfl
 have hn9:(Mn.eval lk time e.e).1.cells=z1.cells.l.map zG.e:=by rw [← hz1]; rfl
 have hb9:Mn.out (Mn.eval lk time e.e)=(z1.cells.l.map zG.e,0):=by rw [Mn.out,if_neg (by simpa using h1),if_pos (by rw [hv9]; simpa using h2),hn9]
 have hM:=hM.yX (CelsX.Ok.loc z1.cells) fun Pb pp=>⟨(pp.at_ 1 _ rfl).cells,(pp.at_ 1 _ rfl).all⟩
 exact hM.yR z1.cells (by first | (rw [hb9]; done) | (rw [hb9]; rfl)) (by first | (rw [hb9]; done) | (rw [hb9]; rfl)) (fun h=>h.sel [0,3,6] qD rfl)
end
section
open Tryz
open Ex
attribute [local irreducible] WC WL WQ WE WS
set_option linter.unusedVariables false
set_option linter.unusedSimpArgs false
def zN : (Nat → Prop) → World → Prop := VarI prog "strconv.ErrRange"
theorem zN.loc:Ex.Loc zN:=VarI.loc _ _
theorem c_pfx (a b:ByteArray) (w:World):Calls prog 148 #[.string a,.string b] w (Ret w (.bool (Go.Lib.hasPrefix a.data.toList b.data.toList))):=(Tryz.strings_HasPrefix a b w).mono fun e w' ⟨he,hw⟩=>⟨he,by rw [hw]; exact Fr.refl _ _⟩
theorem c_atoi (t:ByteArray) (P0:Nat→Prop) (w:World) (hP0:∀ b,P0 b→b < w.heap.size) (hne:t.data.toList≠[]) (hd:∀ c ∈ t.data.toList,48≤c.toNat∧c.toNat≤57) (hl:t.size≤2000) (hE:zN P0 w) :
    Calls prog 212 #[.string t] w (RetE w P0 (fun z:Int × Value=>.tuple (List.toArray [iV z.1,z.2])) (fun z=>Pz.AtoiR t.data.toList z) (fun _ _ _=>True)):=by
 rcases Pz.atoi_dig hne hd with ⟨h1,h2⟩ | ⟨h1,h2⟩
 ·refine (Tryz.strconv_Atoi_ok t qO _ h1 w).mono fun e w' ⟨he,hw⟩=>⟨((Pz.dval t.data.toList:Int),.nilIface),fun _=>False,he,.inl ⟨rfl,rfl⟩,?_,fun _ h=>h.elim,trivial⟩
  rcases hw with rfl | ⟨x,rfl⟩
  ·exact Fr.refl _ _
  exact Fr.of_below (Go.Lib.bytesWorld_below _ _ _)
 obtain ⟨_,tp,q,hv⟩:=hE
 refine (Tryz.strconv_Atoi_range_var t qO h1 tp q w hv).mono fun e w' ⟨N,he,_,_,hb⟩=>⟨(Go.Lib.atoiSat t.data.toList,_),fun _=>False,he,.inr ⟨⟨_,_,rfl⟩,Pz.sat_dig hd,h2⟩,Fr.of_below hb,fun _ h=>h.elim,trivial⟩
theorem yl (p:Nat) (s:ByteArray) (i:Nat) (n:Int) (err:Int) (Pb:Nat→Prop) (w:World) (hG:Mem w ⟨fpOf [Rb 114 p s i n,.pub zN],Pb⟩ [Rb 114 p s i n,.pub zN] w)  :
    Calls prog 54 #[.pointer (some ⟨p,0,none⟩),iV err] w (RetX w [Rb 114 p s i n,.pub zN] Pb 111 (fun _:Unit=>.tuple #[]) (fun _=>False) (fun _=>[Rb 114 p s i n,.pub zN]) (fun f=>f=(err,(i:Int)))):=by
 refine zq (N:=12) func54 hG ?_
 refine (go 8) ?_
 refine za (r_mkI rfl (by kernel_rfl)) (l_panic wn rfl (zV fun w1 hM=>?_))
 exact hM.ze (err,(i:Int)) rfl
theorem vl (p:Nat) (s:ByteArray) (i:Nat) (n:Int) (Pb:Nat→Prop) (w:World) (hG:Mem w ⟨fpOf [Rb 114 p s i n,.pub zN],Pb⟩ [Rb 114 p s i n,.pub zN] w) (hi:i≤s.size) (hs:s.size≤2000) :
    Calls prog 53 #[.pointer (some ⟨p,0,none⟩)] w (RetA w [Rb 114 p s i n,.pub zN] Pb (fun _:Nat=>.tuple #[]) (fun z=>Pz.blank s i=z∧i≤z∧z≤s.size) (fun z=>[Rb 114 p s z n,.pub zN])):=by
 refine zq (N:=31) func53 hG ?_
 refine (go 1) ?_
 refine yJ (fun (k:Nat)=>[(0,.pointer (some ⟨p,0,none⟩))]) (fun (k:Nat)=>[Rb 114 p s k n,.pub zN]) (fun (k:Nat)=>i≤k∧k≤s.size∧Pz.blank s i=Pz.blank s k) (fun (k:Nat)=>s.size - k) i (sc rfl sn) (fun _ h=>h) ?_ (fun k hI1=>?_)
 ·exact ⟨Nat.le_refl _,hi,rfl⟩
 refine (go 14) (vh 12 (fun h1=>?_) fun h1=>?_)
 ·refine (go 8) ?_
  obtain ⟨c1,hc1⟩:∃ x,s[k]?=some x:=⟨_,byte_at qI⟩
  refine vt (uV rfl rfl qO hc1 underlying9) ?_
  refine (go 4) (zW (fun h2=>?_) fun h2=>?_)
  ·refine (go 12) ?_
   refine zT (yK (zj (k + 1) (sc rfl sn) (fun _ h=>h) ?_ ?_))
   ·exact ⟨by omega,by omega,hI1.2.2.trans (Pz.blank_step hc1 h2)⟩
   omega
  refine (go 4) ?_
  refine yo (.inr rfl) results53 fun w1 hM=>?_
  exact hM.yR (k) rfl ⟨hI1.2.2.trans (Pz.blank_stop hc1 h2),hI1.1,hI1.2.1⟩ (fun h=>h.sel [0,1] qD rfl)
 refine (go 18) ?_
 refine yo (.inr rfl) results53 fun w1 hM=>?_
 exact hM.yR (k) rfl ⟨hI1.2.2.trans (Pz.blank_end qO),hI1.1,hI1.2.1⟩ (fun h=>h.sel [0,1] qD rfl)
theorem vq (p:Nat) (s:ByteArray) (i:Nat) (n:Int) (sg:ByteArray) (Pb:Nat→Prop) (w:World) (hG:Mem w ⟨fpOf [Rb 114 p s i n,.pub zN],Pb⟩ [Rb 114 p s i n,.pub zN] w) (hi:i≤s.size) (hs:s.size≤2000) :
    Calls prog 98 #[.pointer (some ⟨p,0,none⟩),.string sg] w (RetA w [Rb 114 p s i n,.pub zN] Pb (fun z:Bool × Nat=>.bool z.1) (fun z=>Pz.eat s sg i=z∧i≤z.2∧z.2≤s.size) (fun z=>[Rb 114 p s z.2 n,.pub zN])):=by
 refine zq (N:=28) func98 hG ?_
 refine (go 8) ?_
 refine zg (α:=Nat) [Rb 114 p s i n,.pub zN] [] (fun _=>.tuple #[]) (fun j1=>(Pz.blank s i=j1∧i≤j1∧j1≤s.size)) (fun j1=>[Rb 114 p s j1 n,.pub zN]) _ (fun _=>rfl) (S9 [0,1]) (fun _=>rfl) wn rfl rfl call53 rfl (fun w1 Pb hG=>vl p s i n Pb w1 hG qO qO) fun j1 hz1=>?_
 obtain ⟨hz1e,hz1a,hz1b⟩:=hz1
 refine (go 13) ?_
 refine yZ (r_sslice_l (l:=j1) rfl rfl qO qI underlying9) ?_
 refine (go 1) ?_
 refine yQ wn rfl call148 rfl (fun w1 hM=>c_pfx (s.extract j1 s.size) sg w1) (yZ (yE rfl) ?_)
 refine (go 2) (yg (fun h1=>?_) fun h1=>?_)
 ·refine (go 7) (zX results98 fun w1 hM=>?_)
  have h9:Pz.eat s sg i=(false,j1):=Pz.eat_no hz1e (by rw [← Pz.pfx_ext]; simpa using h1)
  exact hM.yR (false,j1) rfl ⟨h9,by have:=Pz.eat_le sg hi; rw [h9] at this; exact this⟩ (fun h=>h.sel [0,1] qD rfl)
 refine (go 4) ?_
 have hpl:=Pz.pfx_le (s:=s) (sg:=sg) (i:=j1) (by rw [← Pz.pfx_ext]; simpa using h1) qO
 refine (go 18) (zX results98 fun w1 hM=>?_)
 have h9:Pz.eat s sg i=(true,(j1 + sg.size)):=Pz.eat_yes hz1e (by rw [← Pz.pfx_ext]; simpa using h1)
 exact hM.yR (true,(j1 + sg.size)) rfl ⟨h9,by have:=Pz.eat_le sg hi; rw [h9] at this; exact this⟩ (fun h=>h.sel [0,1] qD rfl)
theorem y7 (p:Nat) (s:ByteArray) (i:Nat) (n:Int) (sg:ByteArray) (Pb:Nat→Prop) (w:World) (hG:Mem w ⟨fpOf [Rb 114 p s i n,.pub zN],Pb⟩ [Rb 114 p s i n,.pub zN] w) (hi:i≤s.size) (hs:s.size≤2000) (hn:0≤n∧n≤100) :
    Calls prog 179 #[.pointer (some ⟨p,0,none⟩),.string sg] w (RetX w [Rb 114 p s i n,.pub zN] Pb 111 (fun z:Pz.St=>.tuple #[]) (fun z=>Pz.must s sg ⟨i,n⟩=.ok z∧Pz.Good s ⟨i,n⟩ z) (fun z=>[Rb 114 p s z.at_ z.nd,.pub zN]) (fun f=>Pz.must s sg ⟨i,n⟩=.no f)):=by
 refine zq (N:=10) func179 hG ?_
 refine (go 4) ?_
 refine zg (α:=(Bool × Nat)) [Rb 114 p s i n,.pub zN] [] (fun z:Bool × Nat=>.bool z.1) (fun z1=>(Pz.eat s sg i=z1∧i≤z1.2∧z1.2≤s.size)) (fun z1=>[Rb 114 p s z1.2 n,.pub zN]) _ (fun _=>rfl) (S9 [0,1]) (fun _=>rfl) wn rfl rfl call98 rfl (fun w1 Pb hG=>vq p s i n sg Pb w1 hG qO qO) fun z1 hz1=>?_
 obtain ⟨bo1,j1⟩:=z1
 have he1:Pz.eat s sg i=(bo1,j1):=hz1.1
 have hz1a:i≤j1:=hz1.2.1
 have hz1b:j1≤s.size:=hz1.2.2
 refine vC (.bool bo1) (za (yE rfl) ?_)
 refine (go 2) (yg (fun h1=>?_) fun h1=>?_)
 ·have g1:bo1=false:=by simpa using h1
  refine (go 2) ?_
  refine zZ (α:=Unit) (PT:=111) [Rb 114 p s j1 n,.pub zN] [] (fun _:Unit=>.tuple #[]) (fun z2=>False) (fun z2=>[Rb 114 p s j1 n,.pub zN]) _ (fun f1=>f1=(2,(j1:Int))) (fun _=>rfl) (S9 [0,1]) (fun _=>rfl) wn rfl rfl call54 rfl (fun w1 Pb hG=>yl p s j1 n 2 Pb w1 hG) ?_ fun z2 hz2=>?_
  ·intro f1 hf1
   refine zV fun w1 hM=>?_
   exact hM.ze f1 (by first | (simp only [Pz.then_ok,Pz.then_no,Pz.St.go,lgc,Pz.must,he1,g1,h1,hf1]; done) | simp [Pz.then_ok,Pz.then_no,Pz.St.go,lgc,Pz.must,he1,g1,h1,hf1])
  exact hz2.elim
 have g2:bo1=true:=by simpa using h1
 refine (go 1) ?_
 refine yo (.inr rfl) results179 fun w1 hM=>?_
 have h9:Pz.must s sg ⟨i,n⟩=.ok ⟨j1,n⟩:=by first | (simp only [Pz.then_ok,Pz.then_no,Pz.St.go,lgc,Pz.must,he1,g2,h1]; done) | simp [Pz.then_ok,Pz.then_no,Pz.St.go,lgc,Pz.must,he1,g2,h1]
 exact hM.vf (⟨j1,n⟩:Pz.St) rfl ⟨h9,(Pz.must_fine _ hi).ok_ h9⟩ (fun h=>h.sel [0,1] qD rfl)
theorem jV (p:Nat) (s:ByteArray) (i:Nat) (n:Int) (Pb:Nat→Prop) (w:World) (hG:Mem w ⟨fpOf [Rb 114 p s i n,.pub zN],Pb⟩ [Rb 114 p s i n,.pub zN] w) (hi:i≤s.size) (hs:s.size≤2000) (hn:0≤n∧n≤100) :
    Calls prog 180 #[.pointer (some ⟨p,0,none⟩)] w (RetX w [Rb 114 p s i n,.pub zN] Pb 111 (fun z:ByteArray × Pz.St=>.string z.1) (fun z=>Pz.word s ⟨i,n⟩=.ok z∧Pz.Good s ⟨i,n⟩ z.2) (fun z=>[Rb 114 p s z.2.at_ z.2.nd,.pub zN]) (fun f=>Pz.word s ⟨i,n⟩=.no f)):=by
 refine zq (N:=73) func180 hG ?_
 refine (go 8) ?_
 refine zg (α:=Nat) [Rb 114 p s i n,.pub zN] [] (fun _=>.tuple #[]) (fun j1=>(Pz.blank s i=j1∧i≤j1∧j1≤s.size)) (fun j1=>[Rb 114 p s j1 n,.pub zN]) _ (fun _=>rfl) (S9 [0,1]) (fun _=>rfl) wn rfl rfl call53 rfl (fun w1 Pb hG=>vl p s i n Pb w1 hG qO qO) fun j1 hz1=>?_
 obtain ⟨hz1e,hz1a,hz1b⟩:=hz1
 refine (go 11) ?_
 refine yq [(0,.pointer (some ⟨p,0,none⟩)),(3,iV ((Pz.wend s j1):Int))] (Mem w ⟨fpOf [Rb 114 p s i n,.pub zN],Pb⟩ [.pub (fun _ _=>j1≤Pz.wend s j1∧Pz.wend s j1≤s.size),Rb 114 p s j1 n,.pub zN]) (fun _ hK4=>?_) ?_
 ·refine (go 1) ?_
  refine yJ (fun (k:Nat)=>[(0,.pointer (some ⟨p,0,none⟩)),(3,iV k)]) (fun (k:Nat)=>[Rb 114 p s j1 n,.pub zN]) (fun (k:Nat)=>(k=j1∨(j1 < k∧Pz.wend s j1=Pz.run Pz.wch s k))∧j1≤k∧k≤s.size) (fun (k:Nat)=>s.size - k) j1 (sc rfl (sc rfl sn)) (fun _ h=>h) ?_ (fun k hI1=>?_)
  ·exact ⟨.inl rfl,Nat.le_refl _,by omega⟩
  refine (go 12) (zW (fun h1=>?_) fun h1=>?_)
  ·refine (go 10) ?_
   obtain ⟨c1,hc1⟩:∃ x,s[k]?=some x:=⟨_,byte_at qI⟩
   refine za (uV rfl rfl qO hc1 underlying9) ?_
   refine (go 4) ?_
   refine yq [(0,.pointer (some ⟨p,0,none⟩)),(3,iV k),(50,.bool (decide ((((c1.toNat:Int) < 97)∧(((k:Int)=(j1:Int))∨((((c1.toNat:Int) < 48)∧((c1.toNat:Int)≠95))∨(¬ ((c1.toNat:Int) < 48)∧((57 < (c1.toNat:Int))∧((c1.toNat:Int)≠95))))))∨(¬ ((c1.toNat:Int) < 97)∧((122 < (c1.toNat:Int))∧(((k:Int)=(j1:Int))∨((((c1.toNat:Int) < 48)∧((c1.toNat:Int)≠95))∨(¬ ((c1.toNat:Int) < 48)∧((57 < (c1.toNat:Int))∧((c1.toNat:Int)≠95))))))))))] (Mem w ⟨fpOf [Rb 114 p s i n,.pub zN],Pb⟩ [Rb 114 p s j1 n,.pub zN]) (fun _ hK9=>?_) ?_
   ·refine (go 4) (yO 27 (fun h2=>?_) fun h2=>?_)
    ·refine (go 11) (yO 38 (fun h3=>?_) fun h3=>?_)
     ·refine (go 12) ?_
      refine zT (zt hK9 (sc rfl (sc rfl (sc (jt (Or.inl ⟨h2,(Or.inl h3)⟩)) sn))) (fun _ h=>h))
     refine (go 3) (yO 41 (fun h4=>?_) fun h4=>?_)
     ·refine (go 9) ?_
      refine zT (zt hK9 (sc rfl (sc rfl (sc (jp (iff_ite_l h2 (iff_or_right h3 (iff_ite_l h4 Iff.rfl)))) sn))) (fun _ h=>h))
     refine (go 4) (yO 45 (fun h5=>?_) fun h5=>?_)
     ·refine (go 5) ?_
      refine zT (zt hK9 (sc rfl (sc rfl (sc (jp (iff_ite_l h2 (iff_or_right h3 (iff_ite_r h4 (iff_and_right h5 Iff.rfl))))) sn))) (fun _ h=>h))
     refine (go 5) ?_
     refine zT (zt hK9 (sc rfl (sc rfl (sc (jf (fun g=>g.elim (fun k=>(fun g=>g.elim h3 (fun g=>g.elim (fun k=>h4 k.1) (fun k=>(fun g=>h5 g.1) k.2))) k.2) (fun k=>k.1 h2))) sn))) (fun _ h=>h))
    refine (go 4) (yO 31 (fun h6=>?_) fun h6=>?_)
    ·refine (go 7) (yO 38 (fun h7=>?_) fun h7=>?_)
     ·refine (go 12) ?_
      refine zT (zt hK9 (sc rfl (sc rfl (sc (jt (Or.inr ⟨h2,⟨h6,(Or.inl h7)⟩⟩)) sn))) (fun _ h=>h))
     refine (go 3) (yO 41 (fun h8=>?_) fun h8=>?_)
     ·refine (go 9) ?_
      refine zT (zt hK9 (sc rfl (sc rfl (sc (jp (iff_ite_r h2 (iff_and_right h6 (iff_or_right h7 (iff_ite_l h8 Iff.rfl))))) sn))) (fun _ h=>h))
     refine (go 4) (yO 45 (fun h9=>?_) fun h9=>?_)
     ·refine (go 5) ?_
      refine zT (zt hK9 (sc rfl (sc rfl (sc (jp (iff_ite_r h2 (iff_and_right h6 (iff_or_right h7 (iff_ite_r h8 (iff_and_right h9 Iff.rfl)))))) sn))) (fun _ h=>h))
     refine (go 5) ?_
     refine zT (zt hK9 (sc rfl (sc rfl (sc (jf (fun g=>g.elim (fun k=>h2 k.1) (fun k=>(fun g=>(fun g=>g.elim h7 (fun g=>g.elim (fun k=>h8 k.1) (fun k=>(fun g=>h9 g.1) k.2))) g.2) k.2))) sn))) (fun _ h=>h))
    refine (go 19) ?_
    refine zT (zt hK9 (sc rfl (sc rfl (sc (jf (fun g=>g.elim (fun k=>h2 k.1) (fun k=>(fun g=>h6 g.1) k.2))) sn))) (fun _ h=>h))
   refine zW (fun h10=>?_) fun h10=>?_
   ·have hw9:Pz.wend s j1=k:=Pz.wend_done hc1 hI1.1 qO
    refine vu (vG (e_in_miss rfl (vU (vH (zt hK4 (sc rfl (sc (ji qO) sn)) (fun _ h=>have h:=Mem.fact ((by rw [hw9]; exact ⟨hI1.2.1,hI1.2.2⟩)) h; h))))))
   refine (go 6) ?_
   refine zT (yK (zj (k + 1) (sc rfl (sc (ji qO) sn)) (fun _ h=>h) ?_ ?_))
   ·exact ⟨.inr ⟨by omega,Pz.wend_next hc1 hI1.1 qO⟩,by omega,by omega⟩
   omega
  have hw9:Pz.wend s j1=k:=Pz.wend_end qO hI1.1
  refine vu (vG (vU (vH (zt hK4 (sc rfl (sc (ji qO) sn)) (fun _ h=>have h:=Mem.fact ((by rw [hw9]; exact ⟨hI1.2.1,hI1.2.2⟩)) h; h)))))
 refine c_fact fun hF=>?_
 refine (go 11) ?_
 refine yZ (r_sslice_lh (l:=j1) (h:=(Pz.wend s j1)) rfl rfl qO rfl qO qI qI underlying9) ?_
 refine (go 11) (zW (fun h11=>?_) fun h11=>?_)
 ·refine (go 2) ?_
  refine zZ (α:=Unit) (PT:=111) [Rb 114 p s j1 n,.pub zN] [] (fun _:Unit=>.tuple #[]) (fun z1=>False) (fun z1=>[Rb 114 p s j1 n,.pub zN]) _ (fun f1=>f1=(7,(j1:Int))) (fun _=>rfl) (S9 [0,1]) (fun _=>rfl) wn rfl rfl call54 rfl (fun w1 Pb hG=>yl p s j1 n 7 Pb w1 hG) ?_ fun z1 hz2=>?_
  ·intro f1 hf1
   refine zR (zV fun w1 hM=>?_)
   exact hM.ze f1 (by rw [hf1]; exact Pz.word_no hz1e rfl h11 qO)
  exact hz2.elim
 refine (go 18) (zX results180 fun w1 hM=>?_)
 have h9:Pz.word s ⟨i,n⟩=.ok ((s.extract j1 (Pz.wend s j1)),⟨(Pz.wend s j1),n⟩):=by exact Pz.word_ok hz1e rfl h11 qO
 exact hM.vf (((s.extract j1 (Pz.wend s j1)),⟨(Pz.wend s j1),n⟩):ByteArray × Pz.St) rfl ⟨h9,(Pz.word_fine hi).ok_ h9⟩ (fun h=>h.sel [0,1] qD rfl)
theorem vF (p:Nat) (s:ByteArray) (i:Nat) (n:Int) (Pb:Nat→Prop) (w:World) (hG:Mem w ⟨fpOf [Rb 114 p s i n,.pub zN],Pb⟩ [Rb 114 p s i n,.pub zN] w) (hi:i≤s.size) (hs:s.size≤2000) (hn:0≤n∧n≤100) :
    Calls prog 211 #[.pointer (some ⟨p,0,none⟩)] w (RetX w [Rb 114 p s i n,.pub zN] Pb 111 (fun z:ByteArray × Pz.St=>.string z.1) (fun z=>Pz.name s ⟨i,n⟩=.ok z∧Pz.Good s ⟨i,n⟩ z.2) (fun z=>[Rb 114 p s z.2.at_ z.2.nd,.pub zN]) (fun f=>Pz.name s ⟨i,n⟩=.no f)):=by
 refine zq (N:=11) func211 hG ?_
 refine (go 8) ?_
 refine zZ (α:=ByteArray × Pz.St) (PT:=111) [Rb 114 p s i n,.pub zN] [] (fun z:ByteArray × Pz.St=>.string z.1) (fun z1=>Pz.word s ⟨i,n⟩=.ok z1∧Pz.Good s ⟨i,n⟩ z1.2) (fun z1=>[Rb 114 p s z1.2.at_ z1.2.nd,.pub zN]) _ (fun f1=>Pz.word s ⟨i,n⟩=.no f1) (fun _=>rfl) (S9 [0,1]) (fun _=>rfl) wn rfl rfl call180 rfl (fun w1 Pb hG=>jV p s i n  Pb w1 hG qO qO qO ) ?_ fun z1 hz1=>?_
 ·intro f1 hf1
  refine zR (zV fun w1 hM=>?_)
  exact hM.ze f1 (by first | (simp only [Pz.then_ok,Pz.then_no,Pz.St.go,lgc,Pz.name,hf1]; done) | simp [Pz.then_ok,Pz.then_no,Pz.St.go,lgc,Pz.name,hf1])
 obtain ⟨wd1,j1,m1⟩:=z1
 have he1:Pz.word s ⟨i,n⟩=.ok (wd1,⟨j1,m1⟩):=hz1.1
 have ga1:j1≤s.size:=hz1.2.at_
 have gm1:n≤m1:=hz1.2.mono
 have gn1:m1≤100:=hz1.2.most (show n≤100 by omega)
 have wz1:wd1.size≤12:=Pz.word_size (t:=⟨i,n⟩) (show i≤_ by omega) he1
 refine vC (.string wd1) ?_
 refine (go 10) (zW (fun h1=>?_) fun h1=>?_)
 ·have g1:(wd1=⟨#[]⟩)=True:=eq_true h1
  refine (go 2) ?_
  refine zZ (α:=Unit) (PT:=111) [Rb 114 p s j1 m1,.pub zN] [] (fun _:Unit=>.tuple #[]) (fun z2=>False) (fun z2=>[Rb 114 p s j1 m1,.pub zN]) _ (fun f2=>f2=(2,(j1:Int))) (fun _=>rfl) (S9 [0,1]) (fun _=>rfl) wn rfl rfl call54 rfl (fun w1 Pb hG=>yl p s j1 m1 2 Pb w1 hG) ?_ fun z2 hz2=>?_
  ·intro f2 hf2
   refine zR (zV fun w1 hM=>?_)
   exact hM.ze f2 (by first | (simp only [Pz.then_ok,Pz.then_no,Pz.St.go,lgc,Pz.name,he1,g1,hf2]; done) | simp [Pz.then_ok,Pz.then_no,Pz.St.go,lgc,Pz.name,he1,g1,hf2])
  exact hz2.elim
 have g2:(wd1=⟨#[]⟩)=False:=eq_false h1
 refine (go 9) (zX results211 fun w1 hM=>?_)
 have h9:Pz.name s ⟨i,n⟩=.ok (wd1,⟨j1,m1⟩):=by first | (simp only [Pz.then_ok,Pz.then_no,Pz.St.go,lgc,Pz.name,he1,g2]; done) | simp [Pz.then_ok,Pz.then_no,Pz.St.go,lgc,Pz.name,he1,g2]
 exact hM.vf ((wd1,⟨j1,m1⟩):ByteArray × Pz.St) rfl ⟨h9,(Pz.name_fine hi).ok_ h9⟩ (fun h=>h.sel [0,1] qD rfl)
theorem c_num (p:Nat) (s:ByteArray) (i:Nat) (n:Int) (least:Int) (most:Int) (Pb:Nat→Prop) (w:World) (hG:Mem w ⟨fpOf [Rb 114 p s i n,.pub zN],Pb⟩ [Rb 114 p s i n,.pub zN] w) (hi:i≤s.size) (hs:s.size≤2000) (hn:0≤n∧n≤100) (hm:most≤9223372036854775806) :
    Calls prog 182 #[.pointer (some ⟨p,0,none⟩),iV least,iV most] w (RetX w [Rb 114 p s i n,.pub zN] Pb 111 (fun z:Int × Pz.St=>iV z.1) (fun z=>Pz.num s least most ⟨i,n⟩=.ok z∧Pz.Good s ⟨i,n⟩ z.2) (fun z=>[Rb 114 p s z.2.at_ z.2.nd,.pub zN]) (fun f=>Pz.num s least most ⟨i,n⟩=.no f)):=by
 refine zq (N:=105) func182 hG ?_
 refine (go 8) ?_
 refine zg (α:=Nat) [Rb 114 p s i n,.pub zN] [] (fun _=>.tuple #[]) (fun j1=>(Pz.blank s i=j1∧i≤j1∧j1≤s.size)) (fun j1=>[Rb 114 p s j1 n,.pub zN]) _ (fun _=>rfl) (S9 [0,1]) (fun _=>rfl) wn rfl rfl call53 rfl (fun w1 Pb hG=>vl p s i n Pb w1 hG qO qO) fun j1 hz1=>?_
 obtain ⟨hz1e,hz1a,hz1b⟩:=hz1
 refine (go 11) ?_
 refine yq [(0,.pointer (some ⟨p,0,none⟩)),(1,iV least),(2,iV most),(7,iV ((Pz.run Pz.dig s j1):Int))] (Mem w ⟨fpOf [Rb 114 p s i n,.pub zN],Pb⟩ [.pub (fun _ _=>j1≤Pz.run Pz.dig s j1∧Pz.run Pz.dig s j1≤s.size),Rb 114 p s j1 n,.pub zN]) (fun _ hK4=>?_) ?_
 ·refine (go 1) ?_
  refine yJ (fun (k:Nat)=>[(0,.pointer (some ⟨p,0,none⟩)),(1,iV least),(2,iV most),(7,iV k)]) (fun (k:Nat)=>[Rb 114 p s j1 n,.pub zN]) (fun (k:Nat)=>Pz.run Pz.dig s j1=Pz.run Pz.dig s k∧j1≤k∧k≤s.size) (fun (k:Nat)=>s.size - k) j1 (sc rfl (sc rfl (sc rfl (sc rfl sn)))) (fun _ h=>h) ?_ (fun k hI1=>?_)
  ·exact ⟨rfl,Nat.le_refl _,by omega⟩
  refine (go 11) (yO 23 (fun h1=>?_) fun h1=>?_)
  ·refine (go 5) ?_
   obtain ⟨c1,hc1⟩:∃ x,s[k]?=some x:=⟨_,byte_at qO⟩
   refine y6 (uV rfl rfl qO hc1 underlying9) ?_
   refine (go 3) (yO 32 (fun h2=>?_) fun h2=>?_)
   ·refine (go 5) ?_
    refine y6 (uV rfl rfl qO hc1 underlying9) ?_
    refine (go 4) (zW (fun h3=>?_) fun h3=>?_)
    ·refine (go 7) ?_
     refine zT (yK (zj (k + 1) (sc rfl (sc rfl (sc rfl (sc (ji qO) sn)))) (fun _ h=>h) ?_ ?_))
     ·exact ⟨hI1.1.trans (Pz.dig_step hc1 qO),by omega,by omega⟩
     omega
    have hw9:Pz.run Pz.dig s j1=k:=hI1.1.trans (Pz.dig_stop hc1 qO)
    refine vu (vG (vU (vH (zt hK4 (sc rfl (sc rfl (sc rfl (sc (ji qO) sn)))) (fun _ h=>have h:=Mem.fact ((by rw [hw9]; exact ⟨hI1.2.1,hI1.2.2⟩)) h; h)))))
   refine (go 11) ?_
   have hw9:Pz.run Pz.dig s j1=k:=hI1.1.trans (Pz.dig_stop hc1 qO)
   refine vu (vG (vU (vH (zt hK4 (sc rfl (sc rfl (sc rfl (sc (ji qO) sn)))) (fun _ h=>have h:=Mem.fact ((by rw [hw9]; exact ⟨hI1.2.1,hI1.2.2⟩)) h; h)))))
  refine (go 20) ?_
  have hw9:Pz.run Pz.dig s j1=k:=hI1.1.trans (Pz.run_end qO)
  refine vu (vG (vU (vH (zt hK4 (sc rfl (sc rfl (sc rfl (sc (ji qO) sn)))) (fun _ h=>have h:=Mem.fact ((by rw [hw9]; exact ⟨hI1.2.1,hI1.2.2⟩)) h; h)))))
 refine c_fact fun hF=>?_
 refine (go 11) (zW (fun h4=>?_) fun h4=>?_)
 ·refine (go 2) ?_
  refine zZ (α:=Unit) (PT:=111) [Rb 114 p s j1 n,.pub zN] [] (fun _:Unit=>.tuple #[]) (fun z1=>False) (fun z1=>[Rb 114 p s j1 n,.pub zN]) _ (fun f1=>f1=(2,(j1:Int))) (fun _=>rfl) (S9 [0,1]) (fun _=>rfl) wn rfl rfl call54 rfl (fun w1 Pb hG=>yl p s j1 n 2 Pb w1 hG) ?_ fun z1 hz2=>?_
  ·intro f1 hf1
   refine zR (zV fun w1 hM=>?_)
   exact hM.ze f1 (by rw [hf1]; exact Pz.num_form least most hz1e rfl h4)
  exact hz2.elim
 refine (go 3) ?_
 refine yM (Mem w ⟨fpOf [Rb 114 p s i n,.pub zN],Pb⟩ [Rb 114 p s j1 n,.pub zN]) mix (fun _ h=>h.drew) rfl (uG (f:=6) [0,1,2,3,4,5,6,7,8,9] rfl rfl (by kernel_rfl) (by kernel_rfl) (fun _ h=>h) fun KS hKS=>?_)
 refine (go 9) ?_
 refine uq (r_sslice_lh (l:=j1) (h:=(Pz.run Pz.dig s j1)) rfl rfl qO rfl qO qO qO underlying9) (zi hKS (zf 5 10 (zb (i:=10) rfl fun KN hKN hPN=>yY (β:=Int × Value) (fun z=>.tuple (List.toArray [iV z.1,z.2])) (fun z=>Pz.AtoiR (s.extract j1 (Pz.run Pz.dig s j1)).data.toList z) (fun _ _ _=>True) (fun _=>fun _ _ _ _ _ _ _=>trivial) wn rfl call212 rfl (fun w1 Pb hM pp=>c_atoi (s.extract j1 (Pz.run Pz.dig s j1)) Pb w1 pp.lt (Pz.atoi_lt h4 rfl qO) (Pz.ext_dig rfl) (by rw [Pz.ext_size _ qO]; omega) (pp.at_ 1 _ rfl)) fun z2 hz3=>vx (fun _ h=>h.drop1) ?_)))
 refine (go 1) ?_
 refine hKN _ _ (fun _ h=>h) (uG (f:=0) [11,12,13,14,15] rfl rfl (by kernel_rfl) (by kernel_rfl) (fun _ h=>h) fun KS hKS=>?_)
 refine (go 5) ?_
 refine zi hKS ?_
 refine zz (by kernel_rfl) ((go 1) ?_)
 refine (go 4) ?_
 refine yZ (r_ineq rfl hz3.ifc underlying183) ?_
 refine (go 1) (jy 67 (fun h5=>?_) fun h5=>?_)
 ·have g1:(isNil z2.2)=false:=by simpa using h5
  refine (go 35) ?_
  refine zZ (α:=Unit) (PT:=111) [Rb 114 p s j1 n,.pub zN] [] (fun _:Unit=>.tuple #[]) (fun z3=>False) (fun z3=>[Rb 114 p s j1 n,.pub zN]) _ (fun f2=>f2=(3,(j1:Int))) (fun _=>rfl) (S9 [0,1]) (fun _=>rfl) wn rfl rfl call54 rfl (fun w1 Pb hG=>yl p s j1 n 3 Pb w1 hG) ?_ fun z3 hz4=>?_
  ·intro f2 hf2
   refine zR (zV fun w1 hM=>?_)
   exact hM.ze f2 (by rw [hf2]; exact Pz.num_no hz1e rfl h4 (Pz.num_bad rfl hz3 hm (.inl h5)))
  exact hz4.elim
 have g2:(isNil z2.2)=true:=by simpa using h5
 refine (go 5) (vh 72 (fun h6=>?_) fun h6=>?_)
 ·refine (go 30) ?_
  refine zZ (α:=Unit) (PT:=111) [Rb 114 p s j1 n,.pub zN] [] (fun _:Unit=>.tuple #[]) (fun z4=>False) (fun z4=>[Rb 114 p s j1 n,.pub zN]) _ (fun f3=>f3=(3,(j1:Int))) (fun _=>rfl) (S9 [0,1]) (fun _=>rfl) wn rfl rfl call54 rfl (fun w1 Pb hG=>yl p s j1 n 3 Pb w1 hG) ?_ fun z4 hz5=>?_
  ·intro f3 hf3
   refine zR (zV fun w1 hM=>?_)
   exact hM.ze f3 (by rw [hf3]; exact Pz.num_no hz1e rfl h4 (Pz.num_bad rfl hz3 hm (.inr (.inl h6))))
  exact hz5.elim
 refine (go 5) (vh 77 (fun h7=>?_) fun h7=>?_)
 ·refine (go 25) ?_
  refine zZ (α:=Unit) (PT:=111) [Rb 114 p s j1 n,.pub zN] [] (fun _:Unit=>.tuple #[]) (fun z5=>False) (fun z5=>[Rb 114 p s j1 n,.pub zN]) _ (fun f4=>f4=(3,(j1:Int))) (fun _=>rfl) (S9 [0,1]) (fun _=>rfl) wn rfl rfl call54 rfl (fun w1 Pb hG=>yl p s j1 n 3 Pb w1 hG) ?_ fun z5 hz6=>?_
  ·intro f4 hf4
   refine zR (zV fun w1 hM=>?_)
   exact hM.ze f4 (by rw [hf4]; exact Pz.num_no hz1e rfl h4 (Pz.num_bad rfl hz3 hm (.inr (.inr (.inl h7)))))
  exact hz6.elim
 refine (go 8) ?_
 obtain ⟨c2,hc2⟩:∃ x,s[j1]?=some x:=⟨_,byte_at qO⟩
 refine vt (uV rfl rfl qO hc2 underlying9) ?_
 refine (go 2) (vh 88 (fun h8=>?_) fun h8=>?_)
 ·refine (go 11) (zW (fun h9=>?_) fun h9=>?_)
  ·refine (go 2) ?_
   refine zZ (α:=Unit) (PT:=111) [Rb 114 p s j1 n,.pub zN] [] (fun _:Unit=>.tuple #[]) (fun z6=>False) (fun z6=>[Rb 114 p s j1 n,.pub zN]) _ (fun f5=>f5=(3,(j1:Int))) (fun _=>rfl) (S9 [0,1]) (fun _=>rfl) wn rfl rfl call54 rfl (fun w1 Pb hG=>yl p s j1 n 3 Pb w1 hG) ?_ fun z6 hz7=>?_
   ·intro f5 hf5
    refine zR (zV fun w1 hM=>?_)
    exact hM.ze f5 (by rw [hf5]; exact Pz.num_no hz1e rfl h4 (Pz.num_bad rfl hz3 hm (.inr (.inr (.inr ⟨Pz.at48 hc2 h8,h9⟩)))))
   exact hz7.elim
  refine (go 18) (zX results182 fun w1 hM=>?_)
  have h8:=Pz.num_good rfl hz3 h5 h6 h7 (fun g=>h9 g.2)
  have h9:Pz.num s least most ⟨i,n⟩=.ok (z2.1,⟨(Pz.run Pz.dig s j1),n⟩):=by rw [← h8.2]; exact Pz.num_ok hz1e rfl h4 h8.1
  exact hM.vf ((z2.1,⟨(Pz.run Pz.dig s j1),n⟩):Int × Pz.St) rfl ⟨h9,(Pz.num_fine _ _ hi).ok_ h9⟩ (fun h=>h.sel [0,1] qD rfl)
 refine (go 30) (zX results182 fun w1 hM=>?_)
 have h8:=Pz.num_good rfl hz3 h5 h6 h7 (Pz.not48 hc2 h8)
 have h9:Pz.num s least most ⟨i,n⟩=.ok (z2.1,⟨(Pz.run Pz.dig s j1),n⟩):=by rw [← h8.2]; exact Pz.num_ok hz1e rfl h4 h8.1
 exact hM.vf ((z2.1,⟨(Pz.run Pz.dig s j1),n⟩):Int × Pz.St) rfl ⟨h9,(Pz.num_fine _ _ hi).ok_ h9⟩ (fun h=>h.sel [0,1] qD rfl)
theorem vm (p:Nat) (s:ByteArray) (i:Nat) (n:Int) (k m r:Int) (wd:ByteArray) (A4:Option Addr) (l4 c4:Nat) (A5:Option Addr) (l5 c5:Nat) (A6:Option Addr) (l6 c6:Nat) (Pb:Nat→Prop) (w:World) (hG:Mem w ⟨fpOf [Rb 114 p s i n,.pub zN],Pb⟩ [Rb 114 p s i n,.pub zN] w) (hi:i≤s.size) (hs:s.size≤2000) (hn:0≤n∧n≤100) :
    Calls prog 99 #[.pointer (some ⟨p,0,none⟩),.agg (List.toArray [iV k,iV m,iV r,.string wd,.slice A4 l4 c4,.slice A5 l5 c5,.slice A6 l6 c6])] w (RetX w [Rb 114 p s i n,.pub zN] Pb 111 (fun _:Unit=>.agg (List.toArray [iV k,iV m,iV r,.string wd,.slice A4 l4 c4,.slice A5 l5 c5,.slice A6 l6 c6])) (fun _=>n + 1≤100) (fun _=>[Rb 114 p s i (n + 1),.pub zN]) (fun f=>Pz.node ⟨i,n⟩=.no f)):=by
 refine zq (N:=20) func99 hG ?_
 refine (go 2) (yu fun b3=>zw fun b4=>?_)
 refine (go 24) (zW (fun h1=>?_) fun h1=>?_)
 ·refine (go 2) ?_
  refine zZ (α:=Unit) (PT:=111) [Rb 114 p s i (n + 1),.pub zN] [.blk b4 Zx 59,.blk b3 [iV k,iV m,iV r,.string wd,.slice A4 l4 c4,.slice A5 l5 c5,.slice A6 l6 c6] 59] (fun _:Unit=>.tuple #[]) (fun z1=>False) (fun z1=>[Rb 114 p s i (n + 1),.pub zN]) _ (fun f1=>f1=(4,(i:Int))) (fun _=>rfl) (S9 [2,3,0,1]) (fun _=>rfl) wn rfl rfl call54 rfl (fun w1 Pb hG=>yl p s i (n + 1) 4 Pb w1 hG) ?_ fun z1 hz1=>?_
  ·intro f1 hf1
   refine zR (zV fun w1 hM=>?_)
   exact hM.ze f1 (by rw [hf1]; exact Pz.node_no h1)
  exact hz1.elim
 refine (go 9) (zX results99 fun w1 hM=>?_)
 exact hM.vf () rfl (by have:=h1; omega) (fun h=>h.sel [2,3] qD rfl)
theorem uS (p:Nat) (s:ByteArray) (i:Nat) (n:Int) (Pb:Nat→Prop) (w:World) (hG:Mem w ⟨fpOf [Rb 114 p s i n,.pub zN],Pb⟩ [Rb 114 p s i n,.pub zN] w) (hi:i≤s.size) (hs:s.size≤2000) (hn:0≤n∧n≤100) :
    Calls prog 213 #[.pointer (some ⟨p,0,none⟩)] w (RetX w [Rb 114 p s i n,.pub zN] Pb 111 (fun z:Match × Pz.St=>.agg (zl z.1).toArray) (fun z=>Pz.match_ s ⟨i,n⟩=.ok z∧Pz.Good s ⟨i,n⟩ z.2) (fun z=>[Rb 114 p s z.2.at_ z.2.nd,.pub zN]) (fun f=>Pz.match_ s ⟨i,n⟩=.no f)):=by
 refine zq (N:=27) func213 hG ?_
 refine (go 2) (zw fun b2=>?_)
 refine (go 6) ?_
 refine zg (α:=(Bool × Nat)) [Rb 114 p s i n,.pub zN] [.blk b2 [iV 0,.string ⟨#[]⟩,.string ⟨#[]⟩] 179] (fun z:Bool × Nat=>.bool z.1) (fun z1=>(Pz.eat s ⟨#[33]⟩ i=z1∧i≤z1.2∧z1.2≤s.size)) (fun z1=>[Rb 114 p s z1.2 n,.pub zN]) _ (fun _=>rfl) (S9 [1,2,0]) (fun _=>rfl) wn rfl rfl call98 rfl (fun w1 Pb hG=>vq p s i n ⟨#[33]⟩ Pb w1 hG qO qO) fun z1 hz1=>?_
 obtain ⟨bo1,j1⟩:=z1
 have he1:Pz.eat s ⟨#[33]⟩ i=(bo1,j1):=hz1.1
 have hz1a:i≤j1:=hz1.2.1
 have hz1b:j1≤s.size:=hz1.2.2
 refine vC (.bool bo1) ?_
 refine (go 2) (yg (fun h1=>?_) fun h1=>?_)
 ·refine (go 3) ?_
  refine zZ (α:=ByteArray × Pz.St) (PT:=111) [Rb 114 p s j1 n,.pub zN] [.blk b2 [iV 0,.string ⟨#[]⟩,.string ⟨#[]⟩] 179] (fun z:ByteArray × Pz.St=>.string z.1) (fun z2=>Pz.name s ⟨j1,n⟩=.ok z2∧Pz.Good s ⟨j1,n⟩ z2.2) (fun z2=>[Rb 114 p s z2.2.at_ z2.2.nd,.pub zN]) _ (fun f1=>Pz.name s ⟨j1,n⟩=.no f1) (fun _=>rfl) (S9 [0,1,2]) (fun _=>rfl) wn rfl rfl call211 rfl (fun w1 Pb hG=>vF p s j1 n  Pb w1 hG qO qO qO ) ?_ fun z2 hz2=>?_
  ·intro f1 hf1
   refine zR (zR (zV fun w1 hM=>?_))
   exact hM.ze f1 (by first | (simp only [Pz.then_ok,Pz.then_no,Pz.St.go,lgc,Pz.match_,he1,h1,hf1]; done) | simp [Pz.then_ok,Pz.then_no,Pz.St.go,lgc,Pz.match_,he1,h1,hf1])
  obtain ⟨wd1,j2,m1⟩:=z2
  have he2:Pz.name s ⟨j1,n⟩=.ok (wd1,⟨j2,m1⟩):=hz2.1
  have ga1:j2≤s.size:=hz2.2.at_
  have gm1:n≤m1:=hz2.2.mono
  have gn1:m1≤100:=hz2.2.most (show n≤100 by omega)
  have wz1:wd1.size≤12:=Pz.name_size (t:=⟨j1,n⟩) (show j1≤_ by omega) he2
  refine vC (.string wd1) ?_
  refine (go 6) (zX results213 fun w1 hM=>?_)
  have h9:Pz.match_ s ⟨i,n⟩=.ok ((⟨4,wd1,⟨#[]⟩⟩:Match),⟨j2,m1⟩):=by first | (simp only [Pz.then_ok,Pz.then_no,Pz.St.go,lgc,Pz.match_,he1,he2,h1]; done) | simp [Pz.then_ok,Pz.then_no,Pz.St.go,lgc,Pz.match_,he1,he2,h1]
  exact hM.vf (((⟨4,wd1,⟨#[]⟩⟩:Match),⟨j2,m1⟩):Match × Pz.St) rfl ⟨h9,(Pz.match_fine hi).ok_ h9⟩ (fun h=>h.sel [0,1] qD rfl)
 have g1:bo1=false:=by simpa using h1
 refine (go 5) ?_
 refine zZ (α:=ByteArray × Pz.St) (PT:=111) [Rb 114 p s j1 n,.pub zN] [.blk b2 [iV 0,.string ⟨#[]⟩,.string ⟨#[]⟩] 179] (fun z:ByteArray × Pz.St=>.string z.1) (fun z3=>Pz.name s ⟨j1,n⟩=.ok z3∧Pz.Good s ⟨j1,n⟩ z3.2) (fun z3=>[Rb 114 p s z3.2.at_ z3.2.nd,.pub zN]) _ (fun f2=>Pz.name s ⟨j1,n⟩=.no f2) (fun _=>rfl) (S9 [0,1,2]) (fun _=>rfl) wn rfl rfl call211 rfl (fun w1 Pb hG=>vF p s j1 n  Pb w1 hG qO qO qO ) ?_ fun z3 hz3=>?_
 ·intro f2 hf2
  refine zR (zV fun w1 hM=>?_)
  exact hM.ze f2 (by first | (simp only [Pz.then_ok,Pz.then_no,Pz.St.go,lgc,Pz.match_,he1,g1,h1,hf2]; done) | simp [Pz.then_ok,Pz.then_no,Pz.St.go,lgc,Pz.match_,he1,g1,h1,hf2])
 obtain ⟨wd2,j3,m2⟩:=z3
 have he3:Pz.name s ⟨j1,n⟩=.ok (wd2,⟨j3,m2⟩):=hz3.1
 have ga2:j3≤s.size:=hz3.2.at_
 have gm2:n≤m2:=hz3.2.mono
 have gn2:m2≤100:=hz3.2.most (show n≤100 by omega)
 have wz2:wd2.size≤12:=Pz.name_size (t:=⟨j1,n⟩) (show j1≤_ by omega) he3
 refine vC (.string wd2) ?_
 refine (go 1) (zw fun b3=>?_)
 refine (go 8) ?_
 refine zg (α:=(Bool × Nat)) [Rb 114 p s j3 m2,.pub zN] [.blk b3 [iV 3,.string wd2,.string ⟨#[]⟩] 179,.blk b2 [iV 0,.string ⟨#[]⟩,.string ⟨#[]⟩] 179] (fun z:Bool × Nat=>.bool z.1) (fun z4=>(Pz.eat s ⟨#[33,61]⟩ j3=z4∧j3≤z4.2∧z4.2≤s.size)) (fun z4=>[Rb 114 p s z4.2 m2,.pub zN]) _ (fun _=>rfl) (S9 [1,2,0,3]) (fun _=>rfl) wn rfl rfl call98 rfl (fun w1 Pb hG=>vq p s j3 m2 ⟨#[33,61]⟩ Pb w1 hG qO qO) fun z4 hz4=>?_
 obtain ⟨bo2,j4⟩:=z4
 have he4:Pz.eat s ⟨#[33,61]⟩ j3=(bo2,j4):=hz4.1
 have hz4a:j3≤j4:=hz4.2.1
 have hz4b:j4≤s.size:=hz4.2.2
 refine vC (.bool bo2) ?_
 refine (go 3) (yg (fun h2=>?_) fun h2=>?_)
 ·refine (go 2) ?_
  refine zZ (α:=ByteArray × Pz.St) (PT:=111) [Rb 114 p s j4 m2,.pub zN] [.blk b3 [iV 3,.string wd2,.string ⟨#[]⟩] 179,.blk b2 [iV 0,.string ⟨#[]⟩,.string ⟨#[]⟩] 179] (fun z:ByteArray × Pz.St=>.string z.1) (fun z5=>Pz.name s ⟨j4,m2⟩=.ok z5∧Pz.Good s ⟨j4,m2⟩ z5.2) (fun z5=>[Rb 114 p s z5.2.at_ z5.2.nd,.pub zN]) _ (fun f3=>Pz.name s ⟨j4,m2⟩=.no f3) (fun _=>rfl) (S9 [0,1,2,3]) (fun _=>rfl) wn rfl rfl call211 rfl (fun w1 Pb hG=>vF p s j4 m2  Pb w1 hG qO qO qO ) ?_ fun z5 hz5=>?_
  ·intro f3 hf3
   refine yA (zR (zV fun w1 hM=>?_))
   exact hM.ze f3 (by first | (simp only [Pz.then_ok,Pz.then_no,Pz.St.go,lgc,Pz.match_,he1,g1,he3,he4,h1,h2,hf3]; done) | simp [Pz.then_ok,Pz.then_no,Pz.St.go,lgc,Pz.match_,he1,g1,he3,he4,h1,h2,hf3])
  obtain ⟨wd3,j5,m3⟩:=z5
  have he5:Pz.name s ⟨j4,m2⟩=.ok (wd3,⟨j5,m3⟩):=hz5.1
  have ga3:j5≤s.size:=hz5.2.at_
  have gm3:m2≤m3:=hz5.2.mono
  have gn3:m3≤100:=hz5.2.most (show m2≤100 by omega)
  have wz3:wd3.size≤12:=Pz.name_size (t:=⟨j4,m2⟩) (show j4≤_ by omega) he5
  refine vC (.string wd3) ?_
  refine (go 14) (zX results213 fun w1 hM=>?_)
  have h9:Pz.match_ s ⟨i,n⟩=.ok ((⟨2,wd2,wd3⟩:Match),⟨j5,m3⟩):=by first | (simp only [Pz.then_ok,Pz.then_no,Pz.St.go,lgc,Pz.match_,he1,g1,he3,he4,he5,h1,h2]; done) | simp [Pz.then_ok,Pz.then_no,Pz.St.go,lgc,Pz.match_,he1,g1,he3,he4,he5,h1,h2]
  exact hM.vf (((⟨2,wd2,wd3⟩:Match),⟨j5,m3⟩):Match × Pz.St) rfl ⟨h9,(Pz.match_fine hi).ok_ h9⟩ (fun h=>h.sel [0,1] qD rfl)
 have g2:bo2=false:=by simpa using h2
 refine (go 3) ?_
 refine zg (α:=(Bool × Nat)) [Rb 114 p s j4 m2,.pub zN] [.blk b3 [iV 3,.string wd2,.string ⟨#[]⟩] 179,.blk b2 [iV 0,.string ⟨#[]⟩,.string ⟨#[]⟩] 179] (fun z:Bool × Nat=>.bool z.1) (fun z6=>(Pz.eat s ⟨#[61]⟩ j4=z6∧j4≤z6.2∧z6.2≤s.size)) (fun z6=>[Rb 114 p s z6.2 m2,.pub zN]) _ (fun _=>rfl) (S9 [0,1,2,3]) (fun _=>rfl) wn rfl rfl call98 rfl (fun w1 Pb hG=>vq p s j4 m2 ⟨#[61]⟩ Pb w1 hG qO qO) fun z6 hz6=>?_
 obtain ⟨bo3,j6⟩:=z6
 have he6:Pz.eat s ⟨#[61]⟩ j4=(bo3,j6):=hz6.1
 have hz6a:j4≤j6:=hz6.2.1
 have hz6b:j6≤s.size:=hz6.2.2
 refine vC (.bool bo3) ?_
 refine (go 3) (yg (fun h3=>?_) fun h3=>?_)
 ·refine (go 2) ?_
  refine zZ (α:=ByteArray × Pz.St) (PT:=111) [Rb 114 p s j6 m2,.pub zN] [.blk b3 [iV 3,.string wd2,.string ⟨#[]⟩] 179,.blk b2 [iV 0,.string ⟨#[]⟩,.string ⟨#[]⟩] 179] (fun z:ByteArray × Pz.St=>.string z.1) (fun z7=>Pz.name s ⟨j6,m2⟩=.ok z7∧Pz.Good s ⟨j6,m2⟩ z7.2) (fun z7=>[Rb 114 p s z7.2.at_ z7.2.nd,.pub zN]) _ (fun f4=>Pz.name s ⟨j6,m2⟩=.no f4) (fun _=>rfl) (S9 [0,1,2,3]) (fun _=>rfl) wn rfl rfl call211 rfl (fun w1 Pb hG=>vF p s j6 m2  Pb w1 hG qO qO qO ) ?_ fun z7 hz7=>?_
  ·intro f4 hf4
   refine yA (zR (zV fun w1 hM=>?_))
   exact hM.ze f4 (by first | (simp only [Pz.then_ok,Pz.then_no,Pz.St.go,lgc,Pz.match_,he1,g1,he3,he4,g2,he6,h1,h2,h3,hf4]; done) | simp [Pz.then_ok,Pz.then_no,Pz.St.go,lgc,Pz.match_,he1,g1,he3,he4,g2,he6,h1,h2,h3,hf4])
  obtain ⟨wd4,j7,m4⟩:=z7
  have he7:Pz.name s ⟨j6,m2⟩=.ok (wd4,⟨j7,m4⟩):=hz7.1
  have ga4:j7≤s.size:=hz7.2.at_
  have gm4:m2≤m4:=hz7.2.mono
  have gn4:m4≤100:=hz7.2.most (show m2≤100 by omega)
  have wz4:wd4.size≤12:=Pz.name_size (t:=⟨j6,m2⟩) (show j6≤_ by omega) he7
  refine vC (.string wd4) ?_
  refine (go 14) (zX results213 fun w1 hM=>?_)
  have h9:Pz.match_ s ⟨i,n⟩=.ok ((⟨1,wd2,wd4⟩:Match),⟨j7,m4⟩):=by first | (simp only [Pz.then_ok,Pz.then_no,Pz.St.go,lgc,Pz.match_,he1,g1,he3,he4,g2,he6,he7,h1,h2,h3]; done) | simp [Pz.then_ok,Pz.then_no,Pz.St.go,lgc,Pz.match_,he1,g1,he3,he4,g2,he6,he7,h1,h2,h3]
  exact hM.vf (((⟨1,wd2,wd4⟩:Match),⟨j7,m4⟩):Match × Pz.St) rfl ⟨h9,(Pz.match_fine hi).ok_ h9⟩ (fun h=>h.sel [0,1] qD rfl)
 have g3:bo3=false:=by simpa using h3
 refine (go 10) (zX results213 fun w1 hM=>?_)
 have h9:Pz.match_ s ⟨i,n⟩=.ok ((⟨3,wd2,⟨#[]⟩⟩:Match),⟨j6,m2⟩):=by first | (simp only [Pz.then_ok,Pz.then_no,Pz.St.go,lgc,Pz.match_,he1,g1,he3,he4,g2,he6,g3,h1,h2,h3]; done) | simp [Pz.then_ok,Pz.then_no,Pz.St.go,lgc,Pz.match_,he1,g1,he3,he4,g2,he6,g3,h1,h2,h3]
 exact hM.vf (((⟨3,wd2,⟨#[]⟩⟩:Match),⟨j6,m2⟩):Match × Pz.St) rfl ⟨h9,(Pz.match_fine hi).ok_ h9⟩ (fun h=>h.sel [0,1] qD rfl)
end
section
open Tryz
open Ex
attribute [local irreducible] WC WL WQ WE WS
set_option linter.unusedVariables false
set_option linter.unusedSimpArgs false
set_option maxHeartbeats 1000000 in
theorem c_window (p:Nat) (s:ByteArray) (i:Nat) (n:Int) (word:ByteArray) (Pb:Nat→Prop) (w:World) (hG:Mem w ⟨fpOf [Rb 114 p s i n,.pub zN],Pb⟩ [Rb 114 p s i n,.pub zN] w) (hi:i≤s.size) (hs:s.size≤2000) (hn:0≤n∧n≤100) (hwd:word.size≤12) :
    Calls prog 183 #[.pointer (some ⟨p,0,none⟩),.string word] w (RetX w [Rb 114 p s i n,.pub zN] Pb 111 (fun z:zB × Pz.St=>.agg (zk z.1).toArray) (fun z=>Pz.window s word ⟨i,n⟩=.ok (z.1.e,z.2)∧Pz.Good s ⟨i,n⟩ z.2) (fun z=>[Rb 114 p s z.2.at_ z.2.nd,.pub zN,okP zB.Ok z.1]) (fun f=>Pz.window s word ⟨i,n⟩=.no f)):=by
 refine zq (N:=46) func183 hG ?_
 refine (go 2) (zw fun b4=>?_)
 refine (go 5) ?_
 refine zZ (α:=Pz.St) (PT:=111) [Rb 114 p s i n,.pub zN] [.blk b4 Zx 59] (fun z:Pz.St=>.tuple #[]) (fun z1=>Pz.must s ⟨#[40]⟩ ⟨i,n⟩=.ok z1∧Pz.Good s ⟨i,n⟩ z1) (fun z1=>[Rb 114 p s z1.at_ z1.nd,.pub zN]) _ (fun f1=>Pz.must s ⟨#[40]⟩ ⟨i,n⟩=.no f1) (fun _=>rfl) (S9 [1,2,0]) (fun _=>rfl) wn rfl rfl call179 rfl (fun w1 Pb hG=>y7 p s i n ⟨#[40]⟩ Pb w1 hG qO qO qO ) ?_ fun z1 hz1=>?_
 ·intro f1 hf1
  refine zR (zV fun w1 hM=>?_)
  exact hM.ze f1 (by first | (simp only [Pz.then_ok,Pz.then_no,Pz.St.go,lgc,Pz.window,zB.e,zB.es,hf1]; done) | simp [Pz.then_ok,Pz.then_no,Pz.St.go,lgc,Pz.window,zB.e,zB.es,hf1])
 obtain ⟨j1,m1⟩:=z1
 have he1:Pz.must s ⟨#[40]⟩ ⟨i,n⟩=.ok ⟨j1,m1⟩:=hz1.1
 have ga1:j1≤s.size:=hz1.2.at_
 have gm1:n≤m1:=hz1.2.mono
 have gn1:m1≤100:=hz1.2.most (show n≤100 by omega)
 refine (go 5) ?_
 refine zZ (α:=Pz.St) (PT:=111) [Rb 114 p s j1 m1,.pub zN] [.blk b4 Zx 59] (fun z:Pz.St=>.tuple #[]) (fun z2=>Pz.must s ⟨#[123]⟩ ⟨j1,m1⟩=.ok z2∧Pz.Good s ⟨j1,m1⟩ z2) (fun z2=>[Rb 114 p s z2.at_ z2.nd,.pub zN]) _ (fun f2=>Pz.must s ⟨#[123]⟩ ⟨j1,m1⟩=.no f2) (fun _=>rfl) (S9 [0,1,2]) (fun _=>rfl) wn rfl rfl call179 rfl (fun w1 Pb hG=>y7 p s j1 m1 ⟨#[123]⟩ Pb w1 hG qO qO qO ) ?_ fun z2 hz2=>?_
 ·intro f2 hf2
  refine zR (zV fun w1 hM=>?_)
  exact hM.ze f2 (by first | (simp only [Pz.then_ok,Pz.then_no,Pz.St.go,lgc,Pz.window,zB.e,zB.es,he1,hf2]; done) | simp [Pz.then_ok,Pz.then_no,Pz.St.go,lgc,Pz.window,zB.e,zB.es,he1,hf2])
 obtain ⟨j2,m2⟩:=z2
 have he2:Pz.must s ⟨#[123]⟩ ⟨j1,m1⟩=.ok ⟨j2,m2⟩:=hz2.1
 have ga2:j2≤s.size:=hz2.2.at_
 have gm2:m1≤m2:=hz2.2.mono
 have gn2:m2≤100:=hz2.2.most (show m1≤100 by omega)
 refine (go 6) (zw fun b5=>?_)
 refine (go 5) ?_
 refine un (fun _ h=>h.vW Match 179 3 zl) (uh (fun (ms:List Match) (k:Nat) (m:Int) (q:Nat) (rv:Value)=>[(0,.pointer (some ⟨p,0,none⟩)),(4,.pointer (some ⟨b4,0,none⟩)),(5,.pointer (some ⟨b5,0,none⟩))]) (fun (ms:List Match) (k:Nat) (m:Int) (q:Nat) (rv:Value)=>[Row rv 179 3 zl ms,.blk b5 [iV 2,iV 0,iV 0,.string word,rv,Zs,Zs] 59,Rb 114 p s k m,.pub zN,.blk b4 Zx 59]) (fun (ms:List Match) (k:Nat) (m:Int) (q:Nat) (rv:Value)=>Pz.winL s 6 [] ⟨j2,m2⟩=Pz.winL s (q + 1) ms ⟨k,m⟩∧ms.length + q=5∧k≤s.size∧m2≤m∧m≤100) (fun (ms:List Match) (k:Nat) (m:Int) (q:Nat) (rv:Value)=>q) [] j2 m2 5 (Zs) (sc rfl (sc rfl (sc rfl sn))) (fun _ h=>h) ?_ (fun ms k m q rv hI1=>?_))
 ·exact ⟨rfl,rfl,by omega,by omega,by omega⟩
 refine yW 0 (l:=ms) rfl fun A1 cp1 hv1 hc1 hm1 hA1=>?_
 subst hv1
 refine (go 4) ?_
 refine zg (α:=(Bool × Nat)) [Rb 114 p s k m,.pub zN] [Row (.slice A1 ms.length cp1) 179 3 zl ms,.blk b5 [iV 2,iV 0,iV 0,.string word,.slice A1 ms.length cp1,Zs,Zs] 59,.blk b4 Zx 59] (fun z:Bool × Nat=>.bool z.1) (fun z3=>(Pz.eat s ⟨#[125]⟩ k=z3∧k≤z3.2∧z3.2≤s.size)) (fun z3=>[Rb 114 p s z3.2 m,.pub zN]) _ (fun _=>rfl) (S9 [2,3,0,1,4]) (fun _=>rfl) wn rfl rfl call98 rfl (fun w1 Pb hG=>vq p s k m ⟨#[125]⟩ Pb w1 hG qO qO) fun z3 hz3=>?_
 obtain ⟨bo1,j3⟩:=z3
 have he3:Pz.eat s ⟨#[125]⟩ k=(bo1,j3):=hz3.1
 have hz3a:k≤j3:=hz3.2.1
 have hz3b:j3≤s.size:=hz3.2.2
 refine vC (.bool bo1) (za (yE rfl) ?_)
 refine (go 2) (yg (fun h1=>?_) fun h1=>?_)
 ·have g1:bo1=false:=by simpa using h1
  have hx1:=Pz.win_more hI1.1 (by rw [he3,g1])
  refine (go 12) (zW (fun h2=>?_) fun h2=>?_)
  ·refine (go 2) ?_
   refine zZ (α:=Pz.St) (PT:=111) [Rb 114 p s j3 m,.pub zN] [Row (.slice A1 ms.length cp1) 179 3 zl ms,.blk b5 [iV 2,iV 0,iV 0,.string word,.slice A1 ms.length cp1,Zs,Zs] 59,.blk b4 Zx 59] (fun z:Pz.St=>.tuple #[]) (fun z4=>Pz.must s ⟨#[44]⟩ ⟨j3,m⟩=.ok z4∧Pz.Good s ⟨j3,m⟩ z4) (fun z4=>[Rb 114 p s z4.at_ z4.nd,.pub zN]) _ (fun f3=>Pz.must s ⟨#[44]⟩ ⟨j3,m⟩=.no f3) (fun _=>rfl) (S9 [0,1,2,3,4]) (fun _=>rfl) wn rfl rfl call179 rfl (fun w1 Pb hG=>y7 p s j3 m ⟨#[44]⟩ Pb w1 hG qO qO qO ) ?_ fun z4 hz4=>?_
   ·intro f3 hf3
    refine zR (yA (yV (yA (zR (zV fun w1 hM=>?_)))))
    have hY:=hx1.trans (by rw [Pz.win_sep' h2 hf3,Pz.then_no])
    exact hM.ze f3 (by simp only [Pz.then_ok,Pz.then_no,Pz.St.go,lgc,Pz.window,zB.e,zB.es,he1,he2,he3,g1,hY])
   obtain ⟨j4,m3⟩:=z4
   have he4:Pz.must s ⟨#[44]⟩ ⟨j3,m⟩=.ok ⟨j4,m3⟩:=hz4.1
   have ga3:j4≤s.size:=hz4.2.at_
   have gm3:m≤m3:=hz4.2.mono
   have gn3:m3≤100:=hz4.2.most (show m≤100 by omega)
   refine (go 11) (zW (fun h3=>?_) fun h3=>?_)
   ·refine (go 2) ?_
    refine zZ (α:=Unit) (PT:=111) [Rb 114 p s j4 m3,.pub zN] [Row (.slice A1 ms.length cp1) 179 3 zl ms,.blk b5 [iV 2,iV 0,iV 0,.string word,.slice A1 ms.length cp1,Zs,Zs] 59,.blk b4 Zx 59] (fun _:Unit=>.tuple #[]) (fun z5=>False) (fun z5=>[Rb 114 p s j4 m3,.pub zN]) _ (fun f4=>f4=(5,(j4:Int))) (fun _=>rfl) (S9 [0,1,2,3,4]) (fun _=>rfl) wn rfl rfl call54 rfl (fun w1 Pb hG=>yl p s j4 m3 5 Pb w1 hG) ?_ fun z5 hz5=>?_
    ·intro f4 hf4
     refine zR (yA (yV (yA (zR (zV fun w1 hM=>?_)))))
     have hY:=Pz.win_many hx1 (Pz.win_sep' h2 he4) h3
     exact hM.ze f4 (by simp only [Pz.then_ok,Pz.then_no,Pz.St.go,lgc,Pz.window,zB.e,zB.es,he1,he2,he3,g1,he4,hY,hf4])
    exact hz5.elim
   refine (go 2) ?_
   refine yM (Mem w ⟨fpOf [Rb 114 p s i n,.pub zN],Pb⟩ [.pub zN,.blk b4 Zx 59]) mix (fun _ h=>h.drew) rfl (yN 6 [0,2] [1,4] rfl fun KS hKS=>?_)
   refine (go 2) ?_
   refine zi hKS (ya (f:=5) (i:=1) (j:=3) rfl (by kernel_rfl) ?_ ?_)
   ·refine zb (i:=1) rfl fun KN hKN hPN=>?_
    refine (go 2) ?_
    refine hKN _ _ (S9 [1,4]) (zf 4 3 (zb (i:=3) rfl fun KN hKN hPN=>zZ (α:=Match × Pz.St) (PT:=111) [Rb 114 p s j4 m3,.pub zN] [Row (.slice A1 ms.length cp1) 179 3 zl ms,.blk b5 [iV 2,iV 0,iV 0,.string word,.slice A1 ms.length cp1,Zs,Zs] 59,.blk b4 Zx 59] (fun z:Match × Pz.St=>.agg (zl z.1).toArray) (fun z6=>Pz.match_ s ⟨j4,m3⟩=.ok z6∧Pz.Good s ⟨j4,m3⟩ z6.2) (fun z6=>[Rb 114 p s z6.2.at_ z6.2.nd,.pub zN]) _ (fun f5=>Pz.match_ s ⟨j4,m3⟩=.no f5) (fun _=>rfl) (S9 [0,1,2,3,4]) (fun _=>rfl) wn rfl rfl call213 rfl (fun w1 Pb hG=>uS p s j4 m3  Pb w1 hG qO qO qO ) ?_ fun z6 hz6=>?_))
    ·intro f5 hf5
     refine yr hPN (yA (yV (yA (zR (zV fun w1 hM=>?_)))))
     have hY:=Pz.win_next hx1 (Pz.win_sep' h2 he4) h3 hf5
     rw [Pz.then_no] at hY
     exact hM.ze f5 (by simp only [Pz.then_ok,Pz.then_no,Pz.St.go,lgc,Pz.window,zB.e,zB.es,he1,he2,he3,g1,he4,hY])
    obtain ⟨mt1,j5,m4⟩:=z6
    have he5:Pz.match_ s ⟨j4,m3⟩=.ok (mt1,⟨j5,m4⟩):=hz6.1
    have ga4:j5≤s.size:=hz6.2.at_
    have gm4:m3≤m4:=hz6.2.mono
    have gn4:m4≤100:=hz6.2.most (show m3≤100 by omega)
    refine (go 1) ?_
    refine hKN _ _ (S9 [1,4]) (zf 3 4 (zb (i:=4) rfl fun KN hKN hPN=>zy zl ([mt1]:List Match) wn underlying55 inf179 rfl rfl rfl rfl qD qD rfl fun b31=>?_))
    refine (go 1) ?_
    refine hKN _ _ (S9 [2,5]) (zf 2 5 (zb (i:=5) rfl fun KN hKN hPN=>yH 3 ms ([mt1]:List Match) encMatch wn rfl rfl rfl (fun _ hM=>(RowSl encMatch hM 0 rfl)) underlying55 inf179 rfl rfl (by simp only [qL]; omega) rfl fun A2 cp2 hc2 hm2 hA2=>?_))
    refine (go 1) ?_
    refine hKN _ _ (S9 [2,5]) (yN 1 [6] [2,5] rfl fun KS hKS=>?_)
    refine (go 1) ?_
    refine zi hKS (zf 0 7 (zb (i:=7) rfl fun KN hKN hPN=>?_))
    refine (go 2) ?_
    refine hKN _ _ (S9 [2,5]) (zz (by kernel_rfl) (yK (ye (ms++([mt1]:List Match)) j5 m4 (q - 1) (.slice A2 ((ms++([mt1]:List Match)).length) cp2) (sc rfl (sc rfl (sc rfl sn))) (S9 [3,4,1,2,5]) ?_ ?_)))
    ·have hY:=Pz.win_next hx1 (Pz.win_sep' h2 he4) h3 he5
     rw [Pz.then_ok] at hY
     exact ⟨hY.trans (by rw [show q - 1 + 1=q by omega]),by simp only [qL]; omega,by omega,by omega,by omega⟩
    omega
   refine zb (i:=3) rfl fun KN hKN hPN=>zZ (α:=Match × Pz.St) (PT:=111) [Rb 114 p s j4 m3,.pub zN] [Row (.slice A1 ms.length cp1) 179 3 zl ms,.blk b5 [iV 2,iV 0,iV 0,.string word,.slice A1 ms.length cp1,Zs,Zs] 59,.blk b4 Zx 59] (fun z:Match × Pz.St=>.agg (zl z.1).toArray) (fun z7=>Pz.match_ s ⟨j4,m3⟩=.ok z7∧Pz.Good s ⟨j4,m3⟩ z7.2) (fun z7=>[Rb 114 p s z7.2.at_ z7.2.nd,.pub zN]) _ (fun f6=>Pz.match_ s ⟨j4,m3⟩=.no f6) (fun _=>rfl) (S9 [0,1,2,3,4]) (fun _=>rfl) wn rfl rfl call213 rfl (fun w1 Pb hG=>uS p s j4 m3  Pb w1 hG qO qO qO ) ?_ fun z7 hz7=>?_
   ·intro f6 hf6
    refine yr hPN (yA (yV (yA (zR (zV fun w1 hM=>?_)))))
    have hY:=Pz.win_next hx1 (Pz.win_sep' h2 he4) h3 hf6
    rw [Pz.then_no] at hY
    exact hM.ze f6 (by simp only [Pz.then_ok,Pz.then_no,Pz.St.go,lgc,Pz.window,zB.e,zB.es,he1,he2,he3,g1,he4,hY])
   obtain ⟨mt2,j6,m5⟩:=z7
   have he6:Pz.match_ s ⟨j4,m3⟩=.ok (mt2,⟨j6,m5⟩):=hz7.1
   have ga5:j6≤s.size:=hz7.2.at_
   have gm5:m3≤m5:=hz7.2.mono
   have gn5:m5≤100:=hz7.2.most (show m3≤100 by omega)
   refine (go 1) ?_
   refine hKN _ _ (S9 [1,4]) (ya (f:=4) (i:=1) (j:=4) rfl (by kernel_rfl) ?_ ?_)
   ·refine zb (i:=1) rfl fun KN hKN hPN=>?_
    refine (go 2) ?_
    refine hKN _ _ (S9 [1,4]) (zf 3 4 (zb (i:=4) rfl fun KN hKN hPN=>zy zl ([mt2]:List Match) wn underlying55 inf179 rfl rfl rfl rfl qD qD rfl fun b31=>?_))
    refine (go 1) ?_
    refine hKN _ _ (S9 [2,5]) (zf 2 5 (zb (i:=5) rfl fun KN hKN hPN=>yH 3 ms ([mt2]:List Match) encMatch wn rfl rfl rfl (fun _ hM=>(RowSl encMatch hM 0 rfl)) underlying55 inf179 rfl rfl (by simp only [qL]; omega) rfl fun A3 cp3 hc3 hm3 hA3=>?_))
    refine (go 1) ?_
    refine hKN _ _ (S9 [2,5]) (yN 1 [6] [2,5] rfl fun KS hKS=>?_)
    refine (go 1) ?_
    refine zi hKS (zf 0 7 (zb (i:=7) rfl fun KN hKN hPN=>?_))
    refine (go 2) ?_
    refine hKN _ _ (S9 [2,5]) (zz (by kernel_rfl) (yK (ye (ms++([mt2]:List Match)) j6 m5 (q - 1) (.slice A3 ((ms++([mt2]:List Match)).length) cp3) (sc rfl (sc rfl (sc rfl sn))) (S9 [3,4,1,2,5]) ?_ ?_)))
    ·have hY:=Pz.win_next hx1 (Pz.win_sep' h2 he4) h3 he6
     rw [Pz.then_ok] at hY
     exact ⟨hY.trans (by rw [show q - 1 + 1=q by omega]),by simp only [qL]; omega,by omega,by omega,by omega⟩
    omega
   refine zb (i:=4) rfl fun KN hKN hPN=>zy zl ([mt2]:List Match) wn underlying55 inf179 rfl rfl rfl rfl qD qD rfl fun b31=>?_
   refine (go 1) ?_
   refine hKN _ _ (S9 [2,5]) (zf 3 1 (zb (i:=1) rfl fun KN hKN hPN=>?_))
   refine (go 2) ?_
   refine hKN _ _ (S9 [2,5]) (zf 2 5 (zb (i:=5) rfl fun KN hKN hPN=>yH 3 ms ([mt2]:List Match) encMatch wn rfl rfl rfl (fun _ hM=>(RowSl encMatch hM 0 rfl)) underlying55 inf179 rfl rfl (by simp only [qL]; omega) rfl fun A4 cp4 hc4 hm4 hA4=>?_))
   refine (go 1) ?_
   refine hKN _ _ (S9 [2,5]) (yN 1 [6] [2,5] rfl fun KS hKS=>?_)
   refine (go 1) ?_
   refine zi hKS (zf 0 7 (zb (i:=7) rfl fun KN hKN hPN=>?_))
   refine (go 2) ?_
   refine hKN _ _ (S9 [2,5]) (zz (by kernel_rfl) (yK (ye (ms++([mt2]:List Match)) j6 m5 (q - 1) (.slice A4 ((ms++([mt2]:List Match)).length) cp4) (sc rfl (sc rfl (sc rfl sn))) (S9 [3,4,1,2,5]) ?_ ?_)))
   ·have hY:=Pz.win_next hx1 (Pz.win_sep' h2 he4) h3 he6
    rw [Pz.then_ok] at hY
    exact ⟨hY.trans (by rw [show q - 1 + 1=q by omega]),by simp only [qL]; omega,by omega,by omega,by omega⟩
   omega
  refine (go 11) (zW (fun h4=>?_) fun h4=>?_)
  ·refine (go 2) ?_
   refine zZ (α:=Unit) (PT:=111) [Rb 114 p s j3 m,.pub zN] [Row (.slice A1 ms.length cp1) 179 3 zl ms,.blk b5 [iV 2,iV 0,iV 0,.string word,.slice A1 ms.length cp1,Zs,Zs] 59,.blk b4 Zx 59] (fun _:Unit=>.tuple #[]) (fun z8=>False) (fun z8=>[Rb 114 p s j3 m,.pub zN]) _ (fun f7=>f7=(5,(j3:Int))) (fun _=>rfl) (S9 [0,1,2,3,4]) (fun _=>rfl) wn rfl rfl call54 rfl (fun w1 Pb hG=>yl p s j3 m 5 Pb w1 hG) ?_ fun z8 hz8=>?_
   ·intro f7 hf7
    refine zR (yA (yV (yA (zR (zV fun w1 hM=>?_)))))
    have hY:=Pz.win_many hx1 (Pz.win_sep h2) h4
    exact hM.ze f7 (by simp only [Pz.then_ok,Pz.then_no,Pz.St.go,lgc,Pz.window,zB.e,zB.es,he1,he2,he3,g1,hY,hf7])
   exact hz8.elim
  refine (go 2) ?_
  refine yM (Mem w ⟨fpOf [Rb 114 p s i n,.pub zN],Pb⟩ [.pub zN,.blk b4 Zx 59]) mix (fun _ h=>h.drew) rfl (yN 6 [0,2] [1,4] rfl fun KS hKS=>?_)
  refine (go 2) ?_
  refine zi hKS (ya (f:=5) (i:=1) (j:=3) rfl (by kernel_rfl) ?_ ?_)
  ·refine zb (i:=1) rfl fun KN hKN hPN=>?_
   refine (go 2) ?_
   refine hKN _ _ (S9 [1,4]) (zf 4 3 (zb (i:=3) rfl fun KN hKN hPN=>zZ (α:=Match × Pz.St) (PT:=111) [Rb 114 p s j3 m,.pub zN] [Row (.slice A1 ms.length cp1) 179 3 zl ms,.blk b5 [iV 2,iV 0,iV 0,.string word,.slice A1 ms.length cp1,Zs,Zs] 59,.blk b4 Zx 59] (fun z:Match × Pz.St=>.agg (zl z.1).toArray) (fun z9=>Pz.match_ s ⟨j3,m⟩=.ok z9∧Pz.Good s ⟨j3,m⟩ z9.2) (fun z9=>[Rb 114 p s z9.2.at_ z9.2.nd,.pub zN]) _ (fun f8=>Pz.match_ s ⟨j3,m⟩=.no f8) (fun _=>rfl) (S9 [0,1,2,3,4]) (fun _=>rfl) wn rfl rfl call213 rfl (fun w1 Pb hG=>uS p s j3 m  Pb w1 hG qO qO qO ) ?_ fun z9 hz9=>?_))
   ·intro f8 hf8
    refine yr hPN (yA (yV (yA (zR (zV fun w1 hM=>?_)))))
    have hY:=Pz.win_next hx1 (Pz.win_sep h2) h4 hf8
    rw [Pz.then_no] at hY
    exact hM.ze f8 (by simp only [Pz.then_ok,Pz.then_no,Pz.St.go,lgc,Pz.window,zB.e,zB.es,he1,he2,he3,g1,hY])
   obtain ⟨mt3,j7,m6⟩:=z9
   have he7:Pz.match_ s ⟨j3,m⟩=.ok (mt3,⟨j7,m6⟩):=hz9.1
   have ga6:j7≤s.size:=hz9.2.at_
   have gm6:m≤m6:=hz9.2.mono
   have gn6:m6≤100:=hz9.2.most (show m≤100 by omega)
   refine (go 1) ?_
   refine hKN _ _ (S9 [1,4]) (zf 3 4 (zb (i:=4) rfl fun KN hKN hPN=>zy zl ([mt3]:List Match) wn underlying55 inf179 rfl rfl rfl rfl qD qD rfl fun b31=>?_))
   refine (go 1) ?_
   refine hKN _ _ (S9 [2,5]) (zf 2 5 (zb (i:=5) rfl fun KN hKN hPN=>yH 3 ms ([mt3]:List Match) encMatch wn rfl rfl rfl (fun _ hM=>(RowSl encMatch hM 0 rfl)) underlying55 inf179 rfl rfl (by simp only [qL]; omega) rfl fun A5 cp5 hc5 hm5 hA5=>?_))
   refine (go 1) ?_
   refine hKN _ _ (S9 [2,5]) (yN 1 [6] [2,5] rfl fun KS hKS=>?_)
   refine (go 1) ?_
   refine zi hKS (zf 0 7 (zb (i:=7) rfl fun KN hKN hPN=>?_))
   refine (go 2) ?_
   refine hKN _ _ (S9 [2,5]) (zz (by kernel_rfl) (yK (ye (ms++([mt3]:List Match)) j7 m6 (q - 1) (.slice A5 ((ms++([mt3]:List Match)).length) cp5) (sc rfl (sc rfl (sc rfl sn))) (S9 [3,4,1,2,5]) ?_ ?_)))
   ·have hY:=Pz.win_next hx1 (Pz.win_sep h2) h4 he7
    rw [Pz.then_ok] at hY
    exact ⟨hY.trans (by rw [show q - 1 + 1=q by omega]),by simp only [qL]; omega,by omega,by omega,by omega⟩
   omega
  refine zb (i:=3) rfl fun KN hKN hPN=>zZ (α:=Match × Pz.St) (PT:=111) [Rb 114 p s j3 m,.pub zN] [Row (.slice A1 ms.length cp1) 179 3 zl ms,.blk b5 [iV 2,iV 0,iV 0,.string word,.slice A1 ms.length cp1,Zs,Zs] 59,.blk b4 Zx 59] (fun z:Match × Pz.St=>.agg (zl z.1).toArray) (fun z10=>Pz.match_ s ⟨j3,m⟩=.ok z10∧Pz.Good s ⟨j3,m⟩ z10.2) (fun z10=>[Rb 114 p s z10.2.at_ z10.2.nd,.pub zN]) _ (fun f9=>Pz.match_ s ⟨j3,m⟩=.no f9) (fun _=>rfl) (S9 [0,1,2,3,4]) (fun _=>rfl) wn rfl rfl call213 rfl (fun w1 Pb hG=>uS p s j3 m  Pb w1 hG qO qO qO ) ?_ fun z10 hz10=>?_
  ·intro f9 hf9
   refine yr hPN (yA (yV (yA (zR (zV fun w1 hM=>?_)))))
   have hY:=Pz.win_next hx1 (Pz.win_sep h2) h4 hf9
   rw [Pz.then_no] at hY
   exact hM.ze f9 (by simp only [Pz.then_ok,Pz.then_no,Pz.St.go,lgc,Pz.window,zB.e,zB.es,he1,he2,he3,g1,hY])
  obtain ⟨mt4,j8,m7⟩:=z10
  have he8:Pz.match_ s ⟨j3,m⟩=.ok (mt4,⟨j8,m7⟩):=hz10.1
  have ga7:j8≤s.size:=hz10.2.at_
  have gm7:m≤m7:=hz10.2.mono
  have gn7:m7≤100:=hz10.2.most (show m≤100 by omega)
  refine (go 1) ?_
  refine hKN _ _ (S9 [1,4]) (ya (f:=4) (i:=1) (j:=4) rfl (by kernel_rfl) ?_ ?_)
  ·refine zb (i:=1) rfl fun KN hKN hPN=>?_
   refine (go 2) ?_
   refine hKN _ _ (S9 [1,4]) (zf 3 4 (zb (i:=4) rfl fun KN hKN hPN=>zy zl ([mt4]:List Match) wn underlying55 inf179 rfl rfl rfl rfl qD qD rfl fun b31=>?_))
   refine (go 1) ?_
   refine hKN _ _ (S9 [2,5]) (zf 2 5 (zb (i:=5) rfl fun KN hKN hPN=>yH 3 ms ([mt4]:List Match) encMatch wn rfl rfl rfl (fun _ hM=>(RowSl encMatch hM 0 rfl)) underlying55 inf179 rfl rfl (by simp only [qL]; omega) rfl fun A6 cp6 hc6 hm6 hA6=>?_))
   refine (go 1) ?_
   refine hKN _ _ (S9 [2,5]) (yN 1 [6] [2,5] rfl fun KS hKS=>?_)
   refine (go 1) ?_
   refine zi hKS (zf 0 7 (zb (i:=7) rfl fun KN hKN hPN=>?_))
   refine (go 2) ?_
   refine hKN _ _ (S9 [2,5]) (zz (by kernel_rfl) (yK (ye (ms++([mt4]:List Match)) j8 m7 (q - 1) (.slice A6 ((ms++([mt4]:List Match)).length) cp6) (sc rfl (sc rfl (sc rfl sn))) (S9 [3,4,1,2,5]) ?_ ?_)))
   ·have hY:=Pz.win_next hx1 (Pz.win_sep h2) h4 he8
    rw [Pz.then_ok] at hY
    exact ⟨hY.trans (by rw [show q - 1 + 1=q by omega]),by simp only [qL]; omega,by omega,by omega,by omega⟩
   omega
  refine zb (i:=4) rfl fun KN hKN hPN=>zy zl ([mt4]:List Match) wn underlying55 inf179 rfl rfl rfl rfl qD qD rfl fun b31=>?_
  refine (go 1) ?_
  refine hKN _ _ (S9 [2,5]) (zf 3 1 (zb (i:=1) rfl fun KN hKN hPN=>?_))
  refine (go 2) ?_
  refine hKN _ _ (S9 [2,5]) (zf 2 5 (zb (i:=5) rfl fun KN hKN hPN=>yH 3 ms ([mt4]:List Match) encMatch wn rfl rfl rfl (fun _ hM=>(RowSl encMatch hM 0 rfl)) underlying55 inf179 rfl rfl (by simp only [qL]; omega) rfl fun A7 cp7 hc7 hm7 hA7=>?_))
  refine (go 1) ?_
  refine hKN _ _ (S9 [2,5]) (yN 1 [6] [2,5] rfl fun KS hKS=>?_)
  refine (go 1) ?_
  refine zi hKS (zf 0 7 (zb (i:=7) rfl fun KN hKN hPN=>?_))
  refine (go 2) ?_
  refine hKN _ _ (S9 [2,5]) (zz (by kernel_rfl) (yK (ye (ms++([mt4]:List Match)) j8 m7 (q - 1) (.slice A7 ((ms++([mt4]:List Match)).length) cp7) (sc rfl (sc rfl (sc rfl sn))) (S9 [3,4,1,2,5]) ?_ ?_)))
  ·have hY:=Pz.win_next hx1 (Pz.win_sep h2) h4 he8
   rw [Pz.then_ok] at hY
   exact ⟨hY.trans (by rw [show q - 1 + 1=q by omega]),by simp only [qL]; omega,by omega,by omega,by omega⟩
  omega
 have g2:bo1=true:=by simpa using h1
 have hx2:=Pz.win_done hI1.1 (by rw [he3,g2])
 refine (go 8) ?_
 refine zZ (α:=Pz.St) (PT:=111) [Rb 114 p s j3 m,.pub zN] [Row (.slice A1 ms.length cp1) 179 3 zl ms,.blk b5 [iV 2,iV 0,iV 0,.string word,.slice A1 ms.length cp1,Zs,Zs] 59,.blk b4 Zx 59] (fun z:Pz.St=>.tuple #[]) (fun z11=>Pz.must s ⟨#[91]⟩ ⟨j3,m⟩=.ok z11∧Pz.Good s ⟨j3,m⟩ z11) (fun z11=>[Rb 114 p s z11.at_ z11.nd,.pub zN]) _ (fun f10=>Pz.must s ⟨#[91]⟩ ⟨j3,m⟩=.no f10) (fun _=>rfl) (S9 [0,1,2,3,4]) (fun _=>rfl) wn rfl rfl call179 rfl (fun w1 Pb hG=>y7 p s j3 m ⟨#[91]⟩ Pb w1 hG qO qO qO ) ?_ fun z11 hz11=>?_
 ·intro f10 hf10
  refine zR (zV fun w1 hM=>?_)
  exact hM.ze f10 (by first | (simp only [Pz.then_ok,Pz.then_no,Pz.St.go,lgc,Pz.window,zB.e,zB.es,he1,he2,he3,g2,hx2,h1,hf10]; done) | simp [Pz.then_ok,Pz.then_no,Pz.St.go,lgc,Pz.window,zB.e,zB.es,he1,he2,he3,g2,hx2,h1,hf10])
 obtain ⟨j9,m8⟩:=z11
 have he9:Pz.must s ⟨#[91]⟩ ⟨j3,m⟩=.ok ⟨j9,m8⟩:=hz11.1
 have ga8:j9≤s.size:=hz11.2.at_
 have gm8:m≤m8:=hz11.2.mono
 have gn8:m8≤100:=hz11.2.most (show m≤100 by omega)
 refine (go 5) ?_
 refine zZ (α:=Int × Pz.St) (PT:=111) [Rb 114 p s j9 m8,.pub zN] [Row (.slice A1 ms.length cp1) 179 3 zl ms,.blk b5 [iV 2,iV 0,iV 0,.string word,.slice A1 ms.length cp1,Zs,Zs] 59,.blk b4 Zx 59] (fun z:Int × Pz.St=>iV z.1) (fun z12=>Pz.num s 1 100000 ⟨j9,m8⟩=.ok z12∧Pz.Good s ⟨j9,m8⟩ z12.2) (fun z12=>[Rb 114 p s z12.2.at_ z12.2.nd,.pub zN]) _ (fun f11=>Pz.num s 1 100000 ⟨j9,m8⟩=.no f11) (fun _=>rfl) (S9 [0,1,2,3,4]) (fun _=>rfl) wn rfl rfl call182 rfl (fun w1 Pb hG=>c_num p s j9 m8 1 100000 Pb w1 hG qO qO qO qO) ?_ fun z12 hz12=>?_
 ·intro f11 hf11
  refine zR (zV fun w1 hM=>?_)
  exact hM.ze f11 (by first | (simp only [Pz.then_ok,Pz.then_no,Pz.St.go,lgc,Pz.window,zB.e,zB.es,he1,he2,he3,g2,hx2,he9,h1,hf11]; done) | simp [Pz.then_ok,Pz.then_no,Pz.St.go,lgc,Pz.window,zB.e,zB.es,he1,he2,he3,g2,hx2,he9,h1,hf11])
 obtain ⟨v1,j10,m9⟩:=z12
 have he10:Pz.num s 1 100000 ⟨j9,m8⟩=.ok (v1,⟨j10,m9⟩):=hz12.1
 have ga9:j10≤s.size:=hz12.2.at_
 have gm9:m8≤m9:=hz12.2.mono
 have gn9:m9≤100:=hz12.2.most (show m8≤100 by omega)
 refine (go 7) ?_
 refine zZ (α:=Pz.St) (PT:=111) [Rb 114 p s j10 m9,.pub zN] [Row (.slice A1 ms.length cp1) 179 3 zl ms,.blk b5 [iV 2,iV 0,iV v1,.string word,.slice A1 ms.length cp1,Zs,Zs] 59,.blk b4 Zx 59] (fun z:Pz.St=>.tuple #[]) (fun z13=>Pz.must s ⟨#[93]⟩ ⟨j10,m9⟩=.ok z13∧Pz.Good s ⟨j10,m9⟩ z13) (fun z13=>[Rb 114 p s z13.at_ z13.nd,.pub zN]) _ (fun f12=>Pz.must s ⟨#[93]⟩ ⟨j10,m9⟩=.no f12) (fun _=>rfl) (S9 [0,1,2,3,4]) (fun _=>rfl) wn rfl rfl call179 rfl (fun w1 Pb hG=>y7 p s j10 m9 ⟨#[93]⟩ Pb w1 hG qO qO qO ) ?_ fun z13 hz13=>?_
 ·intro f12 hf12
  refine zR (zV fun w1 hM=>?_)
  exact hM.ze f12 (by first | (simp only [Pz.then_ok,Pz.then_no,Pz.St.go,lgc,Pz.window,zB.e,zB.es,he1,he2,he3,g2,hx2,he9,he10,h1,hf12]; done) | simp [Pz.then_ok,Pz.then_no,Pz.St.go,lgc,Pz.window,zB.e,zB.es,he1,he2,he3,g2,hx2,he9,he10,h1,hf12])
 obtain ⟨j11,m10⟩:=z13
 have he11:Pz.must s ⟨#[93]⟩ ⟨j10,m9⟩=.ok ⟨j11,m10⟩:=hz13.1
 have ga10:j11≤s.size:=hz13.2.at_
 have gm10:m9≤m10:=hz13.2.mono
 have gn10:m10≤100:=hz13.2.most (show m9≤100 by omega)
 refine (go 5) ?_
 refine zZ (α:=Pz.St) (PT:=111) [Rb 114 p s j11 m10,.pub zN] [Row (.slice A1 ms.length cp1) 179 3 zl ms,.blk b5 [iV 2,iV 0,iV v1,.string word,.slice A1 ms.length cp1,Zs,Zs] 59,.blk b4 Zx 59] (fun z:Pz.St=>.tuple #[]) (fun z14=>Pz.must s ⟨#[41]⟩ ⟨j11,m10⟩=.ok z14∧Pz.Good s ⟨j11,m10⟩ z14) (fun z14=>[Rb 114 p s z14.at_ z14.nd,.pub zN]) _ (fun f13=>Pz.must s ⟨#[41]⟩ ⟨j11,m10⟩=.no f13) (fun _=>rfl) (S9 [0,1,2,3,4]) (fun _=>rfl) wn rfl rfl call179 rfl (fun w1 Pb hG=>y7 p s j11 m10 ⟨#[41]⟩ Pb w1 hG qO qO qO ) ?_ fun z14 hz14=>?_
 ·intro f13 hf13
  refine zR (zV fun w1 hM=>?_)
  exact hM.ze f13 (by first | (simp only [Pz.then_ok,Pz.then_no,Pz.St.go,lgc,Pz.window,zB.e,zB.es,he1,he2,he3,g2,hx2,he9,he10,he11,h1,hf13]; done) | simp [Pz.then_ok,Pz.then_no,Pz.St.go,lgc,Pz.window,zB.e,zB.es,he1,he2,he3,g2,hx2,he9,he10,he11,h1,hf13])
 obtain ⟨j12,m11⟩:=z14
 have he12:Pz.must s ⟨#[41]⟩ ⟨j11,m10⟩=.ok ⟨j12,m11⟩:=hz14.1
 have ga11:j12≤s.size:=hz14.2.at_
 have gm11:m10≤m11:=hz14.2.mono
 have gn11:m11≤100:=hz14.2.most (show m10≤100 by omega)
 refine (go 6) ?_
 refine vB 2 0 encMatch rfl rfl (fp2) (vx (fun _ h=>h.exprG (k:=2) (n:=0) (r:=v1) (wd:=word) (ms:=⟨A1,cp1,ms⟩) (bs:=⟨none,0,[]⟩) (ks:=⟨none,0,[]⟩) (fun _ pp=>pp.sl 2 rfl) (fun _ _=>zD.zu _ _ _ _) (fun _ _=>zD.zu _ _ _ _) (fun _ _ x hx=>by cases hx) (by first | decide | omega) (fun x hx=>by have:=Pz.winL_size 6 (by show _≤s.size; omega) hx2 (fun _ h=>by cases h) x hx; omega) (fun x hx=>by cases hx)) (zZ (α:=Unit) (PT:=111) [Rb 114 p s j12 m11,.pub zN] [okP zB.Ok (zB.mk 2 0 v1 word ⟨A1,cp1,ms⟩ ⟨none,0,[]⟩ ⟨none,0,[]⟩),slP 3 zl (.slice A1 ms.length cp1) ms,.blk b5 [iV 2,iV 0,iV v1,.string word,.slice A1 ms.length cp1,Zs,Zs] 59,.blk b4 Zx 59] (fun _:Unit=>.agg (List.toArray [iV 2,iV 0,iV v1,.string word,.slice A1 ms.length cp1,Zs,Zs])) (fun z15=>m11 + 1≤100) (fun z15=>[Rb 114 p s j12 (m11 + 1),.pub zN]) _ (fun f14=>Pz.node ⟨j12,m11⟩=.no f14) (fun _=>rfl) (S9 [1,2,0,3,4,5]) (fun _=>rfl) wn rfl rfl call99 rfl (fun w1 Pb hG=>vm p s j12 m11 2 0 v1 word A1 ms.length cp1 none 0 0 none 0 0 Pb w1 hG qO qO qO) ?_ fun z15 hz15=>?_))
 ·intro f14 hf14
  refine zR (zV fun w1 hM=>?_)
  exact hM.ze f14 (by first | (simp only [Pz.then_ok,Pz.then_no,Pz.St.go,lgc,Pz.window,zB.e,zB.es,he1,he2,he3,g2,hx2,he9,he10,he11,he12,h1,hf14]; done) | simp [Pz.then_ok,Pz.then_no,Pz.St.go,lgc,Pz.window,zB.e,zB.es,he1,he2,he3,g2,hx2,he9,he10,he11,he12,h1,hf14])
 have he13:Pz.node ⟨j12,m11⟩=.ok ⟨j12,m11 + 1⟩:=Pz.node_yes hz15
 refine (go 4) (zX results183 fun w1 hM=>?_)
 have h9:Pz.window s word ⟨i,n⟩=.ok ((zB.mk 2 0 v1 word ⟨A1,cp1,ms⟩ ⟨none,0,[]⟩ ⟨none,0,[]⟩).e,⟨j12,(m11 + 1)⟩):=by first | (simp only [Pz.then_ok,Pz.then_no,Pz.St.go,lgc,Pz.window,zB.e,zB.es,he1,he2,he3,g2,hx2,he9,he10,he11,he12,he13,h1]; done) | simp [Pz.then_ok,Pz.then_no,Pz.St.go,lgc,Pz.window,zB.e,zB.es,he1,he2,he3,g2,hx2,he9,he10,he11,he12,he13,h1]
 exact hM.vf (((zB.mk 2 0 v1 word ⟨A1,cp1,ms⟩ ⟨none,0,[]⟩ ⟨none,0,[]⟩),⟨j12,(m11 + 1)⟩):zB × Pz.St) rfl ⟨h9,(Pz.window_fine _ hi).ok_ h9⟩ (fun h=>h.sel [0,1,2] qD rfl)
def FacC (N:Nat):Prop:=∀ (p:Nat) (s:ByteArray) (i:Nat) (n d:Int) (Pb:Nat→Prop) (w:World) (hG:Mem w ⟨fpOf [Rb 114 p s i n,.pub zN],Pb⟩ [Rb 114 p s i n,.pub zN] w) (hi:i≤s.size) (hs:s.size≤2000) (hn:0≤n∧n≤100) (hd:d + (N:Int)=21) (hd1:1≤d),
    Calls prog 147 #[.pointer (some ⟨p,0,none⟩),iV d] w (RetX w [Rb 114 p s i n,.pub zN] Pb 111 (fun z:zB × Pz.St=>.agg (zk z.1).toArray) (fun z=>Pz.fac s N ⟨i,n⟩=.ok (z.1.e,z.2)∧Pz.Good s ⟨i,n⟩ z.2) (fun z=>[Rb 114 p s z.2.at_ z.2.nd,.pub zN,okP zB.Ok z.1]) (fun f=>Pz.fac s N ⟨i,n⟩=.no f))
def TrmC (N:Nat):Prop:=∀ (p:Nat) (s:ByteArray) (i:Nat) (n d:Int) (Pb:Nat→Prop) (w:World) (hG:Mem w ⟨fpOf [Rb 114 p s i n,.pub zN],Pb⟩ [Rb 114 p s i n,.pub zN] w) (hi:i≤s.size) (hs:s.size≤2000) (hn:0≤n∧n≤100) (hd:d + (N:Int)=21) (hd1:1≤d),
    Calls prog 97 #[.pointer (some ⟨p,0,none⟩),iV d] w (RetX w [Rb 114 p s i n,.pub zN] Pb 111 (fun z:zB × Pz.St=>.agg (zk z.1).toArray) (fun z=>Pz.trm s N ⟨i,n⟩=.ok (z.1.e,z.2)∧Pz.Good s ⟨i,n⟩ z.2) (fun z=>[Rb 114 p s z.2.at_ z.2.nd,.pub zN,okP zB.Ok z.1]) (fun f=>Pz.trm s N ⟨i,n⟩=.no f))
def XprC (N:Nat):Prop:=∀ (p:Nat) (s:ByteArray) (i:Nat) (n d:Int) (Pb:Nat→Prop) (w:World) (hG:Mem w ⟨fpOf [Rb 114 p s i n,.pub zN],Pb⟩ [Rb 114 p s i n,.pub zN] w) (hi:i≤s.size) (hs:s.size≤2000) (hn:0≤n∧n≤100) (hd:d + (N:Int)=21) (hd1:1≤d),
    Calls prog 52 #[.pointer (some ⟨p,0,none⟩),iV d] w (RetX w [Rb 114 p s i n,.pub zN] Pb 111 (fun z:zB × Pz.St=>.agg (zk z.1).toArray) (fun z=>Pz.xpr s N ⟨i,n⟩=.ok (z.1.e,z.2)∧Pz.Good s ⟨i,n⟩ z.2) (fun z=>[Rb 114 p s z.2.at_ z.2.nd,.pub zN,okP zB.Ok z.1]) (fun f=>Pz.xpr s N ⟨i,n⟩=.no f))
set_option maxHeartbeats 20000000 in
theorem c_all (p:Nat) (s:ByteArray) (i:Nat) (n:Int) (d:Int) (N:Nat) (Pb:Nat→Prop) (w:World) (hG:Mem w ⟨fpOf [Rb 114 p s i n,.pub zN],Pb⟩ [Rb 114 p s i n,.pub zN] w) (hi:i≤s.size) (hs:s.size≤2000) (hn:0≤n∧n≤100) (hd:d + 1 + (N:Int)=21) (hd1:1≤d) (ih:XprC N) :
    Calls prog 181 #[.pointer (some ⟨p,0,none⟩),iV d] w (RetX w [Rb 114 p s i n,.pub zN] Pb 111 (fun z:zB × Pz.St=>.agg (zk z.1).toArray) (fun z=>Pz.all s (Pz.xpr s N) ⟨i,n⟩=.ok (z.1.e,z.2)∧Pz.Good s ⟨i,n⟩ z.2) (fun z=>[Rb 114 p s z.2.at_ z.2.nd,.pub zN,okP zB.Ok z.1]) (fun f=>Pz.all s (Pz.xpr s N) ⟨i,n⟩=.no f)):=by
 refine zq (N:=85) func181 hG ?_
 refine (go 2) (zw fun b4=>?_)
 refine (go 5) ?_
 refine zg (α:=Nat) [Rb 114 p s i n,.pub zN] [.blk b4 Zx 59] (fun _=>.tuple #[]) (fun j1=>(Pz.blank s i=j1∧i≤j1∧j1≤s.size)) (fun j1=>[Rb 114 p s j1 n,.pub zN]) _ (fun _=>rfl) (S9 [1,2,0]) (fun _=>rfl) wn rfl rfl call53 rfl (fun w1 Pb hG=>vl p s i n Pb w1 hG qO qO) fun j1 hz1=>?_
 obtain ⟨hz1e,hz1a,hz1b⟩:=hz1
 refine (go 14) ?_
 refine zZ (α:=ByteArray × Pz.St) (PT:=111) [Rb 114 p s j1 n,.pub zN] [.blk b4 Zx 59] (fun z:ByteArray × Pz.St=>.string z.1) (fun z1=>Pz.name s ⟨j1,n⟩=.ok z1∧Pz.Good s ⟨j1,n⟩ z1.2) (fun z1=>[Rb 114 p s z1.2.at_ z1.2.nd,.pub zN]) _ (fun f1=>Pz.name s ⟨j1,n⟩=.no f1) (fun _=>rfl) (S9 [0,1,2]) (fun _=>rfl) wn rfl rfl call211 rfl (fun w1 Pb hG=>vF p s j1 n  Pb w1 hG qO qO qO ) ?_ fun z1 hz2=>?_
 ·intro f1 hf1
  refine zR (zV fun w1 hM=>?_)
  exact hM.ze f1 (by first | (simp only [Pz.then_ok,Pz.then_no,Pz.St.go,lgc,Pz.all,Pz.bys,Pz.allTail,zB.e,zB.es,hz1e,hf1]; done) | simp [Pz.then_ok,Pz.then_no,Pz.St.go,lgc,Pz.all,Pz.bys,Pz.allTail,zB.e,zB.es,hz1e,hf1])
 obtain ⟨wd1,j2,m1⟩:=z1
 have he1:Pz.name s ⟨j1,n⟩=.ok (wd1,⟨j2,m1⟩):=hz2.1
 have ga1:j2≤s.size:=hz2.2.at_
 have gm1:n≤m1:=hz2.2.mono
 have gn1:m1≤100:=hz2.2.most (show n≤100 by omega)
 have wz1:wd1.size≤12:=Pz.name_size (t:=⟨j1,n⟩) (show j1≤_ by omega) he1
 refine vC (.string wd1) ?_
 refine (go 1) (zw fun b6=>?_)
 refine (go 5) ?_
 refine yM (Mem w ⟨fpOf [Rb 114 p s i n,.pub zN],Pb⟩ [.blk b6 [iV 3,iV 0,iV 0,.string wd1,Zs,Zs,Zs] 59,Rb 114 p s j2 m1,.pub zN,.blk b4 Zx 59]) mix (fun _ h=>h.drew) rfl (uG (f:=3) [1,2] rfl rfl (by kernel_rfl) (by kernel_rfl) (fun _ h=>h) fun KS hKS=>?_)
 refine (go 2) ?_
 refine zi hKS (zf 2 0 (zb (i:=0) rfl fun KN hKN hPN=>vP Lg.totals wn rfl call151 rfl (fun w1 hM=>c_Totals  w1) fun A1 cp1 hc1 hm1 hA1=>?_))
 refine (go 1) ?_
 refine hKN _ _ (S9 [1,2,3,4]) (zf 1 3 (zb (i:=3) rfl fun KN hKN hPN=>yF call150 wn rfl (fun w1 hM=>vX _ Lg.totals wd1 w1 (RowSl encString hM 0 rfl)) ?_))
 refine (go 1) ?_
 refine hKN _ _ (S9 [1,2,3,4]) (yN 0 [4] [1,2,3,4] rfl fun KS hKS=>?_)
 refine (go 1) ?_
 refine zi hKS ?_
 refine zz (by kernel_rfl) ((go 1) (zW (fun h1=>?_) fun h1=>?_))
 ·refine (go 11) ?_
  refine zZ (α:=Unit) (PT:=111) [Rb 114 p s j1 m1,.pub zN] [Row (.slice A1 Lg.totals.length cp1) 9 1 strE Lg.totals,.blk b6 [iV 3,iV 0,iV 0,.string wd1,Zs,Zs,Zs] 59,.blk b4 Zx 59] (fun _:Unit=>.tuple #[]) (fun z2=>False) (fun z2=>[Rb 114 p s j1 m1,.pub zN]) _ (fun f2=>f2=(7,(j1:Int))) (fun _=>rfl) (S9 [2,3,0,1,4]) (fun _=>rfl) wn rfl rfl call54 rfl (fun w1 Pb hG=>yl p s j1 m1 7 Pb w1 hG) ?_ fun z2 hz3=>?_
  ·intro f2 hf2
   refine zR (zV fun w1 hM=>?_)
   exact hM.ze f2 (by first | (simp only [Pz.then_ok,Pz.then_no,Pz.St.go,lgc,Pz.all,Pz.bys,Pz.allTail,zB.e,zB.es,hz1e,he1,h1,hf2]; done) | simp [Pz.then_ok,Pz.then_no,Pz.St.go,lgc,Pz.all,Pz.bys,Pz.allTail,zB.e,zB.es,hz1e,he1,h1,hf2])
  exact hz3.elim
 refine (go 5) ?_
 refine zg (α:=Nat) [Rb 114 p s j2 m1,.pub zN] [Row (.slice A1 Lg.totals.length cp1) 9 1 strE Lg.totals,.blk b6 [iV 3,iV 0,iV 0,.string wd1,Zs,Zs,Zs] 59,.blk b4 Zx 59] (fun _=>.tuple #[]) (fun j3=>(Pz.blank s j2=j3∧j2≤j3∧j3≤s.size)) (fun j3=>[Rb 114 p s j3 m1,.pub zN]) _ (fun _=>rfl) (S9 [2,3,0,1,4]) (fun _=>rfl) wn rfl rfl call53 rfl (fun w1 Pb hG=>vl p s j2 m1 Pb w1 hG qO qO) fun j3 hz4=>?_
 obtain ⟨hz4e,hz4a,hz4b⟩:=hz4
 refine (go 15) ?_
 refine zZ (α:=ByteArray × Pz.St) (PT:=111) [Rb 114 p s j3 m1,.pub zN] [Row (.slice A1 Lg.totals.length cp1) 9 1 strE Lg.totals,.blk b6 [iV 3,iV 0,iV 0,.string wd1,Zs,Zs,Zs] 59,.blk b4 Zx 59] (fun z:ByteArray × Pz.St=>.string z.1) (fun z3=>Pz.word s ⟨j3,m1⟩=.ok z3∧Pz.Good s ⟨j3,m1⟩ z3.2) (fun z3=>[Rb 114 p s z3.2.at_ z3.2.nd,.pub zN]) _ (fun f3=>Pz.word s ⟨j3,m1⟩=.no f3) (fun _=>rfl) (S9 [0,1,2,3,4]) (fun _=>rfl) wn rfl rfl call180 rfl (fun w1 Pb hG=>jV p s j3 m1  Pb w1 hG qO qO qO ) ?_ fun z3 hz5=>?_
 ·intro f3 hf3
  refine zR (zR (zV fun w1 hM=>?_))
  exact hM.ze f3 (by first | (simp only [Pz.then_ok,Pz.then_no,Pz.St.go,lgc,Pz.all,Pz.bys,Pz.allTail,zB.e,zB.es,hz1e,he1,hz4e,h1,hf3]; done) | simp [Pz.then_ok,Pz.then_no,Pz.St.go,lgc,Pz.all,Pz.bys,Pz.allTail,zB.e,zB.es,hz1e,he1,hz4e,h1,hf3])
 obtain ⟨wd2,j4,m2⟩:=z3
 have he2:Pz.word s ⟨j3,m1⟩=.ok (wd2,⟨j4,m2⟩):=hz5.1
 have ga2:j4≤s.size:=hz5.2.at_
 have gm2:m1≤m2:=hz5.2.mono
 have gn2:m2≤100:=hz5.2.most (show m1≤100 by omega)
 have wz2:wd2.size≤12:=Pz.word_size (t:=⟨j3,m1⟩) (show j3≤_ by omega) he2
 refine vC (.string wd2) ?_
 refine (go 8) (yO 38 (fun h2=>?_) fun h2=>?_)
 ·have g1:(wd2=⟨#[]⟩)=False:=eq_false h2
  refine (go 5) (zW (fun h3=>?_) fun h3=>?_)
  ·have g2:(wd2=⟨#[98,121]⟩)=False:=eq_false h3
   refine (go 11) ?_
   refine zZ (α:=Unit) (PT:=111) [Rb 114 p s j3 m2,.pub zN] [Row (.slice A1 Lg.totals.length cp1) 9 1 strE Lg.totals,.blk b6 [iV 3,iV 0,iV 0,.string wd1,Zs,Zs,Zs] 59,.blk b4 Zx 59] (fun _:Unit=>.tuple #[]) (fun z4=>False) (fun z4=>[Rb 114 p s j3 m2,.pub zN]) _ (fun f4=>f4=(2,(j3:Int))) (fun _=>rfl) (S9 [0,1,2,3,4]) (fun _=>rfl) wn rfl rfl call54 rfl (fun w1 Pb hG=>yl p s j3 m2 2 Pb w1 hG) ?_ fun z4 hz6=>?_
   ·intro f4 hf4
    refine zR (zV fun w1 hM=>?_)
    exact hM.ze f4 (by first | (simp only [Pz.then_ok,Pz.then_no,Pz.St.go,lgc,Pz.all,Pz.bys,Pz.allTail,zB.e,zB.es,hz1e,he1,hz4e,he2,g1,g2,h1,hf4]; done) | simp [Pz.then_ok,Pz.then_no,Pz.St.go,lgc,Pz.all,Pz.bys,Pz.allTail,zB.e,zB.es,hz1e,he1,hz4e,he2,g1,g2,h1,hf4])
   exact hz6.elim
  have g3:(wd2=⟨#[98,121]⟩)=True:=eq_true (Classical.not_not.1 h3)
  refine (go 6) ?_
  refine yx rfl (decide_eq_true (Classical.not_not.1 h3)) ?_
  refine (go 1) ?_
  refine yM (Mem w ⟨fpOf [Rb 114 p s i n,.pub zN],Pb⟩ [.pub zN,Row (.slice A1 Lg.totals.length cp1) 9 1 strE Lg.totals,.blk b4 Zx 59]) mix (fun _ h=>h.drew) rfl (yN 6 [0,2] [1,2,4] rfl fun KS hKS=>?_)
  refine (go 2) ?_
  refine zi hKS (ya (f:=5) (i:=1) (j:=3) rfl (by kernel_rfl) ?_ ?_)
  ·refine zb (i:=1) rfl fun KN hKN hPN=>?_
   refine (go 2) ?_
   refine hKN _ _ (S9 [1,2,4]) (zf 4 3 (zb (i:=3) rfl fun KN hKN hPN=>zZ (α:=ByteArray × Pz.St) (PT:=111) [Rb 114 p s j4 m2,.pub zN] [Row (.slice A1 Lg.totals.length cp1) 9 1 strE Lg.totals,.blk b6 [iV 3,iV 0,iV 0,.string wd1,Zs,Zs,Zs] 59,.blk b4 Zx 59] (fun z:ByteArray × Pz.St=>.string z.1) (fun z5=>Pz.name s ⟨j4,m2⟩=.ok z5∧Pz.Good s ⟨j4,m2⟩ z5.2) (fun z5=>[Rb 114 p s z5.2.at_ z5.2.nd,.pub zN]) _ (fun f5=>Pz.name s ⟨j4,m2⟩=.no f5) (fun _=>rfl) (S9 [0,1,2,3,4]) (fun _=>rfl) wn rfl rfl call211 rfl (fun w1 Pb hG=>vF p s j4 m2  Pb w1 hG qO qO qO ) ?_ fun z5 hz7=>?_))
   ·intro f5 hf5
    refine yr hPN (zR (zR (zV fun w1 hM=>?_)))
    exact hM.ze f5 (by first | (simp only [Pz.then_ok,Pz.then_no,Pz.St.go,lgc,Pz.all,Pz.bys,Pz.allTail,zB.e,zB.es,hz1e,he1,hz4e,he2,g1,g3,h1,hf5]; done) | simp [Pz.then_ok,Pz.then_no,Pz.St.go,lgc,Pz.all,Pz.bys,Pz.allTail,zB.e,zB.es,hz1e,he1,hz4e,he2,g1,g3,h1,hf5])
   obtain ⟨wd3,j5,m3⟩:=z5
   have he3:Pz.name s ⟨j4,m2⟩=.ok (wd3,⟨j5,m3⟩):=hz7.1
   have ga3:j5≤s.size:=hz7.2.at_
   have gm3:m2≤m3:=hz7.2.mono
   have gn3:m3≤100:=hz7.2.most (show m2≤100 by omega)
   have wz3:wd3.size≤12:=Pz.name_size (t:=⟨j4,m2⟩) (show j4≤_ by omega) he3
   refine vC (.string wd3) ?_
   refine (go 1) ?_
   refine hKN _ _ (S9 [1,2,4]) (zf 3 4 (zb (i:=4) rfl fun KN hKN hPN=>zy strE ([wd3]:List ByteArray) wn underlying56 inf9 rfl rfl rfl rfl qD qD rfl fun b54=>?_))
   refine (go 1) ?_
   refine hKN _ _ (S9 [2,3,5]) (zf 2 5 (zb (i:=5) rfl fun KN hKN hPN=>yD (strE:ByteArray→List Value) 9 1 (yH 0 ([]:List ByteArray) ([wd3]:List ByteArray) encString wn rfl rfl rfl (fun _ hM=>(RowSl encString hM 1 rfl)) underlying56 inf9 rfl rfl (by simp only [qL]; omega) rfl fun A2 cp2 hc2 hm2 hA2=>?_)))
   refine (go 1) ?_
   refine hKN _ _ (S9 [3,4,6]) (yN 1 [6] [3,4,6] rfl fun KS hKS=>?_)
   refine (go 1) ?_
   refine zi hKS (zf 0 7 (zb (i:=7) rfl fun KN hKN hPN=>?_))
   refine (go 2) ?_
   refine hKN _ _ (S9 [3,4,6]) ?_
   refine zz (by kernel_rfl) ((go 1) ?_)
   refine (go 1) ?_
   refine uh (fun (l:List ByteArray) (k:Nat) (m:Int) (q:Nat) (rv:Value)=>[(0,.pointer (some ⟨p,0,none⟩)),(1,iV d),(4,.pointer (some ⟨b4,0,none⟩)),(6,.pointer (some ⟨b6,0,none⟩))]) (fun (l:List ByteArray) (k:Nat) (m:Int) (q:Nat) (rv:Value)=>[Row rv 9 1 strE l,Row (.slice (some ⟨b54,0,none⟩) 1 1) 9 1 strE ([wd3]:List ByteArray),Rb 114 p s k m,.pub zN,Row (.slice A1 Lg.totals.length cp1) 9 1 strE Lg.totals,.blk b6 [iV 3,iV 0,iV 0,.string wd1,Zs,rv,Zs] 59,.blk b4 Zx 59]) (fun (l:List ByteArray) (k:Nat) (m:Int) (q:Nat) (rv:Value)=>Pz.byL s 5 [wd3] ⟨j5,m3⟩=Pz.byL s (q + 1) l ⟨k,m⟩∧l.length + q=5∧l.length≤4∧k≤s.size∧m3≤m∧m≤100) (fun (l:List ByteArray) (k:Nat) (m:Int) (q:Nat) (rv:Value)=>q) (([]:List ByteArray)++([wd3]:List ByteArray)) j5 m3 4 (.slice A2 ((([]:List ByteArray)++([wd3]:List ByteArray)).length) cp2) (sc rfl (sc rfl (sc rfl (sc rfl sn)))) (fun _ h=>h) ?_ (fun l k m q rv hI1=>?_)
   ·exact ⟨rfl,rfl,by simp,by omega,by omega,by omega⟩
   refine yW 0 (l:=l) rfl fun A3 cp3 hv1 hc3 hm3 hA3=>?_
   subst hv1
   refine (go 4) ?_
   refine zg (α:=(Bool × Nat)) [Rb 114 p s k m,.pub zN] [Row (.slice A3 l.length cp3) 9 1 strE l,Row (.slice (some ⟨b54,0,none⟩) 1 1) 9 1 strE ([wd3]:List ByteArray),Row (.slice A1 Lg.totals.length cp1) 9 1 strE Lg.totals,.blk b6 [iV 3,iV 0,iV 0,.string wd1,Zs,.slice A3 l.length cp3,Zs] 59,.blk b4 Zx 59] (fun z:Bool × Nat=>.bool z.1) (fun z6=>(Pz.eat s ⟨#[44]⟩ k=z6∧k≤z6.2∧z6.2≤s.size)) (fun z6=>[Rb 114 p s z6.2 m,.pub zN]) _ (fun _=>rfl) (S9 [2,3,0,1,4,5,6]) (fun _=>rfl) wn rfl rfl call98 rfl (fun w1 Pb hG=>vq p s k m ⟨#[44]⟩ Pb w1 hG qO qO) fun z6 hz8=>?_
   obtain ⟨bo1,j6⟩:=z6
   have he4:Pz.eat s ⟨#[44]⟩ k=(bo1,j6):=hz8.1
   have hz8a:k≤j6:=hz8.2.1
   have hz8b:j6≤s.size:=hz8.2.2
   refine vC (.bool bo1) ?_
   refine (go 2) (yg (fun h4=>?_) fun h4=>?_)
   ·have hx1:=hI1.1
    refine (go 12) (zW (fun h5=>?_) fun h5=>?_)
    ·refine (go 2) ?_
     refine zZ (α:=Unit) (PT:=111) [Rb 114 p s j6 m,.pub zN] [Row (.slice A3 l.length cp3) 9 1 strE l,Row (.slice (some ⟨b54,0,none⟩) 1 1) 9 1 strE ([wd3]:List ByteArray),Row (.slice A1 Lg.totals.length cp1) 9 1 strE Lg.totals,.blk b6 [iV 3,iV 0,iV 0,.string wd1,Zs,.slice A3 l.length cp3,Zs] 59,.blk b4 Zx 59] (fun _:Unit=>.tuple #[]) (fun z7=>False) (fun z7=>[Rb 114 p s j6 m,.pub zN]) _ (fun f6=>f6=(5,(j6:Int))) (fun _=>rfl) (S9 [0,1,2,3,4,5,6]) (fun _=>rfl) wn rfl rfl call54 rfl (fun w1 Pb hG=>yl p s j6 m 5 Pb w1 hG) ?_ fun z7 hz9=>?_
     ·intro f6 hf6
      refine zR (yA (yV (yA (zR (zV fun w1 hM=>?_)))))
      have hY:=Pz.by_many hx1 (by rw [he4,h4]) h5
      exact hM.ze f6 (by simp only [Pz.then_ok,Pz.then_no,Pz.St.go,lgc,Pz.all,Pz.bys,Pz.allTail,zB.e,zB.es,hz1e,he1,hz4e,he2,g1,g3,he3,he4,h1,hY,hf6])
     exact hz9.elim
    refine (go 2) ?_
    refine yM (Mem w ⟨fpOf [Rb 114 p s i n,.pub zN],Pb⟩ [.pub zN,Row (.slice (some ⟨b54,0,none⟩) 1 1) 9 1 strE ([wd3]:List ByteArray),Row (.slice A1 Lg.totals.length cp1) 9 1 strE Lg.totals,.blk b4 Zx 59]) mix (fun _ h=>h.drew) rfl (yN 6 [0,2] [1,3,4,6] rfl fun KS hKS=>?_)
    refine (go 2) ?_
    refine zi hKS (ya (f:=5) (i:=1) (j:=3) rfl (by kernel_rfl) ?_ ?_)
    ·refine zb (i:=1) rfl fun KN hKN hPN=>?_
     refine (go 2) ?_
     refine hKN _ _ (S9 [1,3,4,6]) (zf 4 3 (zb (i:=3) rfl fun KN hKN hPN=>zZ (α:=ByteArray × Pz.St) (PT:=111) [Rb 114 p s j6 m,.pub zN] [Row (.slice A3 l.length cp3) 9 1 strE l,Row (.slice (some ⟨b54,0,none⟩) 1 1) 9 1 strE ([wd3]:List ByteArray),Row (.slice A1 Lg.totals.length cp1) 9 1 strE Lg.totals,.blk b6 [iV 3,iV 0,iV 0,.string wd1,Zs,.slice A3 l.length cp3,Zs] 59,.blk b4 Zx 59] (fun z:ByteArray × Pz.St=>.string z.1) (fun z8=>Pz.name s ⟨j6,m⟩=.ok z8∧Pz.Good s ⟨j6,m⟩ z8.2) (fun z8=>[Rb 114 p s z8.2.at_ z8.2.nd,.pub zN]) _ (fun f7=>Pz.name s ⟨j6,m⟩=.no f7) (fun _=>rfl) (S9 [0,1,2,3,4,5,6]) (fun _=>rfl) wn rfl rfl call211 rfl (fun w1 Pb hG=>vF p s j6 m  Pb w1 hG qO qO qO ) ?_ fun z8 hz10=>?_))
     ·intro f7 hf7
      refine yr hPN (yA (yV (yA (zR (zV fun w1 hM=>?_)))))
      have hY:=Pz.by_next hx1 (by rw [he4,h4]) h5 hf7
      rw [Pz.then_no] at hY
      exact hM.ze f7 (by simp only [Pz.then_ok,Pz.then_no,Pz.St.go,lgc,Pz.all,Pz.bys,Pz.allTail,zB.e,zB.es,hz1e,he1,hz4e,he2,g1,g3,he3,he4,h1,hY])
     obtain ⟨wd4,j7,m4⟩:=z8
     have he5:Pz.name s ⟨j6,m⟩=.ok (wd4,⟨j7,m4⟩):=hz10.1
     have ga4:j7≤s.size:=hz10.2.at_
     have gm4:m≤m4:=hz10.2.mono
     have gn4:m4≤100:=hz10.2.most (show m≤100 by omega)
     have wz4:wd4.size≤12:=Pz.name_size (t:=⟨j6,m⟩) (show j6≤_ by omega) he5
     refine vC (.string wd4) ?_
     refine (go 1) ?_
     refine hKN _ _ (S9 [1,3,4,6]) (zf 3 4 (zb (i:=4) rfl fun KN hKN hPN=>zy strE ([wd4]:List ByteArray) wn underlying56 inf9 rfl rfl rfl rfl qD qD rfl fun b69=>?_))
     refine (go 1) ?_
     refine hKN _ _ (S9 [2,4,5,7]) (zf 2 5 (zb (i:=5) rfl fun KN hKN hPN=>yH 3 l ([wd4]:List ByteArray) encString wn rfl rfl rfl (fun _ hM=>(RowSl encString hM 0 rfl)) underlying56 inf9 rfl rfl (by simp only [qL]; omega) rfl fun A4 cp4 hc4 hm4 hA4=>?_))
     refine (go 1) ?_
     refine hKN _ _ (S9 [2,4,5,7]) (yN 1 [6] [2,4,5,7] rfl fun KS hKS=>?_)
     refine (go 1) ?_
     refine zi hKS (zf 0 7 (zb (i:=7) rfl fun KN hKN hPN=>?_))
     refine (go 2) ?_
     refine hKN _ _ (S9 [2,4,5,7]) (zz (by kernel_rfl) (yK (ye (l++([wd4]:List ByteArray)) j7 m4 (q - 1) (.slice A4 ((l++([wd4]:List ByteArray)).length) cp4) (sc rfl (sc rfl (sc rfl (sc rfl sn)))) (S9 [3,4,1,2,5,6,7]) ?_ ?_)))
     ·have hY:=Pz.by_next hx1 (by rw [he4,h4]) h5 he5
      rw [Pz.then_ok] at hY
      exact ⟨hY.trans (by rw [show q - 1 + 1=q by omega]),by simp only [qL]; omega,by simp only [qL]; omega,by omega,by omega,by omega⟩
     omega
    refine zb (i:=3) rfl fun KN hKN hPN=>zZ (α:=ByteArray × Pz.St) (PT:=111) [Rb 114 p s j6 m,.pub zN] [Row (.slice A3 l.length cp3) 9 1 strE l,Row (.slice (some ⟨b54,0,none⟩) 1 1) 9 1 strE ([wd3]:List ByteArray),Row (.slice A1 Lg.totals.length cp1) 9 1 strE Lg.totals,.blk b6 [iV 3,iV 0,iV 0,.string wd1,Zs,.slice A3 l.length cp3,Zs] 59,.blk b4 Zx 59] (fun z:ByteArray × Pz.St=>.string z.1) (fun z9=>Pz.name s ⟨j6,m⟩=.ok z9∧Pz.Good s ⟨j6,m⟩ z9.2) (fun z9=>[Rb 114 p s z9.2.at_ z9.2.nd,.pub zN]) _ (fun f8=>Pz.name s ⟨j6,m⟩=.no f8) (fun _=>rfl) (S9 [0,1,2,3,4,5,6]) (fun _=>rfl) wn rfl rfl call211 rfl (fun w1 Pb hG=>vF p s j6 m  Pb w1 hG qO qO qO ) ?_ fun z9 hz11=>?_
    ·intro f8 hf8
     refine yr hPN (yA (yV (yA (zR (zV fun w1 hM=>?_)))))
     have hY:=Pz.by_next hx1 (by rw [he4,h4]) h5 hf8
     rw [Pz.then_no] at hY
     exact hM.ze f8 (by simp only [Pz.then_ok,Pz.then_no,Pz.St.go,lgc,Pz.all,Pz.bys,Pz.allTail,zB.e,zB.es,hz1e,he1,hz4e,he2,g1,g3,he3,he4,h1,hY])
    obtain ⟨wd5,j8,m5⟩:=z9
    have he6:Pz.name s ⟨j6,m⟩=.ok (wd5,⟨j8,m5⟩):=hz11.1
    have ga5:j8≤s.size:=hz11.2.at_
    have gm5:m≤m5:=hz11.2.mono
    have gn5:m5≤100:=hz11.2.most (show m≤100 by omega)
    have wz5:wd5.size≤12:=Pz.name_size (t:=⟨j6,m⟩) (show j6≤_ by omega) he6
    refine vC (.string wd5) ?_
    refine (go 1) ?_
    refine hKN _ _ (S9 [1,3,4,6]) (ya (f:=4) (i:=1) (j:=4) rfl (by kernel_rfl) ?_ ?_)
    ·refine zb (i:=1) rfl fun KN hKN hPN=>?_
     refine (go 2) ?_
     refine hKN _ _ (S9 [1,3,4,6]) (zf 3 4 (zb (i:=4) rfl fun KN hKN hPN=>zy strE ([wd5]:List ByteArray) wn underlying56 inf9 rfl rfl rfl rfl qD qD rfl fun b69=>?_))
     refine (go 1) ?_
     refine hKN _ _ (S9 [2,4,5,7]) (zf 2 5 (zb (i:=5) rfl fun KN hKN hPN=>yH 3 l ([wd5]:List ByteArray) encString wn rfl rfl rfl (fun _ hM=>(RowSl encString hM 0 rfl)) underlying56 inf9 rfl rfl (by simp only [qL]; omega) rfl fun A5 cp5 hc5 hm5 hA5=>?_))
     refine (go 1) ?_
     refine hKN _ _ (S9 [2,4,5,7]) (yN 1 [6] [2,4,5,7] rfl fun KS hKS=>?_)
     refine (go 1) ?_
     refine zi hKS (zf 0 7 (zb (i:=7) rfl fun KN hKN hPN=>?_))
     refine (go 2) ?_
     refine hKN _ _ (S9 [2,4,5,7]) (zz (by kernel_rfl) (yK (ye (l++([wd5]:List ByteArray)) j8 m5 (q - 1) (.slice A5 ((l++([wd5]:List ByteArray)).length) cp5) (sc rfl (sc rfl (sc rfl (sc rfl sn)))) (S9 [3,4,1,2,5,6,7]) ?_ ?_)))
     ·have hY:=Pz.by_next hx1 (by rw [he4,h4]) h5 he6
      rw [Pz.then_ok] at hY
      exact ⟨hY.trans (by rw [show q - 1 + 1=q by omega]),by simp only [qL]; omega,by simp only [qL]; omega,by omega,by omega,by omega⟩
     omega
    refine zb (i:=4) rfl fun KN hKN hPN=>zy strE ([wd5]:List ByteArray) wn underlying56 inf9 rfl rfl rfl rfl qD qD rfl fun b69=>?_
    refine (go 1) ?_
    refine hKN _ _ (S9 [2,4,5,7]) (zf 3 1 (zb (i:=1) rfl fun KN hKN hPN=>?_))
    refine (go 2) ?_
    refine hKN _ _ (S9 [2,4,5,7]) (zf 2 5 (zb (i:=5) rfl fun KN hKN hPN=>yH 3 l ([wd5]:List ByteArray) encString wn rfl rfl rfl (fun _ hM=>(RowSl encString hM 0 rfl)) underlying56 inf9 rfl rfl (by simp only [qL]; omega) rfl fun A6 cp6 hc6 hm6 hA6=>?_))
    refine (go 1) ?_
    refine hKN _ _ (S9 [2,4,5,7]) (yN 1 [6] [2,4,5,7] rfl fun KS hKS=>?_)
    refine (go 1) ?_
    refine zi hKS (zf 0 7 (zb (i:=7) rfl fun KN hKN hPN=>?_))
    refine (go 2) ?_
    refine hKN _ _ (S9 [2,4,5,7]) (zz (by kernel_rfl) (yK (ye (l++([wd5]:List ByteArray)) j8 m5 (q - 1) (.slice A6 ((l++([wd5]:List ByteArray)).length) cp6) (sc rfl (sc rfl (sc rfl (sc rfl sn)))) (S9 [3,4,1,2,5,6,7]) ?_ ?_)))
    ·have hY:=Pz.by_next hx1 (by rw [he4,h4]) h5 he6
     rw [Pz.then_ok] at hY
     exact ⟨hY.trans (by rw [show q - 1 + 1=q by omega]),by simp only [qL]; omega,by simp only [qL]; omega,by omega,by omega,by omega⟩
    omega
   have g4:bo1=false:=by simpa using h4
   have hx2:=Pz.by_done hI1.1 (by rw [he4,g4])
   refine (go 8) ?_
   refine zZ (α:=Pz.St) (PT:=111) [Rb 114 p s j6 m,.pub zN] [Row (.slice A3 l.length cp3) 9 1 strE l,Row (.slice (some ⟨b54,0,none⟩) 1 1) 9 1 strE ([wd3]:List ByteArray),Row (.slice A1 Lg.totals.length cp1) 9 1 strE Lg.totals,.blk b6 [iV 3,iV 0,iV 0,.string wd1,Zs,.slice A3 l.length cp3,Zs] 59,.blk b4 Zx 59] (fun z:Pz.St=>.tuple #[]) (fun z10=>Pz.must s ⟨#[40]⟩ ⟨j6,m⟩=.ok z10∧Pz.Good s ⟨j6,m⟩ z10) (fun z10=>[Rb 114 p s z10.at_ z10.nd,.pub zN]) _ (fun f9=>Pz.must s ⟨#[40]⟩ ⟨j6,m⟩=.no f9) (fun _=>rfl) (S9 [0,1,2,3,4,5,6]) (fun _=>rfl) wn rfl rfl call179 rfl (fun w1 Pb hG=>y7 p s j6 m ⟨#[40]⟩ Pb w1 hG qO qO qO ) ?_ fun z10 hz12=>?_
   ·intro f9 hf9
    refine zR (zV fun w1 hM=>?_)
    exact hM.ze f9 (by first | (simp only [Pz.then_ok,Pz.then_no,Pz.St.go,lgc,Pz.all,Pz.bys,Pz.allTail,zB.e,zB.es,hz1e,he1,hz4e,he2,g1,g3,he3,he4,g4,hx2,h1,h4,hf9]; done) | simp [Pz.then_ok,Pz.then_no,Pz.St.go,lgc,Pz.all,Pz.bys,Pz.allTail,zB.e,zB.es,hz1e,he1,hz4e,he2,g1,g3,he3,he4,g4,hx2,h1,h4,hf9])
   obtain ⟨j9,m6⟩:=z10
   have he7:Pz.must s ⟨#[40]⟩ ⟨j6,m⟩=.ok ⟨j9,m6⟩:=hz12.1
   have ga6:j9≤s.size:=hz12.2.at_
   have gm6:m≤m6:=hz12.2.mono
   have gn6:m6≤100:=hz12.2.most (show m≤100 by omega)
   refine (go 7) ?_
   refine zZ (α:=zB × Pz.St) (PT:=111) [Rb 114 p s j9 m6,.pub zN] [Row (.slice A3 l.length cp3) 9 1 strE l,Row (.slice (some ⟨b54,0,none⟩) 1 1) 9 1 strE ([wd3]:List ByteArray),Row (.slice A1 Lg.totals.length cp1) 9 1 strE Lg.totals,.blk b6 [iV 3,iV 0,iV 0,.string wd1,Zs,.slice A3 l.length cp3,Zs] 59,.blk b4 Zx 59] (fun z:zB × Pz.St=>.agg (zk z.1).toArray) (fun z11=>Pz.xpr s N ⟨j9,m6⟩=.ok (z11.1.e,z11.2)∧Pz.Good s ⟨j9,m6⟩ z11.2) (fun z11=>[Rb 114 p s z11.2.at_ z11.2.nd,.pub zN,okP zB.Ok z11.1]) _ (fun f10=>Pz.xpr s N ⟨j9,m6⟩=.no f10) (fun _=>rfl) (S9 [0,1,2,3,4,5,6]) (fun _=>rfl) wn rfl rfl call52 rfl (fun w1 Pb hG=>ih p s j9 m6 (d + 1) Pb w1 hG qO qO qO qO qO) ?_ fun z11 hz13=>?_
   ·intro f10 hf10
    refine zR (zV fun w1 hM=>?_)
    exact hM.ze f10 (by first | (simp only [Pz.then_ok,Pz.then_no,Pz.St.go,lgc,Pz.all,Pz.bys,Pz.allTail,zB.e,zB.es,hz1e,he1,hz4e,he2,g1,g3,he3,he4,g4,hx2,he7,h1,h4,hf10]; done) | simp [Pz.then_ok,Pz.then_no,Pz.St.go,lgc,Pz.all,Pz.bys,Pz.allTail,zB.e,zB.es,hz1e,he1,hz4e,he2,g1,g3,he3,he4,g4,hx2,he7,h1,h4,hf10])
   obtain ⟨x1,j10,m7⟩:=z11
   have he8:Pz.xpr s N ⟨j9,m6⟩=.ok (x1.e,⟨j10,m7⟩):=hz13.1
   have ga7:j10≤s.size:=hz13.2.at_
   have gm7:m6≤m7:=hz13.2.mono
   have gn7:m7≤100:=hz13.2.most (show m6≤100 by omega)
   refine zy zk ([x1]:List zB) wn underlying57 inf59 rfl rfl rfl rfl qD qD rfl fun b78=>?_
   refine (go 7) ?_
   refine zZ (α:=Pz.St) (PT:=111) [Rb 114 p s j10 m7,.pub zN] [Row (.slice (some ⟨b78,0,none⟩) 1 1) 59 7 zk ([x1]:List zB),okP zB.Ok x1,Row (.slice A3 l.length cp3) 9 1 strE l,Row (.slice (some ⟨b54,0,none⟩) 1 1) 9 1 strE ([wd3]:List ByteArray),Row (.slice A1 Lg.totals.length cp1) 9 1 strE Lg.totals,.blk b6 [iV 3,iV 0,iV 0,.string wd1,Zs,.slice A3 l.length cp3,.slice (some ⟨b78,0,none⟩) 1 1] 59,.blk b4 Zx 59] (fun z:Pz.St=>.tuple #[]) (fun z12=>Pz.must s ⟨#[41]⟩ ⟨j10,m7⟩=.ok z12∧Pz.Good s ⟨j10,m7⟩ z12) (fun z12=>[Rb 114 p s z12.at_ z12.nd,.pub zN]) _ (fun f11=>Pz.must s ⟨#[41]⟩ ⟨j10,m7⟩=.no f11) (fun _=>rfl) (S9 [1,2,0,3,4,5,6,7,8]) (fun _=>rfl) wn rfl rfl call179 rfl (fun w1 Pb hG=>y7 p s j10 m7 ⟨#[41]⟩ Pb w1 hG qO qO qO ) ?_ fun z12 hz14=>?_
   ·intro f11 hf11
    refine zR (zV fun w1 hM=>?_)
    exact hM.ze f11 (by first | (simp only [Pz.then_ok,Pz.then_no,Pz.St.go,lgc,Pz.all,Pz.bys,Pz.allTail,zB.e,zB.es,hz1e,he1,hz4e,he2,g1,g3,he3,he4,g4,hx2,he7,he8,h1,h4,hf11]; done) | simp [Pz.then_ok,Pz.then_no,Pz.St.go,lgc,Pz.all,Pz.bys,Pz.allTail,zB.e,zB.es,hz1e,he1,hz4e,he2,g1,g3,he3,he4,g4,hx2,he7,he8,h1,h4,hf11])
   obtain ⟨j11,m8⟩:=z12
   have he9:Pz.must s ⟨#[41]⟩ ⟨j10,m7⟩=.ok ⟨j11,m8⟩:=hz14.1
   have ga8:j11≤s.size:=hz14.2.at_
   have gm8:m7≤m8:=hz14.2.mono
   have gn8:m8≤100:=hz14.2.most (show m7≤100 by omega)
   refine (go 6) ?_
   refine vB 4 0 encString rfl rfl (fp2) (vB 2 0 encExprX rfl rfl (fp2) (vx (fun _ h=>h.exprG (k:=3) (n:=0) (r:=0) (wd:=wd1) (ms:=⟨none,0,[]⟩) (bs:=⟨A3,cp3,l⟩) (ks:=⟨(some ⟨b78,0,none⟩),1,([x1]:List zB)⟩) (fun _ _=>zD.zu _ _ _ _) (fun _ pp=>pp.sl 4 rfl) (fun _ pp=>pp.sl 2 rfl) (fun _ pp x hx=>by simp only [List.mem_cons,List.not_mem_nil,or_false] at hx; rcases hx with rfl <;> first | exact pp.at_ 3 _ rfl) (by first | decide | omega) (fun x hx=>by cases hx) (fun x hx=>by have:=Pz.byL_size 5 (by show _≤s.size; omega) hx2 (fun y hy=>by rw [List.mem_singleton.1 hy]; omega) x hx; omega)) (zZ (α:=Unit) (PT:=111) [Rb 114 p s j11 m8,.pub zN] [okP zB.Ok (zB.mk 3 0 0 wd1 ⟨none,0,[]⟩ ⟨A3,cp3,l⟩ ⟨(some ⟨b78,0,none⟩),1,([x1]:List zB)⟩),slP 7 zk (.slice (some ⟨b78,0,none⟩) 1 1) ([x1]:List zB),okP zB.Ok x1,slP 1 strE (.slice A3 l.length cp3) l,Row (.slice (some ⟨b54,0,none⟩) 1 1) 9 1 strE ([wd3]:List ByteArray),Row (.slice A1 Lg.totals.length cp1) 9 1 strE Lg.totals,.blk b6 [iV 3,iV 0,iV 0,.string wd1,Zs,.slice A3 l.length cp3,.slice (some ⟨b78,0,none⟩) 1 1] 59,.blk b4 Zx 59] (fun _:Unit=>.agg (List.toArray [iV 3,iV 0,iV 0,.string wd1,Zs,.slice A3 l.length cp3,.slice (some ⟨b78,0,none⟩) 1 1])) (fun z13=>m8 + 1≤100) (fun z13=>[Rb 114 p s j11 (m8 + 1),.pub zN]) _ (fun f12=>Pz.node ⟨j11,m8⟩=.no f12) (fun _=>rfl) (S9 [1,2,0,3,4,5,6,7,8,9]) (fun _=>rfl) wn rfl rfl call99 rfl (fun w1 Pb hG=>vm p s j11 m8 3 0 0 wd1 none 0 0 A3 l.length cp3 (some ⟨b78,0,none⟩) 1 1 Pb w1 hG qO qO qO) ?_ fun z13 hz15=>?_)))
   ·intro f12 hf12
    refine zR (zV fun w1 hM=>?_)
    exact hM.ze f12 (by first | (simp only [Pz.then_ok,Pz.then_no,Pz.St.go,lgc,Pz.all,Pz.bys,Pz.allTail,zB.e,zB.es,hz1e,he1,hz4e,he2,g1,g3,he3,he4,g4,hx2,he7,he8,he9,h1,h4,hf12]; done) | simp [Pz.then_ok,Pz.then_no,Pz.St.go,lgc,Pz.all,Pz.bys,Pz.allTail,zB.e,zB.es,hz1e,he1,hz4e,he2,g1,g3,he3,he4,g4,hx2,he7,he8,he9,h1,h4,hf12])
   have he10:Pz.node ⟨j11,m8⟩=.ok ⟨j11,m8 + 1⟩:=Pz.node_yes hz15
   refine (go 4) (zX results181 fun w1 hM=>?_)
   have h9:Pz.all s (Pz.xpr s N) ⟨i,n⟩=.ok ((zB.mk 3 0 0 wd1 ⟨none,0,[]⟩ ⟨A3,cp3,l⟩ ⟨(some ⟨b78,0,none⟩),1,([x1]:List zB)⟩).e,⟨j11,(m8 + 1)⟩):=by first | (simp only [Pz.then_ok,Pz.then_no,Pz.St.go,lgc,Pz.all,Pz.bys,Pz.allTail,zB.e,zB.es,hz1e,he1,hz4e,he2,g1,g3,he3,he4,g4,hx2,he7,he8,he9,he10,h1,h4]; done) | simp [Pz.then_ok,Pz.then_no,Pz.St.go,lgc,Pz.all,Pz.bys,Pz.allTail,zB.e,zB.es,hz1e,he1,hz4e,he2,g1,g3,he3,he4,g4,hx2,he7,he8,he9,he10,h1,h4]
   exact hM.vf (((zB.mk 3 0 0 wd1 ⟨none,0,[]⟩ ⟨A3,cp3,l⟩ ⟨(some ⟨b78,0,none⟩),1,([x1]:List zB)⟩),⟨j11,(m8 + 1)⟩):zB × Pz.St) rfl ⟨h9,(Pz.all_fine (Pz.xpr_fine s N) hi).ok_ h9⟩ (fun h=>h.sel [0,1,2] qD rfl)
  refine zb (i:=3) rfl fun KN hKN hPN=>zZ (α:=ByteArray × Pz.St) (PT:=111) [Rb 114 p s j4 m2,.pub zN] [Row (.slice A1 Lg.totals.length cp1) 9 1 strE Lg.totals,.blk b6 [iV 3,iV 0,iV 0,.string wd1,Zs,Zs,Zs] 59,.blk b4 Zx 59] (fun z:ByteArray × Pz.St=>.string z.1) (fun z14=>Pz.name s ⟨j4,m2⟩=.ok z14∧Pz.Good s ⟨j4,m2⟩ z14.2) (fun z14=>[Rb 114 p s z14.2.at_ z14.2.nd,.pub zN]) _ (fun f13=>Pz.name s ⟨j4,m2⟩=.no f13) (fun _=>rfl) (S9 [0,1,2,3,4]) (fun _=>rfl) wn rfl rfl call211 rfl (fun w1 Pb hG=>vF p s j4 m2  Pb w1 hG qO qO qO ) ?_ fun z14 hz16=>?_
  ·intro f13 hf13
   refine yr hPN (zR (zR (zV fun w1 hM=>?_)))
   exact hM.ze f13 (by first | (simp only [Pz.then_ok,Pz.then_no,Pz.St.go,lgc,Pz.all,Pz.bys,Pz.allTail,zB.e,zB.es,hz1e,he1,hz4e,he2,g1,g3,h1,hf13]; done) | simp [Pz.then_ok,Pz.then_no,Pz.St.go,lgc,Pz.all,Pz.bys,Pz.allTail,zB.e,zB.es,hz1e,he1,hz4e,he2,g1,g3,h1,hf13])
  obtain ⟨wd6,j12,m9⟩:=z14
  have he11:Pz.name s ⟨j4,m2⟩=.ok (wd6,⟨j12,m9⟩):=hz16.1
  have ga9:j12≤s.size:=hz16.2.at_
  have gm9:m2≤m9:=hz16.2.mono
  have gn9:m9≤100:=hz16.2.most (show m2≤100 by omega)
  have wz6:wd6.size≤12:=Pz.name_size (t:=⟨j4,m2⟩) (show j4≤_ by omega) he11
  refine vC (.string wd6) ?_
  refine (go 1) ?_
  refine hKN _ _ (S9 [1,2,4]) (ya (f:=4) (i:=1) (j:=4) rfl (by kernel_rfl) ?_ ?_)
  ·refine zb (i:=1) rfl fun KN hKN hPN=>?_
   refine (go 2) ?_
   refine hKN _ _ (S9 [1,2,4]) (zf 3 4 (zb (i:=4) rfl fun KN hKN hPN=>zy strE ([wd6]:List ByteArray) wn underlying56 inf9 rfl rfl rfl rfl qD qD rfl fun b54=>?_))
   refine (go 1) ?_
   refine hKN _ _ (S9 [2,3,5]) (zf 2 5 (zb (i:=5) rfl fun KN hKN hPN=>yD (strE:ByteArray→List Value) 9 1 (yH 0 ([]:List ByteArray) ([wd6]:List ByteArray) encString wn rfl rfl rfl (fun _ hM=>(RowSl encString hM 1 rfl)) underlying56 inf9 rfl rfl (by simp only [qL]; omega) rfl fun A7 cp7 hc7 hm7 hA7=>?_)))
   refine (go 1) ?_
   refine hKN _ _ (S9 [3,4,6]) (yN 1 [6] [3,4,6] rfl fun KS hKS=>?_)
   refine (go 1) ?_
   refine zi hKS (zf 0 7 (zb (i:=7) rfl fun KN hKN hPN=>?_))
   refine (go 2) ?_
   refine hKN _ _ (S9 [3,4,6]) ?_
   refine zz (by kernel_rfl) ((go 1) ?_)
   refine (go 1) ?_
   refine uh (fun (l:List ByteArray) (k:Nat) (m:Int) (q:Nat) (rv:Value)=>[(0,.pointer (some ⟨p,0,none⟩)),(1,iV d),(4,.pointer (some ⟨b4,0,none⟩)),(6,.pointer (some ⟨b6,0,none⟩))]) (fun (l:List ByteArray) (k:Nat) (m:Int) (q:Nat) (rv:Value)=>[Row rv 9 1 strE l,Row (.slice (some ⟨b54,0,none⟩) 1 1) 9 1 strE ([wd6]:List ByteArray),Rb 114 p s k m,.pub zN,Row (.slice A1 Lg.totals.length cp1) 9 1 strE Lg.totals,.blk b6 [iV 3,iV 0,iV 0,.string wd1,Zs,rv,Zs] 59,.blk b4 Zx 59]) (fun (l:List ByteArray) (k:Nat) (m:Int) (q:Nat) (rv:Value)=>Pz.byL s 5 [wd6] ⟨j12,m9⟩=Pz.byL s (q + 1) l ⟨k,m⟩∧l.length + q=5∧l.length≤4∧k≤s.size∧m9≤m∧m≤100) (fun (l:List ByteArray) (k:Nat) (m:Int) (q:Nat) (rv:Value)=>q) (([]:List ByteArray)++([wd6]:List ByteArray)) j12 m9 4 (.slice A7 ((([]:List ByteArray)++([wd6]:List ByteArray)).length) cp7) (sc rfl (sc rfl (sc rfl (sc rfl sn)))) (fun _ h=>h) ?_ (fun l k m q rv hI2=>?_)
   ·exact ⟨rfl,rfl,by simp,by omega,by omega,by omega⟩
   refine yW 0 (l:=l) rfl fun A8 cp8 hv2 hc8 hm8 hA8=>?_
   subst hv2
   refine (go 4) ?_
   refine zg (α:=(Bool × Nat)) [Rb 114 p s k m,.pub zN] [Row (.slice A8 l.length cp8) 9 1 strE l,Row (.slice (some ⟨b54,0,none⟩) 1 1) 9 1 strE ([wd6]:List ByteArray),Row (.slice A1 Lg.totals.length cp1) 9 1 strE Lg.totals,.blk b6 [iV 3,iV 0,iV 0,.string wd1,Zs,.slice A8 l.length cp8,Zs] 59,.blk b4 Zx 59] (fun z:Bool × Nat=>.bool z.1) (fun z15=>(Pz.eat s ⟨#[44]⟩ k=z15∧k≤z15.2∧z15.2≤s.size)) (fun z15=>[Rb 114 p s z15.2 m,.pub zN]) _ (fun _=>rfl) (S9 [2,3,0,1,4,5,6]) (fun _=>rfl) wn rfl rfl call98 rfl (fun w1 Pb hG=>vq p s k m ⟨#[44]⟩ Pb w1 hG qO qO) fun z15 hz17=>?_
   obtain ⟨bo2,j13⟩:=z15
   have he12:Pz.eat s ⟨#[44]⟩ k=(bo2,j13):=hz17.1
   have hz17a:k≤j13:=hz17.2.1
   have hz17b:j13≤s.size:=hz17.2.2
   refine vC (.bool bo2) ?_
   refine (go 2) (yg (fun h6=>?_) fun h6=>?_)
   ·have hx3:=hI2.1
    refine (go 12) (zW (fun h7=>?_) fun h7=>?_)
    ·refine (go 2) ?_
     refine zZ (α:=Unit) (PT:=111) [Rb 114 p s j13 m,.pub zN] [Row (.slice A8 l.length cp8) 9 1 strE l,Row (.slice (some ⟨b54,0,none⟩) 1 1) 9 1 strE ([wd6]:List ByteArray),Row (.slice A1 Lg.totals.length cp1) 9 1 strE Lg.totals,.blk b6 [iV 3,iV 0,iV 0,.string wd1,Zs,.slice A8 l.length cp8,Zs] 59,.blk b4 Zx 59] (fun _:Unit=>.tuple #[]) (fun z16=>False) (fun z16=>[Rb 114 p s j13 m,.pub zN]) _ (fun f14=>f14=(5,(j13:Int))) (fun _=>rfl) (S9 [0,1,2,3,4,5,6]) (fun _=>rfl) wn rfl rfl call54 rfl (fun w1 Pb hG=>yl p s j13 m 5 Pb w1 hG) ?_ fun z16 hz18=>?_
     ·intro f14 hf14
      refine zR (yA (yV (yA (zR (zV fun w1 hM=>?_)))))
      have hY:=Pz.by_many hx3 (by rw [he12,h6]) h7
      exact hM.ze f14 (by simp only [Pz.then_ok,Pz.then_no,Pz.St.go,lgc,Pz.all,Pz.bys,Pz.allTail,zB.e,zB.es,hz1e,he1,hz4e,he2,g1,g3,he11,he12,h1,hY,hf14])
     exact hz18.elim
    refine (go 2) ?_
    refine yM (Mem w ⟨fpOf [Rb 114 p s i n,.pub zN],Pb⟩ [.pub zN,Row (.slice (some ⟨b54,0,none⟩) 1 1) 9 1 strE ([wd6]:List ByteArray),Row (.slice A1 Lg.totals.length cp1) 9 1 strE Lg.totals,.blk b4 Zx 59]) mix (fun _ h=>h.drew) rfl (yN 6 [0,2] [1,3,4,6] rfl fun KS hKS=>?_)
    refine (go 2) ?_
    refine zi hKS (ya (f:=5) (i:=1) (j:=3) rfl (by kernel_rfl) ?_ ?_)
    ·refine zb (i:=1) rfl fun KN hKN hPN=>?_
     refine (go 2) ?_
     refine hKN _ _ (S9 [1,3,4,6]) (zf 4 3 (zb (i:=3) rfl fun KN hKN hPN=>zZ (α:=ByteArray × Pz.St) (PT:=111) [Rb 114 p s j13 m,.pub zN] [Row (.slice A8 l.length cp8) 9 1 strE l,Row (.slice (some ⟨b54,0,none⟩) 1 1) 9 1 strE ([wd6]:List ByteArray),Row (.slice A1 Lg.totals.length cp1) 9 1 strE Lg.totals,.blk b6 [iV 3,iV 0,iV 0,.string wd1,Zs,.slice A8 l.length cp8,Zs] 59,.blk b4 Zx 59] (fun z:ByteArray × Pz.St=>.string z.1) (fun z17=>Pz.name s ⟨j13,m⟩=.ok z17∧Pz.Good s ⟨j13,m⟩ z17.2) (fun z17=>[Rb 114 p s z17.2.at_ z17.2.nd,.pub zN]) _ (fun f15=>Pz.name s ⟨j13,m⟩=.no f15) (fun _=>rfl) (S9 [0,1,2,3,4,5,6]) (fun _=>rfl) wn rfl rfl call211 rfl (fun w1 Pb hG=>vF p s j13 m  Pb w1 hG qO qO qO ) ?_ fun z17 hz19=>?_))
     ·intro f15 hf15
      refine yr hPN (yA (yV (yA (zR (zV fun w1 hM=>?_)))))
      have hY:=Pz.by_next hx3 (by rw [he12,h6]) h7 hf15
      rw [Pz.then_no] at hY
      exact hM.ze f15 (by simp only [Pz.then_ok,Pz.then_no,Pz.St.go,lgc,Pz.all,Pz.bys,Pz.allTail,zB.e,zB.es,hz1e,he1,hz4e,he2,g1,g3,he11,he12,h1,hY])
     obtain ⟨wd7,j14,m10⟩:=z17
     have he13:Pz.name s ⟨j13,m⟩=.ok (wd7,⟨j14,m10⟩):=hz19.1
     have ga10:j14≤s.size:=hz19.2.at_
     have gm10:m≤m10:=hz19.2.mono
     have gn10:m10≤100:=hz19.2.most (show m≤100 by omega)
     have wz7:wd7.size≤12:=Pz.name_size (t:=⟨j13,m⟩) (show j13≤_ by omega) he13
     refine vC (.string wd7) ?_
     refine (go 1) ?_
     refine hKN _ _ (S9 [1,3,4,6]) (zf 3 4 (zb (i:=4) rfl fun KN hKN hPN=>zy strE ([wd7]:List ByteArray) wn underlying56 inf9 rfl rfl rfl rfl qD qD rfl fun b69=>?_))
     refine (go 1) ?_
     refine hKN _ _ (S9 [2,4,5,7]) (zf 2 5 (zb (i:=5) rfl fun KN hKN hPN=>yH 3 l ([wd7]:List ByteArray) encString wn rfl rfl rfl (fun _ hM=>(RowSl encString hM 0 rfl)) underlying56 inf9 rfl rfl (by simp only [qL]; omega) rfl fun A9 cp9 hc9 hm9 hA9=>?_))
     refine (go 1) ?_
     refine hKN _ _ (S9 [2,4,5,7]) (yN 1 [6] [2,4,5,7] rfl fun KS hKS=>?_)
     refine (go 1) ?_
     refine zi hKS (zf 0 7 (zb (i:=7) rfl fun KN hKN hPN=>?_))
     refine (go 2) ?_
     refine hKN _ _ (S9 [2,4,5,7]) (zz (by kernel_rfl) (yK (ye (l++([wd7]:List ByteArray)) j14 m10 (q - 1) (.slice A9 ((l++([wd7]:List ByteArray)).length) cp9) (sc rfl (sc rfl (sc rfl (sc rfl sn)))) (S9 [3,4,1,2,5,6,7]) ?_ ?_)))
     ·have hY:=Pz.by_next hx3 (by rw [he12,h6]) h7 he13
      rw [Pz.then_ok] at hY
      exact ⟨hY.trans (by rw [show q - 1 + 1=q by omega]),by simp only [qL]; omega,by simp only [qL]; omega,by omega,by omega,by omega⟩
     omega
    refine zb (i:=3) rfl fun KN hKN hPN=>zZ (α:=ByteArray × Pz.St) (PT:=111) [Rb 114 p s j13 m,.pub zN] [Row (.slice A8 l.length cp8) 9 1 strE l,Row (.slice (some ⟨b54,0,none⟩) 1 1) 9 1 strE ([wd6]:List ByteArray),Row (.slice A1 Lg.totals.length cp1) 9 1 strE Lg.totals,.blk b6 [iV 3,iV 0,iV 0,.string wd1,Zs,.slice A8 l.length cp8,Zs] 59,.blk b4 Zx 59] (fun z:ByteArray × Pz.St=>.string z.1) (fun z18=>Pz.name s ⟨j13,m⟩=.ok z18∧Pz.Good s ⟨j13,m⟩ z18.2) (fun z18=>[Rb 114 p s z18.2.at_ z18.2.nd,.pub zN]) _ (fun f16=>Pz.name s ⟨j13,m⟩=.no f16) (fun _=>rfl) (S9 [0,1,2,3,4,5,6]) (fun _=>rfl) wn rfl rfl call211 rfl (fun w1 Pb hG=>vF p s j13 m  Pb w1 hG qO qO qO ) ?_ fun z18 hz20=>?_
    ·intro f16 hf16
     refine yr hPN (yA (yV (yA (zR (zV fun w1 hM=>?_)))))
     have hY:=Pz.by_next hx3 (by rw [he12,h6]) h7 hf16
     rw [Pz.then_no] at hY
     exact hM.ze f16 (by simp only [Pz.then_ok,Pz.then_no,Pz.St.go,lgc,Pz.all,Pz.bys,Pz.allTail,zB.e,zB.es,hz1e,he1,hz4e,he2,g1,g3,he11,he12,h1,hY])
    obtain ⟨wd8,j15,m11⟩:=z18
    have he14:Pz.name s ⟨j13,m⟩=.ok (wd8,⟨j15,m11⟩):=hz20.1
    have ga11:j15≤s.size:=hz20.2.at_
    have gm11:m≤m11:=hz20.2.mono
    have gn11:m11≤100:=hz20.2.most (show m≤100 by omega)
    have wz8:wd8.size≤12:=Pz.name_size (t:=⟨j13,m⟩) (show j13≤_ by omega) he14
    refine vC (.string wd8) ?_
    refine (go 1) ?_
    refine hKN _ _ (S9 [1,3,4,6]) (ya (f:=4) (i:=1) (j:=4) rfl (by kernel_rfl) ?_ ?_)
    ·refine zb (i:=1) rfl fun KN hKN hPN=>?_
     refine (go 2) ?_
     refine hKN _ _ (S9 [1,3,4,6]) (zf 3 4 (zb (i:=4) rfl fun KN hKN hPN=>zy strE ([wd8]:List ByteArray) wn underlying56 inf9 rfl rfl rfl rfl qD qD rfl fun b69=>?_))
     refine (go 1) ?_
     refine hKN _ _ (S9 [2,4,5,7]) (zf 2 5 (zb (i:=5) rfl fun KN hKN hPN=>yH 3 l ([wd8]:List ByteArray) encString wn rfl rfl rfl (fun _ hM=>(RowSl encString hM 0 rfl)) underlying56 inf9 rfl rfl (by simp only [qL]; omega) rfl fun A10 cp10 hc10 hm10 hA10=>?_))
     refine (go 1) ?_
     refine hKN _ _ (S9 [2,4,5,7]) (yN 1 [6] [2,4,5,7] rfl fun KS hKS=>?_)
     refine (go 1) ?_
     refine zi hKS (zf 0 7 (zb (i:=7) rfl fun KN hKN hPN=>?_))
     refine (go 2) ?_
     refine hKN _ _ (S9 [2,4,5,7]) (zz (by kernel_rfl) (yK (ye (l++([wd8]:List ByteArray)) j15 m11 (q - 1) (.slice A10 ((l++([wd8]:List ByteArray)).length) cp10) (sc rfl (sc rfl (sc rfl (sc rfl sn)))) (S9 [3,4,1,2,5,6,7]) ?_ ?_)))
     ·have hY:=Pz.by_next hx3 (by rw [he12,h6]) h7 he14
      rw [Pz.then_ok] at hY
      exact ⟨hY.trans (by rw [show q - 1 + 1=q by omega]),by simp only [qL]; omega,by simp only [qL]; omega,by omega,by omega,by omega⟩
     omega
    refine zb (i:=4) rfl fun KN hKN hPN=>zy strE ([wd8]:List ByteArray) wn underlying56 inf9 rfl rfl rfl rfl qD qD rfl fun b69=>?_
    refine (go 1) ?_
    refine hKN _ _ (S9 [2,4,5,7]) (zf 3 1 (zb (i:=1) rfl fun KN hKN hPN=>?_))
    refine (go 2) ?_
    refine hKN _ _ (S9 [2,4,5,7]) (zf 2 5 (zb (i:=5) rfl fun KN hKN hPN=>yH 3 l ([wd8]:List ByteArray) encString wn rfl rfl rfl (fun _ hM=>(RowSl encString hM 0 rfl)) underlying56 inf9 rfl rfl (by simp only [qL]; omega) rfl fun A11 cp11 hc11 hm11 hA11=>?_))
    refine (go 1) ?_
    refine hKN _ _ (S9 [2,4,5,7]) (yN 1 [6] [2,4,5,7] rfl fun KS hKS=>?_)
    refine (go 1) ?_
    refine zi hKS (zf 0 7 (zb (i:=7) rfl fun KN hKN hPN=>?_))
    refine (go 2) ?_
    refine hKN _ _ (S9 [2,4,5,7]) (zz (by kernel_rfl) (yK (ye (l++([wd8]:List ByteArray)) j15 m11 (q - 1) (.slice A11 ((l++([wd8]:List ByteArray)).length) cp11) (sc rfl (sc rfl (sc rfl (sc rfl sn)))) (S9 [3,4,1,2,5,6,7]) ?_ ?_)))
    ·have hY:=Pz.by_next hx3 (by rw [he12,h6]) h7 he14
     rw [Pz.then_ok] at hY
     exact ⟨hY.trans (by rw [show q - 1 + 1=q by omega]),by simp only [qL]; omega,by simp only [qL]; omega,by omega,by omega,by omega⟩
    omega
   have g5:bo2=false:=by simpa using h6
   have hx4:=Pz.by_done hI2.1 (by rw [he12,g5])
   refine (go 8) ?_
   refine zZ (α:=Pz.St) (PT:=111) [Rb 114 p s j13 m,.pub zN] [Row (.slice A8 l.length cp8) 9 1 strE l,Row (.slice (some ⟨b54,0,none⟩) 1 1) 9 1 strE ([wd6]:List ByteArray),Row (.slice A1 Lg.totals.length cp1) 9 1 strE Lg.totals,.blk b6 [iV 3,iV 0,iV 0,.string wd1,Zs,.slice A8 l.length cp8,Zs] 59,.blk b4 Zx 59] (fun z:Pz.St=>.tuple #[]) (fun z19=>Pz.must s ⟨#[40]⟩ ⟨j13,m⟩=.ok z19∧Pz.Good s ⟨j13,m⟩ z19) (fun z19=>[Rb 114 p s z19.at_ z19.nd,.pub zN]) _ (fun f17=>Pz.must s ⟨#[40]⟩ ⟨j13,m⟩=.no f17) (fun _=>rfl) (S9 [0,1,2,3,4,5,6]) (fun _=>rfl) wn rfl rfl call179 rfl (fun w1 Pb hG=>y7 p s j13 m ⟨#[40]⟩ Pb w1 hG qO qO qO ) ?_ fun z19 hz21=>?_
   ·intro f17 hf17
    refine zR (zV fun w1 hM=>?_)
    exact hM.ze f17 (by first | (simp only [Pz.then_ok,Pz.then_no,Pz.St.go,lgc,Pz.all,Pz.bys,Pz.allTail,zB.e,zB.es,hz1e,he1,hz4e,he2,g1,g3,he11,he12,g5,hx4,h1,h6,hf17]; done) | simp [Pz.then_ok,Pz.then_no,Pz.St.go,lgc,Pz.all,Pz.bys,Pz.allTail,zB.e,zB.es,hz1e,he1,hz4e,he2,g1,g3,he11,he12,g5,hx4,h1,h6,hf17])
   obtain ⟨j16,m12⟩:=z19
   have he15:Pz.must s ⟨#[40]⟩ ⟨j13,m⟩=.ok ⟨j16,m12⟩:=hz21.1
   have ga12:j16≤s.size:=hz21.2.at_
   have gm12:m≤m12:=hz21.2.mono
   have gn12:m12≤100:=hz21.2.most (show m≤100 by omega)
   refine (go 7) ?_
   refine zZ (α:=zB × Pz.St) (PT:=111) [Rb 114 p s j16 m12,.pub zN] [Row (.slice A8 l.length cp8) 9 1 strE l,Row (.slice (some ⟨b54,0,none⟩) 1 1) 9 1 strE ([wd6]:List ByteArray),Row (.slice A1 Lg.totals.length cp1) 9 1 strE Lg.totals,.blk b6 [iV 3,iV 0,iV 0,.string wd1,Zs,.slice A8 l.length cp8,Zs] 59,.blk b4 Zx 59] (fun z:zB × Pz.St=>.agg (zk z.1).toArray) (fun z20=>Pz.xpr s N ⟨j16,m12⟩=.ok (z20.1.e,z20.2)∧Pz.Good s ⟨j16,m12⟩ z20.2) (fun z20=>[Rb 114 p s z20.2.at_ z20.2.nd,.pub zN,okP zB.Ok z20.1]) _ (fun f18=>Pz.xpr s N ⟨j16,m12⟩=.no f18) (fun _=>rfl) (S9 [0,1,2,3,4,5,6]) (fun _=>rfl) wn rfl rfl call52 rfl (fun w1 Pb hG=>ih p s j16 m12 (d + 1) Pb w1 hG qO qO qO qO qO) ?_ fun z20 hz22=>?_
   ·intro f18 hf18
    refine zR (zV fun w1 hM=>?_)
    exact hM.ze f18 (by first | (simp only [Pz.then_ok,Pz.then_no,Pz.St.go,lgc,Pz.all,Pz.bys,Pz.allTail,zB.e,zB.es,hz1e,he1,hz4e,he2,g1,g3,he11,he12,g5,hx4,he15,h1,h6,hf18]; done) | simp [Pz.then_ok,Pz.then_no,Pz.St.go,lgc,Pz.all,Pz.bys,Pz.allTail,zB.e,zB.es,hz1e,he1,hz4e,he2,g1,g3,he11,he12,g5,hx4,he15,h1,h6,hf18])
   obtain ⟨x2,j17,m13⟩:=z20
   have he16:Pz.xpr s N ⟨j16,m12⟩=.ok (x2.e,⟨j17,m13⟩):=hz22.1
   have ga13:j17≤s.size:=hz22.2.at_
   have gm13:m12≤m13:=hz22.2.mono
   have gn13:m13≤100:=hz22.2.most (show m12≤100 by omega)
   refine zy zk ([x2]:List zB) wn underlying57 inf59 rfl rfl rfl rfl qD qD rfl fun b78=>?_
   refine (go 7) ?_
   refine zZ (α:=Pz.St) (PT:=111) [Rb 114 p s j17 m13,.pub zN] [Row (.slice (some ⟨b78,0,none⟩) 1 1) 59 7 zk ([x2]:List zB),okP zB.Ok x2,Row (.slice A8 l.length cp8) 9 1 strE l,Row (.slice (some ⟨b54,0,none⟩) 1 1) 9 1 strE ([wd6]:List ByteArray),Row (.slice A1 Lg.totals.length cp1) 9 1 strE Lg.totals,.blk b6 [iV 3,iV 0,iV 0,.string wd1,Zs,.slice A8 l.length cp8,.slice (some ⟨b78,0,none⟩) 1 1] 59,.blk b4 Zx 59] (fun z:Pz.St=>.tuple #[]) (fun z21=>Pz.must s ⟨#[41]⟩ ⟨j17,m13⟩=.ok z21∧Pz.Good s ⟨j17,m13⟩ z21) (fun z21=>[Rb 114 p s z21.at_ z21.nd,.pub zN]) _ (fun f19=>Pz.must s ⟨#[41]⟩ ⟨j17,m13⟩=.no f19) (fun _=>rfl) (S9 [1,2,0,3,4,5,6,7,8]) (fun _=>rfl) wn rfl rfl call179 rfl (fun w1 Pb hG=>y7 p s j17 m13 ⟨#[41]⟩ Pb w1 hG qO qO qO ) ?_ fun z21 hz23=>?_
   ·intro f19 hf19
    refine zR (zV fun w1 hM=>?_)
    exact hM.ze f19 (by first | (simp only [Pz.then_ok,Pz.then_no,Pz.St.go,lgc,Pz.all,Pz.bys,Pz.allTail,zB.e,zB.es,hz1e,he1,hz4e,he2,g1,g3,he11,he12,g5,hx4,he15,he16,h1,h6,hf19]; done) | simp [Pz.then_ok,Pz.then_no,Pz.St.go,lgc,Pz.all,Pz.bys,Pz.allTail,zB.e,zB.es,hz1e,he1,hz4e,he2,g1,g3,he11,he12,g5,hx4,he15,he16,h1,h6,hf19])
   obtain ⟨j18,m14⟩:=z21
   have he17:Pz.must s ⟨#[41]⟩ ⟨j17,m13⟩=.ok ⟨j18,m14⟩:=hz23.1
   have ga14:j18≤s.size:=hz23.2.at_
   have gm14:m13≤m14:=hz23.2.mono
   have gn14:m14≤100:=hz23.2.most (show m13≤100 by omega)
   refine (go 6) ?_
   refine vB 4 0 encString rfl rfl (fp2) (vB 2 0 encExprX rfl rfl (fp2) (vx (fun _ h=>h.exprG (k:=3) (n:=0) (r:=0) (wd:=wd1) (ms:=⟨none,0,[]⟩) (bs:=⟨A8,cp8,l⟩) (ks:=⟨(some ⟨b78,0,none⟩),1,([x2]:List zB)⟩) (fun _ _=>zD.zu _ _ _ _) (fun _ pp=>pp.sl 4 rfl) (fun _ pp=>pp.sl 2 rfl) (fun _ pp x hx=>by simp only [List.mem_cons,List.not_mem_nil,or_false] at hx; rcases hx with rfl <;> first | exact pp.at_ 3 _ rfl) (by first | decide | omega) (fun x hx=>by cases hx) (fun x hx=>by have:=Pz.byL_size 5 (by show _≤s.size; omega) hx4 (fun y hy=>by rw [List.mem_singleton.1 hy]; omega) x hx; omega)) (zZ (α:=Unit) (PT:=111) [Rb 114 p s j18 m14,.pub zN] [okP zB.Ok (zB.mk 3 0 0 wd1 ⟨none,0,[]⟩ ⟨A8,cp8,l⟩ ⟨(some ⟨b78,0,none⟩),1,([x2]:List zB)⟩),slP 7 zk (.slice (some ⟨b78,0,none⟩) 1 1) ([x2]:List zB),okP zB.Ok x2,slP 1 strE (.slice A8 l.length cp8) l,Row (.slice (some ⟨b54,0,none⟩) 1 1) 9 1 strE ([wd6]:List ByteArray),Row (.slice A1 Lg.totals.length cp1) 9 1 strE Lg.totals,.blk b6 [iV 3,iV 0,iV 0,.string wd1,Zs,.slice A8 l.length cp8,.slice (some ⟨b78,0,none⟩) 1 1] 59,.blk b4 Zx 59] (fun _:Unit=>.agg (List.toArray [iV 3,iV 0,iV 0,.string wd1,Zs,.slice A8 l.length cp8,.slice (some ⟨b78,0,none⟩) 1 1])) (fun z22=>m14 + 1≤100) (fun z22=>[Rb 114 p s j18 (m14 + 1),.pub zN]) _ (fun f20=>Pz.node ⟨j18,m14⟩=.no f20) (fun _=>rfl) (S9 [1,2,0,3,4,5,6,7,8,9]) (fun _=>rfl) wn rfl rfl call99 rfl (fun w1 Pb hG=>vm p s j18 m14 3 0 0 wd1 none 0 0 A8 l.length cp8 (some ⟨b78,0,none⟩) 1 1 Pb w1 hG qO qO qO) ?_ fun z22 hz24=>?_)))
   ·intro f20 hf20
    refine zR (zV fun w1 hM=>?_)
    exact hM.ze f20 (by first | (simp only [Pz.then_ok,Pz.then_no,Pz.St.go,lgc,Pz.all,Pz.bys,Pz.allTail,zB.e,zB.es,hz1e,he1,hz4e,he2,g1,g3,he11,he12,g5,hx4,he15,he16,he17,h1,h6,hf20]; done) | simp [Pz.then_ok,Pz.then_no,Pz.St.go,lgc,Pz.all,Pz.bys,Pz.allTail,zB.e,zB.es,hz1e,he1,hz4e,he2,g1,g3,he11,he12,g5,hx4,he15,he16,he17,h1,h6,hf20])
   have he18:Pz.node ⟨j18,m14⟩=.ok ⟨j18,m14 + 1⟩:=Pz.node_yes hz24
   refine (go 4) (zX results181 fun w1 hM=>?_)
   have h9:Pz.all s (Pz.xpr s N) ⟨i,n⟩=.ok ((zB.mk 3 0 0 wd1 ⟨none,0,[]⟩ ⟨A8,cp8,l⟩ ⟨(some ⟨b78,0,none⟩),1,([x2]:List zB)⟩).e,⟨j18,(m14 + 1)⟩):=by first | (simp only [Pz.then_ok,Pz.then_no,Pz.St.go,lgc,Pz.all,Pz.bys,Pz.allTail,zB.e,zB.es,hz1e,he1,hz4e,he2,g1,g3,he11,he12,g5,hx4,he15,he16,he17,he18,h1,h6]; done) | simp [Pz.then_ok,Pz.then_no,Pz.St.go,lgc,Pz.all,Pz.bys,Pz.allTail,zB.e,zB.es,hz1e,he1,hz4e,he2,g1,g3,he11,he12,g5,hx4,he15,he16,he17,he18,h1,h6]
   exact hM.vf (((zB.mk 3 0 0 wd1 ⟨none,0,[]⟩ ⟨A8,cp8,l⟩ ⟨(some ⟨b78,0,none⟩),1,([x2]:List zB)⟩),⟨j18,(m14 + 1)⟩):zB × Pz.St) rfl ⟨h9,(Pz.all_fine (Pz.xpr_fine s N) hi).ok_ h9⟩ (fun h=>h.sel [0,1,2] qD rfl)
  refine zb (i:=4) rfl fun KN hKN hPN=>zy strE ([wd6]:List ByteArray) wn underlying56 inf9 rfl rfl rfl rfl qD qD rfl fun b54=>?_
  refine (go 1) ?_
  refine hKN _ _ (S9 [2,3,5]) (zf 3 1 (zb (i:=1) rfl fun KN hKN hPN=>?_))
  refine (go 2) ?_
  refine hKN _ _ (S9 [2,3,5]) (zf 2 5 (zb (i:=5) rfl fun KN hKN hPN=>yD (strE:ByteArray→List Value) 9 1 (yH 0 ([]:List ByteArray) ([wd6]:List ByteArray) encString wn rfl rfl rfl (fun _ hM=>(RowSl encString hM 1 rfl)) underlying56 inf9 rfl rfl (by simp only [qL]; omega) rfl fun A12 cp12 hc12 hm12 hA12=>?_)))
  refine (go 1) ?_
  refine hKN _ _ (S9 [3,4,6]) (yN 1 [6] [3,4,6] rfl fun KS hKS=>?_)
  refine (go 1) ?_
  refine zi hKS (zf 0 7 (zb (i:=7) rfl fun KN hKN hPN=>?_))
  refine (go 2) ?_
  refine hKN _ _ (S9 [3,4,6]) ?_
  refine zz (by kernel_rfl) ((go 1) ?_)
  refine (go 1) ?_
  refine uh (fun (l:List ByteArray) (k:Nat) (m:Int) (q:Nat) (rv:Value)=>[(0,.pointer (some ⟨p,0,none⟩)),(1,iV d),(4,.pointer (some ⟨b4,0,none⟩)),(6,.pointer (some ⟨b6,0,none⟩))]) (fun (l:List ByteArray) (k:Nat) (m:Int) (q:Nat) (rv:Value)=>[Row rv 9 1 strE l,Row (.slice (some ⟨b54,0,none⟩) 1 1) 9 1 strE ([wd6]:List ByteArray),Rb 114 p s k m,.pub zN,Row (.slice A1 Lg.totals.length cp1) 9 1 strE Lg.totals,.blk b6 [iV 3,iV 0,iV 0,.string wd1,Zs,rv,Zs] 59,.blk b4 Zx 59]) (fun (l:List ByteArray) (k:Nat) (m:Int) (q:Nat) (rv:Value)=>Pz.byL s 5 [wd6] ⟨j12,m9⟩=Pz.byL s (q + 1) l ⟨k,m⟩∧l.length + q=5∧l.length≤4∧k≤s.size∧m9≤m∧m≤100) (fun (l:List ByteArray) (k:Nat) (m:Int) (q:Nat) (rv:Value)=>q) (([]:List ByteArray)++([wd6]:List ByteArray)) j12 m9 4 (.slice A12 ((([]:List ByteArray)++([wd6]:List ByteArray)).length) cp12) (sc rfl (sc rfl (sc rfl (sc rfl sn)))) (fun _ h=>h) ?_ (fun l k m q rv hI3=>?_)
  ·exact ⟨rfl,rfl,by simp,by omega,by omega,by omega⟩
  refine yW 0 (l:=l) rfl fun A13 cp13 hv3 hc13 hm13 hA13=>?_
  subst hv3
  refine (go 4) ?_
  refine zg (α:=(Bool × Nat)) [Rb 114 p s k m,.pub zN] [Row (.slice A13 l.length cp13) 9 1 strE l,Row (.slice (some ⟨b54,0,none⟩) 1 1) 9 1 strE ([wd6]:List ByteArray),Row (.slice A1 Lg.totals.length cp1) 9 1 strE Lg.totals,.blk b6 [iV 3,iV 0,iV 0,.string wd1,Zs,.slice A13 l.length cp13,Zs] 59,.blk b4 Zx 59] (fun z:Bool × Nat=>.bool z.1) (fun z23=>(Pz.eat s ⟨#[44]⟩ k=z23∧k≤z23.2∧z23.2≤s.size)) (fun z23=>[Rb 114 p s z23.2 m,.pub zN]) _ (fun _=>rfl) (S9 [2,3,0,1,4,5,6]) (fun _=>rfl) wn rfl rfl call98 rfl (fun w1 Pb hG=>vq p s k m ⟨#[44]⟩ Pb w1 hG qO qO) fun z23 hz25=>?_
  obtain ⟨bo3,j19⟩:=z23
  have he19:Pz.eat s ⟨#[44]⟩ k=(bo3,j19):=hz25.1
  have hz25a:k≤j19:=hz25.2.1
  have hz25b:j19≤s.size:=hz25.2.2
  refine vC (.bool bo3) ?_
  refine (go 2) (yg (fun h8=>?_) fun h8=>?_)
  ·have hx5:=hI3.1
   refine (go 12) (zW (fun h9=>?_) fun h9=>?_)
   ·refine (go 2) ?_
    refine zZ (α:=Unit) (PT:=111) [Rb 114 p s j19 m,.pub zN] [Row (.slice A13 l.length cp13) 9 1 strE l,Row (.slice (some ⟨b54,0,none⟩) 1 1) 9 1 strE ([wd6]:List ByteArray),Row (.slice A1 Lg.totals.length cp1) 9 1 strE Lg.totals,.blk b6 [iV 3,iV 0,iV 0,.string wd1,Zs,.slice A13 l.length cp13,Zs] 59,.blk b4 Zx 59] (fun _:Unit=>.tuple #[]) (fun z24=>False) (fun z24=>[Rb 114 p s j19 m,.pub zN]) _ (fun f21=>f21=(5,(j19:Int))) (fun _=>rfl) (S9 [0,1,2,3,4,5,6]) (fun _=>rfl) wn rfl rfl call54 rfl (fun w1 Pb hG=>yl p s j19 m 5 Pb w1 hG) ?_ fun z24 hz26=>?_
    ·intro f21 hf21
     refine zR (yA (yV (yA (zR (zV fun w1 hM=>?_)))))
     have hY:=Pz.by_many hx5 (by rw [he19,h8]) h9
     exact hM.ze f21 (by simp only [Pz.then_ok,Pz.then_no,Pz.St.go,lgc,Pz.all,Pz.bys,Pz.allTail,zB.e,zB.es,hz1e,he1,hz4e,he2,g1,g3,he11,he19,h1,hY,hf21])
    exact hz26.elim
   refine (go 2) ?_
   refine yM (Mem w ⟨fpOf [Rb 114 p s i n,.pub zN],Pb⟩ [.pub zN,Row (.slice (some ⟨b54,0,none⟩) 1 1) 9 1 strE ([wd6]:List ByteArray),Row (.slice A1 Lg.totals.length cp1) 9 1 strE Lg.totals,.blk b4 Zx 59]) mix (fun _ h=>h.drew) rfl (yN 6 [0,2] [1,3,4,6] rfl fun KS hKS=>?_)
   refine (go 2) ?_
   refine zi hKS (ya (f:=5) (i:=1) (j:=3) rfl (by kernel_rfl) ?_ ?_)
   ·refine zb (i:=1) rfl fun KN hKN hPN=>?_
    refine (go 2) ?_
    refine hKN _ _ (S9 [1,3,4,6]) (zf 4 3 (zb (i:=3) rfl fun KN hKN hPN=>zZ (α:=ByteArray × Pz.St) (PT:=111) [Rb 114 p s j19 m,.pub zN] [Row (.slice A13 l.length cp13) 9 1 strE l,Row (.slice (some ⟨b54,0,none⟩) 1 1) 9 1 strE ([wd6]:List ByteArray),Row (.slice A1 Lg.totals.length cp1) 9 1 strE Lg.totals,.blk b6 [iV 3,iV 0,iV 0,.string wd1,Zs,.slice A13 l.length cp13,Zs] 59,.blk b4 Zx 59] (fun z:ByteArray × Pz.St=>.string z.1) (fun z25=>Pz.name s ⟨j19,m⟩=.ok z25∧Pz.Good s ⟨j19,m⟩ z25.2) (fun z25=>[Rb 114 p s z25.2.at_ z25.2.nd,.pub zN]) _ (fun f22=>Pz.name s ⟨j19,m⟩=.no f22) (fun _=>rfl) (S9 [0,1,2,3,4,5,6]) (fun _=>rfl) wn rfl rfl call211 rfl (fun w1 Pb hG=>vF p s j19 m  Pb w1 hG qO qO qO ) ?_ fun z25 hz27=>?_))
    ·intro f22 hf22
     refine yr hPN (yA (yV (yA (zR (zV fun w1 hM=>?_)))))
     have hY:=Pz.by_next hx5 (by rw [he19,h8]) h9 hf22
     rw [Pz.then_no] at hY
     exact hM.ze f22 (by simp only [Pz.then_ok,Pz.then_no,Pz.St.go,lgc,Pz.all,Pz.bys,Pz.allTail,zB.e,zB.es,hz1e,he1,hz4e,he2,g1,g3,he11,he19,h1,hY])
    obtain ⟨wd9,j20,m15⟩:=z25
    have he20:Pz.name s ⟨j19,m⟩=.ok (wd9,⟨j20,m15⟩):=hz27.1
    have ga15:j20≤s.size:=hz27.2.at_
    have gm15:m≤m15:=hz27.2.mono
    have gn15:m15≤100:=hz27.2.most (show m≤100 by omega)
    have wz9:wd9.size≤12:=Pz.name_size (t:=⟨j19,m⟩) (show j19≤_ by omega) he20
    refine vC (.string wd9) ?_
    refine (go 1) ?_
    refine hKN _ _ (S9 [1,3,4,6]) (zf 3 4 (zb (i:=4) rfl fun KN hKN hPN=>zy strE ([wd9]:List ByteArray) wn underlying56 inf9 rfl rfl rfl rfl qD qD rfl fun b69=>?_))
    refine (go 1) ?_
    refine hKN _ _ (S9 [2,4,5,7]) (zf 2 5 (zb (i:=5) rfl fun KN hKN hPN=>yH 3 l ([wd9]:List ByteArray) encString wn rfl rfl rfl (fun _ hM=>(RowSl encString hM 0 rfl)) underlying56 inf9 rfl rfl (by simp only [qL]; omega) rfl fun A14 cp14 hc14 hm14 hA14=>?_))
    refine (go 1) ?_
    refine hKN _ _ (S9 [2,4,5,7]) (yN 1 [6] [2,4,5,7] rfl fun KS hKS=>?_)
    refine (go 1) ?_
    refine zi hKS (zf 0 7 (zb (i:=7) rfl fun KN hKN hPN=>?_))
    refine (go 2) ?_
    refine hKN _ _ (S9 [2,4,5,7]) (zz (by kernel_rfl) (yK (ye (l++([wd9]:List ByteArray)) j20 m15 (q - 1) (.slice A14 ((l++([wd9]:List ByteArray)).length) cp14) (sc rfl (sc rfl (sc rfl (sc rfl sn)))) (S9 [3,4,1,2,5,6,7]) ?_ ?_)))
    ·have hY:=Pz.by_next hx5 (by rw [he19,h8]) h9 he20
     rw [Pz.then_ok] at hY
     exact ⟨hY.trans (by rw [show q - 1 + 1=q by omega]),by simp only [qL]; omega,by simp only [qL]; omega,by omega,by omega,by omega⟩
    omega
   refine zb (i:=3) rfl fun KN hKN hPN=>zZ (α:=ByteArray × Pz.St) (PT:=111) [Rb 114 p s j19 m,.pub zN] [Row (.slice A13 l.length cp13) 9 1 strE l,Row (.slice (some ⟨b54,0,none⟩) 1 1) 9 1 strE ([wd6]:List ByteArray),Row (.slice A1 Lg.totals.length cp1) 9 1 strE Lg.totals,.blk b6 [iV 3,iV 0,iV 0,.string wd1,Zs,.slice A13 l.length cp13,Zs] 59,.blk b4 Zx 59] (fun z:ByteArray × Pz.St=>.string z.1) (fun z26=>Pz.name s ⟨j19,m⟩=.ok z26∧Pz.Good s ⟨j19,m⟩ z26.2) (fun z26=>[Rb 114 p s z26.2.at_ z26.2.nd,.pub zN]) _ (fun f23=>Pz.name s ⟨j19,m⟩=.no f23) (fun _=>rfl) (S9 [0,1,2,3,4,5,6]) (fun _=>rfl) wn rfl rfl call211 rfl (fun w1 Pb hG=>vF p s j19 m  Pb w1 hG qO qO qO ) ?_ fun z26 hz28=>?_
   ·intro f23 hf23
    refine yr hPN (yA (yV (yA (zR (zV fun w1 hM=>?_)))))
    have hY:=Pz.by_next hx5 (by rw [he19,h8]) h9 hf23
    rw [Pz.then_no] at hY
    exact hM.ze f23 (by simp only [Pz.then_ok,Pz.then_no,Pz.St.go,lgc,Pz.all,Pz.bys,Pz.allTail,zB.e,zB.es,hz1e,he1,hz4e,he2,g1,g3,he11,he19,h1,hY])
   obtain ⟨wd10,j21,m16⟩:=z26
   have he21:Pz.name s ⟨j19,m⟩=.ok (wd10,⟨j21,m16⟩):=hz28.1
   have ga16:j21≤s.size:=hz28.2.at_
   have gm16:m≤m16:=hz28.2.mono
   have gn16:m16≤100:=hz28.2.most (show m≤100 by omega)
   have wz10:wd10.size≤12:=Pz.name_size (t:=⟨j19,m⟩) (show j19≤_ by omega) he21
   refine vC (.string wd10) ?_
   refine (go 1) ?_
   refine hKN _ _ (S9 [1,3,4,6]) (ya (f:=4) (i:=1) (j:=4) rfl (by kernel_rfl) ?_ ?_)
   ·refine zb (i:=1) rfl fun KN hKN hPN=>?_
    refine (go 2) ?_
    refine hKN _ _ (S9 [1,3,4,6]) (zf 3 4 (zb (i:=4) rfl fun KN hKN hPN=>zy strE ([wd10]:List ByteArray) wn underlying56 inf9 rfl rfl rfl rfl qD qD rfl fun b69=>?_))
    refine (go 1) ?_
    refine hKN _ _ (S9 [2,4,5,7]) (zf 2 5 (zb (i:=5) rfl fun KN hKN hPN=>yH 3 l ([wd10]:List ByteArray) encString wn rfl rfl rfl (fun _ hM=>(RowSl encString hM 0 rfl)) underlying56 inf9 rfl rfl (by simp only [qL]; omega) rfl fun A15 cp15 hc15 hm15 hA15=>?_))
    refine (go 1) ?_
    refine hKN _ _ (S9 [2,4,5,7]) (yN 1 [6] [2,4,5,7] rfl fun KS hKS=>?_)
    refine (go 1) ?_
    refine zi hKS (zf 0 7 (zb (i:=7) rfl fun KN hKN hPN=>?_))
    refine (go 2) ?_
    refine hKN _ _ (S9 [2,4,5,7]) (zz (by kernel_rfl) (yK (ye (l++([wd10]:List ByteArray)) j21 m16 (q - 1) (.slice A15 ((l++([wd10]:List ByteArray)).length) cp15) (sc rfl (sc rfl (sc rfl (sc rfl sn)))) (S9 [3,4,1,2,5,6,7]) ?_ ?_)))
    ·have hY:=Pz.by_next hx5 (by rw [he19,h8]) h9 he21
     rw [Pz.then_ok] at hY
     exact ⟨hY.trans (by rw [show q - 1 + 1=q by omega]),by simp only [qL]; omega,by simp only [qL]; omega,by omega,by omega,by omega⟩
    omega
   refine zb (i:=4) rfl fun KN hKN hPN=>zy strE ([wd10]:List ByteArray) wn underlying56 inf9 rfl rfl rfl rfl qD qD rfl fun b69=>?_
   refine (go 1) ?_
   refine hKN _ _ (S9 [2,4,5,7]) (zf 3 1 (zb (i:=1) rfl fun KN hKN hPN=>?_))
   refine (go 2) ?_
   refine hKN _ _ (S9 [2,4,5,7]) (zf 2 5 (zb (i:=5) rfl fun KN hKN hPN=>yH 3 l ([wd10]:List ByteArray) encString wn rfl rfl rfl (fun _ hM=>(RowSl encString hM 0 rfl)) underlying56 inf9 rfl rfl (by simp only [qL]; omega) rfl fun A16 cp16 hc16 hm16 hA16=>?_))
   refine (go 1) ?_
   refine hKN _ _ (S9 [2,4,5,7]) (yN 1 [6] [2,4,5,7] rfl fun KS hKS=>?_)
   refine (go 1) ?_
   refine zi hKS (zf 0 7 (zb (i:=7) rfl fun KN hKN hPN=>?_))
   refine (go 2) ?_
   refine hKN _ _ (S9 [2,4,5,7]) (zz (by kernel_rfl) (yK (ye (l++([wd10]:List ByteArray)) j21 m16 (q - 1) (.slice A16 ((l++([wd10]:List ByteArray)).length) cp16) (sc rfl (sc rfl (sc rfl (sc rfl sn)))) (S9 [3,4,1,2,5,6,7]) ?_ ?_)))
   ·have hY:=Pz.by_next hx5 (by rw [he19,h8]) h9 he21
    rw [Pz.then_ok] at hY
    exact ⟨hY.trans (by rw [show q - 1 + 1=q by omega]),by simp only [qL]; omega,by simp only [qL]; omega,by omega,by omega,by omega⟩
   omega
  have g6:bo3=false:=by simpa using h8
  have hx6:=Pz.by_done hI3.1 (by rw [he19,g6])
  refine (go 8) ?_
  refine zZ (α:=Pz.St) (PT:=111) [Rb 114 p s j19 m,.pub zN] [Row (.slice A13 l.length cp13) 9 1 strE l,Row (.slice (some ⟨b54,0,none⟩) 1 1) 9 1 strE ([wd6]:List ByteArray),Row (.slice A1 Lg.totals.length cp1) 9 1 strE Lg.totals,.blk b6 [iV 3,iV 0,iV 0,.string wd1,Zs,.slice A13 l.length cp13,Zs] 59,.blk b4 Zx 59] (fun z:Pz.St=>.tuple #[]) (fun z27=>Pz.must s ⟨#[40]⟩ ⟨j19,m⟩=.ok z27∧Pz.Good s ⟨j19,m⟩ z27) (fun z27=>[Rb 114 p s z27.at_ z27.nd,.pub zN]) _ (fun f24=>Pz.must s ⟨#[40]⟩ ⟨j19,m⟩=.no f24) (fun _=>rfl) (S9 [0,1,2,3,4,5,6]) (fun _=>rfl) wn rfl rfl call179 rfl (fun w1 Pb hG=>y7 p s j19 m ⟨#[40]⟩ Pb w1 hG qO qO qO ) ?_ fun z27 hz29=>?_
  ·intro f24 hf24
   refine zR (zV fun w1 hM=>?_)
   exact hM.ze f24 (by first | (simp only [Pz.then_ok,Pz.then_no,Pz.St.go,lgc,Pz.all,Pz.bys,Pz.allTail,zB.e,zB.es,hz1e,he1,hz4e,he2,g1,g3,he11,he19,g6,hx6,h1,h8,hf24]; done) | simp [Pz.then_ok,Pz.then_no,Pz.St.go,lgc,Pz.all,Pz.bys,Pz.allTail,zB.e,zB.es,hz1e,he1,hz4e,he2,g1,g3,he11,he19,g6,hx6,h1,h8,hf24])
  obtain ⟨j22,m17⟩:=z27
  have he22:Pz.must s ⟨#[40]⟩ ⟨j19,m⟩=.ok ⟨j22,m17⟩:=hz29.1
  have ga17:j22≤s.size:=hz29.2.at_
  have gm17:m≤m17:=hz29.2.mono
  have gn17:m17≤100:=hz29.2.most (show m≤100 by omega)
  refine (go 7) ?_
  refine zZ (α:=zB × Pz.St) (PT:=111) [Rb 114 p s j22 m17,.pub zN] [Row (.slice A13 l.length cp13) 9 1 strE l,Row (.slice (some ⟨b54,0,none⟩) 1 1) 9 1 strE ([wd6]:List ByteArray),Row (.slice A1 Lg.totals.length cp1) 9 1 strE Lg.totals,.blk b6 [iV 3,iV 0,iV 0,.string wd1,Zs,.slice A13 l.length cp13,Zs] 59,.blk b4 Zx 59] (fun z:zB × Pz.St=>.agg (zk z.1).toArray) (fun z28=>Pz.xpr s N ⟨j22,m17⟩=.ok (z28.1.e,z28.2)∧Pz.Good s ⟨j22,m17⟩ z28.2) (fun z28=>[Rb 114 p s z28.2.at_ z28.2.nd,.pub zN,okP zB.Ok z28.1]) _ (fun f25=>Pz.xpr s N ⟨j22,m17⟩=.no f25) (fun _=>rfl) (S9 [0,1,2,3,4,5,6]) (fun _=>rfl) wn rfl rfl call52 rfl (fun w1 Pb hG=>ih p s j22 m17 (d + 1) Pb w1 hG qO qO qO qO qO) ?_ fun z28 hz30=>?_
  ·intro f25 hf25
   refine zR (zV fun w1 hM=>?_)
   exact hM.ze f25 (by first | (simp only [Pz.then_ok,Pz.then_no,Pz.St.go,lgc,Pz.all,Pz.bys,Pz.allTail,zB.e,zB.es,hz1e,he1,hz4e,he2,g1,g3,he11,he19,g6,hx6,he22,h1,h8,hf25]; done) | simp [Pz.then_ok,Pz.then_no,Pz.St.go,lgc,Pz.all,Pz.bys,Pz.allTail,zB.e,zB.es,hz1e,he1,hz4e,he2,g1,g3,he11,he19,g6,hx6,he22,h1,h8,hf25])
  obtain ⟨x3,j23,m18⟩:=z28
  have he23:Pz.xpr s N ⟨j22,m17⟩=.ok (x3.e,⟨j23,m18⟩):=hz30.1
  have ga18:j23≤s.size:=hz30.2.at_
  have gm18:m17≤m18:=hz30.2.mono
  have gn18:m18≤100:=hz30.2.most (show m17≤100 by omega)
  refine zy zk ([x3]:List zB) wn underlying57 inf59 rfl rfl rfl rfl qD qD rfl fun b78=>?_
  refine (go 7) ?_
  refine zZ (α:=Pz.St) (PT:=111) [Rb 114 p s j23 m18,.pub zN] [Row (.slice (some ⟨b78,0,none⟩) 1 1) 59 7 zk ([x3]:List zB),okP zB.Ok x3,Row (.slice A13 l.length cp13) 9 1 strE l,Row (.slice (some ⟨b54,0,none⟩) 1 1) 9 1 strE ([wd6]:List ByteArray),Row (.slice A1 Lg.totals.length cp1) 9 1 strE Lg.totals,.blk b6 [iV 3,iV 0,iV 0,.string wd1,Zs,.slice A13 l.length cp13,.slice (some ⟨b78,0,none⟩) 1 1] 59,.blk b4 Zx 59] (fun z:Pz.St=>.tuple #[]) (fun z29=>Pz.must s ⟨#[41]⟩ ⟨j23,m18⟩=.ok z29∧Pz.Good s ⟨j23,m18⟩ z29) (fun z29=>[Rb 114 p s z29.at_ z29.nd,.pub zN]) _ (fun f26=>Pz.must s ⟨#[41]⟩ ⟨j23,m18⟩=.no f26) (fun _=>rfl) (S9 [1,2,0,3,4,5,6,7,8]) (fun _=>rfl) wn rfl rfl call179 rfl (fun w1 Pb hG=>y7 p s j23 m18 ⟨#[41]⟩ Pb w1 hG qO qO qO ) ?_ fun z29 hz31=>?_
  ·intro f26 hf26
   refine zR (zV fun w1 hM=>?_)
   exact hM.ze f26 (by first | (simp only [Pz.then_ok,Pz.then_no,Pz.St.go,lgc,Pz.all,Pz.bys,Pz.allTail,zB.e,zB.es,hz1e,he1,hz4e,he2,g1,g3,he11,he19,g6,hx6,he22,he23,h1,h8,hf26]; done) | simp [Pz.then_ok,Pz.then_no,Pz.St.go,lgc,Pz.all,Pz.bys,Pz.allTail,zB.e,zB.es,hz1e,he1,hz4e,he2,g1,g3,he11,he19,g6,hx6,he22,he23,h1,h8,hf26])
  obtain ⟨j24,m19⟩:=z29
  have he24:Pz.must s ⟨#[41]⟩ ⟨j23,m18⟩=.ok ⟨j24,m19⟩:=hz31.1
  have ga19:j24≤s.size:=hz31.2.at_
  have gm19:m18≤m19:=hz31.2.mono
  have gn19:m19≤100:=hz31.2.most (show m18≤100 by omega)
  refine (go 6) ?_
  refine vB 4 0 encString rfl rfl (fp2) (vB 2 0 encExprX rfl rfl (fp2) (vx (fun _ h=>h.exprG (k:=3) (n:=0) (r:=0) (wd:=wd1) (ms:=⟨none,0,[]⟩) (bs:=⟨A13,cp13,l⟩) (ks:=⟨(some ⟨b78,0,none⟩),1,([x3]:List zB)⟩) (fun _ _=>zD.zu _ _ _ _) (fun _ pp=>pp.sl 4 rfl) (fun _ pp=>pp.sl 2 rfl) (fun _ pp x hx=>by simp only [List.mem_cons,List.not_mem_nil,or_false] at hx; rcases hx with rfl <;> first | exact pp.at_ 3 _ rfl) (by first | decide | omega) (fun x hx=>by cases hx) (fun x hx=>by have:=Pz.byL_size 5 (by show _≤s.size; omega) hx6 (fun y hy=>by rw [List.mem_singleton.1 hy]; omega) x hx; omega)) (zZ (α:=Unit) (PT:=111) [Rb 114 p s j24 m19,.pub zN] [okP zB.Ok (zB.mk 3 0 0 wd1 ⟨none,0,[]⟩ ⟨A13,cp13,l⟩ ⟨(some ⟨b78,0,none⟩),1,([x3]:List zB)⟩),slP 7 zk (.slice (some ⟨b78,0,none⟩) 1 1) ([x3]:List zB),okP zB.Ok x3,slP 1 strE (.slice A13 l.length cp13) l,Row (.slice (some ⟨b54,0,none⟩) 1 1) 9 1 strE ([wd6]:List ByteArray),Row (.slice A1 Lg.totals.length cp1) 9 1 strE Lg.totals,.blk b6 [iV 3,iV 0,iV 0,.string wd1,Zs,.slice A13 l.length cp13,.slice (some ⟨b78,0,none⟩) 1 1] 59,.blk b4 Zx 59] (fun _:Unit=>.agg (List.toArray [iV 3,iV 0,iV 0,.string wd1,Zs,.slice A13 l.length cp13,.slice (some ⟨b78,0,none⟩) 1 1])) (fun z30=>m19 + 1≤100) (fun z30=>[Rb 114 p s j24 (m19 + 1),.pub zN]) _ (fun f27=>Pz.node ⟨j24,m19⟩=.no f27) (fun _=>rfl) (S9 [1,2,0,3,4,5,6,7,8,9]) (fun _=>rfl) wn rfl rfl call99 rfl (fun w1 Pb hG=>vm p s j24 m19 3 0 0 wd1 none 0 0 A13 l.length cp13 (some ⟨b78,0,none⟩) 1 1 Pb w1 hG qO qO qO) ?_ fun z30 hz32=>?_)))
  ·intro f27 hf27
   refine zR (zV fun w1 hM=>?_)
   exact hM.ze f27 (by first | (simp only [Pz.then_ok,Pz.then_no,Pz.St.go,lgc,Pz.all,Pz.bys,Pz.allTail,zB.e,zB.es,hz1e,he1,hz4e,he2,g1,g3,he11,he19,g6,hx6,he22,he23,he24,h1,h8,hf27]; done) | simp [Pz.then_ok,Pz.then_no,Pz.St.go,lgc,Pz.all,Pz.bys,Pz.allTail,zB.e,zB.es,hz1e,he1,hz4e,he2,g1,g3,he11,he19,g6,hx6,he22,he23,he24,h1,h8,hf27])
  have he25:Pz.node ⟨j24,m19⟩=.ok ⟨j24,m19 + 1⟩:=Pz.node_yes hz32
  refine (go 4) (zX results181 fun w1 hM=>?_)
  have h9:Pz.all s (Pz.xpr s N) ⟨i,n⟩=.ok ((zB.mk 3 0 0 wd1 ⟨none,0,[]⟩ ⟨A13,cp13,l⟩ ⟨(some ⟨b78,0,none⟩),1,([x3]:List zB)⟩).e,⟨j24,(m19 + 1)⟩):=by first | (simp only [Pz.then_ok,Pz.then_no,Pz.St.go,lgc,Pz.all,Pz.bys,Pz.allTail,zB.e,zB.es,hz1e,he1,hz4e,he2,g1,g3,he11,he19,g6,hx6,he22,he23,he24,he25,h1,h8]; done) | simp [Pz.then_ok,Pz.then_no,Pz.St.go,lgc,Pz.all,Pz.bys,Pz.allTail,zB.e,zB.es,hz1e,he1,hz4e,he2,g1,g3,he11,he19,g6,hx6,he22,he23,he24,he25,h1,h8]
  exact hM.vf (((zB.mk 3 0 0 wd1 ⟨none,0,[]⟩ ⟨A13,cp13,l⟩ ⟨(some ⟨b78,0,none⟩),1,([x3]:List zB)⟩),⟨j24,(m19 + 1)⟩):zB × Pz.St) rfl ⟨h9,(Pz.all_fine (Pz.xpr_fine s N) hi).ok_ h9⟩ (fun h=>h.sel [0,1,2] qD rfl)
 have g7:(wd2=⟨#[]⟩)=True:=eq_true (Classical.not_not.1 h2)
 refine (go 12) ?_
 refine yU rfl (decide_eq_false (by rw [Classical.not_not.1 h2]; decide)) ?_
 refine (go 4) ?_
 have g8:(wd2=⟨#[98,121]⟩)=False:=eq_false (by rw [Classical.not_not.1 h2]; decide)
 refine (go 1) ?_
 refine zZ (α:=Pz.St) (PT:=111) [Rb 114 p s j4 m2,.pub zN] [Row (.slice A1 Lg.totals.length cp1) 9 1 strE Lg.totals,.blk b6 [iV 3,iV 0,iV 0,.string wd1,Zs,Zs,Zs] 59,.blk b4 Zx 59] (fun z:Pz.St=>.tuple #[]) (fun z31=>Pz.must s ⟨#[40]⟩ ⟨j4,m2⟩=.ok z31∧Pz.Good s ⟨j4,m2⟩ z31) (fun z31=>[Rb 114 p s z31.at_ z31.nd,.pub zN]) _ (fun f28=>Pz.must s ⟨#[40]⟩ ⟨j4,m2⟩=.no f28) (fun _=>rfl) (S9 [0,1,2,3,4]) (fun _=>rfl) wn rfl rfl call179 rfl (fun w1 Pb hG=>y7 p s j4 m2 ⟨#[40]⟩ Pb w1 hG qO qO qO ) ?_ fun z31 hz33=>?_
 ·intro f28 hf28
  refine zR (zV fun w1 hM=>?_)
  exact hM.ze f28 (by first | (simp only [Pz.then_ok,Pz.then_no,Pz.St.go,lgc,Pz.all,Pz.bys,Pz.allTail,zB.e,zB.es,hz1e,he1,hz4e,he2,g7,g8,h1,hf28]; done) | simp [Pz.then_ok,Pz.then_no,Pz.St.go,lgc,Pz.all,Pz.bys,Pz.allTail,zB.e,zB.es,hz1e,he1,hz4e,he2,g7,g8,h1,hf28])
 obtain ⟨j25,m20⟩:=z31
 have he26:Pz.must s ⟨#[40]⟩ ⟨j4,m2⟩=.ok ⟨j25,m20⟩:=hz33.1
 have ga20:j25≤s.size:=hz33.2.at_
 have gm20:m2≤m20:=hz33.2.mono
 have gn20:m20≤100:=hz33.2.most (show m2≤100 by omega)
 refine (go 7) ?_
 refine zZ (α:=zB × Pz.St) (PT:=111) [Rb 114 p s j25 m20,.pub zN] [Row (.slice A1 Lg.totals.length cp1) 9 1 strE Lg.totals,.blk b6 [iV 3,iV 0,iV 0,.string wd1,Zs,Zs,Zs] 59,.blk b4 Zx 59] (fun z:zB × Pz.St=>.agg (zk z.1).toArray) (fun z32=>Pz.xpr s N ⟨j25,m20⟩=.ok (z32.1.e,z32.2)∧Pz.Good s ⟨j25,m20⟩ z32.2) (fun z32=>[Rb 114 p s z32.2.at_ z32.2.nd,.pub zN,okP zB.Ok z32.1]) _ (fun f29=>Pz.xpr s N ⟨j25,m20⟩=.no f29) (fun _=>rfl) (S9 [0,1,2,3,4]) (fun _=>rfl) wn rfl rfl call52 rfl (fun w1 Pb hG=>ih p s j25 m20 (d + 1) Pb w1 hG qO qO qO qO qO) ?_ fun z32 hz34=>?_
 ·intro f29 hf29
  refine zR (zV fun w1 hM=>?_)
  exact hM.ze f29 (by first | (simp only [Pz.then_ok,Pz.then_no,Pz.St.go,lgc,Pz.all,Pz.bys,Pz.allTail,zB.e,zB.es,hz1e,he1,hz4e,he2,g7,g8,he26,h1,hf29]; done) | simp [Pz.then_ok,Pz.then_no,Pz.St.go,lgc,Pz.all,Pz.bys,Pz.allTail,zB.e,zB.es,hz1e,he1,hz4e,he2,g7,g8,he26,h1,hf29])
 obtain ⟨x4,j26,m21⟩:=z32
 have he27:Pz.xpr s N ⟨j25,m20⟩=.ok (x4.e,⟨j26,m21⟩):=hz34.1
 have ga21:j26≤s.size:=hz34.2.at_
 have gm21:m20≤m21:=hz34.2.mono
 have gn21:m21≤100:=hz34.2.most (show m20≤100 by omega)
 refine zy zk ([x4]:List zB) wn underlying57 inf59 rfl rfl rfl rfl qD qD rfl fun b78=>?_
 refine (go 7) ?_
 refine zZ (α:=Pz.St) (PT:=111) [Rb 114 p s j26 m21,.pub zN] [Row (.slice (some ⟨b78,0,none⟩) 1 1) 59 7 zk ([x4]:List zB),okP zB.Ok x4,Row (.slice A1 Lg.totals.length cp1) 9 1 strE Lg.totals,.blk b6 [iV 3,iV 0,iV 0,.string wd1,Zs,Zs,.slice (some ⟨b78,0,none⟩) 1 1] 59,.blk b4 Zx 59] (fun z:Pz.St=>.tuple #[]) (fun z33=>Pz.must s ⟨#[41]⟩ ⟨j26,m21⟩=.ok z33∧Pz.Good s ⟨j26,m21⟩ z33) (fun z33=>[Rb 114 p s z33.at_ z33.nd,.pub zN]) _ (fun f30=>Pz.must s ⟨#[41]⟩ ⟨j26,m21⟩=.no f30) (fun _=>rfl) (S9 [1,2,0,3,4,5,6]) (fun _=>rfl) wn rfl rfl call179 rfl (fun w1 Pb hG=>y7 p s j26 m21 ⟨#[41]⟩ Pb w1 hG qO qO qO ) ?_ fun z33 hz35=>?_
 ·intro f30 hf30
  refine zR (zV fun w1 hM=>?_)
  exact hM.ze f30 (by first | (simp only [Pz.then_ok,Pz.then_no,Pz.St.go,lgc,Pz.all,Pz.bys,Pz.allTail,zB.e,zB.es,hz1e,he1,hz4e,he2,g7,g8,he26,he27,h1,hf30]; done) | simp [Pz.then_ok,Pz.then_no,Pz.St.go,lgc,Pz.all,Pz.bys,Pz.allTail,zB.e,zB.es,hz1e,he1,hz4e,he2,g7,g8,he26,he27,h1,hf30])
 obtain ⟨j27,m22⟩:=z33
 have he28:Pz.must s ⟨#[41]⟩ ⟨j26,m21⟩=.ok ⟨j27,m22⟩:=hz35.1
 have ga22:j27≤s.size:=hz35.2.at_
 have gm22:m21≤m22:=hz35.2.mono
 have gn22:m22≤100:=hz35.2.most (show m21≤100 by omega)
 refine (go 6) ?_
 refine vB 2 0 encExprX rfl rfl (fp2) (vx (fun _ h=>h.exprG (k:=3) (n:=0) (r:=0) (wd:=wd1) (ms:=⟨none,0,[]⟩) (bs:=⟨none,0,[]⟩) (ks:=⟨(some ⟨b78,0,none⟩),1,([x4]:List zB)⟩) (fun _ _=>zD.zu _ _ _ _) (fun _ _=>zD.zu _ _ _ _) (fun _ pp=>pp.sl 2 rfl) (fun _ pp x hx=>by simp only [List.mem_cons,List.not_mem_nil,or_false] at hx; rcases hx with rfl <;> first | exact pp.at_ 3 _ rfl) (by first | decide | omega) (fun x hx=>by cases hx) (fun x hx=>by cases hx)) (zZ (α:=Unit) (PT:=111) [Rb 114 p s j27 m22,.pub zN] [okP zB.Ok (zB.mk 3 0 0 wd1 ⟨none,0,[]⟩ ⟨none,0,[]⟩ ⟨(some ⟨b78,0,none⟩),1,([x4]:List zB)⟩),slP 7 zk (.slice (some ⟨b78,0,none⟩) 1 1) ([x4]:List zB),okP zB.Ok x4,Row (.slice A1 Lg.totals.length cp1) 9 1 strE Lg.totals,.blk b6 [iV 3,iV 0,iV 0,.string wd1,Zs,Zs,.slice (some ⟨b78,0,none⟩) 1 1] 59,.blk b4 Zx 59] (fun _:Unit=>.agg (List.toArray [iV 3,iV 0,iV 0,.string wd1,Zs,Zs,.slice (some ⟨b78,0,none⟩) 1 1])) (fun z34=>m22 + 1≤100) (fun z34=>[Rb 114 p s j27 (m22 + 1),.pub zN]) _ (fun f31=>Pz.node ⟨j27,m22⟩=.no f31) (fun _=>rfl) (S9 [1,2,0,3,4,5,6,7]) (fun _=>rfl) wn rfl rfl call99 rfl (fun w1 Pb hG=>vm p s j27 m22 3 0 0 wd1 none 0 0 none 0 0 (some ⟨b78,0,none⟩) 1 1 Pb w1 hG qO qO qO) ?_ fun z34 hz36=>?_))
 ·intro f31 hf31
  refine zR (zV fun w1 hM=>?_)
  exact hM.ze f31 (by first | (simp only [Pz.then_ok,Pz.then_no,Pz.St.go,lgc,Pz.all,Pz.bys,Pz.allTail,zB.e,zB.es,hz1e,he1,hz4e,he2,g7,g8,he26,he27,he28,h1,hf31]; done) | simp [Pz.then_ok,Pz.then_no,Pz.St.go,lgc,Pz.all,Pz.bys,Pz.allTail,zB.e,zB.es,hz1e,he1,hz4e,he2,g7,g8,he26,he27,he28,h1,hf31])
 have he29:Pz.node ⟨j27,m22⟩=.ok ⟨j27,m22 + 1⟩:=Pz.node_yes hz36
 refine (go 4) (zX results181 fun w1 hM=>?_)
 have h9:Pz.all s (Pz.xpr s N) ⟨i,n⟩=.ok ((zB.mk 3 0 0 wd1 ⟨none,0,[]⟩ ⟨none,0,[]⟩ ⟨(some ⟨b78,0,none⟩),1,([x4]:List zB)⟩).e,⟨j27,(m22 + 1)⟩):=by first | (simp only [Pz.then_ok,Pz.then_no,Pz.St.go,lgc,Pz.all,Pz.bys,Pz.allTail,zB.e,zB.es,hz1e,he1,hz4e,he2,g7,g8,he26,he27,he28,he29,h1]; done) | simp [Pz.then_ok,Pz.then_no,Pz.St.go,lgc,Pz.all,Pz.bys,Pz.allTail,zB.e,zB.es,hz1e,he1,hz4e,he2,g7,g8,he26,he27,he28,he29,h1]
 exact hM.vf (((zB.mk 3 0 0 wd1 ⟨none,0,[]⟩ ⟨none,0,[]⟩ ⟨(some ⟨b78,0,none⟩),1,([x4]:List zB)⟩),⟨j27,(m22 + 1)⟩):zB × Pz.St) rfl ⟨h9,(Pz.all_fine (Pz.xpr_fine s N) hi).ok_ h9⟩ (fun h=>h.sel [0,1,2] qD rfl)
set_option maxHeartbeats 2000000 in
theorem c_factor (p:Nat) (s:ByteArray) (i:Nat) (n:Int) (d:Int) (N:Nat) (Pb:Nat→Prop) (w:World) (hG:Mem w ⟨fpOf [Rb 114 p s i n,.pub zN],Pb⟩ [Rb 114 p s i n,.pub zN] w) (hi:i≤s.size) (hs:s.size≤2000) (hn:0≤n∧n≤100) (hd:d + (N:Int)=21) (hd1:1≤d) (ih:∀ M,N=M + 1→XprC M) :
    Calls prog 147 #[.pointer (some ⟨p,0,none⟩),iV d] w (RetX w [Rb 114 p s i n,.pub zN] Pb 111 (fun z:zB × Pz.St=>.agg (zk z.1).toArray) (fun z=>Pz.fac s N ⟨i,n⟩=.ok (z.1.e,z.2)∧Pz.Good s ⟨i,n⟩ z.2) (fun z=>[Rb 114 p s z.2.at_ z.2.nd,.pub zN,okP zB.Ok z.1]) (fun f=>Pz.fac s N ⟨i,n⟩=.no f)):=by
 refine zq (N:=57) func147 hG ?_
 refine (go 2) (zw fun b4=>?_)
 refine (go 9) (zW (fun h1=>?_) fun h1=>?_)
 ·refine (go 2) ?_
  refine zZ (α:=Unit) (PT:=111) [Rb 114 p s i n,.pub zN] [.blk b4 Zx 59] (fun _:Unit=>.tuple #[]) (fun z1=>False) (fun z1=>[Rb 114 p s i n,.pub zN]) _ (fun f1=>f1=(4,(i:Int))) (fun _=>rfl) (S9 [1,2,0]) (fun _=>rfl) wn rfl rfl call54 rfl (fun w1 Pb hG=>yl p s i n 4 Pb w1 hG) ?_ fun z1 hz1=>?_
  ·intro f1 hf1
   refine zR (zV fun w1 hM=>?_)
   exact hM.ze f1 (by rw [show N=0 by omega,hf1]; rfl)
  exact hz1.elim
 obtain ⟨M,rfl⟩:∃ M,N=M + 1:=⟨N - 1,by omega⟩
 refine (go 6) ?_
 refine zg (α:=(Bool × Nat)) [Rb 114 p s i n,.pub zN] [.blk b4 Zx 59] (fun z:Bool × Nat=>.bool z.1) (fun z2=>(Pz.eat s ⟨#[40]⟩ i=z2∧i≤z2.2∧z2.2≤s.size)) (fun z2=>[Rb 114 p s z2.2 n,.pub zN]) _ (fun _=>rfl) (S9 [1,2,0]) (fun _=>rfl) wn rfl rfl call98 rfl (fun w1 Pb hG=>vq p s i n ⟨#[40]⟩ Pb w1 hG qO qO) fun z2 hz2=>?_
 obtain ⟨bo1,j1⟩:=z2
 have he1:Pz.eat s ⟨#[40]⟩ i=(bo1,j1):=hz2.1
 have hz2a:i≤j1:=hz2.2.1
 have hz2b:j1≤s.size:=hz2.2.2
 refine vC (.bool bo1) ?_
 refine (go 2) (yg (fun h2=>?_) fun h2=>?_)
 ·refine (go 5) ?_
  refine zZ (α:=zB × Pz.St) (PT:=111) [Rb 114 p s j1 n,.pub zN] [.blk b4 Zx 59] (fun z:zB × Pz.St=>.agg (zk z.1).toArray) (fun z3=>Pz.xpr s M ⟨j1,n⟩=.ok (z3.1.e,z3.2)∧Pz.Good s ⟨j1,n⟩ z3.2) (fun z3=>[Rb 114 p s z3.2.at_ z3.2.nd,.pub zN,okP zB.Ok z3.1]) _ (fun f2=>Pz.xpr s M ⟨j1,n⟩=.no f2) (fun _=>rfl) (S9 [0,1,2]) (fun _=>rfl) wn rfl rfl call52 rfl (fun w1 Pb hG=>(ih M rfl) p s j1 n (d + 1) Pb w1 hG qO qO qO qO qO) ?_ fun z3 hz3=>?_
  ·intro f2 hf2
   refine zR (zR (zV fun w1 hM=>?_))
   exact hM.ze f2 (by first | (simp only [Pz.then_ok,Pz.then_no,Pz.St.go,lgc,Pz.fac_succ,Pz.factor,zB.e,zB.es,he1,h1,h2,hf2]; done) | simp [Pz.then_ok,Pz.then_no,Pz.St.go,lgc,Pz.fac_succ,Pz.factor,zB.e,zB.es,he1,h1,h2,hf2])
  obtain ⟨x1,j2,m1⟩:=z3
  have he2:Pz.xpr s M ⟨j1,n⟩=.ok (x1.e,⟨j2,m1⟩):=hz3.1
  have ga1:j2≤s.size:=hz3.2.at_
  have gm1:n≤m1:=hz3.2.mono
  have gn1:m1≤100:=hz3.2.most (show n≤100 by omega)
  refine zw fun b5=>?_
  refine (go 6) ?_
  refine zZ (α:=Pz.St) (PT:=111) [Rb 114 p s j2 m1,.pub zN] [.blk b5 [iV x1.kind,iV x1.n,iV x1.range,.string x1.word,.slice x1.ms.A x1.ms.l.length x1.ms.c,.slice x1.by_.A x1.by_.l.length x1.by_.c,.slice x1.kids.A x1.kids.l.length x1.kids.c] 59,okP zB.Ok x1,.blk b4 Zx 59] (fun z:Pz.St=>.tuple #[]) (fun z4=>Pz.must s ⟨#[41]⟩ ⟨j2,m1⟩=.ok z4∧Pz.Good s ⟨j2,m1⟩ z4) (fun z4=>[Rb 114 p s z4.at_ z4.nd,.pub zN]) _ (fun f3=>Pz.must s ⟨#[41]⟩ ⟨j2,m1⟩=.no f3) (fun _=>rfl) (S9 [1,2,0,3,4]) (fun _=>rfl) wn rfl rfl call179 rfl (fun w1 Pb hG=>y7 p s j2 m1 ⟨#[41]⟩ Pb w1 hG qO qO qO ) ?_ fun z4 hz4=>?_
  ·intro f3 hf3
   refine zR (zR (zV fun w1 hM=>?_))
   exact hM.ze f3 (by first | (simp only [Pz.then_ok,Pz.then_no,Pz.St.go,lgc,Pz.fac_succ,Pz.factor,zB.e,zB.es,he1,he2,h1,h2,hf3]; done) | simp [Pz.then_ok,Pz.then_no,Pz.St.go,lgc,Pz.fac_succ,Pz.factor,zB.e,zB.es,he1,he2,h1,h2,hf3])
  obtain ⟨j3,m2⟩:=z4
  have he3:Pz.must s ⟨#[41]⟩ ⟨j2,m1⟩=.ok ⟨j3,m2⟩:=hz4.1
  have ga2:j3≤s.size:=hz4.2.at_
  have gm2:m1≤m2:=hz4.2.mono
  have gn2:m2≤100:=hz4.2.most (show m1≤100 by omega)
  refine (go 10) (zX results147 fun w1 hM=>?_)
  have h9:Pz.fac s (M + 1) ⟨i,n⟩=.ok (x1.e,⟨j3,m2⟩):=by first | (simp only [Pz.then_ok,Pz.then_no,Pz.St.go,lgc,Pz.fac_succ,Pz.factor,zB.e,zB.es,he1,he2,he3,h1,h2]; done) | simp [Pz.then_ok,Pz.then_no,Pz.St.go,lgc,Pz.fac_succ,Pz.factor,zB.e,zB.es,he1,he2,he3,h1,h2]
  exact hM.vf ((x1,⟨j3,m2⟩):zB × Pz.St) rfl ⟨h9,(Pz.fac_fine s (M + 1) _ hi).ok_ h9⟩ (fun h=>h.sel [0,1,3] qD rfl)
 have g1:bo1=false:=by simpa using h2
 refine (go 5) ?_
 refine zg (α:=Nat) [Rb 114 p s j1 n,.pub zN] [.blk b4 Zx 59] (fun _=>.tuple #[]) (fun j4=>(Pz.blank s j1=j4∧j1≤j4∧j4≤s.size)) (fun j4=>[Rb 114 p s j4 n,.pub zN]) _ (fun _=>rfl) (S9 [0,1,2]) (fun _=>rfl) wn rfl rfl call53 rfl (fun w1 Pb hG=>vl p s j1 n Pb w1 hG qO qO) fun j4 hz5=>?_
 obtain ⟨hz5e,hz5a,hz5b⟩:=hz5
 refine (go 14) ?_
 refine zZ (α:=ByteArray × Pz.St) (PT:=111) [Rb 114 p s j4 n,.pub zN] [.blk b4 Zx 59] (fun z:ByteArray × Pz.St=>.string z.1) (fun z5=>Pz.word s ⟨j4,n⟩=.ok z5∧Pz.Good s ⟨j4,n⟩ z5.2) (fun z5=>[Rb 114 p s z5.2.at_ z5.2.nd,.pub zN]) _ (fun f4=>Pz.word s ⟨j4,n⟩=.no f4) (fun _=>rfl) (S9 [0,1,2]) (fun _=>rfl) wn rfl rfl call180 rfl (fun w1 Pb hG=>jV p s j4 n  Pb w1 hG qO qO qO ) ?_ fun z5 hz6=>?_
 ·intro f4 hf4
  refine zR (zV fun w1 hM=>?_)
  exact hM.ze f4 (by first | (simp only [Pz.then_ok,Pz.then_no,Pz.St.go,lgc,Pz.fac_succ,Pz.factor,zB.e,zB.es,he1,g1,hz5e,h1,h2,hf4]; done) | simp [Pz.then_ok,Pz.then_no,Pz.St.go,lgc,Pz.fac_succ,Pz.factor,zB.e,zB.es,he1,g1,hz5e,h1,h2,hf4])
 obtain ⟨wd1,j5,m3⟩:=z5
 have he4:Pz.word s ⟨j4,n⟩=.ok (wd1,⟨j5,m3⟩):=hz6.1
 have ga3:j5≤s.size:=hz6.2.at_
 have gm3:n≤m3:=hz6.2.mono
 have gn3:m3≤100:=hz6.2.most (show n≤100 by omega)
 have wz1:wd1.size≤12:=Pz.word_size (t:=⟨j4,n⟩) (show j4≤_ by omega) he4
 refine vC (.string wd1) ?_
 refine (go 12) (zW (fun h3=>?_) fun h3=>?_)
 ·have g2:(wd1=⟨#[97,108,108]⟩)=True:=eq_true h3
  refine (go 4) ?_
  refine zZ (α:=zB × Pz.St) (PT:=111) [Rb 114 p s j5 m3,.pub zN] [.blk b4 Zx 59] (fun z:zB × Pz.St=>.agg (zk z.1).toArray) (fun z6=>Pz.all s (Pz.xpr s M) ⟨j5,m3⟩=.ok (z6.1.e,z6.2)∧Pz.Good s ⟨j5,m3⟩ z6.2) (fun z6=>[Rb 114 p s z6.2.at_ z6.2.nd,.pub zN,okP zB.Ok z6.1]) _ (fun f5=>Pz.all s (Pz.xpr s M) ⟨j5,m3⟩=.no f5) (fun _=>rfl) (S9 [0,1,2]) (fun _=>rfl) wn rfl rfl call181 rfl (fun w1 Pb hG=>c_all p s j5 m3 d M Pb w1 hG qO qO qO qO qO (ih M rfl)) ?_ fun z6 hz7=>?_
  ·intro f5 hf5
   refine zR (yA (zR (zV fun w1 hM=>?_)))
   exact hM.ze f5 (by first | (simp only [Pz.then_ok,Pz.then_no,Pz.St.go,lgc,Pz.fac_succ,Pz.factor,zB.e,zB.es,he1,g1,hz5e,he4,g2,h1,h2,hf5]; done) | simp [Pz.then_ok,Pz.then_no,Pz.St.go,lgc,Pz.fac_succ,Pz.factor,zB.e,zB.es,he1,g1,hz5e,he4,g2,h1,h2,hf5])
  obtain ⟨x2,j6,m4⟩:=z6
  have he5:Pz.all s (Pz.xpr s M) ⟨j5,m3⟩=.ok (x2.e,⟨j6,m4⟩):=hz7.1
  have ga4:j6≤s.size:=hz7.2.at_
  have gm4:m3≤m4:=hz7.2.mono
  have gn4:m4≤100:=hz7.2.most (show m3≤100 by omega)
  refine (go 6) (zX results147 fun w1 hM=>?_)
  have h9:Pz.fac s (M + 1) ⟨i,n⟩=.ok (x2.e,⟨j6,m4⟩):=by first | (simp only [Pz.then_ok,Pz.then_no,Pz.St.go,lgc,Pz.fac_succ,Pz.factor,zB.e,zB.es,he1,g1,hz5e,he4,g2,he5,h1,h2]; done) | simp [Pz.then_ok,Pz.then_no,Pz.St.go,lgc,Pz.fac_succ,Pz.factor,zB.e,zB.es,he1,g1,hz5e,he4,g2,he5,h1,h2]
  exact hM.vf ((x2,⟨j6,m4⟩):zB × Pz.St) rfl ⟨h9,(Pz.fac_fine s (M + 1) _ hi).ok_ h9⟩ (fun h=>h.sel [0,1,2] qD rfl)
 have g3:(wd1=⟨#[97,108,108]⟩)=False:=eq_false h3
 refine (go 7) (zW (fun h4=>?_) fun h4=>?_)
 ·have g4:(wd1=⟨#[]⟩)=True:=eq_true h4
  refine (go 4) ?_
  refine zZ (α:=Int × Pz.St) (PT:=111) [Rb 114 p s j5 m3,.pub zN] [.blk b4 Zx 59] (fun z:Int × Pz.St=>iV z.1) (fun z7=>Pz.num s 0 1000000 ⟨j5,m3⟩=.ok z7∧Pz.Good s ⟨j5,m3⟩ z7.2) (fun z7=>[Rb 114 p s z7.2.at_ z7.2.nd,.pub zN]) _ (fun f6=>Pz.num s 0 1000000 ⟨j5,m3⟩=.no f6) (fun _=>rfl) (S9 [0,1,2]) (fun _=>rfl) wn rfl rfl call182 rfl (fun w1 Pb hG=>c_num p s j5 m3 0 1000000 Pb w1 hG qO qO qO qO) ?_ fun z7 hz8=>?_
  ·intro f6 hf6
   refine zR (yA (zR (zV fun w1 hM=>?_)))
   exact hM.ze f6 (by first | (simp only [Pz.then_ok,Pz.then_no,Pz.St.go,lgc,Pz.fac_succ,Pz.factor,zB.e,zB.es,he1,g1,hz5e,he4,g3,g4,h1,h2,hf6]; done) | simp [Pz.then_ok,Pz.then_no,Pz.St.go,lgc,Pz.fac_succ,Pz.factor,zB.e,zB.es,he1,g1,hz5e,he4,g3,g4,h1,h2,hf6])
  obtain ⟨v1,j7,m5⟩:=z7
  have he6:Pz.num s 0 1000000 ⟨j5,m3⟩=.ok (v1,⟨j7,m5⟩):=hz8.1
  have ga5:j7≤s.size:=hz8.2.at_
  have gm5:m3≤m5:=hz8.2.mono
  have gn5:m5≤100:=hz8.2.most (show m3≤100 by omega)
  refine (go 1) ?_
  refine vx (fun _ h=>h.exprG (k:=1) (n:=v1) (r:=0) (wd:=⟨#[]⟩) (ms:=⟨none,0,[]⟩) (bs:=⟨none,0,[]⟩) (ks:=⟨none,0,[]⟩) (fun _ _=>zD.zu _ _ _ _) (fun _ _=>zD.zu _ _ _ _) (fun _ _=>zD.zu _ _ _ _) (fun _ _ x hx=>by cases hx) (by first | decide | omega) (fun x hx=>by cases hx) (fun x hx=>by cases hx)) (zZ (α:=Unit) (PT:=111) [Rb 114 p s j7 m5,.pub zN] [okP zB.Ok (zB.mk 1 v1 0 ⟨#[]⟩ ⟨none,0,[]⟩ ⟨none,0,[]⟩ ⟨none,0,[]⟩),.blk b4 Zx 59] (fun _:Unit=>.agg (List.toArray [iV 1,iV v1,iV 0,.string ⟨#[]⟩,Zs,Zs,Zs])) (fun z8=>m5 + 1≤100) (fun z8=>[Rb 114 p s j7 (m5 + 1),.pub zN]) _ (fun f7=>Pz.node ⟨j7,m5⟩=.no f7) (fun _=>rfl) (S9 [1,2,0,3]) (fun _=>rfl) wn rfl rfl call99 rfl (fun w1 Pb hG=>vm p s j7 m5 1 v1 0 ⟨#[]⟩ none 0 0 none 0 0 none 0 0 Pb w1 hG qO qO qO) ?_ fun z8 hz9=>?_)
  ·intro f7 hf7
   refine zR (yA (zR (zV fun w1 hM=>?_)))
   exact hM.ze f7 (by first | (simp only [Pz.then_ok,Pz.then_no,Pz.St.go,lgc,Pz.fac_succ,Pz.factor,zB.e,zB.es,he1,g1,hz5e,he4,g3,g4,he6,h1,h2,hf7]; done) | simp [Pz.then_ok,Pz.then_no,Pz.St.go,lgc,Pz.fac_succ,Pz.factor,zB.e,zB.es,he1,g1,hz5e,he4,g3,g4,he6,h1,h2,hf7])
  have he7:Pz.node ⟨j7,m5⟩=.ok ⟨j7,m5 + 1⟩:=Pz.node_yes hz9
  refine (go 6) (zX results147 fun w1 hM=>?_)
  have h9:Pz.fac s (M + 1) ⟨i,n⟩=.ok ((zB.mk 1 v1 0 ⟨#[]⟩ ⟨none,0,[]⟩ ⟨none,0,[]⟩ ⟨none,0,[]⟩).e,⟨j7,(m5 + 1)⟩):=by first | (simp only [Pz.then_ok,Pz.then_no,Pz.St.go,lgc,Pz.fac_succ,Pz.factor,zB.e,zB.es,he1,g1,hz5e,he4,g3,g4,he6,he7,h1,h2]; done) | simp [Pz.then_ok,Pz.then_no,Pz.St.go,lgc,Pz.fac_succ,Pz.factor,zB.e,zB.es,he1,g1,hz5e,he4,g3,g4,he6,he7,h1,h2]
  exact hM.vf (((zB.mk 1 v1 0 ⟨#[]⟩ ⟨none,0,[]⟩ ⟨none,0,[]⟩ ⟨none,0,[]⟩),⟨j7,(m5 + 1)⟩):zB × Pz.St) rfl ⟨h9,(Pz.fac_fine s (M + 1) _ hi).ok_ h9⟩ (fun h=>h.sel [0,1,2] qD rfl)
 have g5:(wd1=⟨#[]⟩)=False:=eq_false h4
 refine (go 2) ?_
 refine vP Agg.words wn rfl call33 rfl (fun w1 hM=>jD  w1) fun A1 cp1 hc1 hm1 hA1=>?_
 refine (go 1) ?_
 refine yF call150 wn rfl (fun w1 hM=>vX _ Agg.words wd1 w1 (RowSl encString hM 0 rfl)) ?_
 refine (go 4) (zW (fun h5=>?_) fun h5=>?_)
 ·refine (go 11) ?_
  refine zZ (α:=Unit) (PT:=111) [Rb 114 p s j4 m3,.pub zN] [Row (.slice A1 Agg.words.length cp1) 9 1 strE Agg.words,.blk b4 Zx 59] (fun _:Unit=>.tuple #[]) (fun z9=>False) (fun z9=>[Rb 114 p s j4 m3,.pub zN]) _ (fun f8=>f8=(7,(j4:Int))) (fun _=>rfl) (S9 [1,2,0,3]) (fun _=>rfl) wn rfl rfl call54 rfl (fun w1 Pb hG=>yl p s j4 m3 7 Pb w1 hG) ?_ fun z9 hz10=>?_
  ·intro f8 hf8
   refine yA (zR (zV fun w1 hM=>?_))
   exact hM.ze f8 (by first | (simp only [Pz.then_ok,Pz.then_no,Pz.St.go,lgc,Pz.fac_succ,Pz.factor,zB.e,zB.es,he1,g1,hz5e,he4,g3,g5,h1,h2,h5,hf8]; done) | simp [Pz.then_ok,Pz.then_no,Pz.St.go,lgc,Pz.fac_succ,Pz.factor,zB.e,zB.es,he1,g1,hz5e,he4,g3,g5,h1,h2,h5,hf8])
  exact hz10.elim
 refine (go 7) ?_
 refine zZ (α:=zB × Pz.St) (PT:=111) [Rb 114 p s j5 m3,.pub zN] [Row (.slice A1 Agg.words.length cp1) 9 1 strE Agg.words,.blk b4 Zx 59] (fun z:zB × Pz.St=>.agg (zk z.1).toArray) (fun z10=>Pz.window s wd1 ⟨j5,m3⟩=.ok (z10.1.e,z10.2)∧Pz.Good s ⟨j5,m3⟩ z10.2) (fun z10=>[Rb 114 p s z10.2.at_ z10.2.nd,.pub zN,okP zB.Ok z10.1]) _ (fun f9=>Pz.window s wd1 ⟨j5,m3⟩=.no f9) (fun _=>rfl) (S9 [1,2,0,3]) (fun _=>rfl) wn rfl rfl call183 rfl (fun w1 Pb hG=>c_window p s j5 m3 wd1 Pb w1 hG qO qO qO qO) ?_ fun z10 hz11=>?_
 ·intro f9 hf9
  refine zR (zV fun w1 hM=>?_)
  exact hM.ze f9 (by first | (simp only [Pz.then_ok,Pz.then_no,Pz.St.go,lgc,Pz.fac_succ,Pz.factor,zB.e,zB.es,he1,g1,hz5e,he4,g3,g5,h1,h2,h5,hf9]; done) | simp [Pz.then_ok,Pz.then_no,Pz.St.go,lgc,Pz.fac_succ,Pz.factor,zB.e,zB.es,he1,g1,hz5e,he4,g3,g5,h1,h2,h5,hf9])
 obtain ⟨x3,j8,m6⟩:=z10
 have he8:Pz.window s wd1 ⟨j5,m3⟩=.ok (x3.e,⟨j8,m6⟩):=hz11.1
 have ga6:j8≤s.size:=hz11.2.at_
 have gm6:m3≤m6:=hz11.2.mono
 have gn6:m6≤100:=hz11.2.most (show m3≤100 by omega)
 refine (go 4) (zX results147 fun w1 hM=>?_)
 have h9:Pz.fac s (M + 1) ⟨i,n⟩=.ok (x3.e,⟨j8,m6⟩):=by first | (simp only [Pz.then_ok,Pz.then_no,Pz.St.go,lgc,Pz.fac_succ,Pz.factor,zB.e,zB.es,he1,g1,hz5e,he4,g3,g5,he8,h1,h2,h5]; done) | simp [Pz.then_ok,Pz.then_no,Pz.St.go,lgc,Pz.fac_succ,Pz.factor,zB.e,zB.es,he1,g1,hz5e,he4,g3,g5,he8,h1,h2,h5]
 exact hM.vf ((x3,⟨j8,m6⟩):zB × Pz.St) rfl ⟨h9,(Pz.fac_fine s (M + 1) _ hi).ok_ h9⟩ (fun h=>h.sel [0,1,2] qD rfl)
set_option maxHeartbeats 2000000 in
theorem c_term (p:Nat) (s:ByteArray) (i:Nat) (n:Int) (d:Int) (N:Nat) (Pb:Nat→Prop) (w:World) (hG:Mem w ⟨fpOf [Rb 114 p s i n,.pub zN],Pb⟩ [Rb 114 p s i n,.pub zN] w) (hi:i≤s.size) (hs:s.size≤2000) (hn:0≤n∧n≤100) (hd:d + (N:Int)=21) (hd1:1≤d) (ih:FacC N) :
    Calls prog 97 #[.pointer (some ⟨p,0,none⟩),iV d] w (RetX w [Rb 114 p s i n,.pub zN] Pb 111 (fun z:zB × Pz.St=>.agg (zk z.1).toArray) (fun z=>Pz.trm s N ⟨i,n⟩=.ok (z.1.e,z.2)∧Pz.Good s ⟨i,n⟩ z.2) (fun z=>[Rb 114 p s z.2.at_ z.2.nd,.pub zN,okP zB.Ok z.1]) (fun f=>Pz.trm s N ⟨i,n⟩=.no f)):=by
 refine zq (N:=22) func97 hG ?_
 refine (go 2) (zw fun b4=>?_)
 refine (go 6) ?_
 refine zZ (α:=zB × Pz.St) (PT:=111) [Rb 114 p s i n,.pub zN] [.blk b4 Zx 59] (fun z:zB × Pz.St=>.agg (zk z.1).toArray) (fun z1=>Pz.fac s N ⟨i,n⟩=.ok (z1.1.e,z1.2)∧Pz.Good s ⟨i,n⟩ z1.2) (fun z1=>[Rb 114 p s z1.2.at_ z1.2.nd,.pub zN,okP zB.Ok z1.1]) _ (fun f1=>Pz.fac s N ⟨i,n⟩=.no f1) (fun _=>rfl) (S9 [1,2,0]) (fun _=>rfl) wn rfl rfl call147 rfl (fun w1 Pb hG=>ih p s i n d Pb w1 hG qO qO qO qO qO) ?_ fun z1 hz1=>?_
 ·intro f1 hf1
  refine zR (zV fun w1 hM=>?_)
  exact hM.ze f1 (by first | (simp only [Pz.then_ok,Pz.then_no,Pz.St.go,lgc,Pz.trm,Pz.sumOf,hf1]; done) | simp [Pz.then_ok,Pz.then_no,Pz.St.go,lgc,Pz.trm,Pz.sumOf,hf1])
 obtain ⟨x1,j1,m1⟩:=z1
 have he1:Pz.fac s N ⟨i,n⟩=.ok (x1.e,⟨j1,m1⟩):=hz1.1
 have ga1:j1≤s.size:=hz1.2.at_
 have gm1:n≤m1:=hz1.2.mono
 have gn1:m1≤100:=hz1.2.most (show n≤100 by omega)
 refine zw fun b5=>?_
 refine (go 5) ?_
 refine vO (fun (x:zB) (k:Nat) (m:Int) (q:Nat)=>[(0,.pointer (some ⟨p,0,none⟩)),(1,iV d),(4,.pointer (some ⟨b4,0,none⟩)),(5,.pointer (some ⟨b5,0,none⟩))]) (fun (x:zB) (k:Nat) (m:Int) (q:Nat)=>[.blk b5 [iV x.kind,iV x.n,iV x.range,.string x.word,.slice x.ms.A x.ms.l.length x.ms.c,.slice x.by_.A x.by_.l.length x.by_.c,.slice x.kids.A x.kids.l.length x.kids.c] 59,Rb 114 p s k m,.pub zN,okP zB.Ok x,.blk b4 Zx 59]) (fun (x:zB) (k:Nat) (m:Int) (q:Nat)=>Pz.binL s (Pz.fac s N) Pz.star 101 x1.e ⟨j1,m1⟩=Pz.binL s (Pz.fac s N) Pz.star (q + 1) x.e ⟨k,m⟩∧k≤s.size∧0≤m∧m≤100∧(100:Int)≤(q:Int) + m) (fun (x:zB) (k:Nat) (m:Int) (q:Nat)=>q) x1 j1 m1 100 (sc rfl (sc rfl (sc rfl (sc rfl sn)))) (fun _ h=>h) ?_ (fun x k m q hI1=>?_)
 ·exact ⟨rfl,by omega,by omega,by omega,by omega⟩
 refine (go 4) ?_
 refine zg (α:=(Bool × Nat)) [Rb 114 p s k m,.pub zN] [.blk b5 [iV x.kind,iV x.n,iV x.range,.string x.word,.slice x.ms.A x.ms.l.length x.ms.c,.slice x.by_.A x.by_.l.length x.by_.c,.slice x.kids.A x.kids.l.length x.kids.c] 59,okP zB.Ok x,.blk b4 Zx 59] (fun z:Bool × Nat=>.bool z.1) (fun z2=>(Pz.eat s ⟨#[42]⟩ k=z2∧k≤z2.2∧z2.2≤s.size)) (fun z2=>[Rb 114 p s z2.2 m,.pub zN]) _ (fun _=>rfl) (S9 [1,2,0,3,4]) (fun _=>rfl) wn rfl rfl call98 rfl (fun w1 Pb hG=>vq p s k m ⟨#[42]⟩ Pb w1 hG qO qO) fun z2 hz2=>?_
 obtain ⟨bo1,j2⟩:=z2
 have he2:Pz.eat s ⟨#[42]⟩ k=(bo1,j2):=hz2.1
 have hz2a:k≤j2:=hz2.2.1
 have hz2b:j2≤s.size:=hz2.2.2
 refine vC (.bool bo1) ?_
 refine (go 2) (yg (fun h1=>?_) fun h1=>?_)
 ·refine (go 7) ?_
  refine zZ (α:=zB × Pz.St) (PT:=111) [Rb 114 p s j2 m,.pub zN] [.blk b5 [iV x.kind,iV x.n,iV x.range,.string x.word,.slice x.ms.A x.ms.l.length x.ms.c,.slice x.by_.A x.by_.l.length x.by_.c,.slice x.kids.A x.kids.l.length x.kids.c] 59,okP zB.Ok x,.blk b4 Zx 59] (fun z:zB × Pz.St=>.agg (zk z.1).toArray) (fun z3=>Pz.fac s N ⟨j2,m⟩=.ok (z3.1.e,z3.2)∧Pz.Good s ⟨j2,m⟩ z3.2) (fun z3=>[Rb 114 p s z3.2.at_ z3.2.nd,.pub zN,okP zB.Ok z3.1]) _ (fun f2=>Pz.fac s N ⟨j2,m⟩=.no f2) (fun _=>rfl) (S9 [0,1,2,3,4]) (fun _=>rfl) wn rfl rfl call147 rfl (fun w1 Pb hG=>ih p s j2 m d Pb w1 hG qO qO qO qO qO) ?_ fun z3 hz3=>?_
  ·intro f2 hf2
   refine zR (yA (vV (yA (zR (zV fun w1 hM=>?_)))))
   have hY:=Pz.bin_next hI1.1 (Pz.star1 (by rw [he2,h1])) qD hf2
   rw [Pz.then_no] at hY
   exact hM.ze f2 (by simp only [Pz.then_ok,Pz.then_no,Pz.St.go,lgc,Pz.trm,Pz.sumOf,he1,hY])
  obtain ⟨x2,j3,m2⟩:=z3
  have he3:Pz.fac s N ⟨j2,m⟩=.ok (x2.e,⟨j3,m2⟩):=hz3.1
  have ga2:j3≤s.size:=hz3.2.at_
  have gm2:m≤m2:=hz3.2.mono
  have gn2:m2≤100:=hz3.2.most (show m≤100 by omega)
  refine zw fun b6=>?_
  refine (go 7) ?_
  refine zy zk ([x,x2]:List zB) wn underlying57 inf59 rfl rfl rfl rfl qD qD rfl fun b18=>?_
  refine (go 1) ?_
  refine vB 0 2 encExprX rfl rfl (fp2) (vx (fun _ h=>h.exprG (k:=4) (n:=0) (r:=0) (wd:=⟨#[42]⟩) (ms:=⟨none,0,[]⟩) (bs:=⟨none,0,[]⟩) (ks:=⟨(some ⟨b18,0,none⟩),2,([x,x2]:List zB)⟩) (fun _ _=>zD.zu _ _ _ _) (fun _ _=>zD.zu _ _ _ _) (fun _ pp=>pp.sl 0 rfl) (fun _ pp x hx=>by simp only [List.mem_cons,List.not_mem_nil,or_false] at hx; rcases hx with rfl | rfl <;> first | exact pp.at_ 6 _ rfl | exact pp.at_ 4 _ rfl) (by first | decide | omega) (fun x hx=>by cases hx) (fun x hx=>by cases hx)) (zZ (α:=Unit) (PT:=111) [Rb 114 p s j3 m2,.pub zN] [okP zB.Ok (zB.mk 4 0 0 ⟨#[42]⟩ ⟨none,0,[]⟩ ⟨none,0,[]⟩ ⟨(some ⟨b18,0,none⟩),2,([x,x2]:List zB)⟩),slP 7 zk (.slice (some ⟨b18,0,none⟩) 2 2) ([x,x2]:List zB),.blk b6 [iV x2.kind,iV x2.n,iV x2.range,.string x2.word,.slice x2.ms.A x2.ms.l.length x2.ms.c,.slice x2.by_.A x2.by_.l.length x2.by_.c,.slice x2.kids.A x2.kids.l.length x2.kids.c] 59,okP zB.Ok x2,.blk b5 [iV x.kind,iV x.n,iV x.range,.string x.word,.slice x.ms.A x.ms.l.length x.ms.c,.slice x.by_.A x.by_.l.length x.by_.c,.slice x.kids.A x.kids.l.length x.kids.c] 59,okP zB.Ok x,.blk b4 Zx 59] (fun _:Unit=>.agg (List.toArray [iV 4,iV 0,iV 0,.string ⟨#[42]⟩,Zs,Zs,.slice (some ⟨b18,0,none⟩) 2 2])) (fun z4=>m2 + 1≤100) (fun z4=>[Rb 114 p s j3 (m2 + 1),.pub zN]) _ (fun f3=>Pz.node ⟨j3,m2⟩=.no f3) (fun _=>rfl) (S9 [3,4,0,1,2,5,6,7,8]) (fun _=>rfl) wn rfl rfl call99 rfl (fun w1 Pb hG=>vm p s j3 m2 4 0 0 ⟨#[42]⟩ none 0 0 none 0 0 (some ⟨b18,0,none⟩) 2 2 Pb w1 hG qO qO qO) ?_ fun z4 hz4=>?_))
  ·intro f3 hf3
   refine yA (vV (yA (zR (zV fun w1 hM=>?_))))
   have hY:=Pz.bin_next hI1.1 (Pz.star1 (by rw [he2,h1])) qD he3
   simp only [Pz.then_ok,hf3,Pz.then_no] at hY
   exact hM.ze f3 (by simp only [Pz.then_ok,Pz.then_no,Pz.St.go,lgc,Pz.trm,Pz.sumOf,he1,hY])
  have he4:Pz.node ⟨j3,m2⟩=.ok ⟨j3,m2 + 1⟩:=Pz.node_yes hz4
  refine (go 1) ?_
  refine zT (yK (yb (zB.mk 4 0 0 ⟨#[42]⟩ ⟨none,0,[]⟩ ⟨none,0,[]⟩ ⟨(some ⟨b18,0,none⟩),2,([x,x2]:List zB)⟩) j3 (m2 + 1) (q - 1) (sc rfl (sc rfl (sc rfl (sc rfl sn)))) (S9 [6,0,1,2,8]) ?_ ?_))
  ·have hY:=Pz.bin_next hI1.1 (Pz.star1 (by rw [he2,h1])) qD he3
   simp only [Pz.then_ok,he4] at hY
   exact ⟨hY.trans (by rw [show q - 1 + 1=q by omega]; rfl),by omega,by omega,by omega,by omega⟩
  omega
 have g1:bo1=false:=by simpa using h1
 refine (go 12) (zX results97 fun w1 hM=>?_)
 have h9:Pz.trm s N ⟨i,n⟩=.ok (x.e,⟨j2,m⟩):=by simp only [Pz.then_ok,Pz.then_no,Pz.St.go,lgc,Pz.trm,Pz.sumOf,he1,Pz.bin_done hI1.1 (Pz.star0 (by rw [he2,g1]))]
 exact hM.vf ((x,⟨j2,m⟩):zB × Pz.St) rfl ⟨h9,(Pz.trm_fine s N _ hi).ok_ h9⟩ (fun h=>h.sel [0,1,3] qD rfl)
set_option maxHeartbeats 2000000 in
theorem c_expr (p:Nat) (s:ByteArray) (i:Nat) (n:Int) (d:Int) (N:Nat) (Pb:Nat→Prop) (w:World) (hG:Mem w ⟨fpOf [Rb 114 p s i n,.pub zN],Pb⟩ [Rb 114 p s i n,.pub zN] w) (hi:i≤s.size) (hs:s.size≤2000) (hn:0≤n∧n≤100) (hd:d + (N:Int)=21) (hd1:1≤d) (ih:TrmC N) :
    Calls prog 52 #[.pointer (some ⟨p,0,none⟩),iV d] w (RetX w [Rb 114 p s i n,.pub zN] Pb 111 (fun z:zB × Pz.St=>.agg (zk z.1).toArray) (fun z=>Pz.xpr s N ⟨i,n⟩=.ok (z.1.e,z.2)∧Pz.Good s ⟨i,n⟩ z.2) (fun z=>[Rb 114 p s z.2.at_ z.2.nd,.pub zN,okP zB.Ok z.1]) (fun f=>Pz.xpr s N ⟨i,n⟩=.no f)):=by
 refine zq (N:=28) func52 hG ?_
 refine (go 2) (zw fun b4=>?_)
 refine (go 6) ?_
 refine zZ (α:=zB × Pz.St) (PT:=111) [Rb 114 p s i n,.pub zN] [.blk b4 Zx 59] (fun z:zB × Pz.St=>.agg (zk z.1).toArray) (fun z1=>Pz.trm s N ⟨i,n⟩=.ok (z1.1.e,z1.2)∧Pz.Good s ⟨i,n⟩ z1.2) (fun z1=>[Rb 114 p s z1.2.at_ z1.2.nd,.pub zN,okP zB.Ok z1.1]) _ (fun f1=>Pz.trm s N ⟨i,n⟩=.no f1) (fun _=>rfl) (S9 [1,2,0]) (fun _=>rfl) wn rfl rfl call97 rfl (fun w1 Pb hG=>ih p s i n d Pb w1 hG qO qO qO qO qO) ?_ fun z1 hz1=>?_
 ·intro f1 hf1
  refine zR (zV fun w1 hM=>?_)
  exact hM.ze f1 (by first | (simp only [Pz.then_ok,Pz.then_no,Pz.St.go,lgc,Pz.xpr,Pz.sumOf,hf1]; done) | simp [Pz.then_ok,Pz.then_no,Pz.St.go,lgc,Pz.xpr,Pz.sumOf,hf1])
 obtain ⟨x1,j1,m1⟩:=z1
 have he1:Pz.trm s N ⟨i,n⟩=.ok (x1.e,⟨j1,m1⟩):=hz1.1
 have ga1:j1≤s.size:=hz1.2.at_
 have gm1:n≤m1:=hz1.2.mono
 have gn1:m1≤100:=hz1.2.most (show n≤100 by omega)
 refine zw fun b5=>?_
 refine (go 4) ?_
 refine vO (fun (x:zB) (k:Nat) (m:Int) (q:Nat)=>[(0,.pointer (some ⟨p,0,none⟩)),(1,iV d),(4,.pointer (some ⟨b4,0,none⟩)),(5,.pointer (some ⟨b5,0,none⟩))]) (fun (x:zB) (k:Nat) (m:Int) (q:Nat)=>[.blk b5 [iV x.kind,iV x.n,iV x.range,.string x.word,.slice x.ms.A x.ms.l.length x.ms.c,.slice x.by_.A x.by_.l.length x.by_.c,.slice x.kids.A x.kids.l.length x.kids.c] 59,Rb 114 p s k m,.pub zN,okP zB.Ok x,.blk b4 Zx 59]) (fun (x:zB) (k:Nat) (m:Int) (q:Nat)=>Pz.binL s (Pz.trm s N) Pz.plus 101 x1.e ⟨j1,m1⟩=Pz.binL s (Pz.trm s N) Pz.plus (q + 1) x.e ⟨k,m⟩∧k≤s.size∧0≤m∧m≤100∧(100:Int)≤(q:Int) + m) (fun (x:zB) (k:Nat) (m:Int) (q:Nat)=>q) x1 j1 m1 100 (sc rfl (sc rfl (sc rfl (sc rfl sn)))) (fun _ h=>h) ?_ (fun x k m q hI1=>?_)
 ·exact ⟨rfl,by omega,by omega,by omega,by omega⟩
 refine (go 11) ?_
 refine zg (α:=(Bool × Nat)) [Rb 114 p s k m,.pub zN] [.blk b5 [iV x.kind,iV x.n,iV x.range,.string x.word,.slice x.ms.A x.ms.l.length x.ms.c,.slice x.by_.A x.by_.l.length x.by_.c,.slice x.kids.A x.kids.l.length x.kids.c] 59,okP zB.Ok x,.blk b4 Zx 59] (fun z:Bool × Nat=>.bool z.1) (fun z2=>(Pz.eat s ⟨#[43]⟩ k=z2∧k≤z2.2∧z2.2≤s.size)) (fun z2=>[Rb 114 p s z2.2 m,.pub zN]) _ (fun _=>rfl) (S9 [1,2,0,3,4]) (fun _=>rfl) wn rfl rfl call98 rfl (fun w1 Pb hG=>vq p s k m ⟨#[43]⟩ Pb w1 hG qO qO) fun z2 hz2=>?_
 obtain ⟨bo1,j2⟩:=z2
 have he2:Pz.eat s ⟨#[43]⟩ k=(bo1,j2):=hz2.1
 have hz2a:k≤j2:=hz2.2.1
 have hz2b:j2≤s.size:=hz2.2.2
 refine vC (.bool bo1) ?_
 refine (go 3) (yg (fun h1=>?_) fun h1=>?_)
 ·refine (go 9) ?_
  refine zZ (α:=zB × Pz.St) (PT:=111) [Rb 114 p s j2 m,.pub zN] [.blk b5 [iV x.kind,iV x.n,iV x.range,.string x.word,.slice x.ms.A x.ms.l.length x.ms.c,.slice x.by_.A x.by_.l.length x.by_.c,.slice x.kids.A x.kids.l.length x.kids.c] 59,okP zB.Ok x,.blk b4 Zx 59] (fun z:zB × Pz.St=>.agg (zk z.1).toArray) (fun z3=>Pz.trm s N ⟨j2,m⟩=.ok (z3.1.e,z3.2)∧Pz.Good s ⟨j2,m⟩ z3.2) (fun z3=>[Rb 114 p s z3.2.at_ z3.2.nd,.pub zN,okP zB.Ok z3.1]) _ (fun f2=>Pz.trm s N ⟨j2,m⟩=.no f2) (fun _=>rfl) (S9 [0,1,2,3,4]) (fun _=>rfl) wn rfl rfl call97 rfl (fun w1 Pb hG=>ih p s j2 m d Pb w1 hG qO qO qO qO qO) ?_ fun z3 hz3=>?_
  ·intro f2 hf2
   refine zR (yA (vV (yA (zV fun w1 hM=>?_))))
   have hY:=Pz.bin_next hI1.1 (Pz.plus1 (by rw [he2,h1])) qD hf2
   rw [Pz.then_no] at hY
   exact hM.ze f2 (by simp only [Pz.then_ok,Pz.then_no,Pz.St.go,lgc,Pz.xpr,Pz.sumOf,he1,hY])
  obtain ⟨x2,j3,m2⟩:=z3
  have he3:Pz.trm s N ⟨j2,m⟩=.ok (x2.e,⟨j3,m2⟩):=hz3.1
  have ga2:j3≤s.size:=hz3.2.at_
  have gm2:m≤m2:=hz3.2.mono
  have gn2:m2≤100:=hz3.2.most (show m≤100 by omega)
  refine zw fun b7=>?_
  refine (go 8) ?_
  refine zy zk ([x,x2]:List zB) wn underlying57 inf59 rfl rfl rfl rfl qD qD rfl fun b25=>?_
  refine (go 1) ?_
  refine vB 0 2 encExprX rfl rfl (fp2) (vx (fun _ h=>h.exprG (k:=4) (n:=0) (r:=0) (wd:=⟨#[43]⟩) (ms:=⟨none,0,[]⟩) (bs:=⟨none,0,[]⟩) (ks:=⟨(some ⟨b25,0,none⟩),2,([x,x2]:List zB)⟩) (fun _ _=>zD.zu _ _ _ _) (fun _ _=>zD.zu _ _ _ _) (fun _ pp=>pp.sl 0 rfl) (fun _ pp x hx=>by simp only [List.mem_cons,List.not_mem_nil,or_false] at hx; rcases hx with rfl | rfl <;> first | exact pp.at_ 6 _ rfl | exact pp.at_ 4 _ rfl) (by first | decide | omega) (fun x hx=>by cases hx) (fun x hx=>by cases hx)) (zZ (α:=Unit) (PT:=111) [Rb 114 p s j3 m2,.pub zN] [okP zB.Ok (zB.mk 4 0 0 ⟨#[43]⟩ ⟨none,0,[]⟩ ⟨none,0,[]⟩ ⟨(some ⟨b25,0,none⟩),2,([x,x2]:List zB)⟩),slP 7 zk (.slice (some ⟨b25,0,none⟩) 2 2) ([x,x2]:List zB),.blk b7 [iV x2.kind,iV x2.n,iV x2.range,.string x2.word,.slice x2.ms.A x2.ms.l.length x2.ms.c,.slice x2.by_.A x2.by_.l.length x2.by_.c,.slice x2.kids.A x2.kids.l.length x2.kids.c] 59,okP zB.Ok x2,.blk b5 [iV x.kind,iV x.n,iV x.range,.string x.word,.slice x.ms.A x.ms.l.length x.ms.c,.slice x.by_.A x.by_.l.length x.by_.c,.slice x.kids.A x.kids.l.length x.kids.c] 59,okP zB.Ok x,.blk b4 Zx 59] (fun _:Unit=>.agg (List.toArray [iV 4,iV 0,iV 0,.string ⟨#[43]⟩,Zs,Zs,.slice (some ⟨b25,0,none⟩) 2 2])) (fun z4=>m2 + 1≤100) (fun z4=>[Rb 114 p s j3 (m2 + 1),.pub zN]) _ (fun f3=>Pz.node ⟨j3,m2⟩=.no f3) (fun _=>rfl) (S9 [3,4,0,1,2,5,6,7,8]) (fun _=>rfl) wn rfl rfl call99 rfl (fun w1 Pb hG=>vm p s j3 m2 4 0 0 ⟨#[43]⟩ none 0 0 none 0 0 (some ⟨b25,0,none⟩) 2 2 Pb w1 hG qO qO qO) ?_ fun z4 hz4=>?_))
  ·intro f3 hf3
   refine yA (vV (yA (zV fun w1 hM=>?_)))
   have hY:=Pz.bin_next hI1.1 (Pz.plus1 (by rw [he2,h1])) qD he3
   simp only [Pz.then_ok,hf3,Pz.then_no] at hY
   exact hM.ze f3 (by simp only [Pz.then_ok,Pz.then_no,Pz.St.go,lgc,Pz.xpr,Pz.sumOf,he1,hY])
  have he4:Pz.node ⟨j3,m2⟩=.ok ⟨j3,m2 + 1⟩:=Pz.node_yes hz4
  refine (go 1) ?_
  refine zT (yK (yb (zB.mk 4 0 0 ⟨#[43]⟩ ⟨none,0,[]⟩ ⟨none,0,[]⟩ ⟨(some ⟨b25,0,none⟩),2,([x,x2]:List zB)⟩) j3 (m2 + 1) (q - 1) (sc rfl (sc rfl (sc rfl (sc rfl sn)))) (S9 [6,0,1,2,8]) ?_ ?_))
  ·have hY:=Pz.bin_next hI1.1 (Pz.plus1 (by rw [he2,h1])) qD he3
   simp only [Pz.then_ok,he4] at hY
   exact ⟨hY.trans (by rw [show q - 1 + 1=q by omega]; rfl),by omega,by omega,by omega,by omega⟩
  omega
 have g1:bo1=false:=by simpa using h1
 refine (go 3) ?_
 refine zg (α:=(Bool × Nat)) [Rb 114 p s j2 m,.pub zN] [.blk b5 [iV x.kind,iV x.n,iV x.range,.string x.word,.slice x.ms.A x.ms.l.length x.ms.c,.slice x.by_.A x.by_.l.length x.by_.c,.slice x.kids.A x.kids.l.length x.kids.c] 59,okP zB.Ok x,.blk b4 Zx 59] (fun z:Bool × Nat=>.bool z.1) (fun z5=>(Pz.eat s ⟨#[45]⟩ j2=z5∧j2≤z5.2∧z5.2≤s.size)) (fun z5=>[Rb 114 p s z5.2 m,.pub zN]) _ (fun _=>rfl) (S9 [0,1,2,3,4]) (fun _=>rfl) wn rfl rfl call98 rfl (fun w1 Pb hG=>vq p s j2 m ⟨#[45]⟩ Pb w1 hG qO qO) fun z5 hz5=>?_
 obtain ⟨bo2,j4⟩:=z5
 have he5:Pz.eat s ⟨#[45]⟩ j2=(bo2,j4):=hz5.1
 have hz5a:j2≤j4:=hz5.2.1
 have hz5b:j4≤s.size:=hz5.2.2
 refine vC (.bool bo2) ?_
 refine (go 3) (yg (fun h2=>?_) fun h2=>?_)
 ·refine (go 9) ?_
  refine zZ (α:=zB × Pz.St) (PT:=111) [Rb 114 p s j4 m,.pub zN] [.blk b5 [iV x.kind,iV x.n,iV x.range,.string x.word,.slice x.ms.A x.ms.l.length x.ms.c,.slice x.by_.A x.by_.l.length x.by_.c,.slice x.kids.A x.kids.l.length x.kids.c] 59,okP zB.Ok x,.blk b4 Zx 59] (fun z:zB × Pz.St=>.agg (zk z.1).toArray) (fun z6=>Pz.trm s N ⟨j4,m⟩=.ok (z6.1.e,z6.2)∧Pz.Good s ⟨j4,m⟩ z6.2) (fun z6=>[Rb 114 p s z6.2.at_ z6.2.nd,.pub zN,okP zB.Ok z6.1]) _ (fun f4=>Pz.trm s N ⟨j4,m⟩=.no f4) (fun _=>rfl) (S9 [0,1,2,3,4]) (fun _=>rfl) wn rfl rfl call97 rfl (fun w1 Pb hG=>ih p s j4 m d Pb w1 hG qO qO qO qO qO) ?_ fun z6 hz6=>?_
  ·intro f4 hf4
   refine zR (yA (vV (yA (zV fun w1 hM=>?_))))
   have hY:=Pz.bin_next hI1.1 (Pz.minus1 (by rw [he2,g1]) (by rw [he5,h2])) qD hf4
   rw [Pz.then_no] at hY
   exact hM.ze f4 (by simp only [Pz.then_ok,Pz.then_no,Pz.St.go,lgc,Pz.xpr,Pz.sumOf,he1,hY])
  obtain ⟨x3,j5,m3⟩:=z6
  have he6:Pz.trm s N ⟨j4,m⟩=.ok (x3.e,⟨j5,m3⟩):=hz6.1
  have ga3:j5≤s.size:=hz6.2.at_
  have gm3:m≤m3:=hz6.2.mono
  have gn3:m3≤100:=hz6.2.most (show m≤100 by omega)
  refine zw fun b7=>?_
  refine (go 8) ?_
  refine zy zk ([x,x3]:List zB) wn underlying57 inf59 rfl rfl rfl rfl qD qD rfl fun b25=>?_
  refine (go 1) ?_
  refine vB 0 2 encExprX rfl rfl (fp2) (vx (fun _ h=>h.exprG (k:=4) (n:=0) (r:=0) (wd:=⟨#[45]⟩) (ms:=⟨none,0,[]⟩) (bs:=⟨none,0,[]⟩) (ks:=⟨(some ⟨b25,0,none⟩),2,([x,x3]:List zB)⟩) (fun _ _=>zD.zu _ _ _ _) (fun _ _=>zD.zu _ _ _ _) (fun _ pp=>pp.sl 0 rfl) (fun _ pp x hx=>by simp only [List.mem_cons,List.not_mem_nil,or_false] at hx; rcases hx with rfl | rfl <;> first | exact pp.at_ 6 _ rfl | exact pp.at_ 4 _ rfl) (by first | decide | omega) (fun x hx=>by cases hx) (fun x hx=>by cases hx)) (zZ (α:=Unit) (PT:=111) [Rb 114 p s j5 m3,.pub zN] [okP zB.Ok (zB.mk 4 0 0 ⟨#[45]⟩ ⟨none,0,[]⟩ ⟨none,0,[]⟩ ⟨(some ⟨b25,0,none⟩),2,([x,x3]:List zB)⟩),slP 7 zk (.slice (some ⟨b25,0,none⟩) 2 2) ([x,x3]:List zB),.blk b7 [iV x3.kind,iV x3.n,iV x3.range,.string x3.word,.slice x3.ms.A x3.ms.l.length x3.ms.c,.slice x3.by_.A x3.by_.l.length x3.by_.c,.slice x3.kids.A x3.kids.l.length x3.kids.c] 59,okP zB.Ok x3,.blk b5 [iV x.kind,iV x.n,iV x.range,.string x.word,.slice x.ms.A x.ms.l.length x.ms.c,.slice x.by_.A x.by_.l.length x.by_.c,.slice x.kids.A x.kids.l.length x.kids.c] 59,okP zB.Ok x,.blk b4 Zx 59] (fun _:Unit=>.agg (List.toArray [iV 4,iV 0,iV 0,.string ⟨#[45]⟩,Zs,Zs,.slice (some ⟨b25,0,none⟩) 2 2])) (fun z7=>m3 + 1≤100) (fun z7=>[Rb 114 p s j5 (m3 + 1),.pub zN]) _ (fun f5=>Pz.node ⟨j5,m3⟩=.no f5) (fun _=>rfl) (S9 [3,4,0,1,2,5,6,7,8]) (fun _=>rfl) wn rfl rfl call99 rfl (fun w1 Pb hG=>vm p s j5 m3 4 0 0 ⟨#[45]⟩ none 0 0 none 0 0 (some ⟨b25,0,none⟩) 2 2 Pb w1 hG qO qO qO) ?_ fun z7 hz7=>?_))
  ·intro f5 hf5
   refine yA (vV (yA (zV fun w1 hM=>?_)))
   have hY:=Pz.bin_next hI1.1 (Pz.minus1 (by rw [he2,g1]) (by rw [he5,h2])) qD he6
   simp only [Pz.then_ok,hf5,Pz.then_no] at hY
   exact hM.ze f5 (by simp only [Pz.then_ok,Pz.then_no,Pz.St.go,lgc,Pz.xpr,Pz.sumOf,he1,hY])
  have he7:Pz.node ⟨j5,m3⟩=.ok ⟨j5,m3 + 1⟩:=Pz.node_yes hz7
  refine (go 1) ?_
  refine zT (yK (yb (zB.mk 4 0 0 ⟨#[45]⟩ ⟨none,0,[]⟩ ⟨none,0,[]⟩ ⟨(some ⟨b25,0,none⟩),2,([x,x3]:List zB)⟩) j5 (m3 + 1) (q - 1) (sc rfl (sc rfl (sc rfl (sc rfl sn)))) (S9 [6,0,1,2,8]) ?_ ?_))
  ·have hY:=Pz.bin_next hI1.1 (Pz.minus1 (by rw [he2,g1]) (by rw [he5,h2])) qD he6
   simp only [Pz.then_ok,he7] at hY
   exact ⟨hY.trans (by rw [show q - 1 + 1=q by omega]; rfl),by omega,by omega,by omega,by omega⟩
  omega
 have g2:bo2=false:=by simpa using h2
 refine (go 12) (zX results52 fun w1 hM=>?_)
 have h9:Pz.xpr s N ⟨i,n⟩=.ok (x.e,⟨j4,m⟩):=by simp only [Pz.then_ok,Pz.then_no,Pz.St.go,lgc,Pz.xpr,Pz.sumOf,he1,Pz.bin_done hI1.1 (Pz.plus0 (by rw [he2,g1]) (by rw [he5,g2]))]
 exact hM.vf ((x,⟨j4,m⟩):zB × Pz.St) rfl ⟨h9,(Pz.xpr_fine s N _ hi).ok_ h9⟩ (fun h=>h.sel [0,1,3] qD rfl)
theorem trm_of {N:Nat} (ih:FacC N):TrmC N:=fun p s i n d Pb w hG hi hs hn hd hd1=>c_term p s i n d N Pb w hG hi hs hn hd hd1 ih
theorem xpr_of {N:Nat} (ih:TrmC N):XprC N:=fun p s i n d Pb w hG hi hs hn hd hd1=>c_expr p s i n d N Pb w hG hi hs hn hd hd1 ih
theorem fac_all:∀ N,FacC N
  | 0=>fun p s i n d Pb w hG hi hs hn hd hd1=>c_factor p s i n d 0 Pb w hG hi hs hn hd hd1 (fun M h=>by omega)
  | N + 1=>fun p s i n d Pb w hG hi hs hn hd hd1=>c_factor p s i n d (N + 1) Pb w hG hi hs hn hd hd1 (fun M h=>by obtain rfl:N=M:=qO; exact xpr_of (trm_of (fac_all N)))
theorem xpr_all (N:Nat):XprC N:=xpr_of (trm_of (fac_all N))
end
section
namespace Ex
set_option linter.unusedVariables false
@[reducible] def dfr (f:Nat) (cap:List Value):Deferred:={ target:=.fn (.func f) cap.toArray,args:=#[] }
section
variable {P:Program} {N:Nat} {D:List Deferred} {E E':Env} {S S':World→Prop} {Q:Exit→Act→World→Prop} {K:Act→World→Prop} {w0 w w':World} {M:Fp} {L A A' R L':List Own} {Pb:Nat→Prop}
  {ops:Array Oper} {rest:List Oper} {d:Nat} {ty T PT:TypeId} {pos:String} {aft:Array Edge} {g:Option (Nat × Bool)} {v u:Value} {x y:Operand}
theorem fstartD {f:Nat} {fn:Func} {c:Code} {vals:List Value} {w:World} {R:Ending→World→Prop} (hf:P.funcs[f]?=some fn) (hb:fn.body=some c) (hn:fn.ntmps=N) (hl:Nat.ble vals.length N=true)
    (hS:S w) (h:WC P N [] c (bodyPostD P fn R) (envOf 0 vals) S):Calls P f vals.toArray w R:=by
  refine calls_of_wp_defers hf hb (h w hS _ ⟨rfl,?_,fun t v hv=>?_⟩)
  · have:=Nat.le_of_ble_eq_true hl
    simp [hn]; omega
  · rw [look_envOf,if_neg qO] at hv
    simp only [Nat.sub_zero] at hv
    have hlt:t < vals.length:=(List.getElem?_eq_some_iff.1 hv).1
    rw [Array.getElem?_append_left (by simpa using hlt)]
    simpa using hv
theorem c_seqD {x y:Code} (h:∀ K:Act→World→Prop,(∀ D' E S,WC P N D' y Q E S→∀ w,S w→∀ a,Has N D' a E→K a w)→WC P N D x (Exit.then K Q) E S):WC P N D (.seq x y) Q E S :=
  fun w hw a ha=>wp_seq (h (fun a w=>y.wp P Q a w) (fun _ _ _ h' w' hw' a' ha'=>h' w' hw' a' ha') w hw a ha)
theorem l_defer {f:Nat} {cap:List Value} (hw:Want N D ops E g true) (hx:ev E x=some (.func (.func f) #[] cap.toArray)) (h:WL P N (dfr f cap::D) ops Q rest E S):WL P N D ops Q (⟨none,.defer { callee:=.value x,args:=#[],argTypes:=#[] },ty,pos,aft,g⟩::rest) E S:=fun w hS a ha=>by
  unfold wpList
  rw [if_pos (hw _ rfl a ha)]
  left
  unfold Oper.wp
  rw [show (execOp a.eval ⟨none,.defer { callee:=.value x,args:=#[],argTypes:=#[] },ty,pos,aft,g⟩).run P w=.ok (.defer (dfr f cap)) w from by unfold execOp; simp [ha.eval hx,resolve,Deferred.ofValue,dfr],Oper.upon_defer]
  exact h w hS _ ⟨by show _::a.defers=_; rw [ha.d],ha.n,ha.h⟩
section
variable {fn:Func} {R:Ending→World→Prop} {f:Nat} {cap:List Value} {r1 r2:ResultVar} {v1 v2:Value} {chain chain':List PanicEntry}
theorem res2 {a:Act} {w:World} (hr:fn.results=#[r1,r2]) (hv1:ResV P N D E S r1 v1) (hv2:ResV P N D E S r2 v2) (hS:S w) (ha:Has N D a E):(results fn a.tmps).run P w=.ok (.tuple #[v1,v2]) w:=by
  rw [results_eq,hr]; simp [hv1 w hS a ha,hv2 w hS a ha]
theorem e_retD0 {e:Exit} (he:e=.ret∨e=.normal) (hr:fn.results=#[r1,r2]) (hv1:ResV P N [] E S r1 v1) (hv2:ResV P N [] E S r2 v2) (hR:∀ w,S w→R (.returned (.tuple #[v1,v2])) w):WE N [] (bodyPostD P fn R) e E S:=fun w hS a ha=>by
  have h1:Leaves P fn a.tmps R a.defers .returning w:=by rw [ha.d]; exact ⟨_,res2 hr hv1 hv2 hS ha,hR w hS⟩
  rcases he with rfl | rfl <;> exact h1
theorem leave1 {a:Act} {w:World} {u u':FrameMode} (hu:u≠.run) (hcall:∀ vs w,(callFunc f vs).run P w=.ok (.enter f vs) w) (hu':settle u'=.returning)
    (hc:CallsD P f cap.toArray u w (fun e u2 w'=>u2=u'∧(∃ v,e=.returned v)∧S' w')) (hr:fn.results=#[r1,r2]) (hv1:ResV P N D E S' r1 v1) (hv2:ResV P N D E S' r2 v2) (hR:∀ w,S' w→R (.returned (.tuple #[v1,v2])) w) (ha:Has N D a E) (hD:D=[dfr f cap]):Leaves P fn a.tmps R a.defers u w:=by
  have hd:=ha.d
  rw [hd,hD]
  refine leaves_cons hu (f:=f) (args:=cap.toArray) (by simp [invoke,hcall]) (hc.mono ?_)
  rintro e u2 w2 ⟨rfl,⟨v,rfl⟩,hS2⟩
  show Leaves P fn a.tmps R [] (settle _) w2
  rw [hu']
  exact ⟨_,res2 hr hv1 hv2 hS2 ha,hR w2 hS2⟩
theorem e_retD {e:Exit} (he:e=.ret∨e=.normal) (hcall:∀ vs w,(callFunc f vs).run P w=.ok (.enter f vs) w) (hc:∀ w,S w→CallsD P f cap.toArray .returning w (fun e u' w'=>u'=.returning∧(∃ v,e=.returned v)∧S' w'))
    (hr:fn.results=#[r1,r2]) (hv1:ResV P N [dfr f cap] E S' r1 v1) (hv2:ResV P N [dfr f cap] E S' r2 v2) (hR:∀ w,S' w→R (.returned (.tuple #[v1,v2])) w):WE N [dfr f cap] (bodyPostD P fn R) e E S:=fun w hS a ha=>by
  have h1:=leave1 (u:=.returning) qS hcall (u':=.returning) rfl (hc w hS) hr hv1 hv2 hR ha rfl
  rcases he with rfl | rfl <;> exact h1
theorem jW (hcall:∀ vs w,(callFunc f vs).run P w=.ok (.enter f vs) w) (hc:∀ w,S w→CallsD P f cap.toArray (.panicking chain) w (fun e u' w'=>u'=.panicking chain'∧(∃ v,e=.returned v)∧S' w')) (hu:settle (.panicking chain')=.returning)
    (hr:fn.results=#[r1,r2]) (hv1:ResV P N [dfr f cap] E S' r1 v1) (hv2:ResV P N [dfr f cap] E S' r2 v2) (hR:∀ w,S' w→R (.returned (.tuple #[v1,v2])) w):WE N [dfr f cap] (bodyPostD P fn R) (.panic chain) E S:=fun w hS a ha =>
  leave1 (u:=.panicking chain) qS hcall hu (hc w hS) hr hv1 hv2 hR ha rfl
end
theorem dgive {α:Type} {f:Nat} {cap:List Value} {u u2:FrameMode} (A R:List Own) (mk:α→Value) (A' L':List Own) (hL':A'++R=L') (hA:∀ w,Mem w0 M L w→Mem w0 M (A++R) w) (hq:A'.all (fun o=>o.mut || o.isPub)=true)
    (hc:∀ w Pb,Mem w ⟨fpOf A,Pb⟩ A w→CallsD P f cap.toArray u w (fun e u' w'=>u'=u2∧RetA w A Pb mk (fun _=>True) (fun _=>A') e w')):∀ w,Mem w0 M L w→CallsD P f cap.toArray u w (fun e u' w'=>u'=u2∧(∃ v,e=.returned v)∧Mem w0 M L' w'):=fun w hS=>by
  have hS':=hA w hS
  obtain ⟨Pb,pp⟩:=hS'.pb
  refine (hc w Pb (hS'.give pp)).mono ?_
  rintro e u' w' ⟨hu,z,rfl,_,hk⟩
  exact ⟨hu,⟨_,rfl⟩,by rw [← hL']; exact hS'.take pp hk hq⟩
theorem didle {f:Nat} {cap:List Value} (hc:∀ w,Mem w0 M L w→CallsD P f cap.toArray .returning w (fun e u' w'=>u'=.returning∧RetA w [] (fun _=>False) (fun _:Unit=>.tuple #[]) (fun _=>True) (fun _=>[]) e w')):∀ w,Mem w0 M L w→CallsD P f cap.toArray .returning w (fun e u' w'=>u'=.returning∧(∃ v,e=.returned v)∧Mem w0 M L w'):=fun w hS=>by
  refine (hc w hS).mono ?_
  rintro e u' w' ⟨hu,z,rfl,_,hk⟩
  exact ⟨hu,⟨_,rfl⟩,hS.keep (hk.fr.mono fun b hb hm=>by obtain ⟨o,ho,_⟩:=hm; cases ho)⟩
theorem memNil (w:World):Mem w ⟨fpOf [],fun _=>False⟩ [] w:=Mem.start w _
theorem dstart {f:Nat} {fn:Func} {id:Nat} {c:Code} {vals:List Value} {w:World} {R:Ending→World→Prop} {u u':FrameMode} {rv:Value} (hf:P.funcs[f]?=some fn) (hb:fn.body=some (.seq (.region id #[⟨some d,.call { callee:=.builtin .recover,args:=#[],argTypes:=#[] },ty,pos,aft,none⟩] false) c)) (hn:fn.ntmps=N) (hl:Nat.ble vals.length N=true) (hd:Nat.blt d N=true)
    (hu:(u=.returning∧u'=.returning∧rv=.nilIface)∨∃ older,u=.panicking ({ v:=rv,recovered:=false }::older)∧u'=.panicking ({ v:=rv,recovered:=true }::older))
    (hS:S w) (h:WC P N [] c (bodyPost P fn R) ((d,rv)::envOf 0 vals) S):CallsD P f vals.toArray u w (fun e u2 w'=>u2=u'∧R e w'):=by
  refine callsD_of_wpS hf hb fun c₀ cs hcu=>?_
  have ha:Has N [] ({ tmps:=vals.toArray++Array.replicate (fn.ntmps - vals.toArray.size) undef,defers:=[] }:Act) (envOf 0 vals):=by
    refine ⟨rfl,?_,fun t v hv=>?_⟩
    · have:=Nat.le_of_ble_eq_true hl
      simp [hn]; omega
    · rw [look_envOf,if_neg qO] at hv
      simp only [Nat.sub_zero] at hv
      have hlt:t < vals.length:=(List.getElem?_eq_some_iff.1 hv).1
      rw [Array.getElem?_append_left (by simpa using hlt)]
      simpa using hv
  refine wpS_seq (wpS_region ?_)
  have hrest:∀ cs':List Frame,cs'={ c₀ with mode:=u' }::cs→∀ (a:Act),Has N [] a ((d,rv)::envOf 0 vals)→c.wpS P (bodyPostS P fn c₀ cs fun e u2 w'=>u2=u'∧R e w') a cs' w:=fun cs' hcs a ha=>by
    refine wpS_of_wp (Code.wp_mono ?_ (h w hS a ha))
    intro e a' w' hq
    cases e with
    | normal=>obtain ⟨h1,v,h2,h3⟩:=hq; exact ⟨h1,u',hcs,v,h2,rfl,h3⟩
    | ret=>obtain ⟨h1,v,h2,h3⟩:=hq; exact ⟨h1,u',hcs,v,h2,rfl,h3⟩
    | panic ch=>obtain ⟨h1,h2⟩:=hq; exact ⟨h1,u',hcs,rfl,h2⟩
    | outgrown=>exact ⟨u',rfl,hq⟩
    | exit i=>exact hq
    | goto i=>exact hq
  have hrun:∀ a:Act,(execOp a.eval ⟨some d,.call { callee:=.builtin .recover,args:=#[],argTypes:=#[] },ty,pos,aft,none⟩).run P w=.ok .recover w:=fun a=>by
    unfold execOp; simp [resolve,invoke,builtin]
  rw [show List.range (#[(⟨some d,.call { callee:=.builtin .recover,args:=#[],argTypes:=#[] },ty,pos,aft,none⟩:Oper)]).size=[0] from rfl]
  simp only [wpOpsS,List.getElem?_toArray,List.getElem?_cons_zero,Region.wanted,if_true,hrun]
  rcases hu with ⟨rfl,rfl,rfl⟩ | ⟨older,rfl,rfl⟩
  · have hr:recoverD (c₀::cs)=none:=by simp [recoverD,hcu]
    simp only [hr]
    exact hrest _ (by rw [← hcu]) _ (ha.put _ hd)
  · have hr:recoverD (c₀::cs)=some (rv,{ c₀ with mode:=.panicking ({ v:=rv,recovered:=true }::older) }::cs):=by simp [recoverD,hcu]
    simp only [hr]
    exact hrest _ rfl _ (ha.put _ hd)
end
end Ex
end
section
open Tryz
open Ex
attribute [local irreducible] WC WL WQ WE WS
set_option linter.unusedVariables false
set_option linter.unusedSimpArgs false
theorem jF (b2 b3:Nat) (v0 v1 v2 v3 v4 v5 v6 u0 u1:Value) (er at_:Int) (Pb:Nat→Prop) (w:World) (hG:Mem w ⟨fpOf [.blk b2 [v0,v1,v2,v3,v4,v5,v6] 59,.blk b3 [u0,u1] 61],Pb⟩ [.blk b2 [v0,v1,v2,v3,v4,v5,v6] 59,.blk b3 [u0,u1] 61] w)  :
    CallsD prog 51 #[.pointer (some ⟨b2,0,none⟩),.pointer (some ⟨b3,0,none⟩)] (.panicking [{ v:=.iface 111 (.agg (List.toArray [iV er,iV at_])),recovered:=false }]) w (fun e u2 w2=>u2=.panicking [{ v:=.iface 111 (.agg (List.toArray [iV er,iV at_])),recovered:=true }]∧(RetA w [.blk b2 [v0,v1,v2,v3,v4,v5,v6] 59,.blk b3 [u0,u1] 61] Pb (fun _:Unit=>.tuple #[]) (fun _=>True) (fun _=>[.blk b2 [iV 0,iV 0,iV 0,.string (⟨#[]⟩:ByteArray),Zs,Zs,Zs] 59,.blk b3 [iV er,iV at_] 61])) e w2):=by
 refine dstart (N:=14) (vals:=[.pointer (some ⟨b2,0,none⟩),.pointer (some ⟨b3,0,none⟩)]) (S:=Mem w ⟨fpOf [.blk b2 [v0,v1,v2,v3,v4,v5,v6] 59,.blk b3 [u0,u1] 61],Pb⟩ [.blk b2 [v0,v1,v2,v3,v4,v5,v6] 59,.blk b3 [u0,u1] 61]) func51 rfl rfl rfl rfl (.inr ⟨[],rfl,rfl⟩) hG (vZ (jw fun _ hK1=>za (r_ieq rfl (.inr ⟨_,_,rfl⟩) underlying20) (y4 hK1 (yU rfl rfl (jw fun _ hK2=>za (r_tassert rfl underlying111) (za (uU rfl rfl) (za (uU rfl rfl) (y4 hK2 (yx rfl rfl ?_)))))))))
 refine jw fun _ hK3=>u5 wn inf111 rfl fun b3_1=>uw 0 wn rfl rfl rfl inf111 rfl rfl rfl (y4 hK3 (yM (Mem w ⟨fpOf [.blk b2 [v0,v1,v2,v3,v4,v5,v6] 59,.blk b3 [u0,u1] 61],Pb⟩ [.blk b3_1 [iV er,iV at_] 111]) mix (fun _ h=>h.drew) rfl (yN 2 [0,1,2] [0] rfl fun KS hKS=>uq (u4 Zx pl59 inf59 rfl rfl) (uq (uf rfl fld111_0) (uq (ja 0 [iV er,iV at_] rfl rfl rfl rfl agg61 inf61) (zi hKS (zf 1 3 (zh (i:=3) rfl fun KN hKN=>?_))))))))
 refine uw 1 wn rfl rfl rfl inf59 rfl rfl rfl (l_hk hKN [0] (zf 0 4 (zh (i:=4) rfl fun KN hKN=>uw 2 wn rfl rfl rfl inf61 rfl rfl rfl (l_hk hKN [0] (zz (by kernel_rfl) (yK (yo (.inr rfl) results51  fun w1 hM=>?_)))))))
 exact hM.yR () rfl trivial (fun h=>h.sel [1,2] qD rfl)
theorem c_idle (b2 b3:Nat) (Pb:Nat→Prop) (w:World) (hG:Mem w ⟨fpOf [],Pb⟩ [] w)  :
    CallsD prog 51 #[.pointer (some ⟨b2,0,none⟩),.pointer (some ⟨b3,0,none⟩)] .returning w (fun e u2 w2=>u2=.returning∧(RetA w [] Pb (fun _:Unit=>.tuple #[]) (fun _=>True) (fun _=>[])) e w2):=by
 refine dstart (N:=14) (vals:=[.pointer (some ⟨b2,0,none⟩),.pointer (some ⟨b3,0,none⟩)]) (S:=Mem w ⟨fpOf [],Pb⟩ []) func51 rfl rfl rfl rfl (.inl ⟨rfl,rfl,rfl⟩) hG (vZ (jw fun _ hK1=>za (r_ieq rfl (.inl rfl) underlying20) (y4 hK1 (yx rfl rfl (zr (ve rfl (zT (yK (yo (.inr rfl) results51  fun w1 hM=>?_)))))))))
 exact hM.yR () rfl trivial (fun h=>h.sel [] qD rfl)
theorem c_shapeB (x:zB) {w0 w:World} {M:Fp} {L:List Own} {hp b TB i j k:Nat} (hM:Mem w0 M L w) (hi:L[i]?=some (.blk hp [iV 0] 119)) (hj:L[j]?=some (.blk b (zk x) TB)) (hij:Nat.beq i j=false) (hk:L[k]?=some (okP zB.Ok x)) :
    Calls prog 55 #[.pointer (some ⟨hp,0,none⟩),.pointer (some ⟨b,0,none⟩),iV 1] w (RetM w hp 119 (iV (Lg.shape x.e 1 0).1) [iV (Lg.shape x.e 1 0).2]):=by
 obtain ⟨Pb,pp⟩:=hM.pb
 have hb:=(hM.ok j _ hj).2.1 b rfl
 have hne:b≠hp:=fun e=>hM.dj i j _ _ hi hj (Nat.ne_of_beq_eq_false hij) (.inl rfl) hp rfl (show hp=b from e.symm)
 refine c_shape x hp 0 ⟨b,0,none⟩ 1 (fun q=>q < w.heap.size∧q≠hp) w (hM.blk hi) (fun q hq=>hq) ⟨⟨hb,hne⟩,fun u v hv=>?_⟩ (zB.Ok.loc x Pb _ w w (fun q hq=>⟨pp.lt q hq,fun e=>pp.dj i _ hi rfl q hq e⟩) (fun _ _=>rfl) (pp.at_ k _ hk)) qO qO qO
 rw [add_lit]
 have:=hM.cell (j:=0 + u) hj
 rw [this]; simpa using hv
set_option maxHeartbeats 1000000 in
theorem c_parse (s:ByteArray) (P0:Nat→Prop) (w:World) (hP0:∀ b,P0 b→b < w.heap.size) (hE:zN P0 w)  :
    Calls prog 23 #[.string s] w (RetE w P0 (fun z:zB × Pz.F=>.tuple #[.agg (zk z.1).toArray,.agg #[iV z.2.1,iV z.2.2]]) (fun z=>Pz.parse s=(z.1.e,z.2)) (fun z S=>zB.Ok S z.1)):=by
 refine fstartD (N:=35) (vals:=[.string s]) (S:=Mem w ⟨no,P0⟩ [.pub zN]) func23 rfl rfl rfl (Mem.ofDatsP hP0 (dc (dp zN.loc hE) dn)) ?_
 refine (go 2) (zw fun b2=>zw fun b3=>?_)
 refine (go 10) (zW (fun h1=>?_) fun h1=>?_)
 ·refine (go 2) ?_
  refine za (u4 Zx pl59 inf59 rfl rfl) ?_
  refine (go 7) ?_
  refine e_retD0 (.inl rfl) results23 (y9 1 rfl rfl agg59 inf59 rfl) (y9 0 rfl rfl agg61 inf61 rfl) fun w1 hM=>?_
  exact hM.vD ((zB.mk 0 0 0 ⟨#[]⟩ ⟨none,0,[]⟩ ⟨none,0,[]⟩ ⟨none,0,[]⟩),(4,0)) rfl (Pz.parse_big h1) fun Pb pp=>Pz.okZero Pb w1
 refine (go 2) ?_
 refine c_seqD fun _ hK5=>?_
 refine (go 1) ?_
 refine za (yj rfl rfl) (l_defer wn rfl ?_)
 refine (go 1) ?_
 refine uy (hK5 _) ?_
 refine (go 4) (yu fun b13=>?_)
 refine (go 6) ?_
 refine zZ (α:=zB × Pz.St) (PT:=111) [.blk b13 [.string s,iV 0,iV 0] 114,.pub zN] [.blk b3 [iV 0,iV 0] 61,.blk b2 Zx 59] (fun z:zB × Pz.St=>.agg (zk z.1).toArray) (fun z1=>Pz.xpr s 20 ⟨0,0⟩=.ok (z1.1.e,z1.2)∧Pz.Good s ⟨0,0⟩ z1.2) (fun z1=>[Rb 114 b13 s z1.2.at_ z1.2.nd,.pub zN,okP zB.Ok z1.1]) _ (fun f1=>Pz.xpr s 20 ⟨0,0⟩=.no f1) (fun _=>rfl) (S9 [0,3,1,2]) (fun _=>rfl) wn rfl rfl call52 rfl (fun w1 Pb hG=>(xpr_all 20) b13 s 0 0 1 Pb w1 hG qO qO qO qO qO) ?_ fun z1 hz1=>?_
 ·intro f1 hf1
  refine zR (jW call51 (dgive [.blk b2 Zx 59,.blk b3 [iV 0,iV 0] 61] [] (fun _:Unit=>.tuple #[]) [.blk b2 [iV 0,iV 0,iV 0,.string (⟨#[]⟩:ByteArray),Zs,Zs,Zs] 59,.blk b3 [iV f1.1,iV f1.2] 61] [.blk b2 [iV 0,iV 0,iV 0,.string (⟨#[]⟩:ByteArray),Zs,Zs,Zs] 59,.blk b3 [iV f1.1,iV f1.2] 61] rfl (S9 [1,0]) rfl (fun w1 Pb hG=>jF b2 b3 (iV 0) (iV 0) (iV 0) (.string ⟨#[]⟩) (Zs) (Zs) (Zs) (iV 0) (iV 0) f1.1 f1.2 Pb w1 hG)) rfl results23 (y9 0 rfl rfl agg59 inf59 rfl) (y9 1 rfl rfl agg61 inf61 rfl) fun w1 hM=>?_)
  exact hM.vD ((zB.mk 0 0 0 ⟨#[]⟩ ⟨none,0,[]⟩ ⟨none,0,[]⟩ ⟨none,0,[]⟩),f1) rfl (Pz.parse_no h1 hf1) fun Pb pp=>Pz.okZero Pb w1
 obtain ⟨x1,j1,m1⟩:=z1
 have he1:Pz.xpr s 20 ⟨0,0⟩=.ok (x1.e,⟨j1,m1⟩):=hz1.1
 have ga1:j1≤s.size:=hz1.2.at_
 have gm1:0≤m1:=hz1.2.mono
 have gn1:m1≤100:=hz1.2.most (show 0≤100 by omega)
 refine (go 6) ?_
 refine zg (α:=Nat) [Rb 114 b13 s j1 m1,.pub zN] [okP zB.Ok x1,.blk b3 [iV 0,iV 0] 61,.blk b2 [iV x1.kind,iV x1.n,iV x1.range,.string x1.word,.slice x1.ms.A x1.ms.l.length x1.ms.c,.slice x1.by_.A x1.by_.l.length x1.by_.c,.slice x1.kids.A x1.kids.l.length x1.kids.c] 59] (fun _=>.tuple #[]) (fun j2=>(Pz.blank s j1=j2∧j1≤j2∧j2≤s.size)) (fun j2=>[Rb 114 b13 s j2 m1,.pub zN]) _ (fun _=>rfl) (S9 [0,1,2,3,4]) (fun _=>rfl) wn rfl rfl call53 rfl (fun w1 Pb hG=>vl b13 s j1 m1 Pb w1 hG qO qO) fun j2 hz2=>?_
 obtain ⟨hz2e,hz2a,hz2b⟩:=hz2
 refine (go 14) (zW (fun h2=>?_) fun h2=>?_)
 ·refine (go 2) ?_
  refine zZ (α:=Unit) (PT:=111) [Rb 114 b13 s j2 m1,.pub zN] [okP zB.Ok x1,.blk b3 [iV 0,iV 0] 61,.blk b2 [iV x1.kind,iV x1.n,iV x1.range,.string x1.word,.slice x1.ms.A x1.ms.l.length x1.ms.c,.slice x1.by_.A x1.by_.l.length x1.by_.c,.slice x1.kids.A x1.kids.l.length x1.kids.c] 59] (fun _:Unit=>.tuple #[]) (fun z2=>False) (fun z2=>[Rb 114 b13 s j2 m1,.pub zN]) _ (fun f2=>f2=(2,(j2:Int))) (fun _=>rfl) (S9 [0,1,2,3,4]) (fun _=>rfl) wn rfl rfl call54 rfl (fun w1 Pb hG=>yl b13 s j2 m1 2 Pb w1 hG) ?_ fun z2 hz3=>?_
  ·intro f2 hf2
   refine zR (jW call51 (dgive [.blk b2 [iV x1.kind,iV x1.n,iV x1.range,.string x1.word,.slice x1.ms.A x1.ms.l.length x1.ms.c,.slice x1.by_.A x1.by_.l.length x1.by_.c,.slice x1.kids.A x1.kids.l.length x1.kids.c] 59,.blk b3 [iV 0,iV 0] 61] [okP zB.Ok x1] (fun _:Unit=>.tuple #[]) [.blk b2 [iV 0,iV 0,iV 0,.string (⟨#[]⟩:ByteArray),Zs,Zs,Zs] 59,.blk b3 [iV f2.1,iV f2.2] 61] [.blk b2 [iV 0,iV 0,iV 0,.string (⟨#[]⟩:ByteArray),Zs,Zs,Zs] 59,.blk b3 [iV f2.1,iV f2.2] 61,okP zB.Ok x1] rfl (S9 [2,1,0]) rfl (fun w1 Pb hG=>jF b2 b3 (iV x1.kind) (iV x1.n) (iV x1.range) (.string x1.word) (.slice x1.ms.A x1.ms.l.length x1.ms.c) (.slice x1.by_.A x1.by_.l.length x1.by_.c) (.slice x1.kids.A x1.kids.l.length x1.kids.c) (iV 0) (iV 0) f2.1 f2.2 Pb w1 hG)) rfl results23 (y9 0 rfl rfl agg59 inf59 rfl) (y9 1 rfl rfl agg61 inf61 rfl) fun w1 hM=>?_)
   exact hM.vD ((zB.mk 0 0 0 ⟨#[]⟩ ⟨none,0,[]⟩ ⟨none,0,[]⟩ ⟨none,0,[]⟩),f2) rfl (by rw [hf2]; exact Pz.parse_form h1 he1 hz2e qO) fun Pb pp=>Pz.okZero Pb w1
  exact hz3.elim
 refine (go 6) (yu fun b28=>?_)
 refine u9 0 (v:=iV (Lg.shape x1.e 1 0).1) (cs':=[iV (Lg.shape x1.e 1 0).2]) wn rfl rfl call55 rfl (fun w1 Pb hM pp=>c_shapeB x1 (TB:=59) hM (i:=0) rfl (j:=5) rfl rfl (k:=3) rfl) ?_
 refine (go 3) (zW (fun h3=>?_) fun h3=>?_)
 ·refine (go 2) ?_
  refine zZ (α:=Unit) (PT:=111) [Rb 114 b13 s j2 m1,.pub zN] [.blk b28 [iV ((Lg.shape x1.e 1 0).2)] 119,okP zB.Ok x1,.blk b3 [iV 0,iV 0] 61,.blk b2 [iV x1.kind,iV x1.n,iV x1.range,.string x1.word,.slice x1.ms.A x1.ms.l.length x1.ms.c,.slice x1.by_.A x1.by_.l.length x1.by_.c,.slice x1.kids.A x1.kids.l.length x1.kids.c] 59] (fun _:Unit=>.tuple #[]) (fun z3=>False) (fun z3=>[Rb 114 b13 s j2 m1,.pub zN]) _ (fun f3=>f3=(4,(j2:Int))) (fun _=>rfl) (S9 [1,2,0,3,4,5]) (fun _=>rfl) wn rfl rfl call54 rfl (fun w1 Pb hG=>yl b13 s j2 m1 4 Pb w1 hG) ?_ fun z3 hz4=>?_
  ·intro f3 hf3
   refine zR (jW call51 (dgive [.blk b2 [iV x1.kind,iV x1.n,iV x1.range,.string x1.word,.slice x1.ms.A x1.ms.l.length x1.ms.c,.slice x1.by_.A x1.by_.l.length x1.by_.c,.slice x1.kids.A x1.kids.l.length x1.kids.c] 59,.blk b3 [iV 0,iV 0] 61] [.blk b28 [iV ((Lg.shape x1.e 1 0).2)] 119,okP zB.Ok x1] (fun _:Unit=>.tuple #[]) [.blk b2 [iV 0,iV 0,iV 0,.string (⟨#[]⟩:ByteArray),Zs,Zs,Zs] 59,.blk b3 [iV f3.1,iV f3.2] 61] [.blk b2 [iV 0,iV 0,iV 0,.string (⟨#[]⟩:ByteArray),Zs,Zs,Zs] 59,.blk b3 [iV f3.1,iV f3.2] 61,.blk b28 [iV ((Lg.shape x1.e 1 0).2)] 119,okP zB.Ok x1] rfl (S9 [3,2,0,1]) rfl (fun w1 Pb hG=>jF b2 b3 (iV x1.kind) (iV x1.n) (iV x1.range) (.string x1.word) (.slice x1.ms.A x1.ms.l.length x1.ms.c) (.slice x1.by_.A x1.by_.l.length x1.by_.c) (.slice x1.kids.A x1.kids.l.length x1.kids.c) (iV 0) (iV 0) f3.1 f3.2 Pb w1 hG)) rfl results23 (y9 0 rfl rfl agg59 inf59 rfl) (y9 1 rfl rfl agg61 inf61 rfl) fun w1 hM=>?_)
   exact hM.vD ((zB.mk 0 0 0 ⟨#[]⟩ ⟨none,0,[]⟩ ⟨none,0,[]⟩ ⟨none,0,[]⟩),f3) rfl (by rw [hf3]; exact Pz.parse_much h1 he1 hz2e qO h3) fun Pb pp=>Pz.okZero Pb w1
  exact hz4.elim
 refine (go 3) ?_
 refine yM (Mem w ⟨no,P0⟩ [.blk b28 [iV ((Lg.shape x1.e 1 0).2)] 119,Rb 114 b13 s j2 m1,.pub zN,okP zB.Ok x1,.blk b3 [iV 0,iV 0] 61,.blk b2 [iV x1.kind,iV x1.n,iV x1.range,.string x1.word,.slice x1.ms.A x1.ms.l.length x1.ms.c,.slice x1.by_.A x1.by_.l.length x1.by_.c,.slice x1.kids.A x1.kids.l.length x1.kids.c] 59]) mix (fun _ h=>h.drew) rfl (uG (f:=2) [0,1] rfl rfl (by kernel_rfl) (by kernel_rfl) (fun _ h=>h) fun KS hKS=>?_)
 refine (go 2) ?_
 refine zi hKS (zf 1 2 (zb (i:=2) rfl fun KN hKN hPN=>?_))
 refine (go 2) ?_
 refine hKN _ _ (fun _ h=>h) (zf 0 3 (zb (i:=3) rfl fun KN hKN hPN=>?_))
 refine (go 2) ?_
 refine hKN _ _ (fun _ h=>h) ?_
 refine zz (by kernel_rfl) ((go 1) ?_)
 refine (go 1) ?_
 refine e_retD (.inl rfl) call51 (didle fun w1 hM=>c_idle b2 b3 (fun _=>False) w1 (memNil w1)) results23 (y9 5 rfl rfl agg59 inf59 rfl) (y9 4 rfl rfl agg61 inf61 rfl) fun w1 hM=>?_
 exact hM.vD (x1,(0,0)) rfl (Pz.parse_ok h1 he1 hz2e qO h3) fun Pb pp=>pp.at_ 3 _ rfl
end
section
open Tryz
open Ex
attribute [local irreducible] WC WL WQ WE WS
set_option linter.unusedVariables false
set_option linter.unusedSimpArgs false
theorem winG_ask {x:yB} (hok:∀ s ∈ x.zA.l,s.sr.l.length≤1048576) (hlen:x.zA.l.length≤8) (S:Nat→Prop) (box bp cost:Nat):WinG prog 116 #[.pointer (some ⟨box,0,none⟩),.pointer (some ⟨cost,0,none⟩)] (fun n=>.blk cost [iV n] 3) S (Lent 91 93 S box bp x) (Bs.look (x.zA.l.map zC.e)) (Bs.cost (x.zA.l.map zC.e)) :=
  ⟨call116,fun n=>.inl rfl,fun n m b h=>h,fun ms a b n w Pb hG ha hb=>by simpa using c_bask1 box bp cost x S ms a b n Pb w hG hok hlen⟩
set_option maxHeartbeats 1000000 in
theorem c_bask (bp:Nat) (x:yB) (dad:Addr) (d:zm) (Pb:Nat→Prop) (w:World) (hG:Mem w ⟨fpOf [.blk bp [.slice x.zA.A x.zA.l.length x.zA.c,iV x.zM] 93,Row (.slice x.zA.A x.zA.l.length x.zA.c) 50 9 zY x.zA.l,allP zC.Ok x.zA.l,celP dad [iV d.kind,iV d.tier,iV d.to,.slice d.sr.A d.sr.l.length d.sr.c,iV d.zO.time,iV d.zO.value,.string d.text],okP zm.Ok d,.pub zN],Pb⟩ [.blk bp [.slice x.zA.A x.zA.l.length x.zA.c,iV x.zM] 93,Row (.slice x.zA.A x.zA.l.length x.zA.c) 50 9 zY x.zA.l,allP zC.Ok x.zA.l,celP dad [iV d.kind,iV d.tier,iV d.to,.slice d.sr.A d.sr.l.length d.sr.c,iV d.zO.time,iV d.zO.value,.string d.text],okP zm.Ok d,.pub zN] w) (hi:Bs.Inv x.e 120) :
    Calls prog 69 #[.pointer (some ⟨bp,0,none⟩),.pointer (some ((Addr.add dad 0).add 0))] w (RetA w [.blk bp [.slice x.zA.A x.zA.l.length x.zA.c,iV x.zM] 93,Row (.slice x.zA.A x.zA.l.length x.zA.c) 50 9 zY x.zA.l,allP zC.Ok x.zA.l,celP dad [iV d.kind,iV d.tier,iV d.to,.slice d.sr.A d.sr.l.length d.sr.c,iV d.zO.time,iV d.zO.value,.string d.text],okP zm.Ok d,.pub zN] Pb (fun z:yB × zn=>.agg (vJ z.2).toArray) (fun z=>(z.1.e,z.2.e)=(x.e,Bs.ask x.e d.e)) (fun z=>[okP zn.Ok z.2,.blk bp [.slice z.1.zA.A z.1.zA.l.length z.1.zA.c,iV z.1.zM] 93,Row (.slice z.1.zA.A z.1.zA.l.length z.1.zA.c) 50 9 zY z.1.zA.l,allP zC.Ok z.1.zA.l,celP dad (y5 d),okP zm.Ok d,.pub zN])):=by
 have hwf:∀ y ∈ x.zA.l,zC.Wf y:=fun y hy=>((hG.yS (i:=2) rfl) y hy).wf
 have hwd:=(hG.yS (i:=4) rfl).wf
 obtain ⟨hsc,hsm,hsA⟩:=row_wf (hG.row (i:=1) rfl)
 have hlen:=len_k hi
 refine zq (N:=54) (vals:=[.pointer (some ⟨bp,0,none⟩),.pointer (some ((Addr.add dad 0).add 0))]) func69 hG ?_
 refine (go 2) (jl fun b2=>zw fun b4=>?_)
 refine (go 8) ?_
 refine yY (β:=zB × Pz.F) (fun z=>.tuple #[.agg (zk z.1).toArray,.agg #[iV z.2.1,iV z.2.2]]) (fun z=>Pz.parse d.text=(z.1.e,z.2)) (fun z S=>zB.Ok S z.1) (fun z=>zB.Ok.loc z.1) wn rfl call23 rfl (fun w1 Pb hM pp=>c_parse d.text Pb w1 pp.lt (pp.at_ 7 _ rfl)) fun z1 hz1=>?_
 obtain ⟨x1,er1,at1⟩:=z1
 have hq1:Pz.parse d.text=(x1.e,(er1,at1)):=hz1
 refine yn 0 rfl (fun S w h=>zB.Ok.wf h) fun hw1=>?_
 refine (go 3) (zw fun b5=>zw fun b6=>?_)
 refine (go 12) (zW (fun h1=>?_) fun h1=>?_)
 ·refine (go 12) (zX results69 fun w1 hM=>?_)
  have hM:=hM.yX (zn.Ok.loc (⟨er1,at1,⟨none,0,[]⟩,0⟩:zn)) fun Pb pp=>⟨zD.zu _ _ _ _,fun c hc=>(by cases hc)⟩
  exact hM.yR (x,⟨er1,at1,⟨none,0,[]⟩,0⟩) rfl (ask_1 hq1 h1) (fun h=>h.sel [0,6,7,8,9,10,11] qD rfl)
 refine (go 10) ?_
 refine yQ wn rfl call57 rfl (fun w1 hM=>c_check x1 d.to (In w1) w1 (fun _ h=>h) (hM.yS (i:=2) rfl)) ?_
 refine (go 9) (zW (fun h2=>?_) fun h2=>?_)
 ·refine (go 9) (zX results69 fun w1 hM=>?_)
  have hM:=hM.yX (zn.Ok.loc (noX (Mn.check x1.e d.to):zn)) fun Pb pp=>noX_ok _ _ _
  exact hM.yR (x,noX (Mn.check x1.e d.to)) rfl (ask_2 hq1 h1 h2) (fun h=>h.sel [0,6,7,8,9,10,11] qD rfl)
 have hck:=Mn.check_right (Classical.not_not.1 h2)
 refine (go 4) (l_aO fun b8=>?_)
 refine (go 4) ?_
 refine yM (Mem w ⟨fpOf [.blk bp [.slice x.zA.A x.zA.l.length x.zA.c,iV x.zM] 93,Row (.slice x.zA.A x.zA.l.length x.zA.c) 50 9 zY x.zA.l,allP zC.Ok x.zA.l,celP dad [iV d.kind,iV d.tier,iV d.to,.slice d.sr.A d.sr.l.length d.sr.c,iV d.zO.time,iV d.zO.value,.string d.text],okP zm.Ok d,.pub zN],Pb⟩ [.blk b6 [iV er1,iV at1] 61,.blk b5 [iV x1.kind,iV x1.n,iV x1.range,.string x1.word,.slice x1.ms.A x1.ms.l.length x1.ms.c,.slice x1.by_.A x1.by_.l.length x1.by_.c,.slice x1.kids.A x1.kids.l.length x1.kids.c] 59,okP zB.Ok x1,.blk b4 [iV 0,iV 0,Zs,iV 0] 34,.blk b2 [.pointer (some ⟨bp,0,none⟩)] 91,.blk bp [.slice x.zA.A x.zA.l.length x.zA.c,iV x.zM] 93,Row (.slice x.zA.A x.zA.l.length x.zA.c) 50 9 zY x.zA.l,allP zC.Ok x.zA.l,celP dad [iV d.kind,iV d.tier,iV d.to,.slice d.sr.A d.sr.l.length d.sr.c,iV d.zO.time,iV d.zO.value,.string d.text],okP zm.Ok d,.pub zN]) mix (fun _ h=>h.drew) rfl (yN 6 [0,1,2,3,4,5] [1,2,3,4,5,6,7,8,9,10,11] rfl fun KS hKS=>?_)
 refine (go 5) ?_
 refine uq (yj rfl rfl) (zi hKS (zf 5 6 (zh (i:=6) rfl fun KN hKN=>l_lend (e:=x1) (n:=0) (n':=(Mn.evalN (Bs.look (x.zA.l.map zC.e)) (Bs.cost (x.zA.l.map zC.e)) d.to x1.e 0)) (T1:=91) (T2:=93) (T3:=50) (TI:=3) [.blk b6 [iV er1,iV at1] 61,.blk b5 [iV x1.kind,iV x1.n,iV x1.range,.string x1.word,.slice x1.ms.A x1.ms.l.length x1.ms.c,.slice x1.by_.A x1.by_.l.length x1.by_.c,.slice x1.kids.A x1.kids.l.length x1.kids.c] 59,.blk b4 [iV 0,iV 0,Zs,iV 0] 34,celP dad [iV d.kind,iV d.tier,iV d.to,.slice d.sr.A d.sr.l.length d.sr.c,iV d.zO.time,iV d.zO.value,.string d.text],okP zm.Ok d,.pub zN] (celsV (Mn.out (Mn.eval (Bs.look (x.zA.l.map zC.e)) d.to x1.e)).2) (fun z=>z.l.map zG.e=(Mn.out (Mn.eval (Bs.look (x.zA.l.map zC.e)) d.to x1.e)).1) CelsX.Ok (S9 [0,3,5,6,7,8,1,2,4,9,10,11]) wn rfl rfl call58 rfl (fun S w1 Pb hG=>c_geval _ _ _ _ _ _ _ _ _ x1 Pb w1 hG (winG_ask (shelf_lens hi) hlen _ _ _ _) (Bs.good_look hi) hck.2 hck.1) fun z2 hz2=>yn 0 rfl (fun S w h=>CelsX.Ok.wf h) fun hw2=>zc (fun _ h=>h.celsY 0 rfl) ?_)))
 obtain ⟨hc1,hm1,hA1⟩:=hw2.cells
 refine (go 1) ?_
 refine hKN _ _ (S9 [9,10,4,11,5,6,7,8,12,13,14]) (yN 0 [7,8,9,10,11] [9,10,4,11,5,6,7,8,12,13,14] rfl fun KS hKS=>?_)
 refine (go 5) ?_
 refine zi hKS ?_
 refine zz (by kernel_rfl) ((go 1) ?_)
 refine (go 7) (zW (fun h3=>?_) fun h3=>?_)
 ·refine (go 9) (zX results69 fun w1 hM=>?_)
  have hM:=hM.yX (zn.Ok.loc (noX ((Mn.out (Mn.eval (Bs.look (x.zA.l.map zC.e)) d.to x1.e)).2):zn)) fun Pb pp=>noX_ok _ _ _
  exact hM.yR (x,noX ((Mn.out (Mn.eval (Bs.look (x.zA.l.map zC.e)) d.to x1.e)).2)) rfl (ask_3 hq1 h1 h2 h3) (fun h=>h.sel [0,7,8,9,13,14,15] qD rfl)
 refine (go 11) (zX results69 fun w1 hM=>?_)
 have hM:=hM.yX (zn.Ok.loc (⟨0,0,z2,(Mn.evalN (Bs.look (x.zA.l.map zC.e)) (Bs.cost (x.zA.l.map zC.e)) d.to x1.e 0)⟩:zn)) fun Pb pp=>⟨pp.sl 0 rfl,pp.at_ 1 _ rfl⟩
 exact hM.yR (x,⟨0,0,z2,(Mn.evalN (Bs.look (x.zA.l.map zC.e)) (Bs.cost (x.zA.l.map zC.e)) d.to x1.e 0)⟩) rfl (ask_4 hq1 h1 h2 h3 hz2) (fun h=>h.sel [0,7,8,9,13,14,15] qD rfl)
end
section
open Tryz
open Ex
attribute [local irreducible] WC WL WQ WE WS
set_option linter.unusedVariables false
set_option linter.unusedSimpArgs false
theorem do1_fn (ba dad:Addr) (d:zm):ShFn prog 71 #[.pointer (some ba)] (DoAt ba dad d) (fun s=>Sh.forget s d.tier d.to) :=
  ⟨call71,DoAt.loc _ _ _,fun s w Pb hP hs hC=>by simpa using c_do1 s ba dad d Pb w hP hs hC.box hC.cel hC.ok⟩
theorem do2_fn (ba dad:Addr) (d:zm):ShFn prog 73 #[.pointer (some ba)] (DoAt ba dad d) (fun s=>Sh.roll s d.to) :=
  ⟨call73,DoAt.loc _ _ _,fun s w Pb hP hs hC=>by simpa using c_do2 s ba dad d Pb w hP hs hC.box hC.cel hC.ok⟩
set_option maxHeartbeats 1000000 in
theorem c_bdo (bp:Nat) (x:yB) (dad:Addr) (d:zm) (Pb:Nat→Prop) (w:World) (hG:Mem w ⟨fpOf [.blk bp [.slice x.zA.A x.zA.l.length x.zA.c,iV x.zM] 93,Row (.slice x.zA.A x.zA.l.length x.zA.c) 50 9 zY x.zA.l,allP zC.Ok x.zA.l,celP dad [iV d.kind,iV d.tier,iV d.to,.slice d.sr.A d.sr.l.length d.sr.c,iV d.zO.time,iV d.zO.value,.string d.text],okP zm.Ok d,.pub zN],Pb⟩ [.blk bp [.slice x.zA.A x.zA.l.length x.zA.c,iV x.zM] 93,Row (.slice x.zA.A x.zA.l.length x.zA.c) 50 9 zY x.zA.l,allP zC.Ok x.zA.l,celP dad [iV d.kind,iV d.tier,iV d.to,.slice d.sr.A d.sr.l.length d.sr.c,iV d.zO.time,iV d.zO.value,.string d.text],okP zm.Ok d,.pub zN] w) (hi:Bs.Inv x.e 120) :
    Calls prog 37 #[.pointer (some ⟨bp,0,none⟩),.pointer (some ((Addr.add dad 0).add 0))] w (RetA w [.blk bp [.slice x.zA.A x.zA.l.length x.zA.c,iV x.zM] 93,Row (.slice x.zA.A x.zA.l.length x.zA.c) 50 9 zY x.zA.l,allP zC.Ok x.zA.l,celP dad [iV d.kind,iV d.tier,iV d.to,.slice d.sr.A d.sr.l.length d.sr.c,iV d.zO.time,iV d.zO.value,.string d.text],okP zm.Ok d,.pub zN] Pb (fun z:yB × zn=>.agg (vJ z.2).toArray) (fun z=>(z.1.e,z.2.e)=Bs.one x.e d.e) (fun z=>[okP zn.Ok z.2,.blk bp [.slice z.1.zA.A z.1.zA.l.length z.1.zA.c,iV z.1.zM] 93,Row (.slice z.1.zA.A z.1.zA.l.length z.1.zA.c) 50 9 zY z.1.zA.l,allP zC.Ok z.1.zA.l,celP dad (y5 d),okP zm.Ok d,.pub zN])):=by
 have hwf:∀ y ∈ x.zA.l,zC.Wf y:=fun y hy=>((hG.yS (i:=2) rfl) y hy).wf
 have hwd:=(hG.yS (i:=4) rfl).wf
 obtain ⟨hsc,hsm,hsA⟩:=row_wf (hG.row (i:=1) rfl)
 have hlen:=len_k hi
 have hh0:=hi.hor
 have hh1:x.e.zM=x.zM:=rfl
 refine zq (N:=86) (vals:=[.pointer (some ⟨bp,0,none⟩),.pointer (some ((Addr.add dad 0).add 0))]) func37 hG ?_
 refine (go 2) (jl fun b3=>zw fun b4=>?_)
 refine (go 18) (zW (fun h1=>?_) fun h1=>?_)
 ·refine (go 4) ?_
  refine zg (α:=yB × zn) [.blk bp [.slice x.zA.A x.zA.l.length x.zA.c,iV x.zM] 93,Row (.slice x.zA.A x.zA.l.length x.zA.c) 50 9 zY x.zA.l,allP zC.Ok x.zA.l,celP dad [iV d.kind,iV d.tier,iV d.to,.slice d.sr.A d.sr.l.length d.sr.c,iV d.zO.time,iV d.zO.value,.string d.text],okP zm.Ok d] [.blk b4 [iV 0,iV 0,Zs,iV 0] 34,.blk b3 [.pointer (some ((Addr.add dad 0).add 0))] 95,.pub zN] (fun z:yB × zn=>.agg (vJ z.2).toArray) (fun z1=>(z1.1.e,z1.2.e)=Bs.add x.e d.e) (fun z1=>[okP zn.Ok z1.2,.blk bp [.slice z1.1.zA.A z1.1.zA.l.length z1.1.zA.c,iV z1.1.zM] 93,Row (.slice z1.1.zA.A z1.1.zA.l.length z1.1.zA.c) 50 9 zY z1.1.zA.l,allP zC.Ok z1.1.zA.l,celP dad [iV d.kind,iV d.tier,iV d.to,.slice d.sr.A d.sr.l.length d.sr.c,iV d.zO.time,iV d.zO.value,.string d.text],okP zm.Ok d]) _ (fun _=>rfl) (S9 [2,3,4,5,6,0,1,7]) (fun _=>rfl) wn rfl rfl call68 rfl (fun w1 Pb hG=>c_badd bp x dad d Pb w1 hG hi) fun z1 hz1=>?_
  refine (go 6) (zX results37 fun w1 hM=>?_)
  exact hM.yR z1 rfl (one_1 h1 hz1) (fun h=>h.sel [0,1,2,3,4,5,8] qD rfl)
 refine (go 6) (zW (fun h2=>?_) fun h2=>?_)
 ·refine (go 4) ?_
  refine zg (α:=yB × zn) [.blk bp [.slice x.zA.A x.zA.l.length x.zA.c,iV x.zM] 93,Row (.slice x.zA.A x.zA.l.length x.zA.c) 50 9 zY x.zA.l,allP zC.Ok x.zA.l,celP dad [iV d.kind,iV d.tier,iV d.to,.slice d.sr.A d.sr.l.length d.sr.c,iV d.zO.time,iV d.zO.value,.string d.text],okP zm.Ok d,.pub zN] [.blk b4 [iV 0,iV 0,Zs,iV 0] 34,.blk b3 [.pointer (some ((Addr.add dad 0).add 0))] 95] (fun z:yB × zn=>.agg (vJ z.2).toArray) (fun z2=>(z2.1.e,z2.2.e)=(x.e,Bs.ask x.e d.e)) (fun z2=>[okP zn.Ok z2.2,.blk bp [.slice z2.1.zA.A z2.1.zA.l.length z2.1.zA.c,iV z2.1.zM] 93,Row (.slice z2.1.zA.A z2.1.zA.l.length z2.1.zA.c) 50 9 zY z2.1.zA.l,allP zC.Ok z2.1.zA.l,celP dad [iV d.kind,iV d.tier,iV d.to,.slice d.sr.A d.sr.l.length d.sr.c,iV d.zO.time,iV d.zO.value,.string d.text],okP zm.Ok d,.pub zN]) _ (fun _=>rfl) (S9 [2,3,4,5,6,7,0,1]) (fun _=>rfl) wn rfl rfl call69 rfl (fun w1 Pb hG=>c_bask bp x dad d Pb w1 hG hi) fun z2 hz2=>?_
  refine (go 6) (zX results37 fun w1 hM=>?_)
  exact hM.yR z2 rfl (one_2 h1 h2 hz2) (fun h=>h.sel [0,1,2,3,4,5,6] qD rfl)
 refine (go 7) (zW (fun h3=>?_) fun h3=>?_)
 ·refine (go 2) ?_
  refine yx rfl (decide_eq_true h3) ?_
  refine (go 12) (yO 29 (fun h4=>?_) fun h4=>?_)
  ·refine (go 17) (zX results37 fun w1 hM=>?_)
   have hM:=hM.yX (zn.Ok.loc (noX 3)) fun Pb pp=>noX_ok _ _ _
   exact hM.yR (x,noX 3) rfl (one_4 h1 h2 (.inl h3) qO) (fun h=>h.sel [0,3,4,5,6,7,8] qD rfl)
  refine (go 8) (zW (fun h5=>?_) fun h5=>?_)
  ·refine (go 8) (zX results37 fun w1 hM=>?_)
   have hM:=hM.yX (zn.Ok.loc (noX 3)) fun Pb pp=>noX_ok _ _ _
   exact hM.yR (x,noX 3) rfl (one_4 h1 h2 (.inl h3) qO) (fun h=>h.sel [0,3,4,5,6,7,8] qD rfl)
  refine (go 12) ?_
  refine yU rfl (decide_eq_false qO) ?_
  refine (go 5) ?_
  refine za (yj rfl rfl) (l_sealB2 1 2 3 rfl rfl rfl rfl rfl onlyB (zc (fun _ h=>h.yX (DoAt.loc ⟨b3,0,none⟩ dad d) fun Pb pp=>⟨pp.at_ 1 _ rfl,pp.at_ 5 _ rfl,pp.at_ 6 _ rfl⟩) (zg (α:=yB) [.blk bp [.slice x.zA.A x.zA.l.length x.zA.c,iV x.zM] 93,Row (.slice x.zA.A x.zA.l.length x.zA.c) 50 9 zY x.zA.l,allP zC.Ok x.zA.l,.pub (DoAt ⟨b3,0,none⟩ dad d)] [.blk b4 [iV 0,iV 0,Zs,iV 0] 34,celP ⟨b3,0,none⟩ [.pointer (some ((Addr.add dad 0).add 0))],celP dad [iV d.kind,iV d.tier,iV d.to,.slice d.sr.A d.sr.l.length d.sr.c,iV d.zO.time,iV d.zO.value,.string d.text],okP zm.Ok d,.pub zN] (fun _=>iV (Bs.each (fun s=>Sh.roll s d.to) x.e.zA).2) (fun z3=>z3.e=if (Bs.each (fun s=>Sh.roll s d.to) x.e.zA).2≠0 then x.e else ⟨(Bs.each (fun s=>Sh.roll s d.to) x.e.zA).1,x.zM⟩) (fun z3=>[.blk bp [.slice z3.zA.A z3.zA.l.length z3.zA.c,iV z3.zM] 93,Row (.slice z3.zA.A z3.zA.l.length z3.zA.c) 50 9 zY z3.zA.l,allP zC.Ok z3.zA.l,.pub (DoAt ⟨b3,0,none⟩ dad d)]) _ (fun _=>rfl) (S9 [3,4,5,0,1,2,6,7,8]) (fun _=>rfl) wn rfl rfl call70 rfl (fun w1 Pb hG=>c_each bp x 73 #[.pointer (some ⟨b3,0,none⟩)] (DoAt ⟨b3,0,none⟩ dad d) (fun s=>Sh.roll s d.to) Pb w1 hG (do2_fn _ _ _) hlen) fun z3 hz3=>?_)))
  have hh1:=hor_of hz3
  refine (go 10) (zW (fun h6=>?_) fun h6=>?_)
  ·refine vE 20 ?_
   refine (go 16) ?_
   refine yZ (jL (show _=(Sh.mx z3.zM (d.to - (d.to % 10))) from rfl) (ud rfl rfl)) ?_
   refine (go 15) (zX results37 fun w1 hM=>?_)
   have hM:=hM.yX (zn.Ok.loc (noX ((Bs.each (fun s=>Sh.roll s d.to) x.e.zA).2))) fun Pb pp=>noX_ok _ _ _
   exact hM.yR (⟨z3.zA,Sh.mx z3.zM (d.to - d.to % 10)⟩,noX ((Bs.each (fun s=>Sh.roll s d.to) x.e.zA).2)) rfl (one_8 h1 h2 h3 qO h6 hz3) (fun h=>h.sel [0,1,2,3,7,8,9] qD rfl)
  refine (go 10) (zX results37 fun w1 hM=>?_)
  have hM:=hM.yX (zn.Ok.loc (noX ((Bs.each (fun s=>Sh.roll s d.to) x.e.zA).2))) fun Pb pp=>noX_ok _ _ _
  exact hM.yR (z3,noX ((Bs.each (fun s=>Sh.roll s d.to) x.e.zA).2)) rfl (one_7 h1 h2 h3 qO h6 hz3) (fun h=>h.sel [0,1,2,3,7,8,9] qD rfl)
 refine (go 5) (zW (fun h7=>?_) fun h7=>?_)
 ·refine (go 12) (yO 29 (fun h8=>?_) fun h8=>?_)
  ·refine (go 17) (zX results37 fun w1 hM=>?_)
   have hM:=hM.yX (zn.Ok.loc (noX 3)) fun Pb pp=>noX_ok _ _ _
   exact hM.yR (x,noX 3) rfl (one_4 h1 h2 (.inr h7) qO) (fun h=>h.sel [0,3,4,5,6,7,8] qD rfl)
  refine (go 8) (zW (fun h9=>?_) fun h9=>?_)
  ·refine (go 8) (zX results37 fun w1 hM=>?_)
   have hM:=hM.yX (zn.Ok.loc (noX 3)) fun Pb pp=>noX_ok _ _ _
   exact hM.yR (x,noX 3) rfl (one_4 h1 h2 (.inr h7) qO) (fun h=>h.sel [0,3,4,5,6,7,8] qD rfl)
  refine (go 12) ?_
  refine yx rfl (decide_eq_true h7) ?_
  refine (go 9) (yO 47 (fun h10=>?_) fun h10=>?_)
  ·refine (go 18) (zX results37 fun w1 hM=>?_)
   have hM:=hM.yX (zn.Ok.loc (noX 1)) fun Pb pp=>noX_ok _ _ _
   exact hM.yR (x,noX 1) rfl (one_5 h1 h2 h7 qO qO) (fun h=>h.sel [0,3,4,5,6,7,8] qD rfl)
  refine (go 8) (zW (fun h11=>?_) fun h11=>?_)
  ·refine (go 9) (zX results37 fun w1 hM=>?_)
   have hM:=hM.yX (zn.Ok.loc (noX 1)) fun Pb pp=>noX_ok _ _ _
   exact hM.yR (x,noX 1) rfl (one_5 h1 h2 h7 qO qO) (fun h=>h.sel [0,3,4,5,6,7,8] qD rfl)
  refine (go 5) ?_
  refine za (yj rfl rfl) (l_sealB2 1 2 3 rfl rfl rfl rfl rfl onlyB (zc (fun _ h=>h.yX (DoAt.loc ⟨b3,0,none⟩ dad d) fun Pb pp=>⟨pp.at_ 1 _ rfl,pp.at_ 5 _ rfl,pp.at_ 6 _ rfl⟩) (zg (α:=yB) [.blk bp [.slice x.zA.A x.zA.l.length x.zA.c,iV x.zM] 93,Row (.slice x.zA.A x.zA.l.length x.zA.c) 50 9 zY x.zA.l,allP zC.Ok x.zA.l,.pub (DoAt ⟨b3,0,none⟩ dad d)] [.blk b4 [iV 0,iV 0,Zs,iV 0] 34,celP ⟨b3,0,none⟩ [.pointer (some ((Addr.add dad 0).add 0))],celP dad [iV d.kind,iV d.tier,iV d.to,.slice d.sr.A d.sr.l.length d.sr.c,iV d.zO.time,iV d.zO.value,.string d.text],okP zm.Ok d,.pub zN] (fun _=>iV (Bs.each (fun s=>Sh.forget s d.tier d.to) x.e.zA).2) (fun z4=>z4.e=if (Bs.each (fun s=>Sh.forget s d.tier d.to) x.e.zA).2≠0 then x.e else ⟨(Bs.each (fun s=>Sh.forget s d.tier d.to) x.e.zA).1,x.zM⟩) (fun z4=>[.blk bp [.slice z4.zA.A z4.zA.l.length z4.zA.c,iV z4.zM] 93,Row (.slice z4.zA.A z4.zA.l.length z4.zA.c) 50 9 zY z4.zA.l,allP zC.Ok z4.zA.l,.pub (DoAt ⟨b3,0,none⟩ dad d)]) _ (fun _=>rfl) (S9 [3,4,5,0,1,2,6,7,8]) (fun _=>rfl) wn rfl rfl call70 rfl (fun w1 Pb hG=>c_each bp x 71 #[.pointer (some ⟨b3,0,none⟩)] (DoAt ⟨b3,0,none⟩ dad d) (fun s=>Sh.forget s d.tier d.to) Pb w1 hG (do1_fn _ _ _) hlen) fun z4 hz4=>?_)))
  have hh2:=hor_of hz4
  refine (go 6) (zX results37 fun w1 hM=>?_)
  have hM:=hM.yX (zn.Ok.loc (noX ((Bs.each (fun s=>Sh.forget s d.tier d.to) x.e.zA).2))) fun Pb pp=>noX_ok _ _ _
  exact hM.yR (z4,noX ((Bs.each (fun s=>Sh.forget s d.tier d.to) x.e.zA).2)) rfl (one_6 h1 h2 h7 qO qO hz4) (fun h=>h.sel [0,1,2,3,7,8,9] qD rfl)
 refine (go 9) (zX results37 fun w1 hM=>?_)
 have hM:=hM.yX (zn.Ok.loc (noX 1)) fun Pb pp=>noX_ok _ _ _
 exact hM.yR (x,noX 1) rfl (one_3 h1 h2 qO) (fun h=>h.sel [0,3,4,5,6,7,8] qD rfl)
end
end Go.Proofs.YtgojhpocpajmlaaGreatDoor
