/- Laws and walks for the proof of BaseTells, packed by program; each theorem bears its own conditions. -/
import Derived.Test.YtgojhpocpajmlaaGreatDoorKBt4
set_option linter.unusedVariables false
set_option linter.unusedSimpArgs false
set_option maxHeartbeats 20000000
namespace Go.Proofs.YtgojhpocpajmlaaGreatDoor
section
open Tryz
open Ex
attribute [local irreducible] WC WL WQ WE WS
theorem qc (a:Int) (b:Int) (w:World)   :
    Calls prog 82 #[iV a,iV b] w (Ret w (iV (Sh.mx a b))):=by
 refine zp func82 (Mem.AQ dn) ?_;refine (gg) (zQ (fun d=>?_) fun d=>?_);refine (gg) (zR fun e c=>?_);exact zL (congrArg (Value.int .i64) (by unfold Sh.mx; split <;> omega)) c;refine (gg) (zR fun e c=>?_);exact zL (congrArg (Value.int .i64) (by unfold Sh.mx; split <;> omega)) c
theorem gr {a:Int} {b:Int} {w:World}   :
    Calls prog 132 #[iV a,iV b] w (Ret w (iV (Sh.mn a b))):=by
 refine zp func132 (Mem.AQ dn) ?_;refine (gg) (zQ (fun d=>?_) fun d=>?_);refine (gg) (zR fun e c=>?_);exact zL (congrArg (Value.int .i64) (by unfold Sh.mn; split <;> omega)) c;refine (gg) (zR fun e c=>?_);exact zL (congrArg (Value.int .i64) (by unfold Sh.mn; split <;> omega)) c
theorem Sa (m:Value) (l:List AB) (f:Int) (w:World) (o:zH (In w) 8 zO m l w) (y:l.length<=1048576) :
    Calls prog 133 #[m,iV f] w (IG w 163 8 zO (Sh.Aw l f)):=by
 obtain ⟨I,K,rfl,q,B,d⟩:=o.form;refine zp func133 (Mem.AQ (dc (dl o) dn)) ?_;apply go 2;refine zr (zO:AB->List Value) 163 8 ?_;apply go 5;refine zr (zO:AB->List Value) 163 8 ?_;apply go 12;refine jY (jE2 [1,8,9] fun (k:Nat) (a:Value)=>[(5,a),(10,iV k)]) (jS2 fun k a=>[.s 0 (Row a 163 8 zO (Sh.Aw (l.take k) f))]) (fun k a=>k<=l.length) (fun k a=>l.length - k) 0 (Zs) ?_ (fun k a v=>?_);omega;have n:=vN (Sh.JS (l.take k) f) (List.length_take_le k l);refine yP 0 (l:=(Sh.Aw (l.take k) f)) rfl fun E e g C r G=>?_;subst g;refine (go 6) (zQ (fun u=>?_) fun u=>?_);apply go 6;obtain ⟨x,s1,F,b⟩:=elx d k;refine (go 2) (zl fun J=>?_);refine (go 11) (zQ (fun j=>?_) fun j=>?_);apply go 3;refine zf zO ([s1]:List AB) wn underlying48 BI rfl rfl rfl rfl qD qD rfl fun A=>zh 2 (Sh.Aw (l.take k) f) ([s1]:List AB) AN wn rfl rfl rfl (fun _ c=>(AM AN c 0 rfl)) underlying48 BI rfl rfl qQ rfl fun p i t D z=>?_;apply go 7;refine zK (vU (k + 1) (.slice p (((Sh.Aw (l.take k) f)++([s1]:List AB)).length) i) ?_ ?_ sA (fun _ h=>by rw [(Sh.Lr (f:=f) b).trans (zP j)]; exact (h.sel [2,3,4] qD rfl)));omega;omega;apply go 6;refine zK (vU (k + 1) (.slice E ((Sh.Aw (l.take k) f).length) e) ?_ ?_ sA (fun _ h=>by rw [(Sh.Lr (f:=f) b).trans (zI j)]; exact (h.sel [1,2,3] qD rfl)));omega;omega;refine (go 12) (zR fun H c=>?_);exact c.ue 0 rfl qo
theorem uO {Z:Value} {z1:Value} {z2:Value} {z3:Value} {z:Shelf} (P0:Nat->Prop) {w:World} (T:∀ b,P0 b->b < w.heap.size) (B:zH P0 2 zb Z z.zM w) (C:zH P0 2 zX z1 z.raw w) (E:zH P0 8 zO z2 z.AD w) (u:zH P0 8 zO z3 z.coarse w) (I:∀ x ∈ z.zM,x.key.size<=9223372036854775807∧x.val.size<=9223372036854775807) :
    Calls prog 129 #[.agg (List.toArray [Z,z1,z2,z3,iV z.zS,iV z.zN,iV z.zG,iV z.zJ,iV z.zE])] w (Ret w (iV (Sh.AE z))):=by
 obtain ⟨b3,a8,rfl,a2,a5,a6⟩:=B.form;obtain ⟨b7,d4,rfl,a1,a0,D⟩:=C.form;obtain ⟨c4,c8,rfl,a7,a4,y⟩:=E.form;obtain ⟨c3,c5,rfl,a3,Y,A⟩:=u.form;refine zp func129 (Mem.AT T (dc (dlp B) (dc (dlp C) (dc (dlp E) (dc (dlp u) dn))))) ?_;refine (go 2) (yw fun b1=>?_);apply go 8;refine yB call76 wn rfl (fun _ c=>Fi z.zM (c.slp 1 rfl) (by first | assumption | exact I)) ?_;refine (go 9) (zQ (fun j=>?_) fun j=>?_);refine (go 8) (zR fun t c=>?_);exact zL (congrArg (Value.int .i64) (by rw [Sh.AE,zP j])) c;apply go 7;refine yB call77 wn rfl (fun _ c=>gD z.raw (c.slp 2 rfl)) (zl fun b4=>?_);refine (go 10) (zQ (fun f=>?_) fun f=>?_);refine (go 9) (zR fun t c=>?_);exact zL (congrArg (Value.int .i64) (by rw [Sh.AE,zI j,zP f])) c;apply go 7;refine yB call170 wn rfl (fun _ c=>FO z.AD (c.slp 4 rfl)) (zl fun b5=>?_);refine (go 10) (zQ (fun v=>?_) fun v=>?_);refine (go 9) (zR fun t c=>?_);exact zL (congrArg (Value.int .i64) (by rw [Sh.AE,zI j,zI f,zP v])) c;apply go 7;refine yB call170 wn rfl (fun _ c=>FO z.coarse (c.slp 6 rfl)) (zl fun b6=>?_);refine (go 10) (zQ (fun F=>?_) fun F=>?_);refine (go 9) (zR fun t c=>?_);exact zL (congrArg (Value.int .i64) (by rw [Sh.AE,zI j,zI f,zI v,zP F])) c;apply go 2;refine yM (jE0 [1] [(7,.bool (decide ((0<=z.zN)∧((z.zN<=z.zG)∧((z.zG<=1000000)∧(((z.zN % 10)=0)∧((z.zG % 10)=0)))))))]) (jS0 []) (fun _ d=>?_) ?_;refine (go 5) (zm 47 (fun H=>?_) fun H=>?_);refine (go 7) (zm 54 (fun M=>?_) fun M=>?_);refine (go 5) (zm 59 (fun Q=>?_) fun Q=>?_);refine (go 6) (zm 65 (fun O=>?_) fun O=>?_);apply go 6;refine zK (kX d (kS1 (sc (jp (AH H (AH M (AH Q (AH O Iff.rfl))))) sn)));apply go 6
 refine zK (kX d (kS1 (sc (jf (fun g=>(fun g=>(fun g=>(fun g=>O g.1) g.2) g.2) g.2)) sn)));apply go 12;refine zK (kX d (kS1 (sc (jf (fun g=>(fun g=>(fun g=>Q g.1) g.2) g.2)) sn)));apply go 17;refine zK (kX d (kS1 (sc (jf (fun g=>(fun g=>M g.1) g.2)) sn)));apply go 24;refine zK (kX d (kS1 (sc (jf (fun g=>H g.1)) sn)));refine yM (jE0 [1] [(7,.bool (decide (((0<=z.zN)∧((z.zN<=z.zG)∧((z.zG<=1000000)∧(((z.zN % 10)=0)∧((z.zG % 10)=0)))))∧((0<=z.zJ)∧((z.zJ<=z.zE)∧((z.zE<=1000000)∧(((z.zJ % 60)=0)∧((z.zE % 60)=0))))))))]) (jS0 []) (fun _ a=>?_) ?_;refine (go 3) (zm 72 (fun X=>?_) fun X=>?_);refine (go 5) (zm 77 (fun m=>?_) fun m=>?_);refine (go 7) (zm 84 (fun n=>?_) fun n=>?_);refine (go 5) (zm 89 (fun r=>?_) fun r=>?_);refine (go 6) (zm 95 (fun s=>?_) fun s=>?_);apply go 6;refine zK (kX a (kS1 (sc (jp (AH X (AH m (AH n (AH r (AH s Iff.rfl)))))) sn)));apply go 6;refine zK (kX a (kS1 (sc (jf (fun g=>(fun g=>(fun g=>(fun g=>(fun g=>s g.1) g.2) g.2) g.2) g.2)) sn)));apply go 12;refine zK (kX a (kS1 (sc (jf (fun g=>(fun g=>(fun g=>(fun g=>r g.1) g.2) g.2) g.2)) sn)));apply go 17;refine zK (kX a (kS1 (sc (jf (fun g=>(fun g=>(fun g=>n g.1) g.2) g.2)) sn)));apply go 24;refine zK (kX a (kS1 (sc (jf (fun g=>(fun g=>m g.1) g.2)) sn)));apply go 29;refine zK (kX a (kS1 (sc (jf (fun g=>X g.1)) sn)));refine yM (jE0 [1] [(7,.bool (decide ((((0<=z.zN)∧((z.zN<=z.zG)∧((z.zG<=1000000)∧(((z.zN % 10)=0)∧((z.zG % 10)=0)))))∧((0<=z.zJ)∧((z.zJ<=z.zE)∧((z.zE<=1000000)∧(((z.zJ % 60)=0)∧((z.zE % 60)=0))))))∧((0<=z.zS)∧((z.zS<=z.zG)∧((z.zN<=z.zE)∧(z.zE<=z.zG)))))))]) (jS0 []) (fun _ e=>?_) ?_;refine (go 3) (zm 102 (fun q=>?_) fun q=>?_)
 refine (go 5) (zm 107 (fun p=>?_) fun p=>?_);refine (go 7) (zm 114 (fun i=>?_) fun i=>?_);refine (go 7) (zm 121 (fun o=>?_) fun o=>?_);apply go 7;refine zK (kX e (kS1 (sc (jp (AH q (AH p (AH i (AH o Iff.rfl))))) sn)));apply go 7;refine zK (kX e (kS1 (sc (jf (fun g=>(fun g=>(fun g=>(fun g=>o g.1) g.2) g.2) g.2)) sn)));apply go 14;refine zK (kX e (kS1 (sc (jf (fun g=>(fun g=>(fun g=>i g.1) g.2) g.2)) sn)));apply go 21;refine zK (kX e (kS1 (sc (jf (fun g=>(fun g=>p g.1) g.2)) sn)));apply go 26;refine zK (kX e (kS1 (sc (jf (fun g=>q g.1)) sn)));apply go 10;refine yk (he:=by exact (kS3 (sc (jv q_1) sA))) (jE1 [1,129,130] fun (k:Nat)=>[(7,.bool (decide (Sh.times z) && Sh.FI (z.raw.take k) z.zS)),(131,iV k)]) (jS1 fun k=>[]) (fun k=>k<=z.raw.length) (fun k=>z.raw.length - k) 0 ?_ (fun k c0=>?_);omega;refine (go 6) (zQ (fun S=>?_) fun S=>?_);apply go 6;obtain ⟨b0,s1,c9,b8⟩:=elx D k;refine (go 2) (zl fun b9=>?_);refine (go 6) (jK 136 (fun U=>?_) fun U=>?_);apply go 13;refine zK (zy (k + 1) ?_ ?_ (kS3 (sc (jv q_1) sA)));omega;omega;apply go 13;refine zK (zy (k + 1) ?_ ?_ (kS3 (sc (jv q_1) sA)));omega;omega;have V:z.raw.take k=z.raw:=vg qO;rw [V];apply go 15;refine yk (he:=by exact (kS3 (sc (jv q_1) sA))) (jE1 [1,145,146] fun (k:Nat)=>[(7,.bool ((decide (Sh.times z) && Sh.FI z.raw z.zS) && Sh.within (z.AD.take k) z.zN z.zG)),(147,iV k)]) (jS1 fun k=>[]) (fun k=>k<=z.AD.length) (fun k=>z.AD.length - k) 0 ?_ (fun k d2=>?_);omega;refine (go 6) (zQ (fun G=>?_) fun G=>?_);apply go 6;obtain ⟨c1,s2,d0,d1⟩:=elx y k;refine (go 2) (zl fun c6=>?_);refine (go 6) (jK 152 (fun P=>?_) fun P=>?_);refine (go 7) (zm 159 (fun W=>?_) fun W=>?_)
 apply go 13;refine zK (zy (k + 1) ?_ ?_ (kS3 (sc (jv q_1) sA)));omega;omega;apply go 13;refine zK (zy (k + 1) ?_ ?_ (kS3 (sc (jv q_1) sA)));omega;omega;apply go 20;refine zK (zy (k + 1) ?_ ?_ (kS3 (sc (jv q_1) sA)));omega;omega;have N:z.AD.take k=z.AD:=vg qO;rw [N];apply go 15;refine yk (he:=by exact (kS3 (sc (jv q_1) sA))) (jE1 [1,168,169] fun (k:Nat)=>[(7,.bool (((decide (Sh.times z) && Sh.FI z.raw z.zS) && Sh.within z.AD z.zN z.zG) && Sh.within (z.coarse.take k) z.zJ z.zE)),(170,iV k)]) (jS1 fun k=>[]) (fun k=>k<=z.coarse.length) (fun k=>z.coarse.length - k) 0 ?_ (fun k d3=>?_);omega;refine (go 6) (zQ (fun L=>?_) fun L=>?_);apply go 6;obtain ⟨b2,s3,c7,c2⟩:=elx A k;refine (go 2) (zl fun a9=>?_);refine (go 6) (jK 175 (fun J=>?_) fun J=>?_);refine (go 7) (zm 182 (fun R=>?_) fun R=>?_);apply go 13;refine zK (zy (k + 1) ?_ ?_ (kS3 (sc (jv q_1) sA)));omega;omega;apply go 13;refine zK (zy (k + 1) ?_ ?_ (kS3 (sc (jv q_1) sA)));omega;omega;apply go 20;refine zK (zy (k + 1) ?_ ?_ (kS3 (sc (jv q_1) sA)));omega;omega;have K:z.coarse.take k=z.coarse:=vg qO;rw [K];apply go 9;refine zV (zz rfl) ?_;refine (go 2) (yj (fun l=>?_) fun l=>?_);refine (go 7) (zR fun t c=>?_);exact zL (congrArg (Value.int .i64) (by rw [Sh.BG j f v F,zI (fun h=>by have:=(Sh.PD f).2 h; simp [this] at l)])) c;refine (go 8) (zR fun t c=>?_);exact zL (congrArg (Value.int .i64) (by rw [Sh.BG j f v F,zP ((Sh.PD f).1 (qs l))])) c
theorem PV {J:Value} {z1:Value} {Y:Value} {K:Value} {z:Shelf} {x:AA} (P0:Nat->Prop) {w:World} (v:∀ b,P0 b->b < w.heap.size) (q:zH P0 2 zb J z.zM w) (r:zH P0 2 zX z1 z.raw w) (t:zH P0 8 zO Y z.AD w) (p:zH P0 8 zO K z.coarse w) (hok:∀ x ∈ z.zM,x.key.size<=9223372036854775807∧x.val.size<=9223372036854775807) :
    Calls prog 79 #[.agg (List.toArray [J,z1,Y,K,iV z.zS,iV z.zN,iV z.zG,iV z.zJ,iV z.zE]),.agg (zX x).toArray] w (Gb w P0 (fun u=>.tuple (List.toArray [u,iV (Sh.append z x).2])) (Sh.append z x).1):=by
 obtain ⟨d0,c0,rfl,V,a6,b5⟩:=q.form;obtain ⟨d1,k2,rfl,T,O,s⟩:=r.form;obtain ⟨f2,f8,rfl,b6,a2,G⟩:=t.form;obtain ⟨e8,f4,rfl,a0,C,N⟩:=p.form;refine zp func79 (Mem.AT v (dc (dlp q) (dc (dlp r) (dc (dlp t) (dc (dlp p) dn))))) ?_;refine (go 2) (yw fun b2=>yw fun b3=>zl fun b4=>?_);apply go 7;refine yB call129 wn rfl (fun h c=>uO (In h) mJ (c.slp 3 rfl) (c.slp 4 rfl) (c.slp 5 rfl) (c.slp 6 rfl) gw) ?_;refine (go 9) (zQ (fun g=>?_) fun g=>?_);refine (go 10) (yE fun h c=>?_);have he:Sh.append z x=(sh0,(Sh.AE z)):=Sh.IT g;rw [he];exact c.rtS (iV (Sh.AE z));obtain ⟨l1,l2,l3,l4⟩:=(Sh.BD g).lens;apply go 6;refine zf zX ([x]:List AA) wn underlying47 Ao rfl rfl rfl rfl qD qD rfl fun i7=>yB call77 wn rfl (fun _ c=>gD ([x]:List AA) (AM AK c 0 rfl)) (zl fun b7=>?_);refine (go 10) (zQ (fun m=>?_) fun m=>?_);apply go 1;refine vV (yH 2 [0,1,2] rfl fun n d=>?_);apply go 3;refine zc d (zi 3 rfl fun e a=>?_);apply go 2;refine a _ _ mJ (yH 0 [4] rfl fun n d=>?_);apply go 1;refine zc d ?_;refine zg q_3 ((go 1) ?_);refine (go 2) (yE fun h c=>?_);have he:Sh.append z x=(sh0,(Codec.AE ([x]:List AA)).err):=Sh.Lm g m;rw [he];exact c.vm (s':=sh0) (fun u=>.tuple (List.toArray [u,iV ((Codec.AE ([x]:List AA)).err)])) rfl (rfl) fN fN fN fN;apply go 22;refine yk (he:=by exact (kS5 (sc (jv (by first | rfl | (rw [Sh.GP q_6,<-Bool.or_assoc]; first | exact Sh.jb_o q_6 | exact Sh.jb_ot q_6) | (simp [Sh.lateAny]; done))) sA))) (jE1 [2,3,4,32,33] fun (k:Nat)=>[(8,.bool (decide (x.time < z.zG) || Sh.lateAny (z.raw.take k) x)),(34,iV k)]) (jS1 fun k=>[]) (fun k=>k<=z.raw.length) (fun k=>z.raw.length - k) 0 ?_ (fun k e0=>?_)
 omega;refine (go 6) (zQ (fun h3=>?_) fun h3=>?_);apply go 6;obtain ⟨c3,s1,f9,d2⟩:=elx s k;refine (go 2) (zl fun f3=>?_);refine (go 6) (jK 39 (fun h4=>?_) fun h4=>?_);apply go 13;refine zK (zy (k + 1) ?_ ?_ (kS5 (sc (jv (by first | rfl | (rw [Sh.GP q_6,<-Bool.or_assoc]; first | exact Sh.jb_o q_6 | exact Sh.jb_ot q_6) | (simp [Sh.lateAny]; done))) sA)));omega;omega;apply go 13;refine zK (zy (k + 1) ?_ ?_ (kS5 (sc (jv (by first | rfl | (rw [Sh.GP q_6,<-Bool.or_assoc]; first | exact Sh.jb_o q_6 | exact Sh.jb_ot q_6) | (simp [Sh.lateAny]; done))) sA)));omega;omega;have y:z.raw.take k=z.raw:=vg qO;rw [y];have hla:Sh.lateAny z.raw x=Sh.late z.raw x:=(Sh.KY (Sh.BD g).Fh x).symm;refine (go 11) (yj (fun h5=>?_) fun h5=>?_);refine (go 9) (yE fun h c=>?_);have he:Sh.append z x=(sh0,9):=Sh.Gu g m g0;rw [he];exact c.rtS (iV 9);refine (go 11) (zQ (fun h6=>?_) fun h6=>?_);refine (go 9) (yE fun h c=>?_);have he:Sh.append z x=(sh0,5):=Sh.Gd g m g0 qO;rw [he];exact c.rtS (iV 5);apply go 3;refine vV (uA 7 [1,4] [0,1,2,3,5,6,7,8] rfl fun n d=>?_);apply go 2;refine zc d (n_step3 (f:=6) (i:=0) (j:=2) (k:=5) rfl q_3 ?_ ?_ ?_);refine yI (i:=0) rfl fun e a=>uS zX wn underlying47 Ao rfl fun o=>?_;apply go 1;refine kN a (yR (f:=5) (i:=2) (j:=5) rfl q_3 ?_ ?_);refine yI (i:=2) rfl fun e a=>?_;apply go 2;refine kN a (yR (f:=4) (i:=3) (j:=5) rfl q_3 ?_ ?_);refine yI (i:=3) rfl fun e a=>zh 0 ([]:List AA) z.raw AK wn rfl rfl rfl (fun _ c=>(c.slp 7 rfl)) underlying47 Ao rfl rfl q_5 rfl fun A1 f0 e1 c6 i6=>?_;apply go 1;refine kN a (zi 5 rfl fun e a=>zf zX ([x]:List AA) wn underlying47 Ao rfl rfl rfl rfl qD qD rfl fun l=>?_)
 apply go 1;refine kN a (zi 6 rfl fun e a=>zh 1 (([]:List AA)++z.raw) ([x]:List AA) AK wn rfl rfl rfl (fun _ c=>(AM AK c 0 rfl)) underlying47 Ao rfl rfl q_5 rfl fun A2 c5 c1 h8 i9=>?_);apply go 1;refine kN a (yH 1 [7] rfl fun n d=>?_);apply go 1;refine zc d (zi 8 rfl fun e a=>?_);apply go 2;refine a _ _ mA ?_;refine zg q_3 ((go 1) ?_);refine (go 8) (yE fun h c=>?_);have he:Sh.append z x=((⟨z.zM,((([]:List AA)++z.raw)++([x]:List AA)),z.AD,z.coarse,z.zS,z.zN,z.zG,z.zJ,z.zE⟩:Shelf),0):=Sh.CY g m g0 qO;rw [he];have c:=c.zo AK (i:=1) rfl rfl;exact c.vm (s':=(⟨z.zM,((([]:List AA)++z.raw)++([x]:List AA)),z.AD,z.coarse,z.zS,z.zN,z.zG,z.zJ,z.zE⟩:Shelf)) (fun u=>.tuple (List.toArray [u,iV 0])) rfl (rfl) pA pA pA pA;refine yI (i:=5) rfl fun e a=>zf zX ([x]:List AA) wn underlying47 Ao rfl rfl rfl rfl qD qD rfl fun l=>?_;apply go 1;refine kN a (zi 3 rfl fun e a=>zh 1 ([]:List AA) z.raw AK wn rfl rfl rfl (fun _ c=>(c.slp 8 rfl)) underlying47 Ao rfl rfl q_5 rfl fun A3 c4 e5 k0 i4=>?_);apply go 1;refine kN a (zi 6 rfl fun e a=>zh 1 (([]:List AA)++z.raw) ([x]:List AA) AK wn rfl rfl rfl (fun _ c=>(AM AK c 0 rfl)) underlying47 Ao rfl rfl q_5 rfl fun A4 c9 e7 d7 e9=>?_);apply go 1;refine kN a (yH 1 [7] rfl fun n d=>?_);apply go 1;refine zc d (zi 8 rfl fun e a=>?_);apply go 2;refine a _ _ mA ?_;refine zg q_3 ((go 1) ?_);refine (go 8) (yE fun h c=>?_);have he:Sh.append z x=((⟨z.zM,((([]:List AA)++z.raw)++([x]:List AA)),z.AD,z.coarse,z.zS,z.zN,z.zG,z.zJ,z.zE⟩:Shelf),0):=Sh.CY g m g0 qO;rw [he];have c:=c.zo AK (i:=1) rfl rfl;exact c.vm (s':=(⟨z.zM,((([]:List AA)++z.raw)++([x]:List AA)),z.AD,z.coarse,z.zS,z.zN,z.zG,z.zJ,z.zE⟩:Shelf)) (fun u=>.tuple (List.toArray [u,iV 0])) rfl (rfl) pA pA pA pA
 refine yI (i:=5) rfl fun e a=>zf zX ([x]:List AA) wn underlying47 Ao rfl rfl rfl rfl qD qD rfl fun l=>?_;apply go 1;refine kN a (zi 2 rfl fun e a=>?_);apply go 2;refine kN a (zi 3 rfl fun e a=>zh 1 ([]:List AA) z.raw AK wn rfl rfl rfl (fun _ c=>(c.slp 8 rfl)) underlying47 Ao rfl rfl q_5 rfl fun A5 e6 f6 c8 i2=>?_);apply go 1;refine kN a (zi 6 rfl fun e a=>zh 1 (([]:List AA)++z.raw) ([x]:List AA) AK wn rfl rfl rfl (fun _ c=>(AM AK c 0 rfl)) underlying47 Ao rfl rfl q_5 rfl fun A6 f5 h0 f1 d6=>?_);apply go 1;refine kN a (yH 1 [7] rfl fun n d=>?_);apply go 1;refine zc d (zi 8 rfl fun e a=>?_);apply go 2;refine a _ _ mA ?_;refine zg q_3 ((go 1) ?_);refine (go 8) (yE fun h c=>?_);have he:Sh.append z x=((⟨z.zM,((([]:List AA)++z.raw)++([x]:List AA)),z.AD,z.coarse,z.zS,z.zN,z.zG,z.zJ,z.zE⟩:Shelf),0):=Sh.CY g m g0 qO;rw [he];have c:=c.zo AK (i:=1) rfl rfl;exact c.vm (s':=(⟨z.zM,((([]:List AA)++z.raw)++([x]:List AA)),z.AD,z.coarse,z.zS,z.zN,z.zG,z.zJ,z.zE⟩:Shelf)) (fun u=>.tuple (List.toArray [u,iV 0])) rfl (rfl) pA pA pA pA;refine yI (i:=2) rfl fun e a=>?_;apply go 2;refine kN a (yR (f:=5) (i:=0) (j:=5) rfl q_3 ?_ ?_);refine yI (i:=0) rfl fun e a=>uS zX wn underlying47 Ao rfl fun o=>?_;apply go 1;refine kN a (yR (f:=4) (i:=3) (j:=5) rfl q_3 ?_ ?_);refine yI (i:=3) rfl fun e a=>zh 0 ([]:List AA) z.raw AK wn rfl rfl rfl (fun _ c=>(c.slp 7 rfl)) underlying47 Ao rfl rfl q_5 rfl fun A7 e3 c7 k1 e2=>?_;apply go 1;refine kN a (zi 5 rfl fun e a=>zf zX ([x]:List AA) wn underlying47 Ao rfl rfl rfl rfl qD qD rfl fun l=>?_);apply go 1;refine kN a (zi 6 rfl fun e a=>zh 1 (([]:List AA)++z.raw) ([x]:List AA) AK wn rfl rfl rfl (fun _ c=>(AM AK c 0 rfl)) underlying47 Ao rfl rfl q_5 rfl fun A8 d5 i8 i0 i5=>?_)
 apply go 1;refine kN a (yH 1 [7] rfl fun n d=>?_);apply go 1;refine zc d (zi 8 rfl fun e a=>?_);apply go 2;refine a _ _ mA ?_;refine zg q_3 ((go 1) ?_);refine (go 8) (yE fun h c=>?_);have he:Sh.append z x=((⟨z.zM,((([]:List AA)++z.raw)++([x]:List AA)),z.AD,z.coarse,z.zS,z.zN,z.zG,z.zJ,z.zE⟩:Shelf),0):=Sh.CY g m g0 qO;rw [he];have c:=c.zo AK (i:=1) rfl rfl;exact c.vm (s':=(⟨z.zM,((([]:List AA)++z.raw)++([x]:List AA)),z.AD,z.coarse,z.zS,z.zN,z.zG,z.zJ,z.zE⟩:Shelf)) (fun u=>.tuple (List.toArray [u,iV 0])) rfl (rfl) pA pA pA pA;refine yI (i:=5) rfl fun e a=>zf zX ([x]:List AA) wn underlying47 Ao rfl rfl rfl rfl qD qD rfl fun l=>?_;apply go 1;refine kN a (zi 3 rfl fun e a=>zh 1 ([]:List AA) z.raw AK wn rfl rfl rfl (fun _ c=>(c.slp 8 rfl)) underlying47 Ao rfl rfl q_5 rfl fun A9 i1 d4 d3 h9=>?_);apply go 1;refine kN a (zi 6 rfl fun e a=>zh 1 (([]:List AA)++z.raw) ([x]:List AA) AK wn rfl rfl rfl (fun _ c=>(AM AK c 0 rfl)) underlying47 Ao rfl rfl q_5 rfl fun i3 L W b8 a8=>?_);apply go 1;refine kN a (yH 1 [7] rfl fun n d=>?_);apply go 1;refine zc d (zi 8 rfl fun e a=>?_);apply go 2;refine a _ _ mA ?_;refine zg q_3 ((go 1) ?_);refine (go 8) (yE fun h c=>?_);have he:Sh.append z x=((⟨z.zM,((([]:List AA)++z.raw)++([x]:List AA)),z.AD,z.coarse,z.zS,z.zN,z.zG,z.zJ,z.zE⟩:Shelf),0):=Sh.CY g m g0 qO;rw [he];have c:=c.zo AK (i:=1) rfl rfl;exact c.vm (s':=(⟨z.zM,((([]:List AA)++z.raw)++([x]:List AA)),z.AD,z.coarse,z.zS,z.zN,z.zG,z.zJ,z.zE⟩:Shelf)) (fun u=>.tuple (List.toArray [u,iV 0])) rfl (rfl) pA pA pA pA;refine yI (i:=5) rfl fun e a=>zf zX ([x]:List AA) wn underlying47 Ao rfl rfl rfl rfl qD qD rfl fun l=>?_
 apply go 1;refine kN a (zi 0 rfl fun e a=>uS zX wn underlying47 Ao rfl fun o=>?_);apply go 1;refine kN a (zi 3 rfl fun e a=>zh 0 ([]:List AA) z.raw AK wn rfl rfl rfl (fun _ c=>(c.slp 8 rfl)) underlying47 Ao rfl rfl q_5 rfl fun d9 Q U b9 a5=>?_);apply go 1;refine kN a (zi 6 rfl fun e a=>zh 0 (([]:List AA)++z.raw) ([x]:List AA) AK wn rfl rfl rfl (fun _ c=>(AM AK c 1 rfl)) underlying47 Ao rfl rfl q_5 rfl fun d8 B F R a3=>?_);apply go 1;refine kN a (yH 1 [7] rfl fun n d=>?_);apply go 1;refine zc d (zi 8 rfl fun e a=>?_);apply go 2;refine a _ _ mA ?_;refine zg q_3 ((go 1) ?_);refine (go 8) (yE fun h c=>?_);have he:Sh.append z x=((⟨z.zM,((([]:List AA)++z.raw)++([x]:List AA)),z.AD,z.coarse,z.zS,z.zN,z.zG,z.zJ,z.zE⟩:Shelf),0):=Sh.CY g m g0 qO;rw [he];have c:=c.zo AK (i:=0) rfl rfl;exact c.vm (s':=(⟨z.zM,((([]:List AA)++z.raw)++([x]:List AA)),z.AD,z.coarse,z.zS,z.zN,z.zG,z.zJ,z.zE⟩:Shelf)) (fun u=>.tuple (List.toArray [u,iV 0])) rfl (rfl) pA pA pA pA;refine yI (i:=5) rfl fun e a=>zf zX ([x]:List AA) wn underlying47 Ao rfl rfl rfl rfl qD qD rfl fun l=>?_;apply go 1;refine kN a (yR (f:=5) (i:=0) (j:=2) rfl q_3 ?_ ?_);refine yI (i:=0) rfl fun e a=>uS zX wn underlying47 Ao rfl fun o=>?_;apply go 1;refine kN a (zi 2 rfl fun e a=>?_);apply go 2;refine kN a (zi 3 rfl fun e a=>zh 0 ([]:List AA) z.raw AK wn rfl rfl rfl (fun _ c=>(c.slp 8 rfl)) underlying47 Ao rfl rfl q_5 rfl fun c2 X E b1 a7=>?_);apply go 1;refine kN a (zi 6 rfl fun e a=>zh 0 (([]:List AA)++z.raw) ([x]:List AA) AK wn rfl rfl rfl (fun _ c=>(AM AK c 1 rfl)) underlying47 Ao rfl rfl q_5 rfl fun f7 A H D a9=>?_);apply go 1;refine kN a (yH 1 [7] rfl fun n d=>?_)
 apply go 1;refine zc d (zi 8 rfl fun e a=>?_);apply go 2;refine a _ _ mA ?_;refine zg q_3 ((go 1) ?_);refine (go 8) (yE fun h c=>?_);have he:Sh.append z x=((⟨z.zM,((([]:List AA)++z.raw)++([x]:List AA)),z.AD,z.coarse,z.zS,z.zN,z.zG,z.zJ,z.zE⟩:Shelf),0):=Sh.CY g m g0 qO;rw [he];have c:=c.zo AK (i:=0) rfl rfl;exact c.vm (s':=(⟨z.zM,((([]:List AA)++z.raw)++([x]:List AA)),z.AD,z.coarse,z.zS,z.zN,z.zG,z.zJ,z.zE⟩:Shelf)) (fun u=>.tuple (List.toArray [u,iV 0])) rfl (rfl) pA pA pA pA;refine yI (i:=2) rfl fun e a=>?_;apply go 2;refine kN a (zi 0 rfl fun e a=>uS zX wn underlying47 Ao rfl fun o=>?_);apply go 1;refine kN a (zi 3 rfl fun e a=>zh 0 ([]:List AA) z.raw AK wn rfl rfl rfl (fun _ c=>(c.slp 8 rfl)) underlying47 Ao rfl rfl q_5 rfl fun h7 P I a1 a4=>?_);apply go 1;refine kN a (zi 6 rfl fun e a=>zh 0 (([]:List AA)++z.raw) ([x]:List AA) AK wn rfl rfl rfl (fun _ c=>(AM AK c 1 rfl)) underlying47 Ao rfl rfl q_5 rfl fun e4 b0 M Z S=>?_);apply go 1;refine kN a (yH 1 [7] rfl fun n d=>?_);apply go 1;refine zc d (zi 8 rfl fun e a=>?_);apply go 2;refine a _ _ mA ?_;refine zg q_3 ((go 1) ?_);refine (go 8) (yE fun h c=>?_);have he:Sh.append z x=((⟨z.zM,((([]:List AA)++z.raw)++([x]:List AA)),z.AD,z.coarse,z.zS,z.zN,z.zG,z.zJ,z.zE⟩:Shelf),0):=Sh.CY g m g0 qO;rw [he];have c:=c.zo AK (i:=0) rfl rfl;exact c.vm (s':=(⟨z.zM,((([]:List AA)++z.raw)++([x]:List AA)),z.AD,z.coarse,z.zS,z.zN,z.zG,z.zJ,z.zE⟩:Shelf)) (fun u=>.tuple (List.toArray [u,iV 0])) rfl (rfl) pA pA pA pA
theorem Ph {M:Value} {S:Value} {O:Value} {R:Value} {z:Shelf} {AG:Int} {to:Int} (P0:Nat->Prop) {w:World} (D:∀ b,P0 b->b < w.heap.size) (o:zH P0 2 zb M z.zM w) (p:zH P0 2 zX S z.raw w) (t:zH P0 8 zO O z.AD w) (n:zH P0 8 zO R z.coarse w) (hok:∀ x ∈ z.zM,x.key.size<=9223372036854775807∧x.val.size<=9223372036854775807) :
    Calls prog 81 #[.agg (List.toArray [M,S,O,R,iV z.zS,iV z.zN,iV z.zG,iV z.zJ,iV z.zE]),iV AG,iV to] w (Gb w P0 (fun u=>.tuple (List.toArray [u,iV (Sh.forget z AG to).2])) (Sh.forget z AG to).1):=by
 obtain ⟨b9,a7,rfl,U,I,N⟩:=o.form;obtain ⟨c9,a0,rfl,T,V,r⟩:=p.form;obtain ⟨a8,b2,rfl,H,J,K⟩:=t.form;obtain ⟨b5,b4,rfl,P,L,Q⟩:=n.form;refine zp func81 (Mem.AT D (dc (dlp o) (dc (dlp p) (dc (dlp t) (dc (dlp n) dn))))) ?_;refine (go 2) (yw fun b3=>zl fun b6=>?_);apply go 7;refine yB call129 wn rfl (fun c a=>uO (In c) mJ (a.slp 2 rfl) (a.slp 3 rfl) (a.slp 4 rfl) (a.slp 5 rfl) gw) ?_;refine (go 9) (zQ (fun d=>?_) fun d=>?_);refine (go 10) (yE fun c a=>?_);have he:Sh.forget z AG to=(sh0,(Sh.AE z)):=Sh.Is d;rw [he];exact a.rtS (iV (Sh.AE z));obtain ⟨l1,l2,l3,l4⟩:=(Sh.BD d).lens;obtain ⟨⟨g1,g2,g3,g4⟩,⟨g5,g6,g7,g8,g9⟩,a1,a5,b8,a6,b7⟩:=(Sh.BD d).rng;refine (go 8) (zm 20 (fun h2=>?_) fun h2=>?_);refine (go 15) (yE fun c a=>?_);have he:Sh.forget z AG to=(sh0,3):=Sh.EW d qO;rw [he];exact a.rtS (iV 3);refine (go 5) (zQ (fun Z=>?_) fun Z=>?_);refine (go 9) (yE fun c a=>?_);have he:Sh.forget z AG to=(sh0,3):=Sh.EW d qO;rw [he];exact a.rtS (iV 3);have X:0<=Sh.mn to z.zE∧Sh.mn to z.zE<=1000000:=by unfold Sh.mn; split <;> omega
 have a2:=Sh.MU z.raw (Sh.Fz z to);refine (go 15) (zQ (fun m=>?_) fun m=>?_);refine (go 1) (jJ 8 ?_);apply go 5;refine yL wn rfl call132 rfl (fun _ _=>gr) (yL wn rfl call82 rfl (fun c _=>qc z.zS (Sh.mn to z.zG) c) ?_);apply go 7;refine zr (zX:AA->List Value) 41 2 ?_;apply go 13;refine jY (jE2 [3,6,38,39] fun (k:Nat) (e:Value)=>[(9,e),(40,iV k)]) (jS2 fun k e=>[.s 0 (Row e 41 2 zX (Sh.Bn (z.raw.take k) (Sh.mx z.zS (Sh.mn to z.zG))))]) (fun k e=>k<=z.raw.length) (fun k e=>z.raw.length - k) 0 (Zs) ?_ (fun k e c7=>?_);omega;have G:=vN (Sh.MU (z.raw.take k) (Sh.mx z.zS (Sh.mn to z.zG))) (List.length_take_le k z.raw);refine yP 0 (l:=(Sh.Bn (z.raw.take k) (Sh.mx z.zS (Sh.mn to z.zG)))) rfl fun A1 y C c0 c5 B=>?_;subst C;refine (go 6) (zQ (fun h5=>?_) fun h5=>?_);apply go 6;obtain ⟨b0,s1,c3,q⟩:=elx r k;refine (go 2) (zl fun c1=>?_);refine (go 12) (zQ (fun A=>?_) fun A=>?_);apply go 3;refine zf zX ([s1]:List AA) wn underlying47 Ao rfl rfl rfl rfl qD qD rfl fun a4=>zh 2 (Sh.Bn (z.raw.take k) (Sh.mx z.zS (Sh.mn to z.zG))) ([s1]:List AA) AK wn rfl rfl rfl (fun _ a=>(AM AK a 0 rfl)) underlying47 Ao rfl rfl qQ rfl fun W F Y c2 b1=>?_;apply go 7;refine zK (vU (k + 1) (.slice W (((Sh.Bn (z.raw.take k) (Sh.mx z.zS (Sh.mn to z.zG)))++([s1]:List AA)).length) F) ?_ ?_ sA (fun _ h=>by rw [(Sh.LV (f:=Sh.mx z.zS (Sh.mn to z.zG)) q).trans (zP A)]; exact (h.sel [2,3,4,5,6,7,8] qD rfl)));omega;omega;apply go 6;refine zK (vU (k + 1) (.slice A1 ((Sh.Bn (z.raw.take k) (Sh.mx z.zS (Sh.mn to z.zG))).length) y) ?_ ?_ sA (fun _ h=>by rw [(Sh.LV (f:=Sh.mx z.zS (Sh.mn to z.zG)) q).trans (zI A)]; exact (h.sel [1,2,3,4,5,6,7] qD rfl)))
 omega;omega;have j:z.raw.take k=z.raw:=vg qO;rw [j];rw [j] at B;refine (go 20) (yE fun c a=>?_);have he:Sh.forget z AG to=((⟨z.zM,(Sh.Bn z.raw (Sh.mx z.zS (Sh.mn to z.zG))),z.AD,z.coarse,(Sh.mx z.zS (Sh.mn to z.zG)),z.zN,z.zG,z.zJ,z.zE⟩:Shelf),0):=Sh.Lb d (fun g=>by omega) m;rw [he];have a:=a.zo AK (i:=0) rfl rfl;exact a.vm (s':=(⟨z.zM,(Sh.Bn z.raw (Sh.mx z.zS (Sh.mn to z.zG))),z.AD,z.coarse,(Sh.mx z.zS (Sh.mn to z.zG)),z.zN,z.zG,z.zJ,z.zE⟩:Shelf)) (fun u=>.tuple (List.toArray [u,iV 0])) rfl (rfl) pA pA pA pA;refine (go 6) (zQ (fun v=>?_) fun v=>?_);refine (go 1) (jJ 10 ?_);apply go 5;refine yL wn rfl call132 rfl (fun _ _=>gr) ?_;apply go 1;refine vS (gv (by omega) (gS rfl rfl qO)) (yL wn rfl call82 rfl (fun c _=>qc z.zN (Sh.mn to z.zE - Sh.mn to z.zE % 10) c) ?_);apply go 10;refine vo (Sh.Aw z.AD (Sh.mx z.zN (Sh.mn to z.zE - Sh.mn to z.zE % 10))) wn rfl call133 rfl (fun c a=>Sa _ z.AD (Sh.mx z.zN (Sh.mn to z.zE - Sh.mn to z.zE % 10)) c (a.slp 4 rfl) qO) fun A3 a3 a9 d2 c4=>?_;refine (go 13) (yE fun c a=>?_);have he:Sh.forget z AG to=((⟨z.zM,z.raw,(Sh.Aw z.AD (Sh.mx z.zN (Sh.mn to z.zE - Sh.mn to z.zE % 10))),z.coarse,z.zS,(Sh.mx z.zN (Sh.mn to z.zE - Sh.mn to z.zE % 10)),z.zG,z.zJ,z.zE⟩:Shelf),0):=Sh.FB d (fun g=>by omega) m v;rw [he];have a:=a.zo AN (i:=0) rfl rfl;exact a.vm (s':=(⟨z.zM,z.raw,(Sh.Aw z.AD (Sh.mx z.zN (Sh.mn to z.zE - Sh.mn to z.zE % 10))),z.coarse,z.zS,(Sh.mx z.zN (Sh.mn to z.zE - Sh.mn to z.zE % 10)),z.zG,z.zJ,z.zE⟩:Shelf)) (fun u=>.tuple (List.toArray [u,iV 0])) rfl (rfl) pA pA pA pA;refine (go 6) (zQ (fun E=>?_) fun E=>?_);refine (go 1) (jJ 10 ?_);apply go 5
 refine yL wn rfl call132 rfl (fun _ _=>gr) ?_;apply go 1;refine vS (gv (by omega) (gS rfl rfl qO)) (yL wn rfl call82 rfl (fun c _=>qc z.zJ (Sh.mn to z.zE - Sh.mn to z.zE % 60) c) ?_);apply go 10;refine vo (Sh.Aw z.coarse (Sh.mx z.zJ (Sh.mn to z.zE - Sh.mn to z.zE % 60))) wn rfl call133 rfl (fun c a=>Sa _ z.coarse (Sh.mx z.zJ (Sh.mn to z.zE - Sh.mn to z.zE % 60)) c (a.slp 5 rfl) qO) fun A4 c6 d0 c8 d1=>?_;refine (go 13) (yE fun c a=>?_);have he:Sh.forget z AG to=((⟨z.zM,z.raw,z.AD,(Sh.Aw z.coarse (Sh.mx z.zJ (Sh.mn to z.zE - Sh.mn to z.zE % 60))),z.zS,z.zN,z.zG,(Sh.mx z.zJ (Sh.mn to z.zE - Sh.mn to z.zE % 60)),z.zE⟩:Shelf),0):=Sh.Dz d (fun g=>by omega) m v E;rw [he];have a:=a.zo AN (i:=0) rfl rfl;exact a.vm (s':=(⟨z.zM,z.raw,z.AD,(Sh.Aw z.coarse (Sh.mx z.zJ (Sh.mn to z.zE - Sh.mn to z.zE % 60))),z.zS,z.zN,z.zG,(Sh.mx z.zJ (Sh.mn to z.zE - Sh.mn to z.zE % 60)),z.zE⟩:Shelf)) (fun u=>.tuple (List.toArray [u,iV 0])) rfl (rfl) pA pA pA pA;refine (go 10) (yE fun c a=>?_);have he:Sh.forget z AG to=(sh0,1):=Sh.Ji d (fun g=>by omega) m v E;rw [he];exact a.rtS (iV 1)
theorem Ul {z0:Value} {z1:Value} {z2:Value} {z3:Value} {z:Shelf} {to:Int} (P0:Nat->Prop) {w:World} (a6:∀ b,P0 b->b < w.heap.size) (P:zH P0 2 zb z0 z.zM w) (Q:zH P0 2 zX z1 z.raw w) (S:zH P0 8 zO z2 z.AD w) (O:zH P0 8 zO z3 z.coarse w) (hok:∀ x ∈ z.zM,x.key.size<=9223372036854775807∧x.val.size<=9223372036854775807) :
    Calls prog 80 #[.agg (List.toArray [z0,z1,z2,z3,iV z.zS,iV z.zN,iV z.zG,iV z.zJ,iV z.zE]),iV to] w (Gb w P0 (fun u=>.tuple (List.toArray [u,iV (Sh.Ab z to).2])) (Sh.Ab z to).1):=by
 obtain ⟨q,f,rfl,c7,b8,c2⟩:=P.form;obtain ⟨e,d,rfl,c6,c8,R⟩:=Q.form;obtain ⟨m,n,rfl,b6,b9,c0⟩:=S.form;obtain ⟨p,o,rfl,c3,c1,c5⟩:=O.form;refine zp func80 (Mem.AT a6 (dc (dlp P) (dc (dlp Q) (dc (dlp S) (dc (dlp O) dn))))) ?_;refine (go 2) (yw fun v=>zl fun y=>?_);apply go 7;refine yB call129 wn rfl (fun I c=>uO (In I) mJ (c.slp 2 rfl) (c.slp 3 rfl) (c.slp 4 rfl) (c.slp 5 rfl) gw) ?_;refine (go 9) (zQ (fun r=>?_) fun r=>?_);refine (go 10) (yE fun I c=>?_);have he:Sh.Ab z to=(sh0,(Sh.AE z)):=Sh.KX r;rw [he];exact c.rtS (iV (Sh.AE z));obtain ⟨l1,l2,l3,l4⟩:=(Sh.BD r).lens;obtain ⟨⟨g1,g2,g3,g4⟩,⟨g5,g6,g7,g8,g9⟩,d1,d6,f2,e0,f0⟩:=(Sh.BD r).rng;have Z:∀ x ∈ z.raw,-9223372036854775808<=x.value∧x.value<=9223372036854775807:=fun x hx=>by have:=(Sh.BD r).rawR.rng x hx; omega
 apply go 3;refine uJ [(1,iV to),(2,.pointer (some ⟨v,0,none⟩)),(4,.pointer (some ⟨y,0,none⟩)),(28,.bool (decide ((to < 0)∨(1000000 < to))))] (Mem w ⟨no,P0⟩ [.blk y [Zs,Zs,Zs,Zs,iV 0,iV 0,iV 0,iV 0,iV 0] 50,.blk v [.slice q z.zM.length f,.slice e z.raw.length d,.slice m z.AD.length n,.slice p z.coarse.length o,iV z.zS,iV z.zN,iV z.zG,iV z.zJ,iV z.zE] 50,slP 2 zb (.slice q z.zM.length f) z.zM,slP 2 zX (.slice e z.raw.length d) z.raw,slP 8 zO (.slice m z.AD.length n) z.AD,slP 8 zO (.slice p z.coarse.length o) z.coarse]) (fun _ N=>?_) ?_;refine (go 4) (zm 25 (fun Y=>?_) fun Y=>?_);apply go 3;refine zK (kX N (kS3 (sc (jt (Or.inl Y)) sn)));apply go 3;refine zK (kX N (kS3 (sc (jp (AI Y Iff.rfl)) sn)));refine zQ (fun h3=>?_) fun h3=>?_;refine (go 9) (yE fun I c=>?_);have he:Sh.Ab z to=(sh0,3):=Sh.Hv r qO;rw [he];exact c.rtS (iV 3);obtain ⟨i1,k3,f9,d9⟩:=Sh.CS (Sh.BD r) (to:=to) qO qO;obtain ⟨e2,i7,d4⟩:=Sh.Cr (Sh.BD r) (to:=to) qO qO;apply go 11;refine uJ [(2,.pointer (some ⟨v,0,none⟩)),(4,.pointer (some ⟨y,0,none⟩)),(7,iV (if ((to / 10) * 10) < z.zG then z.zG else ((to / 10) * 10)))] (Mem w ⟨no,P0⟩ [.blk y [Zs,Zs,Zs,Zs,iV 0,iV 0,iV 0,iV 0,iV 0] 50,.blk v [.slice q z.zM.length f,.slice e z.raw.length d,.slice m z.AD.length n,.slice p z.coarse.length o,iV z.zS,iV z.zN,iV z.zG,iV z.zJ,iV z.zE] 50,slP 2 zb (.slice q z.zM.length f) z.zM,slP 2 zX (.slice e z.raw.length d) z.raw,slP 8 zO (.slice m z.AD.length n) z.AD,slP 8 zO (.slice p z.coarse.length o) z.coarse]) (fun _ B=>?_) ?_;refine (go 8) (zQ (fun h4=>?_) fun h4=>?_);apply go 4;refine zK (kX B (kS2 (sc q_40 sn)));refine yW (kX B (kS2 (sc q_41 sn)))
 apply go 8;refine uJ [(2,.pointer (some ⟨v,0,none⟩)),(4,.pointer (some ⟨y,0,none⟩)),(7,iV (if ((to / 10) * 10) < z.zG then z.zG else ((to / 10) * 10))),(8,iV (if (((if ((to / 10) * 10) < z.zG then z.zG else ((to / 10) * 10)) / 60) * 60) < z.zE then z.zE else (((if ((to / 10) * 10) < z.zG then z.zG else ((to / 10) * 10)) / 60) * 60)))] (Mem w ⟨no,P0⟩ [.blk y [Zs,Zs,Zs,Zs,iV 0,iV 0,iV 0,iV 0,iV 0] 50,.blk v [.slice q z.zM.length f,.slice e z.raw.length d,.slice m z.AD.length n,.slice p z.coarse.length o,iV z.zS,iV z.zN,iV z.zG,iV z.zJ,iV z.zE] 50,slP 2 zb (.slice q z.zM.length f) z.zM,slP 2 zX (.slice e z.raw.length d) z.raw,slP 8 zO (.slice m z.AD.length n) z.AD,slP 8 zO (.slice p z.coarse.length o) z.coarse]) (fun _ C=>?_) ?_;refine (go 8) (zQ (fun T=>?_) fun T=>?_);apply go 4;refine zK (kX C (kS3 (sc (by first | (simp only [zP T]; done) | (simp only [zP T]; rfl)) sn)));refine yW (kX C (kS3 (sc (by first | (simp only [zI T]; done) | (simp only [zI T]; rfl)) sn)));apply go 2;refine uS zO wn underlying48 BI rfl fun d3=>?_;apply go 2;refine zh 0 ([]:List AB) z.AD AN wn rfl rfl rfl (fun _ c=>(c.slp 5 rfl)) underlying48 BI rfl rfl q_5 rfl fun A1 U f4 h0 d8=>?_;apply go 12;refine u5 (fun (k:Nat) (J:Value)=>[(2,.pointer (some ⟨v,0,none⟩)),(4,.pointer (some ⟨y,0,none⟩)),(7,iV (Sh.zG z to)),(8,iV (Sh.zE z to)),(9,J),(10,iV (z.zG + 10 * (k:Int)))]) (fun (k:Nat) (J:Value)=>[Row J 163 8 zO (z.AD++Roll.up (Roll.inT z.raw z.zG (z.zG + 10 * (k:Int))) 1),.blk y [Zs,Zs,Zs,Zs,iV 0,iV 0,iV 0,iV 0,iV 0] 50,.blk v [.slice q z.zM.length f,.slice e z.raw.length d,.slice m z.AD.length n,.slice p z.coarse.length o,iV z.zS,iV z.zN,iV z.zG,iV z.zJ,iV z.zE] 50,slP 2 zb (.slice q z.zM.length f) z.zM,slP 2 zX (.slice e z.raw.length d) z.raw,slP 8 zO (.slice m z.AD.length n) z.AD,slP 8 zO (.slice p z.coarse.length o) z.coarse]) (fun (k:Nat) (J:Value)=>z.zG + 10 * (k:Int)<=Sh.zG z to) (fun (k:Nat) (J:Value)=>(Sh.zG z to - (z.zG + 10 * (k:Int))).toNat) 0 (.slice A1 ((([]:List AB)++z.AD).length) U) (kS2 (sc (ji q_7) (sc (ji q_7) (kS1 (sc (ji q_7) sn))))) (fun _ h=>by rw [Sh.Rr]; exact h) ?_ (fun k J i4=>?_)
 omega;have W:=Sh.Wt (Sh.BD r) k;rw [uF] at W;refine yP 0 (l:=(z.AD++Roll.up (Roll.inT z.raw z.zG (z.zG + 10 * (k:Int))) 1)) rfl fun K A a4 c9 f6 e5=>?_;subst a4;refine (go 8) (zQ (fun h6=>?_) fun h6=>?_);apply go 6;refine zr (zX:AA->List Value) 41 2 ?_;apply go 13;refine u5 (fun (j:Nat) (t:Value)=>[(2,.pointer (some ⟨v,0,none⟩)),(4,.pointer (some ⟨y,0,none⟩)),(7,iV (Sh.zG z to)),(8,iV (Sh.zE z to)),(9,.slice K ((z.AD++Roll.up (Roll.inT z.raw z.zG (z.zG + 10 * (k:Int))) 1).length) A),(10,iV (z.zG + 10 * (k:Int))),(11,t),(60,.slice e z.raw.length d),(61,iV z.raw.length),(62,iV j)]) (fun (j:Nat) (t:Value)=>[Row t 41 2 zX (Roll.inT (z.raw.take j) (z.zG + 10 * (k:Int)) ((z.zG + 10 * (k:Int)) + 10)),Row (.slice K ((z.AD++Roll.up (Roll.inT z.raw z.zG (z.zG + 10 * (k:Int))) 1).length) A) 163 8 zO (z.AD++Roll.up (Roll.inT z.raw z.zG (z.zG + 10 * (k:Int))) 1),.blk y [Zs,Zs,Zs,Zs,iV 0,iV 0,iV 0,iV 0,iV 0] 50,.blk v [.slice q z.zM.length f,.slice e z.raw.length d,.slice m z.AD.length n,.slice p z.coarse.length o,iV z.zS,iV z.zN,iV z.zG,iV z.zJ,iV z.zE] 50,slP 2 zb (.slice q z.zM.length f) z.zM,slP 2 zX (.slice e z.raw.length d) z.raw,slP 8 zO (.slice m z.AD.length n) z.AD,slP 8 zO (.slice p z.coarse.length o) z.coarse]) (fun (j:Nat) (t:Value)=>j<=z.raw.length) (fun (j:Nat) (t:Value)=>z.raw.length - j) 0 (Zs) (kS1 (kS8 (sc (ji q_7) sn))) mJ ?_ (fun j t e6=>?_);omega;have b5:=vN (Roll.Ca (z.raw.take j) (z.zG + 10 * (k:Int)) ((z.zG + 10 * (k:Int)) + 10)) (List.length_take_le j z.raw);refine yP 0 (l:=(Roll.inT (z.raw.take j) (z.zG + 10 * (k:Int)) ((z.zG + 10 * (k:Int)) + 10))) rfl fun A3 M b0 e1 k4 a8=>?_
 subst b0;refine (go 6) (zQ (fun h7=>?_) fun h7=>?_);apply go 6;obtain ⟨e4,s1,f8,F⟩:=elx R j;refine (go 2) (zl fun i3=>?_);refine (go 10) (zm 70 (fun h8=>?_) fun h8=>?_);refine (go 8) (zQ (fun h9=>?_) fun h9=>?_);apply go 3;refine zf zX ([s1]:List AA) wn underlying47 Ao rfl rfl rfl rfl qD qD rfl fun d0=>zh 2 (Roll.inT (z.raw.take j) (z.zG + 10 * (k:Int)) ((z.zG + 10 * (k:Int)) + 10)) ([s1]:List AA) AK wn rfl rfl rfl (fun _ c=>(AM AK c 0 rfl)) underlying47 Ao rfl rfl q_5 rfl fun A4 a9 k1 i5 k2=>?_;apply go 7;refine zK (vU (j + 1) (.slice A4 (((Roll.inT (z.raw.take j) (z.zG + 10 * (k:Int)) ((z.zG + 10 * (k:Int)) + 10))++([s1]:List AA)).length) a9) ?_ ?_ (kS1 (kS8 (sc (ji q_7) sn))) (fun _ h=>by rw [(Roll.CG (a:=(z.zG + 10 * (k:Int))) (b:=(z.zG + 10 * (k:Int)) + 10) F).trans (zP qO)]; exact (h.sel [2,3,4,5,6,7,8,9] qD rfl)));omega;omega;apply go 6;refine zK (vU (j + 1) (.slice A3 ((Roll.inT (z.raw.take j) (z.zG + 10 * (k:Int)) ((z.zG + 10 * (k:Int)) + 10)).length) M) ?_ ?_ (kS1 (kS8 (sc (ji q_7) sn))) (fun _ h=>by rw [(Roll.CG (a:=(z.zG + 10 * (k:Int))) (b:=(z.zG + 10 * (k:Int)) + 10) F).trans (zI qO)]; exact (h.sel [1,2,3,4,5,6,7,8] qD rfl)));omega;omega;apply go 15;refine zK (vU (j + 1) (.slice A3 ((Roll.inT (z.raw.take j) (z.zG + 10 * (k:Int)) ((z.zG + 10 * (k:Int)) + 10)).length) M) ?_ ?_ (kS1 (kS8 (sc (ji q_7) sn))) (fun _ h=>by rw [(Roll.CG (a:=(z.zG + 10 * (k:Int))) (b:=(z.zG + 10 * (k:Int)) + 10) F).trans (zI qO)]; exact (h.sel [1,2,3,4,5,6,7,8] qD rfl)));omega;omega;have L:z.raw.take j=z.raw:=vg qO;rw [L];rw [L] at a8;have i8:=Roll.Ca z.raw (z.zG + 10 * (k:Int)) ((z.zG + 10 * (k:Int)) + 10)
 refine (go 12) (zQ (fun E=>?_) fun E=>?_);apply go 4;refine yB call130 wn rfl (fun _ c=>TG (Roll.inT z.raw (z.zG + 10 * (k:Int)) ((z.zG + 10 * (k:Int)) + 10)) (AM AK c 0 rfl) qO (fun x hx=>Z x (List.mem_filter.1 hx).1)) ?_;apply go 1;refine zf zO ([(⟨(z.zG + 10 * (k:Int)),(Agg.of (Roll.inT z.raw (z.zG + 10 * (k:Int)) ((z.zG + 10 * (k:Int)) + 10)))⟩:AB)]:List AB) wn underlying48 BI rfl rfl rfl rfl qD qD rfl fun e3=>zh 2 (z.AD++Roll.up (Roll.inT z.raw z.zG (z.zG + 10 * (k:Int))) 1) ([(⟨(z.zG + 10 * (k:Int)),(Agg.of (Roll.inT z.raw (z.zG + 10 * (k:Int)) ((z.zG + 10 * (k:Int)) + 10)))⟩:AB)]:List AB) AN wn rfl rfl rfl (fun _ c=>(AM AN c 0 rfl)) underlying48 BI rfl rfl q_5 rfl fun A5 a2 f7 e7 e9=>?_;apply go 8;refine zK (vU (k + 1) (.slice A5 (((z.AD++Roll.up (Roll.inT z.raw z.zG (z.zG + 10 * (k:Int))) 1)++([(⟨(z.zG + 10 * (k:Int)),(Agg.of (Roll.inT z.raw (z.zG + 10 * (k:Int)) ((z.zG + 10 * (k:Int)) + 10)))⟩:AB)]:List AB)).length) a2) ?_ ?_ (kS5 (sc (ji q_7) sn)) (fun _ h=>by rw [(Sh.ML (Sh.BD r) k).trans (zI (fun g=>by rw [g] at E; simp at E))]; exact (h.sel [2,3,4,5,6,7,8] qD rfl)));omega;omega;apply go 7;refine zK (vU (k + 1) (.slice K ((z.AD++Roll.up (Roll.inT z.raw z.zG (z.zG + 10 * (k:Int))) 1).length) A) ?_ ?_ (kS5 (sc (ji q_7) sn)) (fun _ h=>by rw [(Sh.ML (Sh.BD r) k).trans (zP (jb qO))]; exact (h.sel [1,2,3,4,5,6,7] qD rfl)));omega;omega;have he:z.zG + 10 * (k:Int)=Sh.zG z to:=qO;rw [he];have a3:z.AD++Roll.up (Roll.inT z.raw z.zG (Sh.zG z to)) 1=Sh.yp z to:=rfl;rw [a3];have c4:=Sh.HL (to:=to) (Sh.BD r);apply go 7;refine uS zO wn underlying48 BI rfl fun i9=>?_;apply go 2;refine zh 0 ([]:List AB) z.coarse AN wn rfl rfl rfl (fun _ c=>(c.slp 7 rfl)) underlying48 BI rfl rfl q_5 rfl fun A6 a0 d5 k0 i2=>?_
 apply go 12;refine u5 (fun (k:Nat) (s:Value)=>[(2,.pointer (some ⟨v,0,none⟩)),(4,.pointer (some ⟨y,0,none⟩)),(7,iV (Sh.zG z to)),(8,iV (Sh.zE z to)),(9,.slice K ((Sh.yp z to).length) A),(14,s),(15,iV (z.zE + 60 * (k:Int)))]) (fun (k:Nat) (s:Value)=>[Row s 163 8 zO (z.coarse++Roll.AU (Sh.bIn (Sh.yp z to) z.zE (z.zE + 60 * (k:Int)))),Row (.slice K ((Sh.yp z to).length) A) 163 8 zO (Sh.yp z to),.blk y [Zs,Zs,Zs,Zs,iV 0,iV 0,iV 0,iV 0,iV 0] 50,.blk v [.slice q z.zM.length f,.slice e z.raw.length d,.slice m z.AD.length n,.slice p z.coarse.length o,iV z.zS,iV z.zN,iV z.zG,iV z.zJ,iV z.zE] 50,slP 2 zb (.slice q z.zM.length f) z.zM,slP 2 zX (.slice e z.raw.length d) z.raw,slP 8 zO (.slice m z.AD.length n) z.AD,slP 8 zO (.slice p z.coarse.length o) z.coarse]) (fun (k:Nat) (s:Value)=>z.zE + 60 * (k:Int)<=Sh.zE z to) (fun (k:Nat) (s:Value)=>(Sh.zE z to - (z.zE + 60 * (k:Int))).toNat) 0 (.slice A6 ((([]:List AB)++z.coarse).length) a0) (kS6 (sc (ji q_7) sn)) (fun _ h=>by rw [Sh.Nf]; exact h) ?_ (fun k s d7=>?_);omega;have b3:=Sh.Rg (to:=to) (Sh.BD r) z.zE (z.zE + 60 * (k:Int));rw [uF] at b3;refine yP 0 (l:=(z.coarse++Roll.AU (Sh.bIn (Sh.yp z to) z.zE (z.zE + 60 * (k:Int))))) rfl fun A7 V X f1 i6 d2=>?_;subst X;refine (go 8) (zQ (fun a5=>?_) fun a5=>?_);apply go 10;refine yB call131 wn rfl (fun _ c=>Wh (Sh.yp z to) (AM AN c 1 rfl)) (zl fun e8=>?_);refine (go 10) (zQ (fun G=>?_) fun G=>?_);apply go 5;refine zf zO ([(⟨(z.zE + 60 * (k:Int)),(Roll.of (Sh.yp z to) (z.zE + 60 * (k:Int)) ((z.zE + 60 * (k:Int)) + 60))⟩:AB)]:List AB) wn underlying48 BI rfl rfl rfl rfl qD qD rfl fun b7=>zh 2 (z.coarse++Roll.AU (Sh.bIn (Sh.yp z to) z.zE (z.zE + 60 * (k:Int)))) ([(⟨(z.zE + 60 * (k:Int)),(Roll.of (Sh.yp z to) (z.zE + 60 * (k:Int)) ((z.zE + 60 * (k:Int)) + 60))⟩:AB)]:List AB) AN wn rfl rfl rfl (fun _ c=>(AM AN c 0 rfl)) underlying48 BI rfl rfl q_5 rfl fun A8 a1 f5 f3 i0=>?_
 apply go 8;refine zK (vU (k + 1) (.slice A8 (((z.coarse++Roll.AU (Sh.bIn (Sh.yp z to) z.zE (z.zE + 60 * (k:Int))))++([(⟨(z.zE + 60 * (k:Int)),(Roll.of (Sh.yp z to) (z.zE + 60 * (k:Int)) ((z.zE + 60 * (k:Int)) + 60))⟩:AB)]:List AB)).length) a1) ?_ ?_ (kS6 (sc (ji q_7) sn)) (fun _ h=>by rw [(Sh.Jw (Sh.BD r) qO qO k).trans (zP G)]; exact (h.sel [2,3,4,5,6,7,8,9] qD rfl)));omega;omega;apply go 7;refine zK (vU (k + 1) (.slice A7 ((z.coarse++Roll.AU (Sh.bIn (Sh.yp z to) z.zE (z.zE + 60 * (k:Int)))).length) V) ?_ ?_ (kS6 (sc (ji q_7) sn)) (fun _ h=>by rw [(Sh.Jw (Sh.BD r) qO qO k).trans (zI G)]; exact (h.sel [1,2,3,4,5,6,7,8] qD rfl)));omega;omega;have a7:z.zE + 60 * (k:Int)=Sh.zE z to:=qO;rw [a7];have b1:z.coarse++Roll.AU (Sh.bIn (Sh.yp z to) z.zE (Sh.zE z to))=Sh.vX z to:=rfl;rw [b1];refine (go 12) (zm 120 (fun D=>?_) fun D=>?_);refine (go 16) (yE fun I c=>?_);have he:Sh.Ab z to=(sh0,5):=Sh.HH r (fun g=>by omega) (.inl D);rw [he];exact c.rtS (iV 5);refine (go 6) (zQ (fun H=>?_) fun H=>?_);refine (go 9) (yE fun I c=>?_);have he:Sh.Ab z to=(sh0,5):=Sh.HH r (fun g=>by omega) (.inr H);rw [he];exact c.rtS (iV 5);refine (go 26) (yE fun I c=>?_);have he:Sh.Ab z to=((⟨z.zM,z.raw,(Sh.yp z to),(Sh.vX z to),z.zS,z.zN,(Sh.zG z to),z.zJ,(Sh.zE z to)⟩:Shelf),0):=Sh.SH r (fun g=>by omega) D H;rw [he];have c:=c.zo AN (i:=1) rfl rfl;have c:=c.zo AN (i:=0) rfl rfl;exact c.vm (s':=(⟨z.zM,z.raw,(Sh.yp z to),(Sh.vX z to),z.zS,z.zN,(Sh.zG z to),z.zJ,(Sh.zE z to)⟩:Shelf)) (fun u=>.tuple (List.toArray [u,iV 0])) rfl (rfl) pA pA pA pA
theorem gN (L:Value) (C:Value) (v:Value) (x:Value) (z:Shelf) (p:Part) (P0:Nat->Prop) (w:World) (r:∀ b,P0 b->b < w.heap.size) (j:zH P0 2 zb L z.zM w) (n:zH P0 2 zX C z.raw w) (m:zH P0 8 zO v z.AD w) (l:zH P0 8 zO x z.coarse w)  :
    Calls prog 144 #[.agg (List.toArray [L,C,v,x,iV z.zS,iV z.zN,iV z.zG,iV z.zJ,iV z.zE]),.agg (vB p).toArray] w (Ret w (.bool (decide (Sh.may z p)))):=by
 obtain ⟨S,N,rfl,K,F,H⟩:=j.form;obtain ⟨T,U,rfl,G,B,M⟩:=n.form;obtain ⟨R,P,rfl,J,E,I⟩:=m.form;obtain ⟨Q,O,rfl,y,D,A⟩:=l.form;refine zp func144 (Mem.AT r (dc (dlp j) (dc (dlp n) (dc (dlp m) (dc (dlp l) dn))))) ?_;refine (gg) (yw fun W=>yw fun V=>?_);refine (gg) (zQ (fun c=>?_) fun c=>?_);refine (gg) (zR fun d a=>?_);exact zL (congrArg Value.bool (yq (fun g=>absurd (Sh.GN g) qO)).symm) a;refine (gg) (zQ (fun k=>?_) fun k=>?_);refine (gg) (zm 19 (fun t=>?_) fun t=>?_);refine (gg) (zR fun d a=>?_);exact zL (congrArg Value.bool (decide_eq_decide.2 ⟨fun g=>(Sh.may0 c k).2 ⟨t,g⟩,fun g=>((Sh.may0 c k).1 g).2⟩)) a;refine (gg) (zR fun d a=>?_);exact zL (congrArg Value.bool (yq (fun g=>t (((Sh.may0 c k).1 g).1))).symm) a;refine (gg) (zQ (fun e=>?_) fun e=>?_);refine (gg) (zm 31 (fun q=>?_) fun q=>?_);refine (gg) (zm 38 (fun o=>?_) fun o=>?_);apply go 2;refine yY (gE rfl rfl qO) ?_;refine (gg) (zm 44 (fun s=>?_) fun s=>?_);apply go 2;refine yY (gE rfl rfl qO) ?_;refine (gg) (zR fun d a=>?_);exact zL (congrArg Value.bool (decide_eq_decide.2 ⟨fun g=>(Sh.may1 c e).2 ⟨q,o,s,g⟩,fun g=>((Sh.may1 c e).1 g).2.2.2⟩)) a;refine (gg) (zR fun d a=>?_);exact zL (congrArg Value.bool (yq (fun g=>s (((Sh.may1 c e).1 g).2.2.1))).symm) a;refine (gg) (zR fun d a=>?_);exact zL (congrArg Value.bool (yq (fun g=>o (((Sh.may1 c e).1 g).2.1))).symm) a;refine (gg) (zR fun d a=>?_);exact zL (congrArg Value.bool (yq (fun g=>q (((Sh.may1 c e).1 g).1))).symm) a;refine (gg) (zQ (fun f=>?_) fun f=>?_);refine (gg) (zm 57 (fun u=>?_) fun u=>?_);refine (gg) (zm 64 (fun h=>?_) fun h=>?_);apply go 2;refine yY (gE rfl rfl qO) ?_
 refine (gg) (zm 70 (fun i=>?_) fun i=>?_);apply go 2;refine yY (gE rfl rfl qO) ?_;refine (gg) (zR fun d a=>?_);exact zL (congrArg Value.bool (decide_eq_decide.2 ⟨fun g=>(Sh.may2 c f).2 ⟨u,h,i,g⟩,fun g=>((Sh.may2 c f).1 g).2.2.2⟩)) a;refine (gg) (zR fun d a=>?_);exact zL (congrArg Value.bool (yq (fun g=>i (((Sh.may2 c f).1 g).2.2.1))).symm) a;refine (gg) (zR fun d a=>?_);exact zL (congrArg Value.bool (yq (fun g=>h (((Sh.may2 c f).1 g).2.1))).symm) a;refine (gg) (zR fun d a=>?_);exact zL (congrArg Value.bool (yq (fun g=>u (((Sh.may2 c f).1 g).1))).symm) a;refine (gg) (zR fun d a=>?_);exact zL (congrArg Value.bool (yq (Sh.VC k e f)).symm) a
theorem Oh {z0:Value} {z1:Value} {z2:Value} {z3:Value} {z:Shelf} {f:Int} {t:Int} (P0:Nat->Prop) {w:World} (a3:∀ b,P0 b->b < w.heap.size) (R:zH P0 2 zb z0 z.zM w) (S:zH P0 2 zX z1 z.raw w) (U:zH P0 8 zO z2 z.AD w) (Q:zH P0 8 zO z3 z.coarse w) (hok:∀ x ∈ z.zM,x.key.size<=9223372036854775807∧x.val.size<=9223372036854775807) :
    Calls prog 88 #[.agg (List.toArray [z0,z1,z2,z3,iV z.zS,iV z.zN,iV z.zG,iV z.zJ,iV z.zE]),iV f,iV t] w (Tk w 217 3 vB (Sh.choose z f t).1 (fun r=>.tuple [r,iV (Sh.choose z f t).2].toArray)):=by
 obtain ⟨d9,c7,rfl,c0,a9,b5⟩:=R.form;obtain ⟨f0,c3,rfl,b9,c1,b7⟩:=S.form;obtain ⟨c8,d3,rfl,a8,b0,b1⟩:=U.form;obtain ⟨d7,d4,rfl,b6,b2,b8⟩:=Q.form;refine zp func88 (Mem.AT a3 (dc (dlp R) (dc (dlp S) (dc (dlp U) (dc (dlp Q) dn))))) ?_;refine (go 2) (yw fun b3=>?_);refine zr (vB:Part->List Value) 217 3 ?_;apply go 8;refine yB call129 wn rfl (fun A m=>uO (In A) mJ (m.slp 2 rfl) (m.slp 3 rfl) (m.slp 4 rfl) (m.slp 5 rfl) gw) ?_;refine (go 9) (zQ (fun T=>?_) fun T=>?_);apply go 3;refine zr (vB:Part->List Value) 217 3 ?_;refine (go 6) (yE fun A m=>?_);have he:Sh.choose z f t=(([]:List Part),(Sh.AE z)):=Sh.GF T;exact m.gi 0 rfl (by rw [he]) (by rw [he]);have B:Roll.step 2=60:=rfl;have b4:Roll.step 1=10:=rfl;have e6:Roll.step 0=0:=rfl;apply go 3;refine yM (jE0 [1,2,3] [(28,.bool (decide ((f < 0)∨((t < f)∨(1000000 < t)))))]) (jS0 []) (fun _ K=>?_) ?_;refine (go 4) (zm 20 (fun h2=>?_) fun h2=>?_);apply go 8;refine zK (kX K (kS3 (sc (jt (Or.inl h2)) sn)));refine (go 5) (zm 25 (fun W=>?_) fun W=>?_);apply go 3;refine zK (kX K (kS3 (sc (jt (Or.inr (Or.inl W))) sn)));apply go 3;refine zK (kX K (kS3 (sc (jp (AI h2 (AI W Iff.rfl))) sn)));refine zQ (fun h4=>?_) fun h4=>?_;apply go 2;refine zr (vB:Part->List Value) 217 3 ?_;refine (go 6) (yE fun A m=>?_);have he:Sh.choose z f t=(([]:List Part),3):=Sh.GA T qO;exact m.gi 0 rfl (by rw [he]) (by rw [he]);apply go 4;refine zr (vB:Part->List Value) 217 3 ?_;apply go 11;refine qG (jE3 [2,3] fun (g:Int) (out:List Part) (P:Value)=>[(9,P),(10,iV g)]) (jS3 fun g out P=>[.s 0 (Row P 217 3 vB out)]) (fun g out P=>(Sh.Bi z f t []=Sh.Bi z g t out)∧0<=g∧g<=t∧(out.length:Int)<=g) (fun g out P=>(t - g).toNat) f [] (Zs) ?_ (fun g out P v=>?_)
 exact ⟨rfl,qO,qO,by simp; omega⟩;refine yP 0 (l:=out) rfl fun A1 J a2 e0 e5 L=>?_;subst a2;refine (go 8) (zQ (fun h5=>?_) fun h5=>?_);refine (go 5) (zl fun e1=>?_);apply go 4;refine yM (jE0 [2,3,9,10,11] [(45,.bool (decide (((g + 60)<=t)∧(Sh.may z (⟨2,g,(g + 60)⟩:Part)))))]) (jS0 []) (fun _ I=>?_) ?_;refine (go 6) (zm 50 (fun X=>?_) fun X=>?_);apply go 5;refine yB call144 (wg rfl rfl rfl) rfl (fun A m=>gN _ _ _ _ z (⟨2,g,(g + 60)⟩:Part) (In A) A mJ (m.slp 4 rfl) (m.slp 5 rfl) (m.slp 6 rfl) (m.slp 7 rfl)) ?_;apply go 2;refine zK (kX I (kS5 (sc (jp (AH X Iff.rfl)) sn)));apply go 8;refine zK (kX I (kS5 (sc (jf (fun g=>X g.1)) sn)));refine zQ (fun u=>?_) fun u=>?_;refine (go 29) (vp 85 (fun h8=>?_) fun h8=>?_);apply go 3;obtain ⟨d0,E⟩:=L (ne_nil (i:=(out.length - 1)) uT);refine uD (vO (i:=(out.length - 1)) rfl E rfl qO uT underlying152 Ax) ?_;apply go 1;obtain ⟨s1,C⟩:∃ x,out[(out.length - 1)]?=some x:=⟨_,vA uT⟩;refine uD (uK 1 Af rfl rfl E C rfl BO) ?_;refine (go 6) (zQ (fun h9=>?_) fun h9=>?_);apply go 6;refine zV (vO (i:=(out.length - 1)) rfl E rfl qO uT underlying152 Ax) ?_;apply go 1;refine uv 1 (vs:=[iV (g + 60)]) (⟨s1.AG,s1.frm,(g + 60)⟩:Part) Af wn rfl rfl rfl rfl E C Eh rfl rfl rfl rfl ?_;apply go 2;refine yS (zw (zx (vJ (g + 60) (out.set (out.length - 1) (⟨s1.AG,s1.frm,(g + 60)⟩:Part)) (.slice A1 out.length J) ?_ ?_)));have h:Sh.pick z g t=(⟨2,g,(g + 60)⟩:Part):=Sh.Du (z:=z) (f:=g) (t:=t) u.1 u.2;have d:¬ (Sh.pick z g t).AG < 0:=by rw [h]; dsimp only; omega
 have a:=Sh.Ae d;have c:=v.1.trans (Sh.Ad (out:=out) qO d);have e:=Sh.BY out (Sh.pick z g t);rw [h] at a c e;have n:Sh.push out _=_:=Sh.Dy (p:=(⟨2,g,(g + 60)⟩:Part)) C h9;rw [n] at c e;try dsimp only at a
 try dsimp only at c
 try dsimp only at e
 exact ⟨c,qO,qO,qO⟩;have h:Sh.pick z g t=(⟨2,g,(g + 60)⟩:Part):=Sh.Du (z:=z) (f:=g) (t:=t) u.1 u.2;have d:¬ (Sh.pick z g t).AG < 0:=by rw [h]; dsimp only; omega
 have a:=Sh.Ae d;rw [h] at a;try dsimp only at a
 omega;apply go 5;refine zf vB ([(⟨2,g,(g + 60)⟩:Part)]:List Part) wn underlying152 Ax rfl rfl rfl rfl qD qD rfl fun y=>zh 2 out ([(⟨2,g,(g + 60)⟩:Part)]:List Part) Af wn rfl rfl rfl (fun _ m=>(AM Af m 0 rfl)) underlying152 Ax rfl rfl q_5 rfl fun A2 a7 c2 e2 d1=>?_;apply go 1;refine zK (zj (vJ (g + 60) (out++([(⟨2,g,(g + 60)⟩:Part)]:List Part)) (.slice A2 ((out++([(⟨2,g,(g + 60)⟩:Part)]:List Part)).length) a7) ?_ ?_));have h:Sh.pick z g t=(⟨2,g,(g + 60)⟩:Part):=Sh.Du (z:=z) (f:=g) (t:=t) u.1 u.2;have d:¬ (Sh.pick z g t).AG < 0:=by rw [h]; dsimp only; omega
 have a:=Sh.Ae d;have c:=v.1.trans (Sh.Ad (out:=out) qO d);have e:=Sh.BY out (Sh.pick z g t);rw [h] at a c e;have n:Sh.push out _=_:=Sh.Eu (p:=(⟨2,g,(g + 60)⟩:Part)) C h9;rw [n] at c e;try dsimp only at a
 try dsimp only at c
 try dsimp only at e
 exact ⟨c,qO,qO,qO⟩;have h:Sh.pick z g t=(⟨2,g,(g + 60)⟩:Part):=Sh.Du (z:=z) (f:=g) (t:=t) u.1 u.2;have d:¬ (Sh.pick z g t).AG < 0:=by rw [h]; dsimp only; omega
 have a:=Sh.Ae d;rw [h] at a;try dsimp only at a
 omega;apply go 18;refine zf vB ([(⟨2,g,(g + 60)⟩:Part)]:List Part) wn underlying152 Ax rfl rfl rfl rfl qD qD rfl fun y=>zh 2 out ([(⟨2,g,(g + 60)⟩:Part)]:List Part) Af wn rfl rfl rfl (fun _ m=>(AM Af m 0 rfl)) underlying152 Ax rfl rfl q_5 rfl fun A3 Y c9 f4 e4=>?_;apply go 1;refine zK (zj (vJ (g + 60) (out++([(⟨2,g,(g + 60)⟩:Part)]:List Part)) (.slice A3 ((out++([(⟨2,g,(g + 60)⟩:Part)]:List Part)).length) Y) ?_ ?_));have h:Sh.pick z g t=(⟨2,g,(g + 60)⟩:Part):=Sh.Du (z:=z) (f:=g) (t:=t) u.1 u.2;have d:¬ (Sh.pick z g t).AG < 0:=by rw [h]; dsimp only; omega
 have a:=Sh.Ae d;have c:=v.1.trans (Sh.Ad (out:=out) qO d);have e:=Sh.BY out (Sh.pick z g t);rw [h] at a c e;have n:Sh.push out _=_:=Sh.Fs (p:=(⟨2,g,(g + 60)⟩:Part)) qO;rw [n] at c e;try dsimp only at a
 try dsimp only at c
 try dsimp only at e
 exact ⟨c,qO,qO,qO⟩;have h:Sh.pick z g t=(⟨2,g,(g + 60)⟩:Part):=Sh.Du (z:=z) (f:=g) (t:=t) u.1 u.2;have d:¬ (Sh.pick z g t).AG < 0:=by rw [h]; dsimp only; omega
 have a:=Sh.Ae d;rw [h] at a;try dsimp only at a
 omega;refine yM (jE0 [2,3,9,10,11] [(62,.bool (decide (((g + 10)<=t)∧(Sh.may z (⟨1,g,(g + 10)⟩:Part)))))]) (jS0 []) (fun _ H=>?_) ?_;refine (go 6) (zm 67 (fun N=>?_) fun N=>?_);apply go 5;refine yB call144 (wg rfl rfl rfl) rfl (fun A m=>gN _ _ _ _ z (⟨1,g,(g + 10)⟩:Part) (In A) A mJ (m.slp 4 rfl) (m.slp 5 rfl) (m.slp 6 rfl) (m.slp 7 rfl)) ?_;apply go 2;refine zK (kX H (kS5 (sc (jp (AH N Iff.rfl)) sn)));apply go 8;refine zK (kX H (kS5 (sc (jf (fun g=>N g.1)) sn)));refine zQ (fun j=>?_) fun j=>?_;refine (go 29) (vp 85 (fun a5=>?_) fun a5=>?_);apply go 3;obtain ⟨d5,F⟩:=L (ne_nil (i:=(out.length - 1)) uT);refine uD (vO (i:=(out.length - 1)) rfl F rfl qO uT underlying152 Ax) ?_;apply go 1;obtain ⟨s2,B⟩:∃ x,out[(out.length - 1)]?=some x:=⟨_,vA uT⟩;refine uD (uK 1 Af rfl rfl F B rfl BO) ?_;refine (go 6) (zQ (fun M=>?_) fun M=>?_);apply go 6;refine zV (vO (i:=(out.length - 1)) rfl F rfl qO uT underlying152 Ax) ?_;apply go 1;refine uv 1 (vs:=[iV (g + 10)]) (⟨s2.AG,s2.frm,(g + 10)⟩:Part) Af wn rfl rfl rfl rfl F B Eh rfl rfl rfl rfl ?_;apply go 2;refine yS (zw (zx (vJ (g + 10) (out.set (out.length - 1) (⟨s2.AG,s2.frm,(g + 10)⟩:Part)) (.slice A1 out.length J) ?_ ?_)));have h:Sh.pick z g t=(⟨1,g,(g + 10)⟩:Part):=Sh.Dl (z:=z) (f:=g) (t:=t) u j.1 j.2;have d:¬ (Sh.pick z g t).AG < 0:=by rw [h]; dsimp only; omega
 have a:=Sh.Ae d;have c:=v.1.trans (Sh.Ad (out:=out) qO d);have e:=Sh.BY out (Sh.pick z g t);rw [h] at a c e;have n:Sh.push out _=_:=Sh.Dy (p:=(⟨1,g,(g + 10)⟩:Part)) B M;rw [n] at c e;try dsimp only at a
 try dsimp only at c
 try dsimp only at e
 exact ⟨c,qO,qO,qO⟩;have h:Sh.pick z g t=(⟨1,g,(g + 10)⟩:Part):=Sh.Dl (z:=z) (f:=g) (t:=t) u j.1 j.2;have d:¬ (Sh.pick z g t).AG < 0:=by rw [h]; dsimp only; omega
 have a:=Sh.Ae d;rw [h] at a;try dsimp only at a
 omega;apply go 5;refine zf vB ([(⟨1,g,(g + 10)⟩:Part)]:List Part) wn underlying152 Ax rfl rfl rfl rfl qD qD rfl fun y=>zh 2 out ([(⟨1,g,(g + 10)⟩:Part)]:List Part) Af wn rfl rfl rfl (fun _ m=>(AM Af m 0 rfl)) underlying152 Ax rfl rfl q_5 rfl fun A4 a4 f2 e8 f3=>?_;apply go 1;refine zK (zj (vJ (g + 10) (out++([(⟨1,g,(g + 10)⟩:Part)]:List Part)) (.slice A4 ((out++([(⟨1,g,(g + 10)⟩:Part)]:List Part)).length) a4) ?_ ?_));have h:Sh.pick z g t=(⟨1,g,(g + 10)⟩:Part):=Sh.Dl (z:=z) (f:=g) (t:=t) u j.1 j.2;have d:¬ (Sh.pick z g t).AG < 0:=by rw [h]; dsimp only; omega
 have a:=Sh.Ae d;have c:=v.1.trans (Sh.Ad (out:=out) qO d);have e:=Sh.BY out (Sh.pick z g t);rw [h] at a c e;have n:Sh.push out _=_:=Sh.Eu (p:=(⟨1,g,(g + 10)⟩:Part)) B M;rw [n] at c e;try dsimp only at a
 try dsimp only at c
 try dsimp only at e
 exact ⟨c,qO,qO,qO⟩;have h:Sh.pick z g t=(⟨1,g,(g + 10)⟩:Part):=Sh.Dl (z:=z) (f:=g) (t:=t) u j.1 j.2;have d:¬ (Sh.pick z g t).AG < 0:=by rw [h]; dsimp only; omega
 have a:=Sh.Ae d;rw [h] at a;try dsimp only at a
 omega;apply go 18;refine zf vB ([(⟨1,g,(g + 10)⟩:Part)]:List Part) wn underlying152 Ax rfl rfl rfl rfl qD qD rfl fun y=>zh 2 out ([(⟨1,g,(g + 10)⟩:Part)]:List Part) Af wn rfl rfl rfl (fun _ m=>(AM Af m 0 rfl)) underlying152 Ax rfl rfl q_5 rfl fun A5 a1 e3 d2 d6=>?_;apply go 1;refine zK (zj (vJ (g + 10) (out++([(⟨1,g,(g + 10)⟩:Part)]:List Part)) (.slice A5 ((out++([(⟨1,g,(g + 10)⟩:Part)]:List Part)).length) a1) ?_ ?_));have h:Sh.pick z g t=(⟨1,g,(g + 10)⟩:Part):=Sh.Dl (z:=z) (f:=g) (t:=t) u j.1 j.2;have d:¬ (Sh.pick z g t).AG < 0:=by rw [h]; dsimp only; omega
 have a:=Sh.Ae d;have c:=v.1.trans (Sh.Ad (out:=out) qO d);have e:=Sh.BY out (Sh.pick z g t);rw [h] at a c e;have n:Sh.push out _=_:=Sh.Fs (p:=(⟨1,g,(g + 10)⟩:Part)) qO;rw [n] at c e;try dsimp only at a
 try dsimp only at c
 try dsimp only at e
 exact ⟨c,qO,qO,qO⟩;have h:Sh.pick z g t=(⟨1,g,(g + 10)⟩:Part):=Sh.Dl (z:=z) (f:=g) (t:=t) u j.1 j.2;have d:¬ (Sh.pick z g t).AG < 0:=by rw [h]; dsimp only; omega
 have a:=Sh.Ae d;rw [h] at a;try dsimp only at a
 omega;apply go 8;refine yB call132 wn rfl (fun _ _=>gr) ?_;apply go 8;refine yB call144 wn rfl (fun A m=>gN _ _ _ _ z (⟨0,g,(Sh.mn t (((g / 10) * 10) + 10))⟩:Part) (In A) A mJ (m.slp 4 rfl) (m.slp 5 rfl) (m.slp 6 rfl) (m.slp 7 rfl)) ?_;refine (go 3) (zQ (fun o=>?_) fun o=>?_);apply go 2;refine zr (vB:Part->List Value) 217 3 ?_;refine (go 11) (yE fun A m=>?_);have k:=Sh.Hj g t;rw [k] at o;have h:=Sh.Nn (z:=z) (f:=g) (t:=t) u j (fun q=>o q.2);have he:Sh.choose z f t=(([]:List Part),10):=Sh.Js T qO v.1 qO (by rw [h]; decide);exact m.gi 0 rfl (by rw [he]) (by rw [he]);refine (go 23) (vp 85 (fun a6=>?_) fun a6=>?_);apply go 3;obtain ⟨c4,D⟩:=L (ne_nil (i:=(out.length - 1)) uT);refine uD (vO (i:=(out.length - 1)) rfl D rfl qO uT underlying152 Ax) ?_;apply go 1;obtain ⟨V,G⟩:∃ x,out[(out.length - 1)]?=some x:=⟨_,vA uT⟩;refine uD (uK 1 Af rfl rfl D G rfl BO) ?_;refine (go 6) (zQ (fun O=>?_) fun O=>?_);apply go 6;refine zV (vO (i:=(out.length - 1)) rfl D rfl qO uT underlying152 Ax) ?_;apply go 1;refine uv 1 (vs:=[iV (Sh.mn t (((g / 10) * 10) + 10))]) (⟨V.AG,V.frm,(Sh.mn t (((g / 10) * 10) + 10))⟩:Part) Af wn rfl rfl rfl rfl D G Eh rfl rfl rfl rfl ?_;apply go 2;refine yS (zw (zx (vJ (Sh.mn t (((g / 10) * 10) + 10)) (out.set (out.length - 1) (⟨V.AG,V.frm,(Sh.mn t (((g / 10) * 10) + 10))⟩:Part)) (.slice A1 out.length J) ?_ ?_)));have k:=Sh.Hj g t;rw [k] at o;have h:Sh.pick z g t=(⟨0,g,(Sh.mn t (((g / 10) * 10) + 10))⟩:Part):=(Sh.Dj (z:=z) (f:=g) (t:=t) u j (Sh.NN _ _) (nn o)).trans (by rw [k]);have d:¬ (Sh.pick z g t).AG < 0:=by rw [h]; dsimp only; omega
 have a:=Sh.Ae d;have c:=v.1.trans (Sh.Ad (out:=out) qO d);have e:=Sh.BY out (Sh.pick z g t);rw [h] at a c e;have n:Sh.push out _=_:=Sh.Dy (p:=(⟨0,g,(Sh.mn t (((g / 10) * 10) + 10))⟩:Part)) G O;rw [n] at c e;try dsimp only at a
 try dsimp only at c
 try dsimp only at e
 exact ⟨c,qO,qO,qO⟩;have k:=Sh.Hj g t;rw [k] at o;have h:Sh.pick z g t=(⟨0,g,(Sh.mn t (((g / 10) * 10) + 10))⟩:Part):=(Sh.Dj (z:=z) (f:=g) (t:=t) u j (Sh.NN _ _) (nn o)).trans (by rw [k]);have d:¬ (Sh.pick z g t).AG < 0:=by rw [h]; dsimp only; omega
 have a:=Sh.Ae d;rw [h] at a;try dsimp only at a
 omega;apply go 5;refine zf vB ([(⟨0,g,(Sh.mn t (((g / 10) * 10) + 10))⟩:Part)]:List Part) wn underlying152 Ax rfl rfl rfl rfl qD qD rfl fun y=>zh 2 out ([(⟨0,g,(Sh.mn t (((g / 10) * 10) + 10))⟩:Part)]:List Part) Af wn rfl rfl rfl (fun _ m=>(AM Af m 0 rfl)) underlying152 Ax rfl rfl q_5 rfl fun A6 a0 c6 f1 e7=>?_;apply go 1;refine zK (zj (vJ (Sh.mn t (((g / 10) * 10) + 10)) (out++([(⟨0,g,(Sh.mn t (((g / 10) * 10) + 10))⟩:Part)]:List Part)) (.slice A6 ((out++([(⟨0,g,(Sh.mn t (((g / 10) * 10) + 10))⟩:Part)]:List Part)).length) a0) ?_ ?_));have k:=Sh.Hj g t;rw [k] at o;have h:Sh.pick z g t=(⟨0,g,(Sh.mn t (((g / 10) * 10) + 10))⟩:Part):=(Sh.Dj (z:=z) (f:=g) (t:=t) u j (Sh.NN _ _) (nn o)).trans (by rw [k]);have d:¬ (Sh.pick z g t).AG < 0:=by rw [h]; dsimp only; omega
 have a:=Sh.Ae d;have c:=v.1.trans (Sh.Ad (out:=out) qO d);have e:=Sh.BY out (Sh.pick z g t);rw [h] at a c e;have n:Sh.push out _=_:=Sh.Eu (p:=(⟨0,g,(Sh.mn t (((g / 10) * 10) + 10))⟩:Part)) G O;rw [n] at c e;try dsimp only at a
 try dsimp only at c
 try dsimp only at e
 exact ⟨c,qO,qO,qO⟩;have k:=Sh.Hj g t;rw [k] at o;have h:Sh.pick z g t=(⟨0,g,(Sh.mn t (((g / 10) * 10) + 10))⟩:Part):=(Sh.Dj (z:=z) (f:=g) (t:=t) u j (Sh.NN _ _) (nn o)).trans (by rw [k]);have d:¬ (Sh.pick z g t).AG < 0:=by rw [h]; dsimp only; omega
 have a:=Sh.Ae d;rw [h] at a;try dsimp only at a
 omega;apply go 18;refine zf vB ([(⟨0,g,(Sh.mn t (((g / 10) * 10) + 10))⟩:Part)]:List Part) wn underlying152 Ax rfl rfl rfl rfl qD qD rfl fun y=>zh 2 out ([(⟨0,g,(Sh.mn t (((g / 10) * 10) + 10))⟩:Part)]:List Part) Af wn rfl rfl rfl (fun _ m=>(AM Af m 0 rfl)) underlying152 Ax rfl rfl q_5 rfl fun A7 Z d8 e9 c5=>?_;apply go 1;refine zK (zj (vJ (Sh.mn t (((g / 10) * 10) + 10)) (out++([(⟨0,g,(Sh.mn t (((g / 10) * 10) + 10))⟩:Part)]:List Part)) (.slice A7 ((out++([(⟨0,g,(Sh.mn t (((g / 10) * 10) + 10))⟩:Part)]:List Part)).length) Z) ?_ ?_));have k:=Sh.Hj g t;rw [k] at o;have h:Sh.pick z g t=(⟨0,g,(Sh.mn t (((g / 10) * 10) + 10))⟩:Part):=(Sh.Dj (z:=z) (f:=g) (t:=t) u j (Sh.NN _ _) (nn o)).trans (by rw [k]);have d:¬ (Sh.pick z g t).AG < 0:=by rw [h]; dsimp only; omega
 have a:=Sh.Ae d;have c:=v.1.trans (Sh.Ad (out:=out) qO d);have e:=Sh.BY out (Sh.pick z g t);rw [h] at a c e;have n:Sh.push out _=_:=Sh.Fs (p:=(⟨0,g,(Sh.mn t (((g / 10) * 10) + 10))⟩:Part)) qO;rw [n] at c e;try dsimp only at a
 try dsimp only at c
 try dsimp only at e
 exact ⟨c,qO,qO,qO⟩;have k:=Sh.Hj g t;rw [k] at o;have h:Sh.pick z g t=(⟨0,g,(Sh.mn t (((g / 10) * 10) + 10))⟩:Part):=(Sh.Dj (z:=z) (f:=g) (t:=t) u j (Sh.NN _ _) (nn o)).trans (by rw [k]);have d:¬ (Sh.pick z g t).AG < 0:=by rw [h]; dsimp only; omega
 have a:=Sh.Ae d;rw [h] at a;try dsimp only at a
 omega;refine (go 13) (yE fun A m=>?_);have he:Sh.choose z f t=(out,0):=Sh.Ka T qO v.1 qO;exact m.gi 0 rfl (by rw [he]) (by rw [he])
theorem UQ (z0:Value) (z1:Value) (z2:Value) (z3:Value) (z:Shelf) (lv:Value) (l:List Part) (P0:Nat->Prop) (w:World) (d1:∀ b,P0 b->b < w.heap.size) (a7:zH P0 2 zb z0 z.zM w) (a8:zH P0 2 zX z1 z.raw w) (b5:zH P0 8 zO z2 z.AD w) (a3:zH P0 8 zO z3 z.coarse w) (hl:zH P0 3 vB lv l w) (i2:l.length<=1048576) (hok:∀ x ∈ z.zM,x.key.size<=9223372036854775807∧x.val.size<=9223372036854775807) :
    Calls prog 89 #[.agg (List.toArray [z0,z1,z2,z3,iV z.zS,iV z.zN,iV z.zG,iV z.zJ,iV z.zE]),lv] w (Ret w (.tuple #[.agg (CK (Sh.read z l).1).toArray,iV (Sh.read z l).2.1,iV (Sh.read z l).2.2])):=by
 obtain ⟨r,p,rfl,e8,d7,e2⟩:=a7.form
 obtain ⟨o,e,rfl,e7,e9,b3⟩:=a8.form
 obtain ⟨f,g,rfl,d6,d8,d9⟩:=b5.form
 obtain ⟨n,m,rfl,e4,e0,e6⟩:=a3.form
 obtain ⟨y,A,rfl,i1,i3,c4⟩:=hl.form
 refine zp func89 (Mem.AT d1 (dc (dlp a7) (dc (dlp a8) (dc (dlp b5) (dc (dlp a3) (dc (dlp hl) dn)))))) ?_
 refine (go 2) (yw fun D=>zl fun F=>?_)
 apply go 8
 refine yB call129 wn rfl (fun O s=>uO (In O) (fun _ h=>h) (s.slp 2 rfl) (s.slp 3 rfl) (s.slp 4 rfl) (s.slp 5 rfl) gw) ?_
 refine (go 9) (zQ (fun L=>?_) fun L=>?_)
 ·refine (go 11) (uN results89 fun O s=>?_)
  have he:Sh.read z l=(Sum.zero,0,(Sh.AE z)):=Sh.FA L
  rw [he]
  exact zL rfl s
 obtain ⟨l1,l2,l3,l4⟩:=(Sh.BD L).lens
 refine (go 4) (zl fun E=>?_)
 apply go 16
 refine jk (fun (k:Nat) (u:Sum) (c:Int)=>[(1,.slice y l.length A),(2,.pointer (some ⟨D,0,none⟩)),(4,.pointer (some ⟨F,0,none⟩)),(8,.pointer (some ⟨E,0,none⟩)),(9,iV c),(23,.slice y l.length A),(24,iV l.length),(25,iV k)]) (fun (k:Nat) (u:Sum) (c:Int)=>[.blk E [iV u.count,iV u.total,iV u.min,iV u.max,iV u.first,iV u.last,iV u.Ap] 89,.blk F [iV 0,iV 0,iV 0,iV 0,iV 0,iV 0,iV 0] 89,.blk D [.slice r z.zM.length p,.slice o z.raw.length e,.slice f z.AD.length g,.slice n z.coarse.length m,iV z.zS,iV z.zN,iV z.zG,iV z.zJ,iV z.zE] 50,slP 2 zb (.slice r z.zM.length p) z.zM,slP 2 zX (.slice o z.raw.length e) z.raw,slP 8 zO (.slice f z.AD.length g) z.AD,slP 8 zO (.slice n z.coarse.length m) z.coarse,slP 3 vB (.slice y l.length A) l]) (fun (k:Nat) (u:Sum) (c:Int)=>k<=l.length∧Sh.DB z none l Sum.zero 0=Sh.DB z (Sh.Df l k) (l.drop k) u c∧(0<=c∧c<=500 * (k:Int))∧Sh.Dd u (30000 * (k:Int))) (fun (k:Nat) (u:Sum) (c:Int)=>l.length - k) 0 Sum.zero 0 (kS7 (sc (ji q_0) sn)) (fun _ h=>h) ?_ (fun k u c v=>?_)
 ·exact ⟨qO,rfl,qO,by simpa using Sh.CE⟩
 refine (go 6) (zQ (fun h2=>?_) fun h2=>?_)
 ·apply go 7
  obtain ⟨f7,s1,d0,X⟩:=elx c4 k
  apply go 1
  have e1:=Sh.DT z.AD s1.frm s1.to
  have e3:=Sh.DT z.coarse s1.frm s1.to
  have e5:=Roll.Ca z.raw s1.frm s1.to
  refine (go 1) (zl fun t=>?_)
  apply go 4
  refine ze fun c5 a1=>?_
  have a4:∀ (H:Sh.may z s1) (a0:¬ (Sh.apart (Sh.Df l k) s1=true)),∀ U,Mem w ⟨no,P0⟩ [.blk t [iV s1.AG,iV s1.frm,iV s1.to] 217,.blk E [iV u.count,iV u.total,iV u.min,iV u.max,iV u.first,iV u.last,iV u.Ap] 89,.blk F [iV 0,iV 0,iV 0,iV 0,iV 0,iV 0,iV 0] 89,.blk D [.slice r z.zM.length p,.slice o z.raw.length e,.slice f z.AD.length g,.slice n z.coarse.length m,iV z.zS,iV z.zN,iV z.zG,iV z.zJ,iV z.zE] 50,slP 2 zb (.slice r z.zM.length p) z.zM,slP 2 zX (.slice o z.raw.length e) z.raw,slP 8 zO (.slice f z.AD.length g) z.AD,slP 8 zO (.slice n z.coarse.length m) z.coarse,slP 3 vB (.slice y l.length A) l] U->∀ Q,Has 105 [] Q [(1,.slice y l.length A),(2,.pointer (some ⟨D,0,none⟩)),(4,.pointer (some ⟨F,0,none⟩)),(8,.pointer (some ⟨E,0,none⟩)),(9,iV c),(11,.pointer (some ⟨t,0,none⟩)),(23,.slice y l.length A),(24,iV l.length),(25,iV k)]->c5 Q U:=by
   intro H a0
   refine a1 _ _ ?_
   apply go 7
   refine ze fun d4 c0=>?_
   have b6:∀ (Z:List AB) (bv:Value) (P:Z=if s1.AG=2 then z.coarse else z.AD),∀ U,Mem w ⟨no,P0⟩ [slP 8 zO bv Z,.blk t [iV s1.AG,iV s1.frm,iV s1.to] 217,.blk E [iV u.count,iV u.total,iV u.min,iV u.max,iV u.first,iV u.last,iV u.Ap] 89,.blk F [iV 0,iV 0,iV 0,iV 0,iV 0,iV 0,iV 0] 89,.blk D [.slice r z.zM.length p,.slice o z.raw.length e,.slice f z.AD.length g,.slice n z.coarse.length m,iV z.zS,iV z.zN,iV z.zG,iV z.zJ,iV z.zE] 50,slP 2 zb (.slice r z.zM.length p) z.zM,slP 2 zX (.slice o z.raw.length e) z.raw,slP 8 zO (.slice f z.AD.length g) z.AD,slP 8 zO (.slice n z.coarse.length m) z.coarse,slP 3 vB (.slice y l.length A) l] U->∀ Q,Has 105 [] Q [(1,.slice y l.length A),(2,.pointer (some ⟨D,0,none⟩)),(4,.pointer (some ⟨F,0,none⟩)),(8,.pointer (some ⟨E,0,none⟩)),(9,iV c),(11,.pointer (some ⟨t,0,none⟩)),(12,bv),(23,.slice y l.length A),(24,iV l.length),(25,iV k)]->d4 Q U:=by
    intro Z bv P
    refine c0 _ _ (Ex.qx 0 rfl (fun S w h=>zH.form h) fun R=>?_)
    obtain ⟨A1,a2,rfl,i4,i9,f4⟩:=R
    refine ze fun c3 b7=>?_
    have b1:∀ (d:List AB) (W:Value) (I:Sh.Bm z s1=d),∀ U,Mem w ⟨no,P0⟩ [slP 8 zO W d,.blk t [iV s1.AG,iV s1.frm,iV s1.to] 217,.blk E [iV u.count,iV u.total,iV u.min,iV u.max,iV u.first,iV u.last,iV u.Ap] 89,.blk F [iV 0,iV 0,iV 0,iV 0,iV 0,iV 0,iV 0] 89,.blk D [.slice r z.zM.length p,.slice o z.raw.length e,.slice f z.AD.length g,.slice n z.coarse.length m,iV z.zS,iV z.zN,iV z.zG,iV z.zJ,iV z.zE] 50,slP 2 zb (.slice r z.zM.length p) z.zM,slP 2 zX (.slice o z.raw.length e) z.raw,slP 8 zO (.slice f z.AD.length g) z.AD,slP 8 zO (.slice n z.coarse.length m) z.coarse,slP 3 vB (.slice y l.length A) l] U->∀ Q,Has 105 [] Q [(1,.slice y l.length A),(2,.pointer (some ⟨D,0,none⟩)),(4,.pointer (some ⟨F,0,none⟩)),(8,.pointer (some ⟨E,0,none⟩)),(9,iV c),(11,.pointer (some ⟨t,0,none⟩)),(12,W),(23,.slice y l.length A),(24,iV l.length),(25,iV k)]->c3 Q U:=by
     intro d W I
     refine b7 _ _ (Ex.qx 0 rfl (fun S w h=>zH.form h) fun R=>?_)
     obtain ⟨A2,b9,rfl,f1,i6,c6⟩:=R
     apply go 8
     have V:Sh.Bm z s1=d:=I
     obtain ⟨N,M⟩:=Sh.Ik (Sh.BD L) s1
     rw [V] at N M
     refine vu (fun (i:Nat)=>[(1,.slice y l.length A),(2,.pointer (some ⟨D,0,none⟩)),(4,.pointer (some ⟨F,0,none⟩)),(8,.pointer (some ⟨E,0,none⟩)),(9,iV (c + ((Sh.bIn (d.take i) s1.frm s1.to).length:Int))),(11,.pointer (some ⟨t,0,none⟩)),(23,.slice y l.length A),(24,iV l.length),(25,iV k),(77,.slice A2 d.length b9),(78,iV d.length),(79,iV i)]) (fun (i:Nat)=>[slP 8 zO (.slice A2 d.length b9) d,.blk t [iV s1.AG,iV s1.frm,iV s1.to] 217,.blk E [iV ((Agg.join u (Roll.of (d.take i) s1.frm s1.to)).count),iV ((Agg.join u (Roll.of (d.take i) s1.frm s1.to)).total),iV ((Agg.join u (Roll.of (d.take i) s1.frm s1.to)).min),iV ((Agg.join u (Roll.of (d.take i) s1.frm s1.to)).max),iV ((Agg.join u (Roll.of (d.take i) s1.frm s1.to)).first),iV ((Agg.join u (Roll.of (d.take i) s1.frm s1.to)).last),iV ((Agg.join u (Roll.of (d.take i) s1.frm s1.to)).Ap)] 89,.blk F [iV 0,iV 0,iV 0,iV 0,iV 0,iV 0,iV 0] 89,.blk D [.slice r z.zM.length p,.slice o z.raw.length e,.slice f z.AD.length g,.slice n z.coarse.length m,iV z.zS,iV z.zN,iV z.zG,iV z.zJ,iV z.zE] 50,slP 2 zb (.slice r z.zM.length p) z.zM,slP 2 zX (.slice o z.raw.length e) z.raw,slP 8 zO (.slice f z.AD.length g) z.AD,slP 8 zO (.slice n z.coarse.length m) z.coarse,slP 3 vB (.slice y l.length A) l]) (fun (i:Nat)=>i<=d.length) (fun (i:Nat)=>d.length - i) 0 (kS4 (sc (ji q_0) (kS6 (sc (ji q_0) sn)))) (fun _ h=>by rw [show (Roll.of (List.take 0 d) s1.frm s1.to)=Sum.zero from rfl,Sh.Uu v.2.2.2]; exact h) ?_ (fun i f8=>?_)
     ·omega
     ·
      have i5:=vN (Sh.DT (d.take i) s1.frm s1.to) (List.length_take_le' i d)
      refine (go 6) (zQ (fun h3=>?_) fun h3=>?_)
      ·
       apply go 6
       obtain ⟨h0,s2,k0,C⟩:=elx c6 i
       refine (go 2) (zl fun f9=>?_)
       refine (go 11) (zm 88 (fun h4=>?_) fun h4=>?_)
       ·
        refine (go 8) (zQ (fun h5=>?_) fun h5=>?_)
        ·
         apply go 5
         refine yB call145 wn rfl (fun _ _=>NP) ?_
         apply go 13
         have G:=(Sh.of_next v.2.2.2 qO N M C s1.frm s1.to).trans (zP qO)
         have hst2:=(Sh.DZ (a:=s1.frm) (b:=s1.to) C).trans (zP qO)
         refine zK (uB (i + 1) (kS4 (sc (ji q_0) (kS6 (sc (ji q_0) sn)))) (fun _ h=>by rw [G]; exact (h.sel [1,2,3,4,5,6,7,8,9,10] qD rfl)) ?_ ?_)
         ·omega
         ·omega
        ·
         apply go 6
         have G:=(Sh.of_next v.2.2.2 qO N M C s1.frm s1.to).trans (zI qO)
         have hst2:=(Sh.DZ (a:=s1.frm) (b:=s1.to) C).trans (zI qO)
         refine zK (uB (i + 1) (kS4 (sc (ji q_0) (kS6 (sc (ji q_0) sn)))) (fun _ h=>by rw [G]; exact (h.sel [1,2,3,4,5,6,7,8,9,10] qD rfl)) ?_ ?_)
         ·omega
         ·omega
       ·
        apply go 15
        have G:=(Sh.of_next v.2.2.2 qO N M C s1.frm s1.to).trans (zI qO)
        have hst2:=(Sh.DZ (a:=s1.frm) (b:=s1.to) C).trans (zI qO)
        refine zK (uB (i + 1) (kS4 (sc (ji q_0) (kS6 (sc (ji q_0) sn)))) (fun _ h=>by rw [G]; exact (h.sel [1,2,3,4,5,6,7,8,9,10] qD rfl)) ?_ ?_)
        ·omega
        ·omega
      ·
       have c1:d.take i=d:=vg qO
       rw [c1]
       apply go 9
       refine zK (uY (k + 1) (Agg.join u (Roll.of d s1.frm s1.to)) (c + ((Sh.bIn d s1.frm s1.to).length:Int)) (kS7 (sc (ji q_0) sn)) (S9 [2,3,4,5,6,7,8,9]) ?_ ?_)
       ·have V:Sh.Bm z s1=d:=I
        have J:Sh.Bv z s1=_∧Sh.BV z s1=_:=⟨(Sh.Hh H).symm,(Sh.Kp H).symm⟩
        rw [V] at J
        have b0:=Sh.CR (Sh.BD L) H
        have c8:=Sh.CO (Sh.BD L) s1
        rw [J.1] at b0
        rw [J.2] at c8
        exact ⟨qO,Sh.Dk v.2.1 X H a0 J.1 J.2,qO,(v.2.2.2.join b0 qO).mono qO⟩
       ·omega
    refine (go 7) (zQ (fun h6=>?_) fun h6=>?_)
    ·
     apply go 2
     refine zr (zO:AB->List Value) 163 8 ?_
     apply go 12
     refine u5 (fun (j:Nat) (vr:Value)=>[(1,.slice y l.length A),(2,.pointer (some ⟨D,0,none⟩)),(4,.pointer (some ⟨F,0,none⟩)),(8,.pointer (some ⟨E,0,none⟩)),(9,iV c),(11,.pointer (some ⟨t,0,none⟩)),(12,vr),(23,.slice y l.length A),(24,iV l.length),(25,iV k),(61,.slice o z.raw.length e),(62,iV z.raw.length),(63,iV j)]) (fun (j:Nat) (vr:Value)=>[Row vr 163 8 zO (Sh.FQ (z.raw.take j)),slP 8 zO (.slice A1 Z.length a2) Z,.blk t [iV s1.AG,iV s1.frm,iV s1.to] 217,.blk E [iV u.count,iV u.total,iV u.min,iV u.max,iV u.first,iV u.last,iV u.Ap] 89,.blk F [iV 0,iV 0,iV 0,iV 0,iV 0,iV 0,iV 0] 89,.blk D [.slice r z.zM.length p,.slice o z.raw.length e,.slice f z.AD.length g,.slice n z.coarse.length m,iV z.zS,iV z.zN,iV z.zG,iV z.zJ,iV z.zE] 50,slP 2 zb (.slice r z.zM.length p) z.zM,slP 2 zX (.slice o z.raw.length e) z.raw,slP 8 zO (.slice f z.AD.length g) z.AD,slP 8 zO (.slice n z.coarse.length m) z.coarse,slP 3 vB (.slice y l.length A) l]) (fun (j:Nat) (vr:Value)=>j<=z.raw.length) (fun (j:Nat) (vr:Value)=>z.raw.length - j) 0 (Zs) (kS4 (kS8 (sc (ji q_0) sn))) (fun _ h=>h) ?_ (fun j vr f3=>?_)
     ·omega
     ·
      have i8:(Sh.FQ (z.raw.take j)).length<=z.raw.length:=by rw [Sh.Lx]; exact List.length_take_le' j z.raw
      refine yP 0 (l:=(Sh.FQ (z.raw.take j))) rfl fun A3 c2 c9 f6 k4 d2=>?_
      subst c9
      refine (go 6) (zQ (fun h7=>?_) fun h7=>?_)
      ·
       apply go 6
       obtain ⟨f2,T,i7,d5⟩:=elx b3 j
       refine (go 2) (zl fun f5=>?_)
       apply go 3
       refine vV (uA 6 [0,1,2,3] [0,2,3,4,5,6,7,8,9,10,11] rfl fun KS K=>?_)
       apply go 4
       refine zc K (zi 4 rfl fun KN B=>zf zX ([T]:List AA) wn underlying47 Ao rfl rfl rfl rfl qD qD rfl fun f0=>?_)
       apply go 1
       refine B _ _ (S9 [1,3,4,5,6,7,8,9,10,11,12]) (zi 5 rfl fun KN B=>yB call130 wn rfl (fun _ s=>TG ([T]:List AA) (AM AK s 0 rfl) qS (fun x hx=>by obtain rfl:=yf.1 hx; have:=(Sh.BD L).rawR.rng _ (mo q_6); omega)) ?_)
       apply go 1
       refine B _ _ (S9 [1,3,4,5,6,7,8,9,10,11,12]) (yH 3 [6] rfl fun KS K=>?_)
       apply go 1
       refine zc K (zi 7 rfl fun KN B=>zf zO ([(⟨T.time,(Agg.of ([T]:List AA))⟩:AB)]:List AB) wn underlying48 BI rfl rfl rfl rfl qD qD rfl fun i0=>?_)
       apply go 1
       refine B _ _ (S9 [2,4,5,6,7,8,9,10,11,12,13]) (zi 8 rfl fun KN B=>zh 3 (Sh.FQ (z.raw.take j)) ([(⟨T.time,(Agg.of ([T]:List AA))⟩:AB)]:List AB) AN wn rfl rfl rfl (fun _ s=>(AM AN s 0 rfl)) underlying48 BI rfl rfl qQ rfl fun A4 d3 k2 k1 k3=>?_)
       apply go 1
       refine B _ _ (S9 [2,4,5,6,7,8,9,10,11,12,13]) (yH 0 [9] rfl fun KS K=>?_)
       apply go 1
       refine zc K ?_
       refine zg q_3 ((go 2) ?_)
       apply go 3
       refine zK (jF (j + 1) (.slice A4 (((Sh.FQ (z.raw.take j))++([(⟨T.time,(Agg.of ([T]:List AA))⟩:AB)]:List AB)).length) d3) (kS4 (kS8 (sc (ji q_0) sn))) (fun _ h=>by rw [Sh.Uq d5]; exact (h.sel [3,4,5,6,7,8,9,10,11,12,13] qD rfl)) ?_ ?_)
       ·omega
       ·omega
      ·
       have a5:z.raw.take j=z.raw:=vg qO
       rw [a5]
       rw [a5] at d2
       refine uu (fun _ h=>h.zo AN (i:=0) rfl rfl) ?_
       refine yS (zw (uR (zx (yc (b1 (Sh.FQ z.raw) (.slice A3 ((Sh.FQ z.raw).length) c2) ((by unfold Sh.Bm; rw [zI qO,zP h6]))) sA (S9 [0,2,3,4,5,6,7,8,9,10])))))
    ·
     refine yW (yc (b1 Z (.slice A1 Z.length a2) ((by rw [P]; unfold Sh.Bm; rw [zI h6]))) sA (fun _ h=>h))
   apply go 2
   refine zZ (fun _ h=>h.dup 6 rfl rfl) ?_
   refine (go 5) (zQ (fun h8=>?_) fun h8=>?_)
   ·
    apply go 3
    refine zZ (fun _ h=>h.dup 8 rfl rfl) ?_
    apply go 1
    refine zK (yc (b6 z.coarse (.slice n z.coarse.length m) ((zP h8).symm)) sA (S9 [0,2,3,4,5,6,7,8,9,10]))
   ·
    refine yW (yc (b6 z.AD (.slice f z.AD.length g) ((zI h8).symm)) sA (fun _ h=>h))
  apply go 4
  refine yL wn rfl call144 rfl (fun O s=>gN _ _ _ _ z s1 (In O) O (fun _ h=>h) (s.slp 4 rfl) (s.slp 5 rfl) (s.slp 6 rfl) (s.slp 7 rfl)) ?_
  refine (go 2) (vp 34 (fun R=>?_) fun R=>?_)
  ·refine (go 32) (uN results89 fun O s=>?_)
   have he:Sh.read z l=(Sum.zero,0,8):=Sh.IK L v.2.1 X (.inl R)
   rw [he]
   exact zL rfl s
  refine (go 3) (vp 37 (fun c7=>?_) fun c7=>?_)
  ·apply go 5
   refine uD (vO (i:=(k - 1)) rfl d0 rfl qO qI underlying152 Ax) ?_
   apply go 1
   obtain ⟨s4,a6⟩:=gx l ((k - 1))
   refine (go 6) (zQ (fun Y=>?_) fun Y=>?_)
   ·refine (go 15) (uN results89 fun O s=>?_)
    have he:Sh.read z l=(Sum.zero,0,8):=Sh.IK L v.2.1 X (.inr ((Sh.Ec qO a6).2 (Ne.symm Y)))
    rw [he]
    exact zL rfl s
   refine yW (yc (a4  ((nn R)) ((fun q=>Y (Ne.symm ((Sh.Ec qO a6).1 q))))) sA (fun _ h=>h))
  apply go 14
  refine yW (yc (a4  ((nn R)) ((Sh.GL qO))) sA (fun _ h=>h))
 refine (go 15) (uN results89 fun O s=>?_)
 have he:Sh.read z l=(u,c,0):=Sh.TU L v.2.1 qO
 rw [he]
 exact zL rfl s
theorem uh {e:Int} {w:World}   :
    Calls prog 75 #[iV e] w (Ret w (.agg (uZ (noX e)).toArray)):=by
 refine zp func75 (Mem.AQ dn) ?_;refine (gg) (zl fun b=>?_);refine (gg) (zR fun c a=>?_);exact zL rfl a
theorem WK {H bp cost:Nat} {x:yA} {S:Nat->Prop} {ms:SlX Match} {a b n:Int} {W:Nat->Prop} {w:World} (R:Mem w ⟨AX [.blk cost [iV n] 3,.dat S (EL 97 25 S H bp x),.pub (ShG x),slP 3 yF (ms.v) ms.l],W⟩ [.blk cost [iV n] 3,.dat S (EL 97 25 S H bp x),.pub (ShG x),slP 3 yF (ms.v) ms.l] w) (U:∀ s ∈ x.zA.l,s.sr.l.length<=1048576∧∀ y ∈ s.sr.l,y.key.size<=9223372036854775807∧y.val.size<=9223372036854775807) (b3:x.zA.l.length<=8) (E:∀ s ∈ x.zA.l,∀ a b:Int,(Sh.choose s.e a b).2=0->(Sh.read s.e (Sh.choose s.e a b).1).2.2=0) :
    Calls prog 86 #[ms.v,iV a,iV b,.pointer (some ⟨H,0,none⟩),.pointer (some ⟨cost,0,none⟩)] w (Be w [.blk cost [iV n] 3,.dat S (EL 97 25 S H bp x),.pub (ShG x),slP 3 yF (ms.v) ms.l] W (refV (Bs.look (x.zA.l.map zB.e) ms.l a b).2) (fun z=>Cx.is z (Bs.look (x.zA.l.map zB.e) ms.l a b).1) (fun z=>[.pub (fun S=>Cx.Ok S z),.blk cost [iV (Bs.cost (x.zA.l.map zB.e) ms.l a b n)] 3])):=by
 obtain ⟨f1,d4,d8⟩:=zH.wf (R.slp 3 rfl);have R:=(R.lentR 1 rfl).shG 4 rfl;obtain ⟨d9,f6,a8⟩:=zH.wf (R.slp 0 rfl);have a3:∀ y ∈ x.zA.l,zB.Wf y:=fun y hy=>((R.yU (i:=1) rfl) y hy).wf;refine zp func86 R ?_;apply go 9;refine zr (zu:zC->List Value) 81 2 (zZ (fun _ h=>h.FR zC.Ok.loc) ?_);apply go 5;refine zr (CK:Sum->List Value) 89 7 ?_;apply go 15;refine c_lJ7 (jE7 [0,1,2,4,23,24] fun (k:Nat) (t:List zC) (B:List Sum) (u:List (List Label × Sum)) (c:Int) (Q:Value) (O:Value)=>[(11,Q),(12,O),(25,iV k)]) (jS7 fun k t B u c Q O=>[.s 0 (Row O 89 7 CK B),.s 1 (AS zC.Ok t),.s 2 (Row Q 81 2 zu t),.s 7 (.blk cost [iV c] 3)]) (fun k t B u c Q O=>k<=x.zA.l.length∧(∀ y ∈ t,zC.Wf y)∧t.map (fun y=>y.sr.l)=u.map (·.1)∧B=u.map (·.2)∧Bs.look (x.zA.l.map zB.e) ms.l a b=Bs.pre u (Bs.look ((x.zA.l.map zB.e).drop k) ms.l a b)∧Bs.cost (x.zA.l.map zB.e) ms.l a b n=Bs.cost ((x.zA.l.map zB.e).drop k) ms.l a b c∧(t.length<=k∧B.length<=k)) (fun k t B u c Q O=>x.zA.l.length - k) 0 [] [] [] n (Zs) (Zs) ?_ (fun k t B u c Q O d=>?_);exact ⟨Nat.zero_le _,fun x hx=>ja,rfl,rfl,Bs.pre_0 _ _ _,rfl,vY _,vY _⟩;have I:=d.2.1;have e3:=d.2.2.2.2.2.2;refine yP 2 (l:=t) rfl fun Z J a7 e6 f2 d1=>?_;subst a7;refine yP 0 (l:=B) rfl fun X M b1 c6 e7 d7=>?_;subst b1;refine (go 6) (zQ (fun h1=>?_) fun h1=>?_);apply go 6;obtain ⟨d6,s1,f0,o⟩:=elx a8 k;apply go 1;have hok:=(U _ (mo o)).2;have d3:=(U _ (mo o)).1;refine (go 1) (zl fun d2=>?_);apply go 9;have G:=a3 _ (mo o);refine zZ (fun _ h=>h.one 5 zB.Ok.loc rfl o) (zZ (fun _ h=>h.DU 0 rfl) ?_);obtain ⟨d5,h5,K⟩:=G.sr;obtain ⟨h0,f5,h4⟩:=G.raw;obtain ⟨e8,e0,e1⟩:=G.AD;obtain ⟨d0,f9,f4⟩:=G.coarse
 refine yB call87 wn rfl (fun _ p=>Oa s1.sr.l ms.l (p.slp 0 rfl) (p.slp 16 rfl)) (zV (zz rfl) ?_);refine (go 2) (yj (fun P=>?_) fun P=>?_);apply go 7;refine zK (gJ (k + 1) t B u c (.slice Z t.length J) (.slice X B.length M) ?_ ?_);have q:¬ zF.yG (zB.e s1).zM ms.l=true:=by simpa [zB.e] using P
 exact ⟨qO,I,d.2.2.1,d.2.2.2.1,Bs.MX (by rw [yV,o]; rfl) d.2.2.2.2.1 q,Bs.MT (by rw [yV,o]; rfl) d.2.2.2.2.2.1 q,qO⟩;omega;apply go 7;refine Qc ((Sh.choose (zB.e s1) a b).1) (fun r=>.tuple (List.toArray [r,iV ((Sh.choose (zB.e s1) a b).2)])) wn rfl rfl call88 rfl (fun N p=>Oh (In N) mJ (p.slp 0 rfl) (p.slp 1 rfl) (p.slp 2 rfl) (p.slp 3 rfl) gw) fun A3 c9 e2 f8 c8=>?_;refine (go 14) (zQ (fun C=>?_) fun C=>?_);refine (go 15) (uN results86 fun N p=>?_);have q:zF.yG (zB.e s1).zM ms.l=true:=by simpa [zB.e] using P
 have L:=Bs.Mb (by rw [yV,o]; rfl) d.2.2.2.2.1 q C;have h8:=Bs.MM (by rw [yV,o]; rfl) d.2.2.2.2.2.1 q C;have p:=p.yO (Cx.Ok.loc (⟨n0,n0⟩:Cx)) fun W V=>⟨zH.vh _ _ _ _,fun c hc=>jr,zH.vh _ _ _ _⟩;exact p.yz (⟨n0,n0⟩:Cx) (by rw [L]; rfl) ⟨by rw [L]; rfl,by rw [L]; rfl⟩ (fun h=>by rw [h8]; exact h.sel [0,15] qD rfl);apply go 6;refine yB call89 wn rfl (fun N p=>UQ _ _ _ _ (zB.e s1) _ ((Sh.choose (zB.e s1) a b).1) (In N) N mJ (p.slp 1 rfl) (p.slp 2 rfl) (p.slp 3 rfl) (p.slp 4 rfl) (AM Af p 0 rfl) (by first | omega | assumption | exact Sh.La _ _ _) gw) ?_;refine (go 4) (zl fun f7=>?_);apply go 9;refine zV (uq rfl rfl) ?_;apply go 3;refine vV (uA 6 [0,1,2,3,6,7] [0,1,2,3,4,5,6,7,11,12,13,14,15,16,17,18] rfl fun KS D=>?_);apply go 6;refine zc D (yR (f:=5) (i:=4) (j:=8) rfl q_3 ?_ ?_);refine yI (i:=4) rfl fun F m=>zf zu ([(zC.mk ⟨s1.sr.A,s1.sr.c,s1.sr.l⟩ 0)]:List zC) wn underlying32 Au rfl rfl rfl rfl qD qD rfl fun a1=>?_;apply go 1;refine kN m (yR (f:=4) (i:=5) (j:=8) rfl q_3 ?_ ?_);refine yI (i:=5) rfl fun F m=>zh 11 t ([(zC.mk ⟨s1.sr.A,s1.sr.c,s1.sr.l⟩ 0)]:List zC) AJ wn rfl rfl rfl (fun _ p=>(AM AJ p 0 rfl)) underlying32 Au rfl rfl qQ rfl fun A4 b0 e5 e4 f3=>zZ (fun _ h=>h.FC (n:=0) 10 3 rfl rfl) ?_;have a0:∀ y9 ∈ (t++([(zC.mk ⟨s1.sr.A,s1.sr.c,s1.sr.l⟩ 0)]:List zC)),zC.Wf y9:=fun x hx=>(yl.1 hx).elim (I x) fun h=>by rw [yf.1 h]; exact ⟨⟨qO,qO,K⟩⟩
 apply go 1;refine kN m (zi 8 rfl fun F m=>zf CK ([((Sh.read (zB.e s1) ((Sh.choose (zB.e s1) a b).1)).1)]:List Sum) wn underlying126 EM rfl rfl rfl rfl qD qD rfl fun T=>?_);apply go 1;refine kN m (zi 9 rfl fun F m=>zh 11 B ([((Sh.read (zB.e s1) ((Sh.choose (zB.e s1) a b).1)).1)]:List Sum) Cw wn rfl rfl rfl (fun _ p=>(AM Cw p 0 rfl)) underlying126 EM rfl rfl qQ rfl fun A5 a6 c7 q e9=>?_);apply go 1;refine kN m (yH 0 [10,11] rfl fun KS D=>?_);apply go 2;refine zc D ?_;refine zg q_3 ((go 2) ?_);apply go 3;refine zK (gJ (k + 1) (t++([(zC.mk ⟨s1.sr.A,s1.sr.c,s1.sr.l⟩ 0)]:List zC)) (B++([((Sh.read (zB.e s1) ((Sh.choose (zB.e s1) a b).1)).1)]:List Sum)) (u++[(s1.sr.l,(Sh.read (zB.e s1) (Sh.choose (zB.e s1) a b).1).1)]) (IntKind.wrap .i64 (c + (Sh.read (zB.e s1) ((Sh.choose (zB.e s1) a b).1)).2.1)) (.slice A4 ((t++([(zC.mk ⟨s1.sr.A,s1.sr.c,s1.sr.l⟩ 0)]:List zC)).length) b0) (.slice A5 ((B++([((Sh.read (zB.e s1) ((Sh.choose (zB.e s1) a b).1)).1)]:List Sum)).length) a6) ?_ ?_);have q:zF.yG (zB.e s1).zM ms.l=true:=by simpa [zB.e] using P
 exact ⟨qO,a0,by rw [yi,yi,<-d.2.2.1]; rfl,by rw [yi,<-d.2.2.2.1]; rfl,Bs.Dp (by rw [yV,o]; rfl) d.2.2.2.2.1 q C (fun g=>g (E _ (mo o) a b (nn C))),Bs.Dx (by rw [yV,o]; rfl) d.2.2.2.2.2.1 q C (fun g=>g (E _ (mo o) a b (nn C))),qQ⟩;omega;refine yI (i:=8) rfl fun F m=>zf CK ([((Sh.read (zB.e s1) ((Sh.choose (zB.e s1) a b).1)).1)]:List Sum) wn underlying126 EM rfl rfl rfl rfl qD qD rfl fun T=>?_;apply go 1;refine kN m (zi 5 rfl fun F m=>zh 12 t ([(zC.mk ⟨s1.sr.A,s1.sr.c,s1.sr.l⟩ 0)]:List zC) AJ wn rfl rfl rfl (fun _ p=>(AM AJ p 1 rfl)) underlying32 Au rfl rfl qQ rfl fun A6 a4 c4 b5 c3=>zZ (fun _ h=>h.FC (n:=0) 11 4 rfl rfl) ?_);have b2:∀ y9 ∈ (t++([(zC.mk ⟨s1.sr.A,s1.sr.c,s1.sr.l⟩ 0)]:List zC)),zC.Wf y9:=fun x hx=>(yl.1 hx).elim (I x) fun h=>by rw [yf.1 h]; exact ⟨⟨qO,qO,K⟩⟩
 apply go 1;refine kN m (zi 9 rfl fun F m=>zh 11 B ([((Sh.read (zB.e s1) ((Sh.choose (zB.e s1) a b).1)).1)]:List Sum) Cw wn rfl rfl rfl (fun _ p=>(AM Cw p 1 rfl)) underlying126 EM rfl rfl qQ rfl fun A7 Y c1 c5 b6=>?_);apply go 1;refine kN m (yH 0 [10,11] rfl fun KS D=>?_);apply go 2;refine zc D ?_;refine zg q_3 ((go 2) ?_);apply go 3;refine zK (gJ (k + 1) (t++([(zC.mk ⟨s1.sr.A,s1.sr.c,s1.sr.l⟩ 0)]:List zC)) (B++([((Sh.read (zB.e s1) ((Sh.choose (zB.e s1) a b).1)).1)]:List Sum)) (u++[(s1.sr.l,(Sh.read (zB.e s1) (Sh.choose (zB.e s1) a b).1).1)]) (IntKind.wrap .i64 (c + (Sh.read (zB.e s1) ((Sh.choose (zB.e s1) a b).1)).2.1)) (.slice A6 ((t++([(zC.mk ⟨s1.sr.A,s1.sr.c,s1.sr.l⟩ 0)]:List zC)).length) a4) (.slice A7 ((B++([((Sh.read (zB.e s1) ((Sh.choose (zB.e s1) a b).1)).1)]:List Sum)).length) Y) ?_ ?_);have q:zF.yG (zB.e s1).zM ms.l=true:=by simpa [zB.e] using P
 exact ⟨qO,b2,by rw [yi,yi,<-d.2.2.1]; rfl,by rw [yi,<-d.2.2.2.1]; rfl,Bs.Dp (by rw [yV,o]; rfl) d.2.2.2.2.1 q C (fun g=>g (E _ (mo o) a b (nn C))),Bs.Dx (by rw [yV,o]; rfl) d.2.2.2.2.2.1 q C (fun g=>g (E _ (mo o) a b (nn C))),qQ⟩;omega;refine yI (i:=8) rfl fun F m=>zf CK ([((Sh.read (zB.e s1) ((Sh.choose (zB.e s1) a b).1)).1)]:List Sum) wn underlying126 EM rfl rfl rfl rfl qD qD rfl fun T=>?_;apply go 1;refine kN m (zi 4 rfl fun F m=>zf zu ([(zC.mk ⟨s1.sr.A,s1.sr.c,s1.sr.l⟩ 0)]:List zC) wn underlying32 Au rfl rfl rfl rfl qD qD rfl fun a1=>?_);apply go 1;refine kN m (zi 5 rfl fun F m=>zh 12 t ([(zC.mk ⟨s1.sr.A,s1.sr.c,s1.sr.l⟩ 0)]:List zC) AJ wn rfl rfl rfl (fun _ p=>(AM AJ p 0 rfl)) underlying32 Au rfl rfl qQ rfl fun A8 a5 b4 c0 b8=>zZ (fun _ h=>h.FC (n:=0) 11 4 rfl rfl) ?_);have a2:∀ y9 ∈ (t++([(zC.mk ⟨s1.sr.A,s1.sr.c,s1.sr.l⟩ 0)]:List zC)),zC.Wf y9:=fun x hx=>(yl.1 hx).elim (I x) fun h=>by rw [yf.1 h]; exact ⟨⟨qO,qO,K⟩⟩
 apply go 1;refine kN m (zi 9 rfl fun F m=>zh 11 B ([((Sh.read (zB.e s1) ((Sh.choose (zB.e s1) a b).1)).1)]:List Sum) Cw wn rfl rfl rfl (fun _ p=>(AM Cw p 2 rfl)) underlying126 EM rfl rfl qQ rfl fun A9 a9 b9 b7 c2=>?_);apply go 1;refine kN m (yH 0 [10,11] rfl fun KS D=>?_);apply go 2;refine zc D ?_;refine zg q_3 ((go 2) ?_);apply go 3;refine zK (gJ (k + 1) (t++([(zC.mk ⟨s1.sr.A,s1.sr.c,s1.sr.l⟩ 0)]:List zC)) (B++([((Sh.read (zB.e s1) ((Sh.choose (zB.e s1) a b).1)).1)]:List Sum)) (u++[(s1.sr.l,(Sh.read (zB.e s1) (Sh.choose (zB.e s1) a b).1).1)]) (IntKind.wrap .i64 (c + (Sh.read (zB.e s1) ((Sh.choose (zB.e s1) a b).1)).2.1)) (.slice A8 ((t++([(zC.mk ⟨s1.sr.A,s1.sr.c,s1.sr.l⟩ 0)]:List zC)).length) a5) (.slice A9 ((B++([((Sh.read (zB.e s1) ((Sh.choose (zB.e s1) a b).1)).1)]:List Sum)).length) a9) ?_ ?_);have q:zF.yG (zB.e s1).zM ms.l=true:=by simpa [zB.e] using P
 exact ⟨qO,a2,by rw [yi,yi,<-d.2.2.1]; rfl,by rw [yi,<-d.2.2.2.1]; rfl,Bs.Dp (by rw [yV,o]; rfl) d.2.2.2.2.1 q C (fun g=>g (E _ (mo o) a b (nn C))),Bs.Dx (by rw [yV,o]; rfl) d.2.2.2.2.2.1 q C (fun g=>g (E _ (mo o) a b (nn C))),qQ⟩;omega;refine (go 15) (uN results86 fun N p=>?_);have p:=p.vT AJ (i:=2) (j:=7) rfl rfl qD onlyR;have p:=p.vT Cw (i:=0) (j:=7) rfl rfl qD onlyR;have L:=Bs.Qa d.2.2.2.2.1 q_56;have h8:=Bs.PF d.2.2.2.2.2.1 q_56;have p:=p.yO (Cx.Ok.loc (⟨⟨Z,J,t⟩,⟨X,M,B⟩⟩:Cx)) fun W V=>⟨V.sl 2 rfl,V.at_ 1 _ rfl,V.sl 0 rfl⟩;exact p.yz (⟨⟨Z,J,t⟩,⟨X,M,B⟩⟩:Cx) (by rw [L]) ⟨by rw [L]; exact d.2.2.1,by rw [L]; exact d.2.2.2.1⟩ (fun h=>by rw [h8]; exact h.sel [0,8] qD rfl)
def jC (e:zD):Prop:=∀ (P0:Nat->Prop) (w:World) (hP0:∀ b,P0 b->b < w.heap.size) (he:zD.Ok P0 e w) ,
    Calls prog 176 #[.agg (yD e).toArray] w (Ret w (.bool (Lg.Bj e.e)))
theorem Iu (e:zD) (T:∀ k:zD,SizeOf.sizeOf k < SizeOf.sizeOf e->jC k):jC e:=by
  intro P0 w D he
  have c:=he.wf
  refine Gv (N:=23) (Bh:=[.agg (yD e).toArray]) (S:=Mem w ⟨no,P0⟩ [okP zD.Ok e]) func176 rfl rfl rfl (Mem.AT D (dc (dp (zD.Ok.loc _) he) dn)) (ze fun K1 E=>zU (gt wn rfl rfl fun A=>y8 rfl (yQ E (ze fun K2 I=>uJ [(1,.pointer (some ⟨A,0,none⟩)),(12,.bool (decide ((e.kind=2)∨(e.kind=3))))] (Mem w ⟨no,P0⟩ [.blk A [iV e.kind,iV e.n,iV e.range,.string e.word,e.ms.v,e.by_.v,e.kids.v] 59,okP zD.Ok e]) (fun K3 p=>?_) ?_))))
  ·
    refine zU (zV (vk rfl EC) (zV (vZ 0 rfl rfl rfl BO) (zV (jX rfl rfl) (yt rfl (uQ (t:=8) rfl (fun B=>?_) (fun B=>?_))))))
    ·
      refine yu (yu (yu (zV (yy rfl rfl) ?_)))
      refine zK (yc p (kS1 (sc (jt (Or.inl B)) sn)) (fun _ h=>h))
    ·
      refine yY (vk rfl EC) (yY (vZ 0 rfl rfl rfl BO) (yY (jX rfl rfl) (zV (yy rfl rfl) ?_)))
      refine zK (yc p (kS1 (sc (jp (AI B Iff.rfl)) sn)) (fun _ h=>h))
  ·
    refine yg rfl (fun h2=>?_) (fun h2=>?_)
    ·
      refine ze fun K4 z=>zU (y8 rfl (yQ z (vK (yC (yo (.inl rfl) results176 (yn rfl) fun g d=>?_)))))
      exact zL (congrArg Value.bool (Lg.LZ q_65).symm) d
    ·
      refine uw I (ze fun K5 s=>ze fun K6 H=>zU (zV (vk rfl CZ) (zV (vZ 0 rfl rfl rfl DR) (zV (ur rfl underlying57) (yt rfl (yQ H (vH (vu (fun (k:Nat)=>[(14,e.kids.v),(15,iV e.kids.l.length),(16,iV k)]) (fun (k:Nat)=>[.blk A [iV e.kind,iV e.n,iV e.range,.string e.word,e.ms.v,e.by_.v,e.kids.v] 59,okP zD.Ok e]) (fun (k:Nat)=>k<=e.kids.l.length∧∀ y ∈ e.kids.l.take k,Lg.Bj y.e=false) (fun (k:Nat)=>e.kids.l.length - k) 0 (kS2 (sc (ji qO) sn)) (fun _ h=>h) ?_ (fun k j=>?_)))))))))
      · simp
      ·
        refine ze fun K7 G=>zU (zV (jE rfl rfl) (yQ G (ze fun K8 J=>yg rfl (fun W=>?_) (fun W=>?_))))
        ·
          refine uw J (ze fun K9 F=>vH (ze fun K r=>zU (zZ (fun _ h=>h.DK 1 rfl) ?_)))
          obtain ⟨O,P,V⟩:=c.ms
          obtain ⟨L,Y,Z⟩:=c.by_
          obtain ⟨R,a0,C⟩:=c.kids
          obtain ⟨M,o⟩:=C (ne_nil (i:=k) qI)
          refine zV (vO (i:=k) rfl o rfl qO qI underlying57 An) ?_
          obtain ⟨a,b⟩:∃ x,e.kids.l[k]?=some x:=⟨_,vA qI⟩
          refine zV (js 2 [iV a.kind,iV a.n,iV a.range,.string a.word,a.ms.v,a.by_.v,a.kids.v] rfl rfl o b rfl rfl EH An) (u4 wn An rfl fun b4=>jd 0 wn rfl rfl rfl An rfl rfl rfl (yQ r (ze fun Q f=>zU (zV (gh 0 [iV a.kind,iV a.n,iV a.range,.string a.word,a.ms.v,a.by_.v,a.kids.v] rfl rfl rfl rfl EH An) ?_))))
          have a1:=c.all _ (vQ b)
          refine zZ (fun _ h=>h.one 4 zD.Ok.loc rfl b) (vn wn rfl call176 rfl (fun g d=>T a (zD.Ek (vQ b)) (In g) g (fun _ h=>h) (d.yU (i:=0) rfl)) (yQ f (gm rfl (fun u=>?_) (fun u=>?_))))
          ·
            refine ze fun U m=>zU (y8 rfl (yQ m (vK (vD (yC (um (vD (yC (yo (.inl rfl) results176 (yn rfl) fun g d=>?_)))))))))
            exact zL (congrArg Value.bool ((Lg.JG q_65).trans (List.any_eq_true.2 ⟨_,vQ b,u⟩)).symm) d
          ·
            refine yW (zj (uo F (zU (zV (vf rfl rfl qO) (yt rfl (zK (uB (k + 1) (kS2 (sc (ji qO) sn)) (S9 [6,7]) ?_ ?_)))))))
            · exact ⟨qO,Sh.Dq j.2 b u⟩
            · omega
        ·
          refine yS (zw (ye (zx (uo s (ze fun X q=>zU (y8 rfl (yQ q (vK (yo (.inl rfl) results176 (yn rfl) fun g d=>?_)))))))))
          exact zL (congrArg Value.bool ((Lg.JG q_65).trans (Lg.any_none j.2 qO)).symm) d
theorem Qg (e:zD):jC e:=NU Iu e
def jS (e:zD):Prop:=∀ (P0:Nat->Prop) (w:World) (hP0:∀ b,P0 b->b < w.heap.size) (he:zD.Ok P0 e w) ,
    Calls prog 140 #[.agg (yD e).toArray] w (Ret w (iV (Lg.typed e.e)))
theorem KD (e:zD) (ih:∀ k:zD,SizeOf.sizeOf k < SizeOf.sizeOf e->jS k):jS e:=by
  intro P0 w K he
  have a:=he.wf
  refine Gv (N:=36) (Bh:=[.agg (yD e).toArray]) (S:=Mem w ⟨no,P0⟩ [okP zD.Ok e]) func140 rfl rfl rfl (Mem.AT K (dc (dp (zD.Ok.loc _) he) dn)) (ze fun K1 L=>zU (gt wn rfl rfl fun G=>y8 rfl (yQ L (ze fun K2 Q=>uJ [(1,.pointer (some ⟨G,0,none⟩)),(22,.bool (decide ((e.kind=3)∧(((e.kids.l.length:Int)=1)∧((!(e.kids.l.any fun k=>Lg.Bj k.e))=true)))))] (Mem w ⟨no,P0⟩ [.blk G [iV e.kind,iV e.n,iV e.range,.string e.word,e.ms.v,e.by_.v,e.kids.v] 59,okP zD.Ok e]) (fun K3 p=>?_) ?_))))
  ·
    refine zU (zV (vk rfl EC) (zV (vZ 0 rfl rfl rfl BO) (zV (jX rfl rfl) (yt rfl (uQ (t:=9) rfl (fun H=>?_) (fun H=>?_))))))
    ·
      refine yY (vk rfl CZ) (yY (vZ 0 rfl rfl rfl DR) (yY (ur rfl underlying57) (yY (jX rfl rfl) (zV (yy rfl rfl) (yt rfl (uQ (t:=15) rfl (fun J=>?_) (fun J=>?_)))))))
      ·
        refine yY (vk rfl CZ) (yY (vZ 0 rfl rfl rfl DR) (zZ (fun _ h=>h.DK 1 rfl) ?_))
        obtain ⟨a1,a3,a9⟩:=a.ms
        obtain ⟨W,b2,b6⟩:=a.by_
        obtain ⟨a5,b8,I⟩:=a.kids
        obtain ⟨X,u⟩:=I (ne_nil (i:=0) qI)
        refine yY (vO (i:=0) rfl u rfl qO qI underlying57 An) ?_
        obtain ⟨j,f⟩:∃ x,e.kids.l[0]?=some x:=⟨_,vA qI⟩
        refine yY (js 2 [iV j.kind,iV j.n,iV j.range,.string j.word,j.ms.v,j.by_.v,j.kids.v] rfl rfl u f rfl rfl EH An) ?_
        have b9:=a.all _ (vQ f)
        refine zZ (fun _ h=>h.one 3 zD.Ok.loc rfl f) (vn (wg rfl rfl rfl) rfl call176 rfl (fun m d=>Qg j (In m) m (fun _ h=>h) (d.yU (i:=0) rfl)) (yY (rv_b (show _=(!(e.kids.l.any fun k=>Lg.Bj k.e)) from congrArg Bool.not (Lg.OT qO f).symm) (zz rfl)) (zV (yy rfl rfl) ?_)))
        refine zK (yc p (kS1 (sc (jpb (AH H (AH J Iff.rfl))) sn)) (S9 [5,6]))
      ·
        refine yu (yu (yu (yu (yu (yu (zV (yy rfl rfl) ?_))))))
        refine zK (yc p (kS1 (sc (jf (fun g=>(fun g=>J g.1) g.2)) sn)) (fun _ h=>h))
    ·
      refine yu (yu (yu (yu (zV (yy rfl rfl) (yt rfl (yu (yu (yu (yu (yu (yu ?_)))))))))))
      refine zV (yy rfl rfl) ?_
      refine zK (yc p (kS1 (sc (jf (fun g=>H g.1)) sn)) (fun _ h=>h))
  ·
    refine yg rfl (fun B=>?_) (fun B=>?_)
    ·
      refine ze fun K4 E=>zU (y8 rfl (yQ E (vK (yC (yo (.inl rfl) results140 (yn rfl) fun m d=>?_)))))
      exact zL (congrArg (Value.int .i64) (Lg.TF B).symm) d
    ·
      refine uw Q (ze fun K5 D=>ze fun K6 P=>zU (zV (vk rfl CZ) (zV (vZ 0 rfl rfl rfl DR) (zV (ur rfl underlying57) (yt rfl (yQ P (vH (vu (fun (k:Nat)=>[(24,e.kids.v),(25,iV e.kids.l.length),(26,iV k)]) (fun (k:Nat)=>[.blk G [iV e.kind,iV e.n,iV e.range,.string e.word,e.ms.v,e.by_.v,e.kids.v] 59,okP zD.Ok e]) (fun (k:Nat)=>k<=e.kids.l.length∧Lg.Bq ((e.kids.l.take k).map zD.e)=0) (fun (k:Nat)=>e.kids.l.length - k) 0 (kS2 (sc (ji qO) sn)) (fun _ h=>h) ?_ (fun k o=>?_)))))))))
      · exact ⟨qO,rfl⟩
      ·
        refine ze fun K7 O=>zU (zV (jE rfl rfl) (yQ O (ze fun K8 R=>yg rfl (fun V=>?_) (fun V=>?_))))
        ·
          refine uw R (ze fun K9 M=>vH (ze fun Y A=>zU (zZ (fun _ h=>h.DK 1 rfl) ?_)))
          obtain ⟨a7,U,b0⟩:=a.ms
          obtain ⟨Z,b5,a0⟩:=a.by_
          obtain ⟨a6,b7,C⟩:=a.kids
          obtain ⟨a2,z⟩:=C (ne_nil (i:=k) qI)
          refine zV (vO (i:=k) rfl z rfl qO qI underlying57 An) ?_
          obtain ⟨b,c⟩:∃ x,e.kids.l[k]?=some x:=⟨_,vA qI⟩
          refine zV (js 2 [iV b.kind,iV b.n,iV b.range,.string b.word,b.ms.v,b.by_.v,b.kids.v] rfl rfl z c rfl rfl EH An) (u4 wn An rfl fun b4=>jd 0 wn rfl rfl rfl An rfl rfl rfl (yQ A (ze fun a4 q=>zU (zV (gh 0 [iV b.kind,iV b.n,iV b.range,.string b.word,b.ms.v,b.by_.v,b.kids.v] rfl rfl rfl rfl EH An) ?_))))
          have c0:=a.all _ (vQ c)
          refine zZ (fun _ h=>h.one 4 zD.Ok.loc rfl c) (vn wn rfl call140 rfl (fun m d=>ih b (zD.Ek (vQ c)) (In m) m (fun _ h=>h) (d.yU (i:=0) rfl)) (y8 rfl (yQ q (ze fun a8 s=>zU (yt rfl (zV (gc rfl rfl) (yQ s (yg rfl (fun F=>?_) (fun F=>?_)))))))))
          ·
            refine ze fun b3 y=>zU (yt rfl (y8 rfl (yQ y (vK (vD (yC (um (vD (yC (yo (.inl rfl) results140 (yn rfl) fun m d=>?_))))))))))
            exact zL (congrArg (Value.int .i64) (((Lg.GW B).trans ((Lg.FL o.2 c).2 F)).symm)) d
          ·
            refine yW (zj (uo M (zU (zV (vf rfl rfl qO) (yt rfl (zK (uB (k + 1) (kS2 (sc (ji qO) sn)) (S9 [6,7]) ?_ ?_)))))))
            · exact ⟨qO,(Lg.FL o.2 c).1.trans (ym.1 F)⟩
            · omega
        ·
          refine yS (zw (ye (zx (uo D (ze fun T r=>zU (y8 rfl (yQ r (vK (yo (.inl rfl) results140 (yn rfl) fun m d=>?_)))))))))
          exact zL (congrArg (Value.int .i64) (((Lg.GW B).trans (by rw [<-o.2,vg qO])).symm)) d
theorem Qz (e:zD):jS e:=NU KD e
theorem Jv  {w:World}   :
    Calls prog 210 #[] w (IG w 9 1 Ac Lg.CF):=by
 refine zp func210 (Mem.AQ dn) ?_;apply go 7;refine zf Ac ([kC,⟨#[109,97,120]⟩,⟨#[109,105,110]⟩,⟨#[115,117,109]⟩]:List ByteArray) wn underlying56 BN rfl rfl rfl rfl qD qD rfl fun b=>?_;refine (go 4) (zR fun c a=>?_);exact a.ue 0 rfl rfl
theorem Kn  {w:World}   :
    Calls prog 207 #[] w (IG w 9 1 Ac Agg.words):=by
 refine zp func207 (Mem.AQ dn) ?_;apply go 7;refine zf Ac ([⟨#[97,118,103]⟩,kC,⟨#[102,105,114,115,116]⟩,⟨#[108,97,115,116]⟩,⟨#[109,97,120]⟩,⟨#[109,105,110]⟩,⟨#[114,105,115,101]⟩,⟨#[115,117,109]⟩]:List ByteArray) wn underlying56 BN rfl rfl rfl rfl qD qD rfl fun b=>?_;refine (go 4) (zR fun c a=>?_);exact a.ue 0 rfl rfl
theorem gO {v:ByteArray} {h:Value} (l:List ByteArray) {w:World} (g:zH (In w) 1 Ac h l w)  :
    Calls prog 206 #[.string v,h] w (Ret w (.bool (decide (0<=zF.indexOf l v 0)))):=by
 obtain ⟨r,s,rfl,j,o,f⟩:=g.form;refine zp func206 (Mem.AQ (dc (dl g) dn)) ?_;apply go 14;refine yk (jE1 [0,7,8] fun (k:Nat)=>[(9,iV k)]) (jS1 fun k=>[]) (fun k=>k<=l.length∧zF.indexOf l v 0=zF.indexOf (l.drop k) v k) (fun k=>l.length - k) 0 ?_ (fun k a=>?_);simp;refine (go 6) (zQ (fun m=>?_) fun m=>?_);apply go 6;obtain ⟨p,q,i,b⟩:=elx f k;refine (go 12) (zQ (fun d=>?_) fun d=>?_);refine (go 11) (zR fun n c=>?_);exact zL (by rw [a.2,zF.GB b,zP (Eq.symm d),vM qO]) c;apply go 6;refine zK (zy (k + 1) ?_ ?_);exact ⟨qO,by rw [a.2,zF.GB b,zI (fun e=>d e.symm)]⟩;omega;refine (go 11) (zR fun n c=>?_);exact zL (by rw [a.2,zF.Ms qO]; rfl) c
def jT (e:zD):Prop:=∀ (deep:Int) (npp:Nat) (cn:Int) (P0:Nat->Prop) (w:World) (he:zD.Ok P0 e w) (hnpp:w.heap[npp]?=some (.cells [iV cn].toArray 3 (0,0))) (hP0:∀ b,P0 b->b < w.heap.size∧b≠npp) (hc0:0<=cn) (hc1:cn<=100) (hd0:0<=deep),
    Calls prog 175 #[.agg (yD e).toArray,iV deep,.pointer (some ⟨npp,0,none⟩)] w (RetM w npp 3 (iV (Lg.shape e.e deep cn).1) [iV (Lg.shape e.e deep cn).2])
theorem KC (e:zD) (ih:∀ k:zD,SizeOf.sizeOf k < SizeOf.sizeOf e->jT k):jT e:=by
  intro a b c P0 w he c2 k6 m4 i3 n3
  have d:=he.wf
  refine Gv (N:=150) (Bh:=[.agg (yD e).toArray,iV a,.pointer (some ⟨b,0,none⟩)]) (S:=Mem w ⟨(·=b),P0⟩ [.blk b [iV c] 3,okP zD.Ok e]) func175 rfl rfl rfl (Mem.SR c2 k6 (dc (dp (zD.Ok.loc _) he) dn)) (ze fun K1 k0=>zU (gt wn rfl rfl fun p=>y8 rfl (yQ k0 (ze fun K2 f9=>zU (yt rfl (yt rfl (zV (vG rfl) (zV (vZ 1 rfl rfl rfl BO) ?_))))))))
  refine zV (vf rfl rfl qO) (zV (vG rfl) (qw 1 wn rfl rfl rfl rfl Eh rfl rfl (yQ f9 (ze fun K3 i5=>uJ [(1,iV a),(2,.pointer (some ⟨b,0,none⟩)),(3,.pointer (some ⟨p,0,none⟩)),(29,.bool (decide ((100 < (c + 1))∨(20 < a))))] (Mem w ⟨(·=b),P0⟩ [.blk p [iV e.kind,iV e.n,iV e.range,.string e.word,e.ms.v,e.by_.v,e.kids.v] 59,.blk b [iV (c + 1)] 3,okP zD.Ok e]) (fun K4 X=>?_) ?_))))
  ·
    refine zU (yt rfl (zV (vG rfl) (zV (vZ 1 rfl rfl rfl BO) (zV (jV rfl rfl) (yt rfl (uQ (t:=26) rfl (fun h1=>?_) (fun h1=>?_)))))))
    ·
      refine yu (yu (zV (yy rfl rfl) ?_))
      refine zK (yc X (kS3 (sc (jt (Or.inl h1)) sn)) (fun _ h=>h))
    ·
      refine yY (jy rfl) (yY (jV rfl rfl) (zV (yy rfl rfl) ?_))
      refine zK (yc X (kS3 (sc (jp (AI h1 Iff.rfl)) sn)) (fun _ h=>h))
  ·
    refine yg rfl (fun h2=>?_) (fun h2=>?_)
    ·
      refine ze fun K5 i0=>zU (y8 rfl (yQ i0 (vK (yC (yo (.inl rfl) results175 (yn rfl) fun r j=>?_)))))
      have hq:Lg.shape e.e a c=(4,(c + 1)):=by rw [Lg.Bc]; grind
      exact j.u7 1 rfl vi vi
    ·
      refine uw i5 (ze fun K6 k8=>zU (gU wn rfl fun q=>jH 0 (Fg.int underlying3) ([]:List (Nat × Int × Int)) 0 1 0 wn rfl rfl rfl rfl underlying260 qS (jH 0 (Fg.int underlying3) ([(0,1,0)]:List (Nat × Int × Int)) 1 2 0 wn rfl rfl rfl rfl underlying260 qS (jH 0 (Fg.int underlying3) ([(0,1,0),(1,2,0)]:List (Nat × Int × Int)) 2 3 1 wn rfl rfl rfl rfl underlying260 qS (jH 0 (Fg.int underlying3) ([(0,1,0),(1,2,0),(2,3,1)]:List (Nat × Int × Int)) 3 4 2 wn rfl rfl rfl rfl underlying260 qS (yt rfl (zV (vk rfl EC) (zV (vZ 1 rfl rfl rfl BO) (zV (rv_v (Lg.QM e.kind) (NF 0 (Fg.int underlying3) (fun _=>Iff.rfl) (nd ([1,2,3,4]:List Int) rfl qD) rfl rfl rfl underlying260 Eh)) ?_)))))))))
      refine yt rfl (zV (jD rfl rfl) (zV (jD rfl rfl) (y8 rfl (y8 rfl (yQ k8 (ze fun K7 k2=>ze fun K8 i6=>zU (yt rfl (zV (zz rfl) (yQ i6 ?_)))))))))
      refine gm rfl (fun h3=>?_) (fun h3=>?_)
      ·
        refine ze fun K9 k1=>zU (y8 rfl (yQ k1 (vK (yC (yo (.inl rfl) results175 (yn rfl) fun r j=>?_)))))
        have hq:Lg.shape e.e a c=(1,(c + 1)):=by rw [Lg.Bc]; grind
        exact j.u7 2 rfl vi vi
      ·
        refine uw k2 (ze fun t9 b9=>ze fun w8 d9=>zU (zV (vk rfl CZ) (zV (vZ 1 rfl rfl rfl DR) (zV (ur rfl underlying57) (yt rfl (zV (gc rfl rfl) (yQ d9 (yg rfl (fun h4=>?_) (fun h4=>?_)))))))))
        ·
          refine ze fun p6 e4=>zU (y8 rfl (yQ e4 (vK (yC (yo (.inl rfl) results175 (yn rfl) fun r j=>?_)))))
          have hq:Lg.shape e.e a c=(5,(c + 1)):=by rw [Lg.Bc]; grind
          exact j.u7 2 rfl vi vi
        ·
          refine uw b9 (uJ [(1,iV a),(2,.pointer (some ⟨b,0,none⟩)),(3,.pointer (some ⟨p,0,none⟩))] (Mem w ⟨(·=b),P0⟩ [.pub (fun _ _=>Lg.Cb e.kind e.n e.range e.word e.ms.l e.by_.l=0),.map q (CL (Value.int .i64) 0 ([(0,1,0),(1,2,0),(2,3,1),(3,4,2)]:List (Nat × Int × Int))) ([(0,1,0),(1,2,0),(2,3,1),(3,4,2)]:List (Nat × Int × Int)).length,.blk p [iV e.kind,iV e.n,iV e.range,.string e.word,e.ms.v,e.by_.v,e.kids.v] 59,.blk b [iV (c + 1)] 3,okP zD.Ok e]) (fun p9 A=>?_) ?_)
          ·
            refine ze fun o7 Z=>zU (zV (vk rfl EC) (zV (vZ 1 rfl rfl rfl BO) (yQ Z (vH (ze fun r7 a1=>zU (zV (jX rfl rfl) (y8 rfl (yQ a1 (yg rfl (fun h5=>?_) (fun h5=>?_))))))))))
            ·
              refine uJ [(1,iV a),(2,.pointer (some ⟨b,0,none⟩)),(3,.pointer (some ⟨p,0,none⟩)),(61,.bool (decide ((e.n < 0)∨(1000000 < e.n))))] (Mem w ⟨(·=b),P0⟩ [.map q (CL (Value.int .i64) 0 ([(0,1,0),(1,2,0),(2,3,1),(3,4,2)]:List (Nat × Int × Int))) ([(0,1,0),(1,2,0),(2,3,1),(3,4,2)]:List (Nat × Int × Int)).length,.blk p [iV e.kind,iV e.n,iV e.range,.string e.word,e.ms.v,e.by_.v,e.kids.v] 59,.blk b [iV (c + 1)] 3,okP zD.Ok e]) (fun m2 O=>?_) ?_
              ·
                refine zU (zV (vk rfl Sn) (zV (vZ 1 rfl rfl rfl BO) (zV (jE rfl rfl) (yt rfl (uQ (t:=57) rfl (fun h6=>?_) (fun h6=>?_))))))
                ·
                  refine yu (yu (yu (zV (yy rfl rfl) ?_)))
                  refine zK (yc O (kS3 (sc (jt (Or.inl h6)) sn)) (fun _ h=>h))
                ·
                  refine yY (vk rfl Sn) (yY (vZ 1 rfl rfl rfl BO) (yY (jV rfl rfl) (zV (yy rfl rfl) ?_)))
                  refine zK (yc O (kS3 (sc (jp (AI h6 Iff.rfl)) sn)) (fun _ h=>h))
              ·
                refine yg rfl (fun h7=>?_) (fun h7=>?_)
                ·
                  refine ze fun r0 d4=>zU (y8 rfl (yQ d4 (vK (vD (yC (yo (.inl rfl) results175 (yn rfl) fun r j=>?_))))))
                  have hq:Lg.shape e.e a c=(3,(c + 1)):=by rw [Lg.Bc]; unfold Lg.Cb Lg.BR; grind
                  exact j.u7 2 rfl vi vi
                ·
                  have s:Lg.Cb e.kind e.n e.range e.word e.ms.l e.by_.l=0:=by unfold Lg.Cb Lg.BR; grind
                  refine yW (zj (yc A (kS3 sn) (fun _ h=>have h:=Mem.fact (s) h; h)))
            ·
              refine ze fun r4 b4=>zU (zV (jX rfl rfl) (y8 rfl (yQ b4 (yg rfl (fun h8=>?_) (fun h8=>?_)))))
              ·
                refine ze fun o8 e7=>ze fun r5 c4=>jO _ mix (fun _ h=>h.drew) rfl (qC (f:=3) [0,1] rfl rfl q_3 q_3 (fun _ h=>h) fun KS z=>vy (vk rfl OY) (vy (vZ 1 rfl rfl rfl Hf) (zc z (gG 2 2 (yI (i:=2) rfl fun KN u=>vo Agg.words wn rfl call207 rfl (fun _ _=>Kn) fun A1 J i3 m9 x0=>q4 u [1,2,3,4] (gG 1 3 ?_))))))
                refine yI (i:=3) rfl fun KN u=>vn wn rfl call206 rfl (fun _ j=>gO Agg.words (AM AL j 0 rfl)) (q4 u [1,2,3,4] (qP 0 [4] [1,2,3,4] rfl fun KS z=>vy (qt rfl) (zc z (zg q_3 (uo c4 (yg rfl (fun h9=>?_) (fun h9=>?_)))))))
                ·
                  refine ze fun s7 a0=>zU (y8 rfl (yQ a0 (vK (yC (vD (yC (yo (.inl rfl) results175 (yn rfl) fun r j=>?_)))))))
                  have hq:Lg.shape e.e a c=(7,(c + 1)):=by rw [Lg.Bc]; unfold Lg.Cb Lg.BR; grind
                  exact j.u7 3 rfl vi vi
                ·
                  refine uw e7 (ze fun p1 a5=>ze fun o0 W=>zU (zV (vk rfl Su) (zV (vZ 2 rfl rfl rfl flat55) (zV (ur rfl underlying55) (zV (jV rfl rfl) (yQ W (yg rfl (fun f6=>?_) (fun f6=>?_))))))))
                  ·
                    refine ze fun t1 c5=>zU (y8 rfl (yQ c5 (vK (yC (vD (yC (yo (.inl rfl) results175 (yn rfl) fun r j=>?_)))))))
                    have hq:Lg.shape e.e a c=(5,(c + 1)):=by rw [Lg.Bc]; unfold Lg.Cb Lg.BR; grind
                    exact j.u7 3 rfl vi vi
                  ·
                    refine uw a5 (ze fun p2 d5=>ze fun n0 d2=>zU (zV (vk rfl Su) (zV (vZ 2 rfl rfl rfl flat55) (zV (ur rfl underlying55) (yt rfl (yQ d2 (vH (vu (fun (k:Nat)=>[(1,iV a),(2,.pointer (some ⟨b,0,none⟩)),(3,.pointer (some ⟨p,0,none⟩)),(74,e.ms.v),(75,iV e.ms.l.length),(76,iV k)]) (fun (k:Nat)=>[Row (.slice A1 Agg.words.length J) 9 1 Ac Agg.words,.map q (CL (Value.int .i64) 0 ([(0,1,0),(1,2,0),(2,3,1),(3,4,2)]:List (Nat × Int × Int))) ([(0,1,0),(1,2,0),(2,3,1),(3,4,2)]:List (Nat × Int × Int)).length,.blk p [iV e.kind,iV e.n,iV e.range,.string e.word,e.ms.v,e.by_.v,e.kids.v] 59,.blk b [iV (c + 1)] 3,okP zD.Ok e]) (fun (k:Nat)=>k<=e.ms.l.length∧Lg.Bu e.ms.l=Lg.Bu (e.ms.l.drop k)) (fun (k:Nat)=>e.ms.l.length - k) 0 (kS5 (sc (ji qO) sn)) (fun _ h=>h) ?_ (fun k E=>?_)))))))))
                    · simp
                    ·
                      refine ze fun t7 e1=>zU (zV (jE rfl rfl) (yQ e1 (ze fun s5 a8=>yg rfl (fun h0=>?_) (fun h0=>?_))))
                      ·
                        refine uw a8 (ze fun m5 b1=>vH (ze fun t0 a6=>zU (zZ (fun _ h=>h.DK 4 rfl) ?_)))
                        obtain ⟨l9,s9,l0⟩:=d.ms
                        obtain ⟨p4,x5,w6⟩:=d.by_
                        obtain ⟨p5,p0,p7⟩:=d.kids
                        obtain ⟨m0,d0⟩:=l0 (ne_nil (i:=k) qI)
                        refine zV (vO (i:=k) rfl d0 rfl qO qI underlying55 BM) ?_
                        obtain ⟨B,I⟩:∃ x,e.ms.l[k]?=some x:=⟨_,vA qI⟩
                        refine zV (js 0 [iV B.kind,.string B.key,.string B.val] rfl rfl d0 I rfl rfl agg179 BM) (u4 wn BM rfl fun Q=>jd 0 wn rfl rfl rfl BM rfl rfl rfl (yQ a6 (ze fun n4 c9=>uJ [(1,iV a),(2,.pointer (some ⟨b,0,none⟩)),(3,.pointer (some ⟨p,0,none⟩)),(10,.pointer (some ⟨Q,0,none⟩)),(74,e.ms.v),(75,iV e.ms.l.length),(76,iV k),(87,.bool (decide ((B.kind < 1)∨(4 < B.kind))))] (Mem w ⟨(·=b),P0⟩ [.blk Q [iV B.kind,.string B.key,.string B.val] 179,slP 3 yF (e.ms.v) e.ms.l,slP 1 Ac (e.by_.v) e.by_.l,slP 7 yD (e.kids.v) e.kids.l,AS zD.Ok e.kids.l,Row (.slice A1 Agg.words.length J) 9 1 Ac Agg.words,.map q (CL (Value.int .i64) 0 ([(0,1,0),(1,2,0),(2,3,1),(3,4,2)]:List (Nat × Int × Int))) ([(0,1,0),(1,2,0),(2,3,1),(3,4,2)]:List (Nat × Int × Int)).length,.blk p [iV e.kind,iV e.n,iV e.range,.string e.word,e.ms.v,e.by_.v,e.kids.v] 59,.blk b [iV (c + 1)] 3,okP zD.Ok e]) (fun l8 M=>?_) ?_)))
                        ·
                          refine zU (zV (vk rfl Kc) (zV (vZ 0 rfl rfl rfl BO) (zV (jE rfl rfl) (yt rfl (uQ (t:=83) rfl (fun V=>?_) (fun V=>?_))))))
                          ·
                            refine yu (yu (yu (zV (yy rfl rfl) ?_)))
                            refine zK (yc M (kS7 (sc (jt (Or.inl V)) sn)) (fun _ h=>h))
                          ·
                            refine yY (vk rfl Kc) (yY (vZ 0 rfl rfl rfl BO) (yY (jV rfl rfl) (zV (yy rfl rfl) ?_)))
                            refine zK (yc M (kS7 (sc (jp (AI V Iff.rfl)) sn)) (fun _ h=>h))
                        ·
                          refine yg rfl (fun k9=>?_) (fun k9=>?_)
                          ·
                            refine ze fun w5 d7=>zU (y8 rfl (yQ d7 (vK (yC (vD (yC (um (vD (yC (vD (yC (yo (.inl rfl) results175 (yn rfl) fun r j=>?_))))))))))))
                            have F:=Lg.CX I
                            unfold Lg.EI at F
                            have P:=E.2
                            have hq:Lg.shape e.e a c=(1,(c + 1)):=by rw [Lg.Bc]; unfold Lg.Cb Lg.BR; grind
                            exact j.u7 8 rfl vi vi
                          ·
                            refine uw c9 (uJ [(1,iV a),(2,.pointer (some ⟨b,0,none⟩)),(3,.pointer (some ⟨p,0,none⟩)),(74,e.ms.v),(75,iV e.ms.l.length),(76,iV k),(102,.bool (decide (((!(zF.named B.key))=true)∨((B.kind<=2)∧((!(zF.named B.val))=true)))))] (Mem w ⟨(·=b),P0⟩ [.blk Q [iV B.kind,.string B.key,.string B.val] 179,slP 3 yF (e.ms.v) e.ms.l,slP 1 Ac (e.by_.v) e.by_.l,slP 7 yD (e.kids.v) e.kids.l,AS zD.Ok e.kids.l,Row (.slice A1 Agg.words.length J) 9 1 Ac Agg.words,.map q (CL (Value.int .i64) 0 ([(0,1,0),(1,2,0),(2,3,1),(3,4,2)]:List (Nat × Int × Int))) ([(0,1,0),(1,2,0),(2,3,1),(3,4,2)]:List (Nat × Int × Int)).length,.blk p [iV e.kind,iV e.n,iV e.range,.string e.word,e.ms.v,e.by_.v,e.kids.v] 59,.blk b [iV (c + 1)] 3,okP zD.Ok e]) (fun m1 D=>?_) ?_)
                            ·
                              refine zU (zV (vk rfl VG) (zV (vZ 0 rfl rfl rfl Hf) (vn wn rfl call128 rfl (fun _ _=>uz (by first | exact (d.str.ms _ (vQ q_6)).1 | exact (d.str.ms _ (vQ q_6)).2 | exact d.str.by_ _ (vQ q_6))) (zV (zz rfl) (yt rfl (TM (t:=92) rfl (fun K=>?_) (fun K=>?_)))))))
                              ·
                                refine yu (yu (yu (yu (gQ (wu rfl rfl) rfl (gQ (wu rfl rfl) rfl (gQ (wu rfl rfl) rfl (gQ (wu rfl rfl) rfl (yu (zV (yy rfl rfl) ?_)))))))))
                                refine zK (yc D (kS6 (sc (jt (Or.inl K)) sn)) (fun _ h=>h))
                              ·
                                refine yY (vk rfl Kc) (yY (vZ 0 rfl rfl rfl BO) (yY (r_leq rfl rfl) (yY (jy rfl) (uQ (t:=96) rfl (fun T=>?_) (fun T=>?_)))))
                                ·
                                  refine yY (vk rfl Wy) (yY (vZ 0 rfl rfl rfl Hf) (vn (wg rfl rfl rfl) rfl call128 rfl (fun _ _=>uz (by first | exact (d.str.ms _ (vQ q_6)).1 | exact (d.str.ms _ (vQ q_6)).2 | exact d.str.by_ _ (vQ q_6))) (yY (zz rfl) (yY (yy rfl rfl) (zV (yy rfl rfl) ?_)))))
                                  refine zK (yc D (kS6 (sc (jpb (AI K (AH T Iff.rfl))) sn)) (fun _ h=>h))
                                ·
                                  refine yu (yu (yu (yu (yY (yy rfl rfl) (zV (yy rfl rfl) ?_)))))
                                  refine zK (yc D (kS6 (sc (jf (fun g=>g.elim K (fun g=>T g.1))) sn)) (fun _ h=>h))
                            ·
                              refine yg rfl (fun f4=>?_) (fun f4=>?_)
                              ·
                                refine ze fun w3 c8=>zU (y8 rfl (yQ c8 (vK (vD (yC (um (vD (yC (vD (yC (yo (.inl rfl) results175 (yn rfl) fun r j=>?_)))))))))))
                                have F:=Lg.CX I
                                unfold Lg.EI at F
                                have P:=E.2
                                have hq:Lg.shape e.e a c=(7,(c + 1)):=by rw [Lg.Bc]; unfold Lg.Cb Lg.BR; grind
                                exact j.u7 8 rfl vi vi
                              ·
                                refine yW (zj (uo b1 (zU (zV (vf rfl rfl qO) (yt rfl (zK (uB (k + 1) (kS5 (sc (ji qO) sn)) (S9 [5,6,7,8,9]) ?_ ?_)))))))
                                · exact ⟨qO,by rw [E.2,Lg.CX I]; unfold Lg.EI; grind⟩
                                · omega
                      ·
                        refine yS (zw (ye (zx (uo d5 (uJ [(1,iV a),(2,.pointer (some ⟨b,0,none⟩)),(3,.pointer (some ⟨p,0,none⟩)),(111,.bool (decide ((e.range < 1)∨(100000 < e.range))))] (Mem w ⟨(·=b),P0⟩ [Row (.slice A1 Agg.words.length J) 9 1 Ac Agg.words,.map q (CL (Value.int .i64) 0 ([(0,1,0),(1,2,0),(2,3,1),(3,4,2)]:List (Nat × Int × Int))) ([(0,1,0),(1,2,0),(2,3,1),(3,4,2)]:List (Nat × Int × Int)).length,.blk p [iV e.kind,iV e.n,iV e.range,.string e.word,e.ms.v,e.by_.v,e.kids.v] 59,.blk b [iV (c + 1)] 3,okP zD.Ok e]) (fun w9 L=>?_) ?_)))))
                        ·
                          refine zU (zV (vk rfl Tp) (zV (vZ 2 rfl rfl rfl BO) (zV (jE rfl rfl) (yt rfl (uQ (t:=107) rfl (fun R=>?_) (fun R=>?_))))))
                          ·
                            refine yu (yu (yu (zV (yy rfl rfl) ?_)))
                            refine zK (yc L (kS3 (sc (jt (Or.inl R)) sn)) (fun _ h=>h))
                          ·
                            refine yY (vk rfl Tp) (yY (vZ 2 rfl rfl rfl BO) (yY (jV rfl rfl) (zV (yy rfl rfl) ?_)))
                            refine zK (yc L (kS3 (sc (jp (AI R Iff.rfl)) sn)) (fun _ h=>h))
                        ·
                          refine yg rfl (fun k4=>?_) (fun k4=>?_)
                          ·
                            refine ze fun n5 f1=>zU (y8 rfl (yQ f1 (vK (vD (yC (yo (.inl rfl) results175 (yn rfl) fun r j=>?_))))))
                            have F:=Lg.EX (l:=e.ms.l) (k:=k) qO
                            have P:=E.2
                            have hq:Lg.shape e.e a c=(3,(c + 1)):=by rw [Lg.Bc]; unfold Lg.Cb Lg.BR; grind
                            exact j.u7 3 rfl vi vi
                          ·
                            have F:=Lg.EX (l:=e.ms.l) (k:=k) qO
                            have P:=E.2
                            have s:Lg.Cb e.kind e.n e.range e.word e.ms.l e.by_.l=0:=by unfold Lg.Cb Lg.BR; grind
                            refine yW (zj (yc A (kS3 sn) (fun _ h=>have h:=Mem.fact (s) h; (h.sel [0,2,3,4,5] qD rfl))))
              ·
                refine ze fun t8 b8=>zU (zV (jX rfl rfl) (y8 rfl (yQ b8 (yg rfl (fun k7=>?_) (fun k7=>?_)))))
                ·
                  refine ze fun w0 d3=>ze fun o9 a2=>jO _ mix (fun _ h=>h.drew) rfl (qC (f:=3) [0,1] rfl rfl q_3 q_3 (fun _ h=>h) fun KS z=>vy (vk rfl OY) (vy (vZ 1 rfl rfl rfl Hf) (zc z (gG 2 2 (yI (i:=2) rfl fun KN u=>vo Lg.CF wn rfl call210 rfl (fun _ _=>Jv) fun A2 f5 s0 n8 w2=>q4 u [1,2,3,4] (gG 1 3 ?_))))))
                  refine yI (i:=3) rfl fun KN u=>vn wn rfl call206 rfl (fun _ j=>gO Lg.CF (AM AL j 0 rfl)) (q4 u [1,2,3,4] (qP 0 [4] [1,2,3,4] rfl fun KS z=>vy (qt rfl) (zc z (zg q_3 (uo a2 (yg rfl (fun f7=>?_) (fun f7=>?_)))))))
                  ·
                    refine ze fun n9 e6=>zU (y8 rfl (yQ e6 (vK (yC (vD (yC (yo (.inl rfl) results175 (yn rfl) fun r j=>?_)))))))
                    have hq:Lg.shape e.e a c=(7,(c + 1)):=by rw [Lg.Bc]; unfold Lg.Cb Lg.BR; grind
                    exact j.u7 3 rfl vi vi
                  ·
                    refine uw d3 (ze fun s6 a4=>ze fun r1 e5=>zU (zV (vk rfl TJ) (zV (vZ 2 rfl rfl rfl Nt) (zV (ur rfl underlying56) (zV (jV rfl rfl) (yQ e5 (yg rfl (fun i9=>?_) (fun i9=>?_))))))))
                    ·
                      refine ze fun m6 b5=>zU (y8 rfl (yQ b5 (vK (yC (vD (yC (yo (.inl rfl) results175 (yn rfl) fun r j=>?_)))))))
                      have hq:Lg.shape e.e a c=(5,(c + 1)):=by rw [Lg.Bc]; unfold Lg.Cb Lg.BR; grind
                      exact j.u7 3 rfl vi vi
                    ·
                      refine uw a4 (ze fun w4 f0=>zU (zV (vk rfl TJ) (zV (vZ 2 rfl rfl rfl Nt) (zV (ur rfl underlying56) (yt rfl (yQ f0 (vH (vu (fun (k:Nat)=>[(1,iV a),(2,.pointer (some ⟨b,0,none⟩)),(3,.pointer (some ⟨p,0,none⟩)),(124,e.by_.v),(125,iV e.by_.l.length),(126,iV k)]) (fun (k:Nat)=>[Row (.slice A2 Lg.CF.length f5) 9 1 Ac Lg.CF,.map q (CL (Value.int .i64) 0 ([(0,1,0),(1,2,0),(2,3,1),(3,4,2)]:List (Nat × Int × Int))) ([(0,1,0),(1,2,0),(2,3,1),(3,4,2)]:List (Nat × Int × Int)).length,.blk p [iV e.kind,iV e.n,iV e.range,.string e.word,e.ms.v,e.by_.v,e.kids.v] 59,.blk b [iV (c + 1)] 3,okP zD.Ok e]) (fun (k:Nat)=>k<=e.by_.l.length∧∀ y ∈ e.by_.l.take k,(!zF.named y)=false) (fun (k:Nat)=>e.by_.l.length - k) 0 (kS5 (sc (ji qO) sn)) (fun _ h=>h) ?_ (fun k e0=>?_)))))))))
                      · simp
                      ·
                        refine ze fun x4 c3=>zU (zV (jE rfl rfl) (yQ c3 (ze fun o1 a3=>yg rfl (fun l1=>?_) (fun l1=>?_))))
                        ·
                          refine uw a3 (ze fun p8 d1=>vH (ze fun t3 e8=>zU (zZ (fun _ h=>h.DK 4 rfl) ?_)))
                          obtain ⟨s8,r2,o6⟩:=d.ms
                          obtain ⟨n7,x6,i4⟩:=d.by_
                          obtain ⟨x3,t6,w7⟩:=d.kids
                          obtain ⟨p3,d6⟩:=i4 (ne_nil (i:=k) qI)
                          refine zV (vO (i:=k) rfl d6 rfl qO qI underlying56 BN) ?_
                          obtain ⟨s2,U⟩:∃ x,e.by_.l[k]?=some x:=⟨_,vA qI⟩
                          refine zV (r_pl 1 rfl rfl d6 U rfl Hf) (y8 rfl (yQ e8 (ze fun r6 b6=>zU (yt rfl (vn wn rfl call128 rfl (fun _ _=>uz (by first | exact (d.str.ms _ (vQ q_6)).1 | exact (d.str.ms _ (vQ q_6)).2 | exact d.str.by_ _ (vQ q_6))) (zV (zz rfl) (yQ b6 (gm rfl (fun i7=>?_) (fun i7=>?_)))))))))
                          ·
                            refine ze fun r9 a7=>zU (y8 rfl (yQ a7 (vK (vD (yC (um (vD (vD (yC (yo (.inl rfl) results175 (yn rfl) fun r j=>?_))))))))))
                            have f3:(e.by_.l.any fun k=>!zF.named k)=true:=List.any_eq_true.2 ⟨_,vQ U,by grind⟩
                            have hq:Lg.shape e.e a c=(7,(c + 1)):=by rw [Lg.Bc]; unfold Lg.Cb Lg.BR; grind
                            exact j.u7 7 rfl vi vi
                          ·
                            refine yW (zj (uo d1 (zU (zV (vf rfl rfl qO) (yt rfl (zK (uB (k + 1) (kS5 (sc (ji qO) sn)) (S9 [4,5,6,7,8]) ?_ ?_)))))))
                            · exact ⟨qO,Sh.Dq e0.2 U (by grind)⟩
                            · omega
                        ·
                          have f3:=Lg.any_none e0.2 qO
                          have s:Lg.Cb e.kind e.n e.range e.word e.ms.l e.by_.l=0:=by unfold Lg.Cb Lg.BR; grind
                          refine yS (zw (ye (zx (zj (yc A (kS3 sn) (fun _ h=>have h:=Mem.fact (s) h; (h.sel [0,2,3,4,5] qD rfl)))))))
                ·
                  refine ze fun n6 d8=>zU (zV (vk rfl OY) (zV (vZ 1 rfl rfl rfl Hf) (zf Ac ([⟨#[43]⟩,⟨#[45]⟩,⟨#[42]⟩]:List ByteArray) wn underlying56 BN rfl rfl rfl rfl qD qD rfl fun m8=>vn wn rfl call206 rfl (fun _ j=>gO ([⟨#[43]⟩,⟨#[45]⟩,⟨#[42]⟩]:List ByteArray) (AM AL j 0 rfl)) (zV (qt rfl) (yQ d8 (yg rfl (fun i2=>?_) (fun i2=>?_)))))))
                  ·
                    refine ze fun s4 b0=>zU (y8 rfl (yQ b0 (vK (vD (yC (yo (.inl rfl) results175 (yn rfl) fun r j=>?_))))))
                    have i1:Lg.BL=[⟨#[43]⟩,⟨#[45]⟩,⟨#[42]⟩]:=rfl
                    have hq:Lg.shape e.e a c=(7,(c + 1)):=by rw [Lg.Bc]; unfold Lg.Cb Lg.BR; grind
                    exact j.u7 3 rfl vi vi
                  ·
                    have i1:Lg.BL=[⟨#[43]⟩,⟨#[45]⟩,⟨#[42]⟩]:=rfl
                    have s:Lg.Cb e.kind e.n e.range e.word e.ms.l e.by_.l=0:=by unfold Lg.Cb Lg.BR; grind
                    refine yW (zj (yc A (kS3 sn) (fun _ h=>have h:=Mem.fact (s) h; (h.sel [0,2,3,4,5] qD rfl))))
          ·
            refine gW fun f8=>ze fun x2 f2=>ze fun x1 c1=>zU (zV (vk rfl CZ) (zV (vZ 1 rfl rfl rfl DR) (zV (ur rfl underlying57) (yt rfl (yQ c1 (vH (u5 (fun (k:Nat) (m:Int)=>[(1,iV a),(2,.pointer (some ⟨b,0,none⟩)),(135,e.kids.v),(136,iV e.kids.l.length),(137,iV k)]) (fun (k:Nat) (m:Int)=>[.map q (CL (Value.int .i64) 0 ([(0,1,0),(1,2,0),(2,3,1),(3,4,2)]:List (Nat × Int × Int))) ([(0,1,0),(1,2,0),(2,3,1),(3,4,2)]:List (Nat × Int × Int)).length,.blk p [iV e.kind,iV e.n,iV e.range,.string e.word,e.ms.v,e.by_.v,e.kids.v] 59,.blk b [iV m] 3,okP zD.Ok e]) (fun (k:Nat) (m:Int)=>k<=e.kids.l.length∧(0<=m∧m<=100)∧Lg.At ((e.kids.l.take k).map zD.e) (a + 1) (c + 1)=(0,m)) (fun (k:Nat) (m:Int)=>e.kids.l.length - k) 0 (c + 1) (kS4 (sc (ji qO) sn)) (fun _ h=>h) ?_ (fun k m G=>?_))))))))
            · exact ⟨qO,⟨qO,qO⟩,rfl⟩
            ·
              have i8:=G.2.1.1
              have k5:=G.2.1.2
              refine ze fun m7 c0=>zU (zV (jE rfl rfl) (yQ c0 (ze fun o2 Y=>yg rfl (fun k3=>?_) (fun k3=>?_))))
              ·
                refine uw Y (ze fun t2 e9=>vH (ze fun r8 b2=>zU (zZ (fun _ h=>h.DK 3 rfl) ?_)))
                obtain ⟨o5,o4,t4⟩:=d.ms
                obtain ⟨l3,l5,l4⟩:=d.by_
                obtain ⟨l2,l6,c7⟩:=d.kids
                obtain ⟨n1,c6⟩:=c7 (ne_nil (i:=k) qI)
                refine zV (vO (i:=k) rfl c6 rfl qO qI underlying57 An) ?_
                obtain ⟨o,C⟩:∃ x,e.kids.l[k]?=some x:=⟨_,vA qI⟩
                refine zV (js 2 [iV o.kind,iV o.n,iV o.range,.string o.word,o.ms.v,o.by_.v,o.kids.v] rfl rfl c6 C rfl rfl EH An) (u4 wn An rfl fun t5=>jd 0 wn rfl rfl rfl An rfl rfl rfl (yQ b2 (ze fun n2 e3=>zU (zV (gh 0 [iV o.kind,iV o.n,iV o.range,.string o.word,o.ms.v,o.by_.v,o.kids.v] rfl rfl rfl rfl EH An) (yt rfl (zV (vf rfl rfl qO) (yt rfl ?_)))))))
                have o3:=d.all _ (vQ C)
                refine zZ (fun _ h=>h.one 4 zD.Ok.loc rfl C) (gH 8 (v:=iV ((Lg.shape o.e (a + 1) m).1)) (cs':=[iV ((Lg.shape o.e (a + 1) m).2)]) wn rfl rfl call175 rfl (fun r Pb j pp=>ih o (zD.Ek (vQ C)) (a + 1) b m Pb r (pp.at_ 0 _ rfl) (j.blk (i:=8) rfl) (pp.sub' (i:=8) rfl) qO qO qO) (y8 rfl (yQ e3 (ze fun l7 a9=>zU (yt rfl (zV (gc rfl rfl) (yQ a9 (yg rfl (fun H=>?_) (fun H=>?_)))))))))
                ·
                  refine ze fun m3 b7=>zU (yt rfl (y8 rfl (yQ b7 (vK (vD (yC (Mo (vD (yC (yo (.inl rfl) results175 (yn rfl) fun r j=>?_))))))))))
                  have hq:Lg.shape e.e a c=((Lg.shape o.e (a + 1) m).1,(Lg.shape o.e (a + 1) m).2):=(show _=Lg.At (e.kids.l.map zD.e) (a + 1) (c + 1) from by rw [Lg.Bc]; grind).trans (((Lg.FJ G.2.2 C).2 H).trans rfl)
                  exact j.u7 8 rfl vi vi
                ·
                  refine yW (zj (uo e9 (zU (zV (vf rfl rfl qO) (yt rfl (zK (jF (k + 1) ((Lg.shape o.e (a + 1) m).2) (kS4 (sc (ji qO) sn)) (S9 [6,7,8,9]) ?_ ?_)))))))
                  · exact ⟨qO,Lg.Lq _ _ _ i8 k5 (ym.1 H),(Lg.FJ G.2.2 C).1 (ym.1 H)⟩
                  · omega
              ·
                refine yS (zw (uR (zx (uo f2 (ze fun r3 e2=>zU (y8 rfl (yQ e2 (vK (yo (.inl rfl) results175 (yn rfl) fun r j=>?_)))))))))
                have hq:Lg.shape e.e a c=(0,m):=(show _=Lg.At (e.kids.l.map zD.e) (a + 1) (c + 1) from by rw [Lg.Bc]; grind).trans (by rw [<-G.2.2,vg qO])
                exact j.u7 2 rfl vi vi
theorem Rm (e:zD):jT e:=NU KC e
theorem QZ {e:zD} (P0:Nat->Prop) {w:World} (c:∀ b,P0 b->b < w.heap.size) (he:zD.Ok P0 e w)  :
    Calls prog 139 #[.agg (yD e).toArray] w (Ret w (iV (Lg.AE e.e))):=by
 have h:=he.wf;refine zp func139 (Mem.AT c (dc (dp (zD.Ok.loc _) he) dn)) ?_;refine (go 2) (yw fun k=>?_);refine (go 5) (l_aO fun j=>?_);apply go 6;refine gH 0 (v:=iV ((Lg.shape e.e 1 0).1)) (cs':=[iV ((Lg.shape e.e 1 0).2)]) wn rfl rfl call175 rfl (fun d g a f=>Rm e 1 j 0 g d (f.at_ 2 _ rfl) (a.blk (i:=0) rfl) (f.sub' (i:=0) rfl) qO qO qO) ?_;refine (go 4) (zR fun d a=>?_);exact zL rfl a
theorem RI {e:zD} {a:Int} (P0:Nat->Prop) {w:World} (h:∀ b,P0 b->b < w.heap.size) (he:zD.Ok P0 e w)  :
    Calls prog 84 #[.agg (yD e).toArray,iV a] w (Ret w (iV (Mn.check e.e a))):=by
 have m:=he.wf;refine zp func84 (Mem.AT h (dc (dp (zD.Ok.loc _) he) dn)) ?_;refine (go 2) (yw fun n=>?_);apply go 7;refine yB call139 wn rfl (fun f c=>QZ (In f) mJ (c.yU (i:=1) rfl)) ?_;refine (go 9) (zQ (fun j=>?_) fun j=>?_);refine (go 8) (zR fun f c=>?_);exact zL (congrArg (Value.int .i64) qh) c;apply go 6;refine yB call140 wn rfl (fun f c=>Qz e (In f) f mJ (c.yU (i:=1) rfl)) ?_;refine (go 9) (zQ (fun l=>?_) fun l=>?_);refine (go 8) (zR fun f c=>?_);exact zL (congrArg (Value.int .i64) qh) c;apply go 3;refine yM (jE0 [] [(22,.bool (decide ((a < 0)∨(1000000 < a))))]) (jS0 []) (fun _ d=>?_) ?_;refine (go 4) (zm 19 (fun g=>?_) fun g=>?_);apply go 3;refine zK (kX d (sc (jt (Or.inl g)) sn));apply go 3;refine zK (kX d (sc (jp (AI g Iff.rfl)) sn));refine zQ (fun k=>?_) fun k=>?_;refine (go 7) (zR fun f c=>?_);exact zL (congrArg (Value.int .i64) qh) c;refine (go 8) (zR fun f c=>?_);exact zL (congrArg (Value.int .i64) qh) c
theorem c_big {n:Int} {w:World}   :
    Calls prog 178 #[iV n] w (Ret w (.bool (!Mn.fits n))):=by
 refine zp func178 (Mem.AQ dn) ?_;refine (gg) (zm 5 (fun b=>?_) fun b=>?_);refine (gg) (zR fun c a=>?_);exact zL (congrArg Value.bool q_63) a;refine (gg) (zR fun c a=>?_);exact zL (congrArg Value.bool q_63) a
theorem Sf {v:ByteArray} {a:Int} {b:Int} {w:World}  (m:-1125899906842624<=a∧a<=1125899906842624) (l:-1125899906842624<=b∧b<=1125899906842624) :
    Calls prog 143 #[.string v,iV a,iV b] w (Ret w (.tuple #[iV (Mn.op v a b).1,.bool (Mn.op v a b).2])):=by
 have t:=Mn.KH a;have i:=Mn.KH b;have n:0<=1125899906842624 / Mn.abs b:=Int.ediv_nonneg qO i.1;have r:Mn.abs a=if a < 0 then (-a) else a:=rfl
 have q:Mn.abs b=if b < 0 then (-b) else b:=rfl
 refine zp func143 (Mem.AQ dn) ?_;refine (go 19) (zQ (fun p=>?_) fun p=>?_);apply go 4;refine zV (vf rfl rfl q_8) ?_;apply go 2;refine zV (vf rfl rfl q_8) (yB call178 wn rfl (fun _ _=>c_big) (zV (zz rfl) ?_));refine (go 7) (yE fun j e=>?_);exact zL (by rw [show Mn.op v a b=((a + b),(!(!Mn.fits (a + b)))) from by unfold Mn.op Mn.tooBig; grind]) e;refine (go 6) (zQ (fun s=>?_) fun s=>?_);apply go 4;refine zV (gR rfl rfl q_8) ?_;apply go 2;refine zV (gR rfl rfl q_8) (yB call178 wn rfl (fun _ _=>c_big) (zV (zz rfl) ?_));refine (go 7) (yE fun j e=>?_);exact zL (by rw [show Mn.op v a b=((a - b),(!(!Mn.fits (a - b)))) from by unfold Mn.op Mn.tooBig; grind]) e;apply go 11;refine yM (jE0 [1,2,9] [(8,iV (if a < 0 then (-a) else a))]) (jS0 []) (fun _ h=>?_) ?_;refine (go 6) (zQ (fun f=>?_) fun f=>?_);apply go 2;refine zV (r_neg rfl qO) ?_;apply go 1;refine zK (kX h (kS3 (sc (by first | (simp only [zP f]; done) | (simp only [zP f]; rfl)) sn)));refine yW (kX h (kS3 (sc (by first | (simp only [zI f]; done) | (simp only [zI f]; rfl)) sn)));refine yM (jE0 [1,2,8] [(9,iV (if b < 0 then (-b) else b))]) (jS0 []) (fun _ c=>?_) ?_;refine (go 6) (zQ (fun h4=>?_) fun h4=>?_);apply go 2;refine zV (r_neg rfl qO) ?_;apply go 1;refine zK (kX c (kS3 (sc q_40 sn)));refine yW (kX c (kS3 (sc q_41 sn)));apply go 1;refine yM (jE0 [1,2] [(48,.bool (decide ((0 < (if b < 0 then (-b) else b))∧((1125899906842624 / (if b < 0 then (-b) else b)) < (if a < 0 then (-a) else a)))))]) (jS0 []) (fun _ d=>?_) ?_;refine (go 4) (zm 43 (fun k=>?_) fun k=>?_);apply go 5;refine zK (kX d (kS2 (sc (jp (AH k Iff.rfl)) sn)));apply go 5
 refine zK (kX d (kS2 (sc (jf (fun g=>k g.1)) sn)));refine zQ (fun o=>?_) fun o=>?_;refine (go 8) (yE fun j e=>?_);exact zL (by rw [show Mn.op v a b=(0,false) from by unfold Mn.op Mn.tooBig; grind]) e;apply go 6;refine zV (gS rfl rfl q_8) ?_;refine (go 5) (yE fun j e=>?_);exact zL (by rw [show Mn.op v a b=((a * b),true) from by unfold Mn.op Mn.tooBig; grind]) e
theorem VH {e:zD} {lv:Value} (l:List zC) (P0:Nat->Prop) {w:World} (d1:∀ b,P0 b->b < w.heap.size) (he:zD.Ok P0 e w) (hl:zH P0 2 zu lv l w) (b3:∀ x ∈ l,zC.Ok P0 x w) (d2:∀ c ∈ l,-1125899906842624<=c.value∧c.value<=1125899906842624) (d5:∀ c ∈ l,c.sr.l.length<=1048576) (l6:l.length<=1048576) (hw:e.word=kC∨e.word=⟨#[109,97,120]⟩∨e.word=⟨#[109,105,110]⟩∨e.word=⟨#[115,117,109]⟩) :
    Calls prog 142 #[.agg (yD e).toArray,lv] w (FU w P0 (rV (Mn.AZ (Mn.all e.word e.by_.l (l.map zC.e)))) (fun z=>z.l.map zC.e=(Mn.AZ (Mn.all e.word e.by_.l (l.map zC.e))).1) (fun z S=>CelsX.Ok S z)):=by
 have a4:=he.wf;have d7:∀ x ∈ l,zC.Wf x:=fun x hx=>(b3 x hx).wf;obtain ⟨lA,lc,rfl,l4,l8,c3⟩:=hl.form;refine zp func142 (Mem.AT d1 (dc (dp (zD.Ok.loc _) he) (dc (dlp hl) (dc (dp (Av zC.Ok.loc _) b3) dn)))) ?_;refine (go 2) (yw fun b2=>?_);apply go 7;refine zr (zu:zC->List Value) 81 2 (zZ (fun _ h=>h.FR zC.Ok.loc) ?_);apply go 12;refine qG (jE3 [2,16,17] fun (k:Nat) (cs:List zC) (ov:Value)=>[(7,ov),(18,iV k)]) (jS3 fun k cs ov=>[.s 0 (AS zC.Ok cs),.s 1 (Row ov 81 2 zu cs)]) (fun k cs ov=>k<=l.length∧(∀ x ∈ cs,zC.Wf x)∧Mn.BJ e.word e.by_.l [] (l.map zC.e)=Mn.BJ e.word e.by_.l (cs.map zC.e) ((l.drop k).map zC.e)∧Mn.Asc (cs.map zC.e)∧Mn.Fit (cs.map zC.e)∧cs.length<=k) (fun k cs ov=>l.length - k) 0 [] (Zs) ?_ (fun k cs ov C=>?_);exact ⟨Nat.zero_le _,fun x hx=>ja,by rw [List.drop_zero]; rfl,List.Pairwise.nil,fun x hx=>ja,vY _⟩;have G:=C.2.1;have o:=C.2.2.2.1;have B:=C.2.2.2.2.1;have e1:=C.2.2.2.2.2;refine yP 1 (l:=cs) rfl fun A1 U c8 m0 m8 a2=>?_;subst c8;refine (go 6) (zQ (fun h1=>?_) fun h1=>?_);apply go 6;obtain ⟨k7,s1,m5,D⟩:=elx c3 k;apply go 1;have E:=d2 _ (mo D);have d6:=d5 _ (mo D);refine (go 1) (zl fun b9=>?_);apply go 9;have b8:=d7 _ (mo D);refine zZ (fun _ h=>h.one 6 zC.Ok.loc rfl D) (zZ (fun _ h=>h.ED 0 rfl) ?_);obtain ⟨i7,m2,k8⟩:=b8.sr;refine zZ (fun _ h=>h.DK 6 rfl) ?_;obtain ⟨k6,n8,m7⟩:=a4.ms;obtain ⟨n5,n2,n6⟩:=a4.by_;obtain ⟨m3,k9,l2⟩:=a4.kids;refine vo (zF.only s1.sr.l e.by_.l) wn rfl call177 rfl (fun _ t=>Uh s1.sr.l e.by_.l (t.slp 4 rfl) (t.slp 1 rfl) q7) fun u m k3 n4 a8=>?_;apply go 17;refine jY (jE2 [2,7,9,10,16,17,18,28] fun (i:Nat) (at_:Int)=>[(11,iV at_),(29,iV i)]) (jS2 fun i at_=>[]) (fun i at_=>i<=cs.length∧((at_=-1∧∀ y ∈ cs.take i,¬ y.sr.l=(zF.only s1.sr.l e.by_.l))∨∃ (q:Nat) (y:zC),at_=(q:Int)∧cs[q]?=some y∧y.sr.l=(zF.only s1.sr.l e.by_.l))) (fun i at_=>cs.length - i) 0 (-1) ?_ (fun i at_ a3=>?_)
 exact ⟨Nat.zero_le _,.inl ⟨rfl,fun y F=>(by cases F)⟩⟩;refine (go 6) (zQ (fun h2=>?_) fun h2=>?_);apply go 14;obtain ⟨l1,s2,d4,N⟩:=elx a2 i;apply go 2;refine zV (uK 9 AJ rfl rfl d4 N rfl RJ) ?_;apply go 1;have c0:=G _ (mo N);refine zZ (fun _ h=>h.one 8 zC.Ok.loc rfl N) (zZ (fun _ h=>h.ED 0 rfl) ?_);obtain ⟨l5,n3,k0⟩:=c0.sr;refine yB call41 wn rfl (fun _ t=>v8 s2.sr.l (zF.only s1.sr.l e.by_.l) (t.slp 0 rfl) (AM BB t 2 rfl)) ?_;refine (go 2) (zQ (fun h3=>?_) fun h3=>?_);apply go 9;refine zK (vU (i + 1) (i:Int) ?_ ?_);exact ⟨qO,.inr ⟨i,s2,rfl,N,h3⟩⟩;omega;apply go 6;refine zK (vU (i + 1) at_ ?_ ?_);exact ⟨qO,a3.2.elim (fun h=>.inl ⟨h.1,QI N h.2 h3⟩) .inr⟩;omega;apply go 12;refine yM (jE0 [2,7,10,11,16,17,18] [(13,iV (uC e.word s1.value))]) (jS0 []) (fun _ a0=>?_) ?_;refine (go 7) (zQ (fun h4=>?_) fun h4=>?_);apply go 2;refine zK (kX a0 (kS7 (sc q_40 sn)));refine yW (kX a0 (kS7 (sc q_41 sn)));apply go 3;have a6:-1125899906842624<=(uC e.word s1.value)∧(uC e.word s1.value)<=1125899906842624:=Mn.LD (w:=e.word) E;refine (go 4) (zQ (fun h5=>?_) fun h5=>?_);have Q:=Mn.has_no (cs:=cs) (S:=(zF.only s1.sr.l e.by_.l)) (by rcases a3.2 with h | ⟨q,y,h,_⟩; exact fun y F=>h.2 y (by rw [vg qO]; exact F); omega);apply go 2;refine l_seal 0 BB rfl rfl ?_;apply go 3;refine yM (jE0 [2,7,10,13,16,17,18] [(14,iV ((Mn.pos (cs.map zC.e) (zF.only s1.sr.l e.by_.l)):Int))]) (jS0 [.i (.pub (fun _ _=>(Mn.pos (cs.map zC.e) (zF.only s1.sr.l e.by_.l))<=cs.length))]) (fun _ Y=>?_) ?_;apply go 1;refine yk (jE1 [2,7,10,13,16,17,18] fun (j:Nat)=>[(14,iV j)]) (jS1 fun j=>[]) (fun j=>j<=cs.length∧∀ y ∈ cs.take j,zF.compare y.sr.l (zF.only s1.sr.l e.by_.l) < 0) (fun j=>cs.length - j) 0 ?_ (fun j a1=>?_)
 exact ⟨Nat.zero_le _,fun y F=>(by cases F)⟩;refine (go 8) (zm 52 (fun h6=>?_) fun h6=>?_);apply go 2;obtain ⟨i9,s3,d0,R⟩:=elx a2 j;apply go 2;refine yY (uK 9 AJ rfl rfl d0 R rfl RJ) ?_;apply go 1;have d9:=G _ (mo R);refine zZ (fun _ h=>h.one 8 zC.Ok.loc rfl R) (zZ (fun _ h=>h.ED 0 rfl) ?_);obtain ⟨l9,l7,m9⟩:=d9.sr;refine yB call78 (wg rfl rfl rfl) rfl (fun _ t=>IP s3.sr.l (zF.only s1.sr.l e.by_.l) (t.slp 0 rfl) (t.slp 2 rfl)) ?_;refine (go 4) (zQ (fun h7=>?_) fun h7=>?_);apply go 7;refine zK (zj (zy (j + 1) ?_ ?_));exact ⟨qO,QI R a1.2 h7⟩;omega;have b0:(Mn.pos (cs.map zC.e) (zF.only s1.sr.l e.by_.l))=j:=Mn.Pv qO a1.2 o (fun y F=>by have e9:=Option.some.inj (F.symm.trans R); rw [e9]; exact h7);refine yS (zw (ye (zx (kX Y sA (fun _ h=>have h:=Mem.fact (Mn.KV) h; (h.sel [0,3,4,5,6,7,8,9,10,11,12,13,14,15,16] qD rfl))))));apply go 12;have b0:(Mn.pos (cs.map zC.e) (zF.only s1.sr.l e.by_.l))=j:=Mn.Pv qO a1.2 o (fun y F=>by have:=(yb.1 F).1; omega);refine yS (zw (ye (zx (kX Y sA (fun _ h=>have h:=Mem.fact (Mn.KV) h; h)))));refine gW fun h0=>?_;apply go 1;refine vV (uA 6 [1,2,3,5,6,7,10,11,12] [0,1,2,3,4,5,6,7,10,11,12,13] rfl fun KS K=>?_);apply go 2;refine vy (jw (lo:=0) (hi:=(Mn.pos (cs.map zC.e) (zF.only s1.sr.l e.by_.l))) rfl lo0 (hi1 rfl qO) qI qI qI underlying32 Au) ?_;apply go 5;refine vy (jw (lo:=(Mn.pos (cs.map zC.e) (zF.only s1.sr.l e.by_.l))) (hi:=cs.length) rfl (lo1 rfl qO) hi0 qI qI qI underlying32 Au) (zc K (yR (f:=5) (i:=0) (j:=8) rfl q_3 ?_ ?_));refine yI (i:=0) rfl fun M n=>uS zu wn underlying32 Au rfl fun b7=>?_;apply go 1;refine kN n (yR (f:=4) (i:=4) (j:=8) rfl q_3 ?_ ?_)
 refine yI (i:=4) rfl fun M n=>zh 0 ([]:List zC) (cs.take (Mn.pos (cs.map zC.e) (zF.only s1.sr.l e.by_.l))) AJ wn rfl rfl rfl (fun _ t=>(zH.Jq (AM AJ t 10 rfl) (lo:=0) (hi:=(Mn.pos (cs.map zC.e) (zF.only s1.sr.l e.by_.l))) qI qI qW rfl)) underlying32 Au rfl rfl q_9 rfl fun A3 k1 i8 k4 m4=>?_;apply go 1;refine kN n (zi 8 rfl fun M n=>zf zu ([(zC.mk ⟨u,m,(zF.only s1.sr.l e.by_.l)⟩ (uC e.word s1.value))]:List zC) wn underlying32 Au rfl rfl rfl rfl qD qD rfl fun b5=>?_);apply go 1;refine kN n (zi 9 rfl fun M n=>zh 1 (([]:List zC)++(cs.take (Mn.pos (cs.map zC.e) (zF.only s1.sr.l e.by_.l)))) ([(zC.mk ⟨u,m,(zF.only s1.sr.l e.by_.l)⟩ (uC e.word s1.value))]:List zC) AJ wn rfl rfl rfl (fun _ t=>(AM AJ t 0 rfl)) underlying32 Au rfl rfl q_9 rfl fun A4 n1 i3 e3 i2=>?_);apply go 1;refine kN n (zi 13 rfl fun M n=>zh 1 ((([]:List zC)++(cs.take (Mn.pos (cs.map zC.e) (zF.only s1.sr.l e.by_.l))))++([(zC.mk ⟨u,m,(zF.only s1.sr.l e.by_.l)⟩ (uC e.word s1.value))]:List zC)) (cs.drop (Mn.pos (cs.map zC.e) (zF.only s1.sr.l e.by_.l))) AJ wn rfl rfl rfl (fun _ t=>(zH.Jq (AM AJ t 11 rfl) (lo:=(Mn.pos (cs.map zC.e) (zF.only s1.sr.l e.by_.l))) (hi:=cs.length) qI qI qW rfl)) underlying32 Au rfl rfl q_9 rfl fun A5 c7 f9 i6 e8=>?_);have a:cs.take (Mn.pos (cs.map zC.e) (zF.only s1.sr.l e.by_.l))++(zC.mk ⟨u,m,(zF.only s1.sr.l e.by_.l)⟩ (uC e.word s1.value))::cs.drop (Mn.pos (cs.map zC.e) (zF.only s1.sr.l e.by_.l))=(((([]:List zC)++(cs.take (Mn.pos (cs.map zC.e) (zF.only s1.sr.l e.by_.l))))++([(zC.mk ⟨u,m,(zF.only s1.sr.l e.by_.l)⟩ (uC e.word s1.value))]:List zC))++(cs.drop (Mn.pos (cs.map zC.e) (zF.only s1.sr.l e.by_.l)))):=by simp only [List.nil_append,ub,List.singleton_append]
 refine zZ (fun _ h=>h.Ni (l':=(((([]:List zC)++(cs.take (Mn.pos (cs.map zC.e) (zF.only s1.sr.l e.by_.l))))++([(zC.mk ⟨u,m,(zF.only s1.sr.l e.by_.l)⟩ (uC e.word s1.value))]:List zC))++(cs.drop (Mn.pos (cs.map zC.e) (zF.only s1.sr.l e.by_.l))))) 10 2 rfl rfl (by rw [<-a]; exact Gs)) ?_;have c1:∀ y ∈ (((([]:List zC)++(cs.take (Mn.pos (cs.map zC.e) (zF.only s1.sr.l e.by_.l))))++([(zC.mk ⟨u,m,(zF.only s1.sr.l e.by_.l)⟩ (uC e.word s1.value))]:List zC))++(cs.drop (Mn.pos (cs.map zC.e) (zF.only s1.sr.l e.by_.l)))),zC.Wf y:=by rw [<-a]; exact fun y F=>(Gs y F).elim (G y) fun T=>⟨by rw [T]; exact (⟨qO,qO,a8⟩)⟩
 apply go 1;refine kN n (yH 0 [14] rfl fun KS K=>?_);apply go 1;refine zc K ?_;refine zg q_3 ((go 1) ?_);apply go 7;refine zK (vJ (k + 1) (((([]:List zC)++(cs.take (Mn.pos (cs.map zC.e) (zF.only s1.sr.l e.by_.l))))++([(zC.mk ⟨u,m,(zF.only s1.sr.l e.by_.l)⟩ (uC e.word s1.value))]:List zC))++(cs.drop (Mn.pos (cs.map zC.e) (zF.only s1.sr.l e.by_.l)))) (.slice A5 ((((([]:List zC)++(cs.take (Mn.pos (cs.map zC.e) (zF.only s1.sr.l e.by_.l))))++([(zC.mk ⟨u,m,(zF.only s1.sr.l e.by_.l)⟩ (uC e.word s1.value))]:List zC))++(cs.drop (Mn.pos (cs.map zC.e) (zF.only s1.sr.l e.by_.l)))).length) c7) ?_ ?_);obtain ⟨v,L,P⟩:=Mn.KM (w:=e.word) (by_:=e.by_.l) (s:=(zF.only s1.sr.l e.by_.l)) (c:=zC.e s1) (r:=(l.drop (k + 1)).map zC.e) (x:=(uC e.word s1.value)) (z:=(zC.mk ⟨u,m,(zF.only s1.sr.l e.by_.l)⟩ (uC e.word s1.value))) rfl rfl rfl Q B E;exact ⟨qO,c1,by rw [C.2.2.1,Mn.By D,P,<-v,a],by rw [<-a,v]; exact Mn.DH o,by rw [<-a,v]; exact L,by rw [<-a,DY qO]; omega⟩;omega;refine yI (i:=8) rfl fun M n=>zf zu ([(zC.mk ⟨u,m,(zF.only s1.sr.l e.by_.l)⟩ (uC e.word s1.value))]:List zC) wn underlying32 Au rfl rfl rfl rfl qD qD rfl fun b5=>?_;apply go 1;refine kN n (zi 4 rfl fun M n=>zh 1 ([]:List zC) (cs.take (Mn.pos (cs.map zC.e) (zF.only s1.sr.l e.by_.l))) AJ wn rfl rfl rfl (fun _ t=>(zH.Jq (AM AJ t 11 rfl) (lo:=0) (hi:=(Mn.pos (cs.map zC.e) (zF.only s1.sr.l e.by_.l))) qI qI qW rfl)) underlying32 Au rfl rfl q_9 rfl fun A6 l3 e2 f8 f2=>?_);apply go 1;refine kN n (zi 9 rfl fun M n=>zh 1 (([]:List zC)++(cs.take (Mn.pos (cs.map zC.e) (zF.only s1.sr.l e.by_.l)))) ([(zC.mk ⟨u,m,(zF.only s1.sr.l e.by_.l)⟩ (uC e.word s1.value))]:List zC) AJ wn rfl rfl rfl (fun _ t=>(AM AJ t 0 rfl)) underlying32 Au rfl rfl q_9 rfl fun A7 k2 f6 f0 i1=>?_)
 apply go 1;refine kN n (zi 13 rfl fun M n=>zh 1 ((([]:List zC)++(cs.take (Mn.pos (cs.map zC.e) (zF.only s1.sr.l e.by_.l))))++([(zC.mk ⟨u,m,(zF.only s1.sr.l e.by_.l)⟩ (uC e.word s1.value))]:List zC)) (cs.drop (Mn.pos (cs.map zC.e) (zF.only s1.sr.l e.by_.l))) AJ wn rfl rfl rfl (fun _ t=>(zH.Jq (AM AJ t 11 rfl) (lo:=(Mn.pos (cs.map zC.e) (zF.only s1.sr.l e.by_.l))) (hi:=cs.length) qI qI qW rfl)) underlying32 Au rfl rfl q_9 rfl fun A8 c6 e6 e7 e5=>?_);have a:cs.take (Mn.pos (cs.map zC.e) (zF.only s1.sr.l e.by_.l))++(zC.mk ⟨u,m,(zF.only s1.sr.l e.by_.l)⟩ (uC e.word s1.value))::cs.drop (Mn.pos (cs.map zC.e) (zF.only s1.sr.l e.by_.l))=(((([]:List zC)++(cs.take (Mn.pos (cs.map zC.e) (zF.only s1.sr.l e.by_.l))))++([(zC.mk ⟨u,m,(zF.only s1.sr.l e.by_.l)⟩ (uC e.word s1.value))]:List zC))++(cs.drop (Mn.pos (cs.map zC.e) (zF.only s1.sr.l e.by_.l)))):=by simp only [List.nil_append,ub,List.singleton_append]
 refine zZ (fun _ h=>h.Ni (l':=(((([]:List zC)++(cs.take (Mn.pos (cs.map zC.e) (zF.only s1.sr.l e.by_.l))))++([(zC.mk ⟨u,m,(zF.only s1.sr.l e.by_.l)⟩ (uC e.word s1.value))]:List zC))++(cs.drop (Mn.pos (cs.map zC.e) (zF.only s1.sr.l e.by_.l))))) 10 2 rfl rfl (by rw [<-a]; exact Gs)) ?_;have c2:∀ y ∈ (((([]:List zC)++(cs.take (Mn.pos (cs.map zC.e) (zF.only s1.sr.l e.by_.l))))++([(zC.mk ⟨u,m,(zF.only s1.sr.l e.by_.l)⟩ (uC e.word s1.value))]:List zC))++(cs.drop (Mn.pos (cs.map zC.e) (zF.only s1.sr.l e.by_.l)))),zC.Wf y:=by rw [<-a]; exact fun y F=>(Gs y F).elim (G y) fun T=>⟨by rw [T]; exact (⟨qO,qO,a8⟩)⟩
 apply go 1;refine kN n (yH 0 [14] rfl fun KS K=>?_);apply go 1;refine zc K ?_;refine zg q_3 ((go 1) ?_);apply go 7;refine zK (vJ (k + 1) (((([]:List zC)++(cs.take (Mn.pos (cs.map zC.e) (zF.only s1.sr.l e.by_.l))))++([(zC.mk ⟨u,m,(zF.only s1.sr.l e.by_.l)⟩ (uC e.word s1.value))]:List zC))++(cs.drop (Mn.pos (cs.map zC.e) (zF.only s1.sr.l e.by_.l)))) (.slice A8 ((((([]:List zC)++(cs.take (Mn.pos (cs.map zC.e) (zF.only s1.sr.l e.by_.l))))++([(zC.mk ⟨u,m,(zF.only s1.sr.l e.by_.l)⟩ (uC e.word s1.value))]:List zC))++(cs.drop (Mn.pos (cs.map zC.e) (zF.only s1.sr.l e.by_.l)))).length) c6) ?_ ?_);obtain ⟨v,L,P⟩:=Mn.KM (w:=e.word) (by_:=e.by_.l) (s:=(zF.only s1.sr.l e.by_.l)) (c:=zC.e s1) (r:=(l.drop (k + 1)).map zC.e) (x:=(uC e.word s1.value)) (z:=(zC.mk ⟨u,m,(zF.only s1.sr.l e.by_.l)⟩ (uC e.word s1.value))) rfl rfl rfl Q B E;exact ⟨qO,c2,by rw [C.2.2.1,Mn.By D,P,<-v,a],by rw [<-a,v]; exact Mn.DH o,by rw [<-a,v]; exact L,by rw [<-a,DY qO]; omega⟩;omega;refine yI (i:=8) rfl fun M n=>zf zu ([(zC.mk ⟨u,m,(zF.only s1.sr.l e.by_.l)⟩ (uC e.word s1.value))]:List zC) wn underlying32 Au rfl rfl rfl rfl qD qD rfl fun b5=>?_;apply go 1;refine kN n (zi 0 rfl fun M n=>uS zu wn underlying32 Au rfl fun b7=>?_);apply go 1;refine kN n (zi 4 rfl fun M n=>zh 0 ([]:List zC) (cs.take (Mn.pos (cs.map zC.e) (zF.only s1.sr.l e.by_.l))) AJ wn rfl rfl rfl (fun _ t=>(zH.Jq (AM AJ t 11 rfl) (lo:=0) (hi:=(Mn.pos (cs.map zC.e) (zF.only s1.sr.l e.by_.l))) qI qI qW rfl)) underlying32 Au rfl rfl q_9 rfl fun A9 m1 f4 f3 f1=>?_);apply go 1;refine kN n (zi 9 rfl fun M n=>zh 0 (([]:List zC)++(cs.take (Mn.pos (cs.map zC.e) (zF.only s1.sr.l e.by_.l)))) ([(zC.mk ⟨u,m,(zF.only s1.sr.l e.by_.l)⟩ (uC e.word s1.value))]:List zC) AJ wn rfl rfl rfl (fun _ t=>(AM AJ t 1 rfl)) underlying32 Au rfl rfl q_9 rfl fun l0 f5 i0 i5 e4=>?_)
 apply go 1;refine kN n (zi 13 rfl fun M n=>zh 0 ((([]:List zC)++(cs.take (Mn.pos (cs.map zC.e) (zF.only s1.sr.l e.by_.l))))++([(zC.mk ⟨u,m,(zF.only s1.sr.l e.by_.l)⟩ (uC e.word s1.value))]:List zC)) (cs.drop (Mn.pos (cs.map zC.e) (zF.only s1.sr.l e.by_.l))) AJ wn rfl rfl rfl (fun _ t=>(zH.Jq (AM AJ t 11 rfl) (lo:=(Mn.pos (cs.map zC.e) (zF.only s1.sr.l e.by_.l))) (hi:=cs.length) qI qI qW rfl)) underlying32 Au rfl rfl q_9 rfl fun d8 b1 i4 f7 e0=>?_);have a:cs.take (Mn.pos (cs.map zC.e) (zF.only s1.sr.l e.by_.l))++(zC.mk ⟨u,m,(zF.only s1.sr.l e.by_.l)⟩ (uC e.word s1.value))::cs.drop (Mn.pos (cs.map zC.e) (zF.only s1.sr.l e.by_.l))=(((([]:List zC)++(cs.take (Mn.pos (cs.map zC.e) (zF.only s1.sr.l e.by_.l))))++([(zC.mk ⟨u,m,(zF.only s1.sr.l e.by_.l)⟩ (uC e.word s1.value))]:List zC))++(cs.drop (Mn.pos (cs.map zC.e) (zF.only s1.sr.l e.by_.l)))):=by simp only [List.nil_append,ub,List.singleton_append]
 refine zZ (fun _ h=>h.Ni (l':=(((([]:List zC)++(cs.take (Mn.pos (cs.map zC.e) (zF.only s1.sr.l e.by_.l))))++([(zC.mk ⟨u,m,(zF.only s1.sr.l e.by_.l)⟩ (uC e.word s1.value))]:List zC))++(cs.drop (Mn.pos (cs.map zC.e) (zF.only s1.sr.l e.by_.l))))) 10 2 rfl rfl (by rw [<-a]; exact Gs)) ?_;have c5:∀ y ∈ (((([]:List zC)++(cs.take (Mn.pos (cs.map zC.e) (zF.only s1.sr.l e.by_.l))))++([(zC.mk ⟨u,m,(zF.only s1.sr.l e.by_.l)⟩ (uC e.word s1.value))]:List zC))++(cs.drop (Mn.pos (cs.map zC.e) (zF.only s1.sr.l e.by_.l)))),zC.Wf y:=by rw [<-a]; exact fun y F=>(Gs y F).elim (G y) fun T=>⟨by rw [T]; exact (⟨qO,qO,a8⟩)⟩
 apply go 1;refine kN n (yH 0 [14] rfl fun KS K=>?_);apply go 1;refine zc K ?_;refine zg q_3 ((go 1) ?_);apply go 7;refine zK (vJ (k + 1) (((([]:List zC)++(cs.take (Mn.pos (cs.map zC.e) (zF.only s1.sr.l e.by_.l))))++([(zC.mk ⟨u,m,(zF.only s1.sr.l e.by_.l)⟩ (uC e.word s1.value))]:List zC))++(cs.drop (Mn.pos (cs.map zC.e) (zF.only s1.sr.l e.by_.l)))) (.slice d8 ((((([]:List zC)++(cs.take (Mn.pos (cs.map zC.e) (zF.only s1.sr.l e.by_.l))))++([(zC.mk ⟨u,m,(zF.only s1.sr.l e.by_.l)⟩ (uC e.word s1.value))]:List zC))++(cs.drop (Mn.pos (cs.map zC.e) (zF.only s1.sr.l e.by_.l)))).length) b1) ?_ ?_);obtain ⟨v,L,P⟩:=Mn.KM (w:=e.word) (by_:=e.by_.l) (s:=(zF.only s1.sr.l e.by_.l)) (c:=zC.e s1) (r:=(l.drop (k + 1)).map zC.e) (x:=(uC e.word s1.value)) (z:=(zC.mk ⟨u,m,(zF.only s1.sr.l e.by_.l)⟩ (uC e.word s1.value))) rfl rfl rfl Q B E;exact ⟨qO,c5,by rw [C.2.2.1,Mn.By D,P,<-v,a],by rw [<-a,v]; exact Mn.DH o,by rw [<-a,v]; exact L,by rw [<-a,DY qO]; omega⟩;omega;obtain ⟨X,y9,k5,p,c4⟩:=(a3.2).resolve_left (fun h=>by omega);obtain ⟨H,V⟩:=Mn.pos_of o p c4;have n7:=(yb.1 p).1;have I:=Mn.Fit.at_ B p;apply go 6;obtain ⟨m6,J⟩:=a2 (ne_nil (i:=X) qI);refine zV (vO (i:=X) rfl J rfl qO qI underlying32 Au) ?_;apply go 4;refine yM (jE0 [2,7,13,15,16,17,18] [(81,.bool (decide ((((e.word=⟨#[109,97,120]⟩)∧(y9.value < (uC e.word s1.value)))∧((e.word=⟨#[109,97,120]⟩)∧(y9.value < (uC e.word s1.value))))∨(¬ ((e.word=⟨#[109,97,120]⟩)∧(y9.value < (uC e.word s1.value)))∧((e.word=⟨#[109,105,110]⟩)∧((uC e.word s1.value) < y9.value))))))]) (jS0 []) (fun _ O=>?_) ?_;refine yM (jE0 [2,7,13,15,16,17,18] [(81,.bool (decide ((e.word=⟨#[109,97,120]⟩)∧(y9.value < (uC e.word s1.value)))))]) (jS0 []) (fun _ W=>?_) ?_
 refine (go 5) (zm 85 (fun h8=>?_) fun h8=>?_);apply go 4;refine yY (uK 9 AJ rfl rfl J p rfl BO) ?_;apply go 3;refine zK (kX W (kS7 (sc (jp (AH h8 Iff.rfl)) sn)));apply go 8;refine zK (kX W (kS7 (sc (jf (fun g=>h8 g.1)) sn)));refine zQ (fun T=>?_) fun T=>?_;refine yW (kX O (kS7 (sc (jp (CD T Iff.rfl)) sn)));refine (go 5) (zm 96 (fun a5=>?_) fun a5=>?_);apply go 4;refine yY (uK 9 AJ rfl rfl J p rfl BO) ?_;apply go 3;refine zK (kX O (kS7 (sc (jp (Br T (AH a5 Iff.rfl))) sn)));apply go 8;refine zK (kX O (kS7 (sc (jf (fun g=>g.elim (fun k=>T k.1) (fun k=>(fun g=>a5 g.1) k.2))) sn)));refine zQ (fun b6=>?_) fun b6=>?_;apply go 5;refine uv 9 (vs:=[iV (uC e.word s1.value)]) (zC.mk ⟨y9.sr.A,y9.sr.c,y9.sr.l⟩ (uC e.word s1.value)) AJ wn rfl rfl rfl rfl J p Eh rfl rfl rfl rfl (zZ (fun _ h=>h.Oo (l':=(cs.set X (zC.mk ⟨y9.sr.A,y9.sr.c,y9.sr.l⟩ (uC e.word s1.value)))) 8 rfl (FP p rfl)) ?_);have d3:∀ x ∈ (cs.set X (zC.mk ⟨y9.sr.A,y9.sr.c,y9.sr.l⟩ (uC e.word s1.value))),zC.Wf x:=fun x hx=>by obtain ⟨y,F,e⟩:=FP (z:=(zC.mk ⟨y9.sr.A,y9.sr.c,y9.sr.l⟩ (uC e.word s1.value))) p rfl x hx; exact ⟨by rw [e]; exact (G y F).sr⟩
 apply go 7;refine zK (vJ (k + 1) (cs.set X (zC.mk ⟨y9.sr.A,y9.sr.c,y9.sr.l⟩ (uC e.word s1.value))) (.slice A1 cs.length U) ?_ ?_);obtain ⟨v,L,_⟩:=Mn.EB (w:=e.word) (by_:=e.by_.l) (s:=(zF.only s1.sr.l e.by_.l)) (c:=zC.e s1) (r:=(l.drop (k + 1)).map zC.e) (x:=(uC e.word s1.value)) (d:=y9) (z:=(zC.mk ⟨y9.sr.A,y9.sr.c,y9.sr.l⟩ (uC e.word s1.value))) rfl rfl o V B (by rw [H]; exact p) rfl q_23;obtain ⟨P,g4⟩:=L (by first | (simpa using b6) | exact Mn.DD.2 I | exact Mn.DD.2 a6);rw [H] at v;exact ⟨qO,d3,by rw [C.2.2.1,Mn.By D,g4,<-v],by rw [v]; exact Mn.DH o,by rw [v]; exact P,by rw [List.length_set]; omega⟩;omega;refine yM (jE0 [2,7,13,15,16,17,18] [(108,.bool (decide ((e.word=⟨#[115,117,109]⟩)∨(e.word=kC))))]) (jS0 []) (fun _ Z=>?_) ?_;refine (go 5) (zm 112 (fun a7=>?_) fun a7=>?_);apply go 5;refine zK (kX Z (kS7 (sc (jt (Or.inl a7)) sn)));apply go 5;refine zK (kX Z (kS7 (sc (jp (AI a7 Iff.rfl)) sn)));refine zQ (fun b4=>?_) fun b4=>?_;apply go 6;refine zV (uK 9 AJ rfl rfl J p rfl BO) ?_;apply go 4;refine uv 9 (vs:=[iV (y9.value + (uC e.word s1.value))]) (zC.mk ⟨y9.sr.A,y9.sr.c,y9.sr.l⟩ (y9.value + (uC e.word s1.value))) AJ wn rfl rfl rfl rfl J p Eh rfl rfl rfl rfl (zZ (fun _ h=>h.Oo (l':=(cs.set X (zC.mk ⟨y9.sr.A,y9.sr.c,y9.sr.l⟩ (y9.value + (uC e.word s1.value))))) 8 rfl (FP p rfl)) ?_);have c9:∀ x ∈ (cs.set X (zC.mk ⟨y9.sr.A,y9.sr.c,y9.sr.l⟩ (y9.value + (uC e.word s1.value)))),zC.Wf x:=fun x hx=>by obtain ⟨y,F,e⟩:=FP (z:=(zC.mk ⟨y9.sr.A,y9.sr.c,y9.sr.l⟩ (y9.value + (uC e.word s1.value)))) p rfl x hx; exact ⟨by rw [e]; exact (G y F).sr⟩
 apply go 7;refine zV (uK 10 AJ rfl rfl J (OR p) rfl BO) (yB call178 wn rfl (fun _ _=>c_big) ?_);refine (go 2) (yj (fun a9=>?_) fun a9=>?_);refine (go 14) (uN results142 fun w1 t=>?_);obtain ⟨v,_,L⟩:=Mn.EB (w:=e.word) (by_:=e.by_.l) (s:=(zF.only s1.sr.l e.by_.l)) (c:=zC.e s1) (r:=(l.drop (k + 1)).map zC.e) (x:=(uC e.word s1.value)) (d:=y9) (z:=(zC.mk ⟨y9.sr.A,y9.sr.c,y9.sr.l⟩ (y9.value + (uC e.word s1.value)))) rfl rfl o V B (by rw [H]; exact p) rfl q_23;have hb9:Mn.AZ (Mn.all e.word e.by_.l (l.map zC.e))=([],false,3):=by rw [Mn.all,C.2.2.1,Mn.By D,L (qs a9)]; rfl
 exact t.uL (n0:SlX zC) q_2 q_2 fun Pb pp=>⟨zH.vh _ _ _ _,fun c hc=>jr⟩;apply go 7;refine zK (vJ (k + 1) (cs.set X (zC.mk ⟨y9.sr.A,y9.sr.c,y9.sr.l⟩ (y9.value + (uC e.word s1.value)))) (.slice A1 cs.length U) ?_ ?_);obtain ⟨v,L,_⟩:=Mn.EB (w:=e.word) (by_:=e.by_.l) (s:=(zF.only s1.sr.l e.by_.l)) (c:=zC.e s1) (r:=(l.drop (k + 1)).map zC.e) (x:=(uC e.word s1.value)) (d:=y9) (z:=(zC.mk ⟨y9.sr.A,y9.sr.c,y9.sr.l⟩ (y9.value + (uC e.word s1.value)))) rfl rfl o V B (by rw [H]; exact p) rfl q_23;obtain ⟨P,g4⟩:=L (by first | (simpa using a9) | exact Mn.DD.2 I | exact Mn.DD.2 a6);rw [H] at v;exact ⟨qO,c9,by rw [C.2.2.1,Mn.By D,g4,<-v],by rw [v]; exact Mn.DH o,by rw [v]; exact P,by rw [List.length_set]; omega⟩;omega;apply go 7;refine zK (vJ (k + 1) cs (.slice A1 cs.length U) ?_ ?_);obtain ⟨v,L,_⟩:=Mn.EB (w:=e.word) (by_:=e.by_.l) (s:=(zF.only s1.sr.l e.by_.l)) (c:=zC.e s1) (r:=(l.drop (k + 1)).map zC.e) (x:=(uC e.word s1.value)) (d:=y9) (z:=y9) rfl rfl o V B (by rw [H]; exact p) rfl q_23;obtain ⟨P,g4⟩:=L (by first | (simpa using b4) | exact Mn.DD.2 I | exact Mn.DD.2 a6);rw [H] at v;rw [Mn.WR p] at v;exact ⟨qO,G,by rw [C.2.2.1,Mn.By D,g4,<-v],by rw [v]; exact Mn.DH o,by rw [v]; exact P,qO⟩;omega;refine (go 14) (uN results142 fun w1 t=>?_);have hb9:Mn.AZ (Mn.all e.word e.by_.l (l.map zC.e))=(cs.map zC.e,true,0):=by rw [Mn.all,C.2.2.1,Mn.Pt qO,Mn.BJ]; rfl
 have t:=t.zo AJ (i:=1) rfl rfl;exact t.uL (⟨A1,U,cs⟩:SlX zC) q_2 q_2 fun Pb pp=>⟨pp.sl 1 rfl,pp.at_ 0 _ rfl⟩
def ul (e:zD):Prop:=∀ (time n:Int) (f:Nat) (fcap:Array Value) (o:Int->Own) (S:Nat->Prop) (C:World->Prop) (G:(Nat->Prop)->World->Prop) (lk:CQ) (sk:Sk) (Pb:Nat->Prop) (w:World) (hG:Mem w ⟨AX [(o n),.dat S C,.pub G,okP zD.Ok e],Pb⟩ [(o n),.dat S C,.pub G,okP zD.Ok e] w) (hf:RefG prog f fcap o S C G lk sk) (hg:Mn.CV lk) (hdl:Mn.HW lk) (ht:0<=time∧time<=1000000) (hso:Mn.Sound e.e),
    Calls prog 85 #[.agg (List.toArray [iV e.kind,iV e.n,iV e.range,.string e.word,e.ms.v,e.by_.v,e.kids.v]),iV time,.func (.func f) #[] fcap] w (Be w [(o n),.dat S C,.pub G,okP zD.Ok e] Pb (rV (Mn.AZ (Mn.eval lk time e.e))) (fun z=>z.l.map zC.e=(Mn.AZ (Mn.eval lk time e.e)).1) (fun z=>[okP CelsX.Ok z,o (Mn.AW lk sk time e.e n),okP zD.Ok e]))
theorem Rc {a n:Int} {f:Nat} {U:Array Value} {o:Int->Own} {S:Nat->Prop} {C:World->Prop} {G:(Nat->Prop)->World->Prop} (lk:CQ) (B:Sk) {e:zD} {L:Nat->Prop} {w:World} (hG:Mem w ⟨AX [(o n),.dat S C,.pub G,okP zD.Ok e],L⟩ [(o n),.dat S C,.pub G,okP zD.Ok e] w) (hf:RefG prog f U o S C G lk B) (hg:Mn.CV lk) (a8:Mn.HW lk) (ht:0<=a∧a<=1000000) (X:Mn.Sound e.e) (ih:∀ k:zD,SizeOf.sizeOf k < SizeOf.sizeOf e->ul k) :
    Calls prog 85 #[.agg (List.toArray [iV e.kind,iV e.n,iV e.range,.string e.word,e.ms.v,e.by_.v,e.kids.v]),iV a,.func (.func f) #[] U] w (Be w [(o n),.dat S C,.pub G,okP zD.Ok e] L (rV (Mn.AZ (Mn.eval lk a e.e))) (fun z=>z.l.map zC.e=(Mn.AZ (Mn.eval lk a e.e)).1) (fun z=>[okP CelsX.Ok z,o (Mn.AW lk B a e.e n),okP zD.Ok e])):=by
 have M:=(hG.yU (i:=3) rfl).wf;have x8:=(Mn.KO X.right).1;refine zp func85 hG ?_;refine (go 2) (yw fun Z=>?_);refine (go 19) (zQ (fun h1=>?_) fun h1=>?_);apply go 5;refine zf zu ([(zC.mk n0 e.n)]:List zC) wn underlying32 Au rfl rfl rfl rfl qD qD rfl fun f5=>?_;refine (go 8) (uN results85 fun w1 t=>?_);have hb9:(Mn.AZ (Mn.eval lk a e.e))=([⟨[],e.n⟩],false,0):=by rw [Mn.FV,zP h1]; rfl
 have t:=t.vT AJ (i:=0) (j:=2) rfl rfl qD (fun b hb=>hf.fpc _ _ b (Pw b hb));have F:n=(Mn.AW lk B a e.e n):=by rw [Mn.EA lk B a e n,zP h1]
 have t:=t.yO (CelsX.Ok.loc (⟨(some ⟨f5,0,none⟩),1,([(zC.mk n0 e.n)]:List zC)⟩:SlX zC)) fun L P=>⟨P.sl 0 rfl,fun c hc=>by obtain rfl:=yf.1 hc; exact ⟨zH.vh _ _ _ _⟩⟩;exact t.yz (⟨(some ⟨f5,0,none⟩),1,([(zC.mk n0 e.n)]:List zC)⟩:SlX zC) q_2 q_2 (fun h=>by rw [<-F]; exact h.sel [0,3,6] qD rfl);refine (go 6) (zQ (fun h2=>?_) fun h2=>?_);apply go 9;refine uJ [(1,iV a),(2,.func (.func f) #[] U),(3,.pointer (some ⟨Z,0,none⟩)),(9,iV (if (a - e.range) < 0 then 0 else (a - e.range)))] (Mem w ⟨AX [(o n),.dat S C,.pub G,okP zD.Ok e],L⟩ [.blk Z [iV e.kind,iV e.n,iV e.range,.string e.word,e.ms.v,e.by_.v,e.kids.v] 59,(o n),.dat S C,.pub G,okP zD.Ok e]) (fun _ f1=>?_) ?_;refine (go 6) (zQ (fun h3=>?_) fun h3=>?_);apply go 2;refine zK (yc f1 (kS3 (sc (by first | (simp only [zP h3]; done) | (simp only [zP h3]; rfl)) sn)) mI);refine yW (yc f1 (kS3 (sc (by first | (simp only [zI h3]; done) | (simp only [zI h3]; rfl)) sn)) mI);apply go 7;refine zZ (fun _ h=>h.DK 4 rfl) ?_;obtain ⟨w4,x3,r9⟩:=M.ms;obtain ⟨r0,w5,t2⟩:=M.by_;obtain ⟨s9,A9,x2⟩:=M.kids;refine zZ (fun _ h=>((h.dup 6 rfl rfl).dup 8 rfl rfl).dup 2 rfl rfl) (qU [(o n),.dat S C,.pub G,slP 3 yF (e.ms.v) e.ms.l] [slP 3 yF (e.ms.v) e.ms.l,slP 1 Ac (e.by_.v) e.by_.l,slP 7 yD (e.kids.v) e.kids.l,AS zD.Ok e.kids.l,.blk Z [iV e.kind,iV e.n,iV e.range,.string e.word,e.ms.v,e.by_.v,e.kids.v] 59,.dat S C,.pub G,okP zD.Ok e] (refV (lk e.ms.l (Mn.frm a e.range) a).2) (fun z=>Cx.is z (lk e.ms.l (Mn.frm a e.range) a).1) (fun z=>[.pub (fun S=>Cx.Ok S z),o (B e.ms.l (Mn.frm a e.range) a n)]) (S9 [8,2,1,0,3,4,5,6,7,9,10,11]) (fun _=>hq2 (hf.ok _)) wn rfl rfl hf.call rfl (fun w1 L hG=>hf.run ⟨e.ms.A,e.ms.c,e.ms.l⟩ (Mn.frm a e.range) a n w1 L hG (Mn.frm_nn _ _) ht.2) fun z1 hz1=>vd 0 rfl (fun S w h=>Cx.Ok.wf h) fun c6=>zZ (fun _ h=>h.refX 0 rfl) ?_)
 obtain ⟨A8,x7,l2⟩:=c6.cs;obtain ⟨w6,t3,i5⟩:=c6.sm;refine (go 16) (zQ (fun h4=>?_) fun h4=>?_);refine (go 12) (uN results85 fun w1 t=>?_);have d2:Mn.eval lk a e.e=Mn.Ai lk a e.word e.ms.l e.range:=by rw [Mn.FV,zI h1,zP h2]
 have hb9:(Mn.AZ (Mn.eval lk a e.e))=([],false,(lk e.ms.l (Mn.frm a e.range) a).2):=by rw [d2,Mn.Ep (by rw [Mn.Ai,zP (qs h4)]; exact h4),Mn.Ai,zP (qs h4)]
 have F:(B e.ms.l (Mn.frm a e.range) a n)=(Mn.AW lk B a e.e n):=by rw [Mn.EA lk B a e n,zI h1,zP h2]
 have t:=t.yO (CelsX.Ok.loc (n0:SlX zC)) fun L P=>⟨zH.vh _ _ _ _,fun c hc=>jr⟩;exact t.yz (n0:SlX zC) q_2 q_2 (fun h=>by rw [<-F]; exact h.sel [0,5,13] qD rfl);apply go 4;refine zr (zu:zC->List Value) 81 2 (zZ (fun _ h=>h.FR zC.Ok.loc) ?_);apply go 12;have w0:z1.cs.l.length=(lk e.ms.l (Mn.frm a e.range) a).1.length:=by have:=congrArg List.length hz1.1; simpa using this
 have t9:z1.sm.l.length=(lk e.ms.l (Mn.frm a e.range) a).1.length:=by have:=congrArg List.length hz1.2; simpa using this
 have w2:=(hg e.ms.l (Mn.frm a e.range) a).1;refine jk (fun (k:Nat) (cs:List zC) (ov:Value)=>[(3,.pointer (some ⟨Z,0,none⟩)),(11,z1.sm.v),(13,ov),(64,z1.cs.v),(65,iV z1.cs.l.length),(66,iV k)]) (fun (k:Nat) (cs:List zC) (ov:Value)=>[AS zC.Ok cs,Row ov 81 2 zu cs,slP 2 zu (z1.cs.v) z1.cs.l,AS zC.Ok z1.cs.l,slP 7 CK (z1.sm.v) z1.sm.l,.pub (fun S=>Cx.Ok S z1),(o (B e.ms.l (Mn.frm a e.range) a n)),slP 3 yF (e.ms.v) e.ms.l,slP 1 Ac (e.by_.v) e.by_.l,slP 7 yD (e.kids.v) e.kids.l,AS zD.Ok e.kids.l,.blk Z [iV e.kind,iV e.n,iV e.range,.string e.word,e.ms.v,e.by_.v,e.kids.v] 59,.dat S C,.pub G,okP zD.Ok e]) (fun (k:Nat) (cs:List zC) (ov:Value)=>k<=z1.cs.l.length∧(∀ x ∈ cs,zC.Wf x)∧cs.map zC.e=Mn.DV e.word ((lk e.ms.l (Mn.frm a e.range) a).1.take k)∧cs.length<=k) (fun (k:Nat) (cs:List zC) (ov:Value)=>z1.cs.l.length - k) 0 [] (Zs) sA mI ?_ (fun k cs ov b6=>?_);exact ⟨Nat.zero_le _,fun x hx=>ja,rfl,vY _⟩;have b8:=b6.2.1;have e2:=b6.2.2.2;refine yP 1 (l:=cs) rfl fun A1 c5 k1 r6 A7 x5=>?_;subst k1;refine (go 6) (zQ (fun h5=>?_) fun h5=>?_);apply go 7;obtain ⟨t1,s1,w9,c0⟩:=elx l2 k;refine (go 2) (zl fun A0=>?_);apply go 10;obtain ⟨t4,s2,x6,hs2⟩:=elx i5 k;apply go 2;refine yL wn rfl call141 rfl (fun _ _=>Ua) ?_;refine (go 12) (yj (fun h6=>?_) fun h6=>?_);apply go 6;refine zf zu ([(zC.mk ⟨s1.sr.A,s1.sr.c,s1.sr.l⟩ ((Agg.value e.word s2).1))]:List zC) wn underlying32 Au rfl rfl rfl rfl qD qD rfl fun x4=>zh 3 cs ([(zC.mk ⟨s1.sr.A,s1.sr.c,s1.sr.l⟩ ((Agg.value e.word s2).1))]:List zC) AJ wn rfl rfl rfl (fun _ t=>(AM AJ t 0 rfl)) underlying32 Au rfl rfl qQ rfl fun A2 l0 t5 x9 r4=>?_;have l3:=c6.all _ (mo c0)
 refine zZ (fun _ h=>h.one 5 zC.Ok.loc rfl c0) (zZ (fun _ h=>h.ED 0 rfl) ?_);obtain ⟨w3,t8,k6⟩:=l3.sr;refine zZ (fun _ h=>h.FC (n:=(Agg.value e.word s2).1) 4 0 rfl rfl) ?_;have i1:∀ y9 ∈ (cs++([(zC.mk ⟨s1.sr.A,s1.sr.c,s1.sr.l⟩ ((Agg.value e.word s2).1))]:List zC)),zC.Wf y9:=fun x hx=>(yl.1 hx).elim (b8 x) fun h=>by rw [yf.1 h]; exact ⟨⟨qO,qO,k6⟩⟩
 apply go 7;refine zK (uY (k + 1) (cs++([(zC.mk ⟨s1.sr.A,s1.sr.c,s1.sr.l⟩ ((Agg.value e.word s2).1))]:List zC)) (.slice A2 ((cs++([(zC.mk ⟨s1.sr.A,s1.sr.c,s1.sr.l⟩ ((Agg.value e.word s2).1))]:List zC)).length) l0) sA (S9 [0,6,7,8,9,10,11,12,13,14,15,16,17,18,19]) ?_ ?_);exact ⟨qO,i1,by rw [Mn.FF (s:=s1.sr.l) (m:=s2) (by rw [<-hz1.1,yV,c0]; rfl) q_60,zP h6,yi,b6.2.2.1]; rfl,qQ⟩;omega;apply go 6;refine zK (uY (k + 1) cs (.slice A1 cs.length c5) sA (S9 [1,2,3,4,5,6,7,8,9,10,11,12,13,14,15]) ?_ ?_);exact ⟨qO,b8,by rw [Mn.FF (s:=s1.sr.l) (m:=s2) (by rw [<-hz1.1,yV,c0]; rfl) q_60,zI (qs h6),uc]; exact b6.2.2.1,qO⟩;omega;refine (go 16) (uN results85 fun w1 t=>?_);have d2:Mn.eval lk a e.e=Mn.Ai lk a e.word e.ms.l e.range:=by rw [Mn.FV,zI h1,zP h2]
 have hb9:(Mn.AZ (Mn.eval lk a e.e))=(cs.map zC.e,true,0):=by rw [d2,Mn.Ai,zI (qs h4),b6.2.2.1,vg qO]; rfl
 have t:=t.vT AJ (i:=1) (j:=6) rfl rfl qD (fun b hb=>hf.fpc _ _ b (Pw b hb));have F:(B e.ms.l (Mn.frm a e.range) a n)=(Mn.AW lk B a e.e n):=by rw [Mn.EA lk B a e n,zI h1,zP h2]
 have t:=t.yO (CelsX.Ok.loc (⟨A1,c5,cs⟩:SlX zC)) fun L P=>⟨P.sl 1 rfl,P.at_ 0 _ rfl⟩;exact t.yz (⟨A1,c5,cs⟩:SlX zC) q_2 q_2 (fun h=>by rw [<-F]; exact h.sel [0,7,15] qD rfl);refine (go 6) (zQ (fun h7=>?_) fun h7=>?_);apply go 4;refine zZ (fun _ h=>h.DK 4 rfl) ?_;obtain ⟨r2,r5,w8⟩:=M.ms;obtain ⟨p4,l6,p1⟩:=M.by_;obtain ⟨o5,p7,e6⟩:=M.kids;obtain ⟨r3,s3,w7,T⟩:=elx e6 0;apply go 4;have s8:=M.all _ (mo T);refine zZ (fun _ h=>h.one 3 zD.Ok.loc rfl T) (zZ (fun _ h=>(h.dup 7 rfl rfl).dup 9 rfl rfl) (j0 (α:=SlX zC) [(o n),.dat S C,.pub G,okP zD.Ok s3] [slP 3 yF (e.ms.v) e.ms.l,slP 1 Ac (e.by_.v) e.by_.l,slP 7 yD (e.kids.v) e.kids.l,AS zD.Ok e.kids.l,.blk Z [iV e.kind,iV e.n,iV e.range,.string e.word,e.ms.v,e.by_.v,e.kids.v] 59,.dat S C,.pub G,okP zD.Ok e] (rV (Mn.AZ (Mn.eval lk a s3.e))) (fun z2=>z2.l.map zC.e=(Mn.AZ (Mn.eval lk a s3.e)).1) (fun z2=>[okP CelsX.Ok z2,(o (Mn.AW lk B a s3.e n)),okP zD.Ok s3]) _ (fun _=>rfl) (S9 [8,1,0,2,3,4,5,6,7,9,10,11]) (fun _=>hq3 (hf.ok _)) wn rfl rfl call85 rfl (fun w1 L hG=>ih s3 (zD.Ek (mo T)) a n f U o S C G lk B L w1 hG hf hg a8 ht (X.kid (mo T))) fun z2 k5=>vd 0 rfl (fun S w h=>CelsX.Ok.wf h) fun i4=>zZ (fun _ h=>h.Tn 0 rfl) ?_));obtain ⟨l5,o4,m9⟩:=i4.cells;refine (go 16) (zQ (fun h8=>?_) fun h8=>?_);refine (go 12) (uN results85 fun w1 t=>?_);have N:(Mn.eval lk a s3.e).2≠0:=by rw [<-Mn.Et]; exact h8
 have hb9:(Mn.AZ (Mn.eval lk a e.e))=([],false,(Mn.AZ (Mn.eval lk a s3.e)).2.2):=by rw [Mn.kid1 h7 (show e.kids.l.length=1 by omega) T,zP N,Mn.Ep (r:=(Mn.zero,(Mn.eval lk a s3.e).2)) N,Mn.Ep (r:=(Mn.eval lk a s3.e)) N]
 have F:(Mn.AW lk B a s3.e n)=(Mn.AW lk B a e.e n):=Mn.SU h7 (show e.kids.l.length=1 by omega) T;have t:=t.yO (CelsX.Ok.loc (n0:SlX zC)) fun L P=>⟨zH.vh _ _ _ _,fun c hc=>jr⟩;exact t.yz (n0:SlX zC) q_2 q_2 (fun h=>by rw [<-F]; exact h.sel [0,4,13] qD rfl);apply go 4;have E:(Mn.eval lk a s3.e).2=0:=by rw [<-Mn.Et]; exact nn h8
 have Y:=X.kid (mo T);have J:z2.l.map zC.e=Mn.cellsOf (Mn.eval lk a s3.e).1:=k5.trans (Mn.CT E).1;obtain ⟨b5,c4,d0⟩:=Mn.Hu (Mn.Fb hg a _ Y.right) J;apply go 2;refine vP (β:=SlX zC) (rV (Mn.AZ (Mn.all e.word e.by_.l (z2.l.map zC.e)))) (fun z=>z.l.map zC.e=(Mn.AZ (Mn.all e.word e.by_.l (z2.l.map zC.e))).1) (fun z S=>CelsX.Ok S z) (fun z=>CelsX.Ok.loc z) wn rfl call142 rfl (fun _ L _ P=>VH z2.l L P.lt (P.at_ 12 _ rfl) (P.sl 0 rfl) (P.at_ 1 _ rfl) q_6 q_6 q_6 (Mn.QL X q_6)) fun z3 i3=>vd 0 rfl (fun S w h=>CelsX.Ok.wf h) fun i8=>zZ (fun _ h=>h.Tn 0 rfl) ?_;obtain ⟨o0,m5,o8⟩:=i8.cells;refine (go 11) (uN results85 fun w1 t=>?_);have e0:(Mn.eval lk a s3.e).1.vec=true:=by rw [Mn.QO a _ Y.AD E]; exact X.vec h7 (show e.kids.l.length=1 by omega) T
 have e3:z2.l.map zC.e=(Mn.eval lk a s3.e).1.cells:=by rw [J,Mn.cellsOf,zP e0]
 have hb9:(Mn.AZ (Mn.eval lk a e.e))=Mn.AZ (Mn.all e.word e.by_.l (z2.l.map zC.e)):=by rw [Mn.kid1 h7 (show e.kids.l.length=1 by omega) T,zI (by simpa using E),e3]
 have F:(Mn.AW lk B a s3.e n)=(Mn.AW lk B a e.e n):=Mn.SU h7 (show e.kids.l.length=1 by omega) T;have t:=t.yO (CelsX.Ok.loc z3) fun L P=>P.at_ 2 _ rfl;exact t.yz z3 q_2 (by rw [hb9]; exact i3) (fun h=>by rw [<-F]; exact h.sel [0,7,16] qD rfl);apply go 7;refine zZ (fun _ h=>h.DK 4 rfl) ?_;obtain ⟨l8,l9,l7⟩:=M.ms;obtain ⟨n5,n1,m6⟩:=M.by_;obtain ⟨o7,p6,e5⟩:=M.kids;obtain ⟨x0,d,t0,I⟩:=elx e5 0;apply go 4;have x1:=M.all _ (mo I);refine zZ (fun _ h=>h.one 3 zD.Ok.loc rfl I) (zZ (fun _ h=>(h.dup 7 rfl rfl).dup 9 rfl rfl) (j0 (α:=SlX zC) [(o n),.dat S C,.pub G,okP zD.Ok d] [slP 3 yF (e.ms.v) e.ms.l,slP 1 Ac (e.by_.v) e.by_.l,slP 7 yD (e.kids.v) e.kids.l,AS zD.Ok e.kids.l,.blk Z [iV e.kind,iV e.n,iV e.range,.string e.word,e.ms.v,e.by_.v,e.kids.v] 59,.dat S C,.pub G,okP zD.Ok e] (rV (Mn.AZ (Mn.eval lk a d.e))) (fun y=>y.l.map zC.e=(Mn.AZ (Mn.eval lk a d.e)).1) (fun y=>[okP CelsX.Ok y,(o (Mn.AW lk B a d.e n)),okP zD.Ok d]) _ (fun _=>rfl) (S9 [8,1,0,2,3,4,5,6,7,9,10,11]) (fun _=>hq3 (hf.ok _)) wn rfl rfl call85 rfl (fun w1 L hG=>ih d (zD.Ek (mo I)) a n f U o S C G lk B L w1 hG hf hg a8 ht (X.kid (mo I))) fun y i6=>vd 0 rfl (fun S w h=>CelsX.Ok.wf h) fun d1=>zZ (fun _ h=>h.Tn 0 rfl) ?_));obtain ⟨p5,o2,e1⟩:=d1.cells;refine (go 16) (zQ (fun h9=>?_) fun h9=>?_);refine (go 10) (uN results85 fun w1 t=>?_);have N:(Mn.eval lk a d.e).2≠0:=by rw [<-Mn.Et]; exact h9
 obtain ⟨u9,f9⟩:∃ x,e.kids.l[1]?=some x:=⟨_,vA qO⟩;have hb9:(Mn.AZ (Mn.eval lk a e.e))=([],false,(Mn.AZ (Mn.eval lk a d.e)).2.2):=by rw [Mn.kid2 (show e.kind=4 by omega) (show e.kids.l.length=2 by omega) I f9,zP N,Mn.Ep (r:=(Mn.zero,(Mn.eval lk a d.e).2)) N,Mn.Ep (r:=(Mn.eval lk a d.e)) N]
 have F:(Mn.AW lk B a d.e n)=(Mn.AW lk B a e.e n):=Mn.VP (show e.kind=4 by omega) (show e.kids.l.length=2 by omega) I N;have t:=t.yO (CelsX.Ok.loc (n0:SlX zC)) fun L P=>⟨zH.vh _ _ _ _,fun c hc=>jr⟩;exact t.yz (n0:SlX zC) q_2 q_2 (fun h=>by rw [<-F]; exact h.sel [0,4,13] qD rfl);apply go 7;obtain ⟨p,K⟩:=gx e.kids.l 1;apply go 3;have r7:=M.all _ (mo K);refine zZ (fun _ h=>h.one 8 zD.Ok.loc rfl K) (zZ (fun _ h=>(h.dup 11 rfl rfl).dup 13 rfl rfl) (j0 (α:=SlX zC) [(o (Mn.AW lk B a d.e n)),.dat S C,.pub G,okP zD.Ok p] [slP 2 zu (y.v) y.l,AS zC.Ok y.l,okP CelsX.Ok y,okP zD.Ok d,slP 3 yF (e.ms.v) e.ms.l,slP 1 Ac (e.by_.v) e.by_.l,slP 7 yD (e.kids.v) e.kids.l,AS zD.Ok e.kids.l,.blk Z [iV e.kind,iV e.n,iV e.range,.string e.word,e.ms.v,e.by_.v,e.kids.v] 59,.dat S C,.pub G,okP zD.Ok e] (rV (Mn.AZ (Mn.eval lk a p.e))) (fun q=>q.l.map zC.e=(Mn.AZ (Mn.eval lk a p.e)).1) (fun q=>[okP CelsX.Ok q,(o (Mn.AW lk B a p.e (Mn.AW lk B a d.e n))),okP zD.Ok p]) _ (fun _=>rfl) (S9 [6,1,0,2,3,4,5,7,8,9,10,11,12,13,14,15]) (fun _=>hq3 (hf.ok _)) wn rfl rfl call85 rfl (fun w1 L hG=>ih p (zD.Ek (mo K)) a (Mn.AW lk B a d.e n) f U o S C G lk B L w1 hG hf hg a8 ht (X.kid (mo K))) fun q i7=>vd 0 rfl (fun S w h=>CelsX.Ok.wf h) fun b4=>zZ (fun _ h=>h.Tn 0 rfl) ?_));obtain ⟨o9,p0,f2⟩:=b4.cells;refine (go 16) (zQ (fun c9=>?_) fun c9=>?_);refine (go 10) (uN results85 fun w1 t=>?_);have e4:(Mn.eval lk a d.e).2=0:=by rw [<-Mn.Et]; exact nn h9
 have N:(Mn.eval lk a p.e).2≠0:=by rw [<-Mn.Et]; exact c9
 have hb9:(Mn.AZ (Mn.eval lk a e.e))=([],false,(Mn.AZ (Mn.eval lk a p.e)).2.2):=by rw [Mn.kid2 (show e.kind=4 by omega) (show e.kids.l.length=2 by omega) I K,zI (qs e4),zP N,Mn.Ep (r:=(Mn.zero,(Mn.eval lk a p.e).2)) N,Mn.Ep (r:=(Mn.eval lk a p.e)) N]
 have F:(Mn.AW lk B a p.e (Mn.AW lk B a d.e n))=(Mn.AW lk B a e.e n):=Mn.IV (show e.kind=4 by omega) (show e.kids.l.length=2 by omega) I K e4;have t:=t.yO (CelsX.Ok.loc (n0:SlX zC)) fun L P=>⟨zH.vh _ _ _ _,fun c hc=>jr⟩;exact t.yz (n0:SlX zC) q_2 q_2 (fun h=>by rw [<-F]; exact h.sel [0,4,17] qD rfl);apply go 4;have E:(Mn.eval lk a d.e).2=0:=by rw [<-Mn.Et]; exact nn h9
 have Y:=X.kid (mo I);have J:y.l.map zC.e=Mn.cellsOf (Mn.eval lk a d.e).1:=i6.trans (Mn.CT E).1;obtain ⟨b5,c4,d0⟩:=Mn.Hu (Mn.Fb hg a _ Y.right) J;have O:(Mn.eval lk a p.e).2=0:=by rw [<-Mn.Et]; exact nn c9
 have d6:=X.kid (mo K);have W:q.l.map zC.e=Mn.cellsOf (Mn.eval lk a p.e).1:=i7.trans (Mn.CT O).1;obtain ⟨d8,l1,k2⟩:=Mn.Hu (Mn.Fb hg a _ d6.right) W;refine zr (zu:zC->List Value) 81 2 (zZ (fun _ h=>h.FR zC.Ok.loc) ?_);apply go 17;refine gn (fun (k:Nat) (cs:List zC) (Dd:Bool) (ov:Value)=>[(3,.pointer (some ⟨Z,0,none⟩)),(22,.bool ((Mn.AZ (Mn.eval lk a d.e)).2.1)),(24,q.v),(25,.bool ((Mn.AZ (Mn.eval lk a p.e)).2.1)),(26,ov),(27,.bool Dd),(141,y.v),(142,iV y.l.length),(143,iV k)]) (fun (k:Nat) (cs:List zC) (Dd:Bool) (ov:Value)=>[AS zC.Ok cs,Row ov 81 2 zu cs,slP 2 zu (q.v) q.l,AS zC.Ok q.l,okP CelsX.Ok q,(o (Mn.AW lk B a p.e (Mn.AW lk B a d.e n))),okP zD.Ok p,slP 2 zu (y.v) y.l,AS zC.Ok y.l,okP CelsX.Ok y,okP zD.Ok d,slP 3 yF (e.ms.v) e.ms.l,slP 1 Ac (e.by_.v) e.by_.l,slP 7 yD (e.kids.v) e.kids.l,AS zD.Ok e.kids.l,.blk Z [iV e.kind,iV e.n,iV e.range,.string e.word,e.ms.v,e.by_.v,e.kids.v] 59,.dat S C,.pub G,okP zD.Ok e]) (fun (k:Nat) (cs:List zC) (Dd:Bool) (ov:Value)=>k<=y.l.length∧(∀ x ∈ cs,zC.Wf x)∧cs.map zC.e=Mn.done e.word (Mn.rp (Mn.AZ (Mn.eval lk a d.e)).2.1 (Mn.AZ (Mn.eval lk a p.e)).2.1 ((y.l.take k).map zC.e) (q.l.map zC.e))∧Dd=Mn.AD e.word (Mn.rp (Mn.AZ (Mn.eval lk a d.e)).2.1 (Mn.AZ (Mn.eval lk a p.e)).2.1 ((y.l.take k).map zC.e) (q.l.map zC.e))∧cs.length<=k * q.l.length) (fun (k:Nat) (cs:List zC) (Dd:Bool) (ov:Value)=>y.l.length - k) 0 [] true (Zs) sA mI ?_ (fun k cs Dd ov R=>?_);exact ⟨Nat.zero_le _,fun x hx=>ja,rfl,rfl,Nat.zero_le _⟩;have b8:=R.2.1;have e2:=R.2.2.2.2;have t7:k * q.l.length<=1048576 * 1048576:=Nat.mul_le_mul qO qO;refine yP 1 (l:=cs) rfl fun A3 b2 k9 n3 m2 p8=>?_
 subst k9;refine (go 6) (zQ (fun k3=>?_) fun k3=>?_);apply go 6;obtain ⟨r1,u,s0,a4⟩:=elx e1 k;apply go 1;have i0:=b5 _ (mo a4);refine (go 1) (zl fun a0=>?_);apply go 11;refine gn (fun (j:Nat) (H:List zC) (gd:Bool) (a7:Value)=>[(3,.pointer (some ⟨Z,0,none⟩)),(22,.bool ((Mn.AZ (Mn.eval lk a d.e)).2.1)),(24,q.v),(25,.bool ((Mn.AZ (Mn.eval lk a p.e)).2.1)),(26,a7),(27,.bool gd),(29,.pointer (some ⟨a0,0,none⟩)),(141,y.v),(142,iV y.l.length),(143,iV k),(147,q.v),(148,iV q.l.length),(149,iV j)]) (fun (j:Nat) (H:List zC) (gd:Bool) (a7:Value)=>[.blk a0 [u.sr.v,iV u.value] 81,AS zC.Ok H,Row a7 81 2 zu H,slP 2 zu (q.v) q.l,AS zC.Ok q.l,okP CelsX.Ok q,(o (Mn.AW lk B a p.e (Mn.AW lk B a d.e n))),okP zD.Ok p,slP 2 zu (y.v) y.l,AS zC.Ok y.l,okP CelsX.Ok y,okP zD.Ok d,slP 3 yF (e.ms.v) e.ms.l,slP 1 Ac (e.by_.v) e.by_.l,slP 7 yD (e.kids.v) e.kids.l,AS zD.Ok e.kids.l,.blk Z [iV e.kind,iV e.n,iV e.range,.string e.word,e.ms.v,e.by_.v,e.kids.v] 59,.dat S C,.pub G,okP zD.Ok e]) (fun (j:Nat) (H:List zC) (gd:Bool) (a7:Value)=>j<=q.l.length∧(∀ x ∈ H,zC.Wf x)∧H.map zC.e=Mn.done e.word (Mn.rp (Mn.AZ (Mn.eval lk a d.e)).2.1 (Mn.AZ (Mn.eval lk a p.e)).2.1 ((y.l.take k).map zC.e) (q.l.map zC.e)++Mn.rp1 (Mn.AZ (Mn.eval lk a d.e)).2.1 (Mn.AZ (Mn.eval lk a p.e)).2.1 u.e ((q.l.take j).map zC.e))∧gd=Mn.AD e.word (Mn.rp (Mn.AZ (Mn.eval lk a d.e)).2.1 (Mn.AZ (Mn.eval lk a p.e)).2.1 ((y.l.take k).map zC.e) (q.l.map zC.e)++Mn.rp1 (Mn.AZ (Mn.eval lk a d.e)).2.1 (Mn.AZ (Mn.eval lk a p.e)).2.1 u.e ((q.l.take j).map zC.e))∧H.length<=k * q.l.length + j) (fun (j:Nat) (H:List zC) (gd:Bool) (a7:Value)=>q.l.length - j) 0 cs Dd (.slice A3 cs.length b2) sA mI ?_ (fun j H gd a7 Q=>?_)
 exact ⟨Nat.zero_le _,b8,by rw [show Mn.rp1 _ _ _ _=[] from rfl,uc]; exact R.2.2.1,by rw [show Mn.rp1 _ _ _ _=[] from rfl,uc]; exact R.2.2.2.1,qO⟩;have c1:=Q.2.1;have k4:=Q.2.2.2.2;refine yP 2 (l:=H) rfl fun A4 a2 i2 m0 n4 m4=>?_;subst i2;refine (go 6) (zQ (fun k7=>?_) fun k7=>?_);apply go 6;obtain ⟨r8,D,t6,V⟩:=elx f2 j;apply go 1;have f8:=d8 _ (mo V);refine (go 1) (zl fun b7=>?_);apply go 4;refine uJ [(3,.pointer (some ⟨Z,0,none⟩)),(22,.bool ((Mn.AZ (Mn.eval lk a d.e)).2.1)),(24,q.v),(25,.bool ((Mn.AZ (Mn.eval lk a p.e)).2.1)),(26,.slice A4 H.length a2),(27,.bool gd),(29,.pointer (some ⟨a0,0,none⟩)),(31,.pointer (some ⟨b7,0,none⟩)),(141,y.v),(142,iV y.l.length),(143,iV k),(147,q.v),(148,iV q.l.length),(149,iV j),(164,.bool (decide (((Mn.AZ (Mn.eval lk a d.e)).2.1=true)∧(((Mn.AZ (Mn.eval lk a p.e)).2.1=true)∧(¬ (u.sr.l=D.sr.l))))))] (Mem w ⟨AX [(o n),.dat S C,.pub G,okP zD.Ok e],L⟩ [.blk b7 [D.sr.v,iV D.value] 81,.blk a0 [u.sr.v,iV u.value] 81,AS zC.Ok H,Row (.slice A4 H.length a2) 81 2 zu H,slP 2 zu (q.v) q.l,AS zC.Ok q.l,okP CelsX.Ok q,(o (Mn.AW lk B a p.e (Mn.AW lk B a d.e n))),okP zD.Ok p,slP 2 zu (y.v) y.l,AS zC.Ok y.l,okP CelsX.Ok y,okP zD.Ok d,slP 3 yF (e.ms.v) e.ms.l,slP 1 Ac (e.by_.v) e.by_.l,slP 7 yD (e.kids.v) e.kids.l,AS zD.Ok e.kids.l,.blk Z [iV e.kind,iV e.n,iV e.range,.string e.word,e.ms.v,e.by_.v,e.kids.v] 59,.dat S C,.pub G,okP zD.Ok e]) (fun _ b1=>?_) ?_;refine (go 3) (jK 154 (fun c7=>?_) fun c7=>?_);refine (go 3) (jK 157 (fun d5=>?_) fun d5=>?_);apply go 4;have e9:=d1.all _ (mo a4);refine zZ (fun _ h=>h.one 10 zC.Ok.loc rfl a4) (zZ (fun _ h=>h.ED 0 rfl) ?_)
 obtain ⟨p9,n9,m1⟩:=e9.sr;have f3:=b4.all _ (mo V);refine zZ (fun _ h=>h.one 7 zC.Ok.loc rfl V) (zZ (fun _ h=>h.ED 0 rfl) ?_);obtain ⟨n2,n7,p2⟩:=f3.sr;refine yB call41 (wg rfl rfl rfl) rfl (fun _ t=>v8 u.sr.l D.sr.l (t.slp 2 rfl) (t.slp 0 rfl)) ?_;apply go 2;refine zK (yc b1 (kS6 (kS8 (sc (jp (AH c7 (AH d5 Iff.rfl))) sn))) (S9 [4,5,6,7,8,9,10,11,12,13,14,15,16,17,18,19,20,21,22,23,24]));apply go 7;refine zK (yc b1 (kS6 (kS8 (sc (jf (fun g=>(fun g=>d5 g.1) g.2)) sn))) mI);apply go 10;refine zK (yc b1 (kS6 (kS8 (sc (jf (fun g=>c7 g.1)) sn))) mI);refine zQ (fun k8=>?_) fun k8=>?_;apply go 7;refine zK (jG (j + 1) H gd (.slice A4 H.length a2) sA (S9 [1,2,3,4,5,6,7,8,9,10,11,12,13,14,15,16,17,18,19,20]) ?_ ?_);have a9:(((Mn.AZ (Mn.eval lk a d.e)).2.1=true∧(Mn.AZ (Mn.eval lk a p.e)).2.1=true)∧¬ u.sr.l=D.sr.l):=by simp_all only [not_true_eq_false,not_false_eq_true,and_self,and_true,true_and]
 exact ⟨qO,c1,by rw [Mn.rp1_no V a9]; exact Q.2.2.1,by rw [Mn.rp1_no V a9]; exact Q.2.2.2.1,qO⟩;omega;refine (go 15) (yj (fun d3=>?_) fun d3=>?_);apply go 14;refine yB call143 wn rfl (fun _ _=>Sf q_6 q_6) ?_;apply go 7;refine uJ [(3,.pointer (some ⟨Z,0,none⟩)),(22,.bool ((Mn.AZ (Mn.eval lk a d.e)).2.1)),(24,q.v),(25,.bool ((Mn.AZ (Mn.eval lk a p.e)).2.1)),(26,.slice A4 H.length a2),(27,.bool (decide ((gd=true)∧((Mn.op e.word u.value D.value).2=true)))),(29,.pointer (some ⟨a0,0,none⟩)),(32,D.sr.v),(33,iV ((Mn.op e.word u.value D.value).1)),(141,y.v),(142,iV y.l.length),(143,iV k),(147,q.v),(148,iV q.l.length),(149,iV j)] (Mem w ⟨AX [(o n),.dat S C,.pub G,okP zD.Ok e],L⟩ [.blk b7 [D.sr.v,iV D.value] 81,.blk a0 [u.sr.v,iV u.value] 81,AS zC.Ok H,Row (.slice A4 H.length a2) 81 2 zu H,slP 2 zu (q.v) q.l,AS zC.Ok q.l,okP CelsX.Ok q,(o (Mn.AW lk B a p.e (Mn.AW lk B a d.e n))),okP zD.Ok p,slP 2 zu (y.v) y.l,AS zC.Ok y.l,okP CelsX.Ok y,okP zD.Ok d,slP 3 yF (e.ms.v) e.ms.l,slP 1 Ac (e.by_.v) e.by_.l,slP 7 yD (e.kids.v) e.kids.l,AS zD.Ok e.kids.l,.blk Z [iV e.kind,iV e.n,iV e.range,.string e.word,e.ms.v,e.by_.v,e.kids.v] 59,.dat S C,.pub G,okP zD.Ok e]) (fun _ c2=>?_) ?_;refine (go 3) (jK 181 (fun d4=>?_) fun d4=>?_);apply go 3;refine zK (yc c2 (kS5 (sc (jpb (AH d4 Iff.rfl)) sA)) mI);apply go 3;refine zK (yc c2 (kS5 (sc (jf (fun g=>d4 g.1)) sA)) mI);apply go 5;refine zf zu ([(zC.mk ⟨D.sr.A,D.sr.c,D.sr.l⟩ ((Mn.op e.word u.value D.value).1))]:List zC) wn underlying32 Au rfl rfl rfl rfl qD qD rfl fun e8=>zh 4 H ([(zC.mk ⟨D.sr.A,D.sr.c,D.sr.l⟩ ((Mn.op e.word u.value D.value).1))]:List zC) AJ wn rfl rfl rfl (fun _ t=>(AM AJ t 0 rfl)) underlying32 Au rfl rfl qQ rfl fun A5 k0 o1 m8 o6=>?_
 have e7:=b4.all _ (mo V);refine zZ (fun _ h=>h.one 6 zC.Ok.loc rfl V) (zZ (fun _ h=>h.ED 0 rfl) ?_);obtain ⟨n6,o3,f7⟩:=e7.sr;refine zZ (fun _ h=>h.FC (n:=(Mn.op e.word u.value D.value).1) 5 0 rfl rfl) ?_;have f4:∀ y9 ∈ (H++([(zC.mk ⟨D.sr.A,D.sr.c,D.sr.l⟩ ((Mn.op e.word u.value D.value).1))]:List zC)),zC.Wf y9:=fun x hx=>(yl.1 hx).elim (c1 x) fun h=>by rw [yf.1 h]; exact ⟨⟨qO,qO,f7⟩⟩
 apply go 7;refine zK (jG (j + 1) (H++([(zC.mk ⟨D.sr.A,D.sr.c,D.sr.l⟩ ((Mn.op e.word u.value D.value).1))]:List zC)) (decide ((gd=true)∧((Mn.op e.word u.value D.value).2=true))) (.slice A5 ((H++([(zC.mk ⟨D.sr.A,D.sr.c,D.sr.l⟩ ((Mn.op e.word u.value D.value).1))]:List zC)).length) k0) sA (S9 [5,0,7,8,9,10,11,12,13,14,15,16,17,18,19,20,21,22,23,24]) ?_ ?_);have a9:¬ (((Mn.AZ (Mn.eval lk a d.e)).2.1=true∧(Mn.AZ (Mn.eval lk a p.e)).2.1=true)∧¬ u.sr.l=D.sr.l):=by simp_all
 have b0:(Mn.rp (Mn.AZ (Mn.eval lk a d.e)).2.1 (Mn.AZ (Mn.eval lk a p.e)).2.1 ((y.l.take k).map zC.e) (q.l.map zC.e)++Mn.rp1 (Mn.AZ (Mn.eval lk a d.e)).2.1 (Mn.AZ (Mn.eval lk a p.e)).2.1 u.e ((q.l.take (j + 1)).map zC.e))=(Mn.rp (Mn.AZ (Mn.eval lk a d.e)).2.1 (Mn.AZ (Mn.eval lk a p.e)).2.1 ((y.l.take k).map zC.e) (q.l.map zC.e)++Mn.rp1 (Mn.AZ (Mn.eval lk a d.e)).2.1 (Mn.AZ (Mn.eval lk a p.e)).2.1 u.e ((q.l.take j).map zC.e))++[(D.sr.l,u.value,D.value)]:=by rw [Mn.rp1_yes V a9 (qs d3),ub]
 exact ⟨qO,f4,Mn.FN Q.2.2.1 b0,by rw [b0]; exact Mn.PG Q.2.2.2.1,qQ⟩;omega;apply go 10;refine yB call143 wn rfl (fun _ _=>Sf q_6 q_6) ?_;apply go 7;refine uJ [(3,.pointer (some ⟨Z,0,none⟩)),(22,.bool ((Mn.AZ (Mn.eval lk a d.e)).2.1)),(24,q.v),(25,.bool ((Mn.AZ (Mn.eval lk a p.e)).2.1)),(26,.slice A4 H.length a2),(27,.bool (decide ((gd=true)∧((Mn.op e.word u.value D.value).2=true)))),(29,.pointer (some ⟨a0,0,none⟩)),(32,u.sr.v),(33,iV ((Mn.op e.word u.value D.value).1)),(141,y.v),(142,iV y.l.length),(143,iV k),(147,q.v),(148,iV q.l.length),(149,iV j)] (Mem w ⟨AX [(o n),.dat S C,.pub G,okP zD.Ok e],L⟩ [.blk b7 [D.sr.v,iV D.value] 81,.blk a0 [u.sr.v,iV u.value] 81,AS zC.Ok H,Row (.slice A4 H.length a2) 81 2 zu H,slP 2 zu (q.v) q.l,AS zC.Ok q.l,okP CelsX.Ok q,(o (Mn.AW lk B a p.e (Mn.AW lk B a d.e n))),okP zD.Ok p,slP 2 zu (y.v) y.l,AS zC.Ok y.l,okP CelsX.Ok y,okP zD.Ok d,slP 3 yF (e.ms.v) e.ms.l,slP 1 Ac (e.by_.v) e.by_.l,slP 7 yD (e.kids.v) e.kids.l,AS zD.Ok e.kids.l,.blk Z [iV e.kind,iV e.n,iV e.range,.string e.word,e.ms.v,e.by_.v,e.kids.v] 59,.dat S C,.pub G,okP zD.Ok e]) (fun _ c3=>?_) ?_;refine (go 3) (jK 181 (fun d7=>?_) fun d7=>?_);apply go 3;refine zK (yc c3 (kS5 (sc (jpb (AH d7 Iff.rfl)) sA)) mI);apply go 3;refine zK (yc c3 (kS5 (sc (jf (fun g=>d7 g.1)) sA)) mI);apply go 5;refine zf zu ([(zC.mk ⟨u.sr.A,u.sr.c,u.sr.l⟩ ((Mn.op e.word u.value D.value).1))]:List zC) wn underlying32 Au rfl rfl rfl rfl qD qD rfl fun e8=>zh 4 H ([(zC.mk ⟨u.sr.A,u.sr.c,u.sr.l⟩ ((Mn.op e.word u.value D.value).1))]:List zC) AJ wn rfl rfl rfl (fun _ t=>(AM AJ t 0 rfl)) underlying32 Au rfl rfl qQ rfl fun A6 i9 m3 n8 l4=>?_
 have f0:=d1.all _ (mo a4);refine zZ (fun _ h=>h.one 11 zC.Ok.loc rfl a4) (zZ (fun _ h=>h.ED 0 rfl) ?_);obtain ⟨m7,p3,f6⟩:=f0.sr;refine zZ (fun _ h=>h.FC (n:=(Mn.op e.word u.value D.value).1) 5 0 rfl rfl) ?_;have d9:∀ y9 ∈ (H++([(zC.mk ⟨u.sr.A,u.sr.c,u.sr.l⟩ ((Mn.op e.word u.value D.value).1))]:List zC)),zC.Wf y9:=fun x hx=>(yl.1 hx).elim (c1 x) fun h=>by rw [yf.1 h]; exact ⟨⟨qO,qO,f6⟩⟩
 apply go 7;refine zK (jG (j + 1) (H++([(zC.mk ⟨u.sr.A,u.sr.c,u.sr.l⟩ ((Mn.op e.word u.value D.value).1))]:List zC)) (decide ((gd=true)∧((Mn.op e.word u.value D.value).2=true))) (.slice A6 ((H++([(zC.mk ⟨u.sr.A,u.sr.c,u.sr.l⟩ ((Mn.op e.word u.value D.value).1))]:List zC)).length) i9) sA (S9 [5,0,7,8,9,10,11,12,13,14,15,16,17,18,19,20,21,22,23,24]) ?_ ?_);have a9:¬ (((Mn.AZ (Mn.eval lk a d.e)).2.1=true∧(Mn.AZ (Mn.eval lk a p.e)).2.1=true)∧¬ u.sr.l=D.sr.l):=by simp_all
 have b0:(Mn.rp (Mn.AZ (Mn.eval lk a d.e)).2.1 (Mn.AZ (Mn.eval lk a p.e)).2.1 ((y.l.take k).map zC.e) (q.l.map zC.e)++Mn.rp1 (Mn.AZ (Mn.eval lk a d.e)).2.1 (Mn.AZ (Mn.eval lk a p.e)).2.1 u.e ((q.l.take (j + 1)).map zC.e))=(Mn.rp (Mn.AZ (Mn.eval lk a d.e)).2.1 (Mn.AZ (Mn.eval lk a p.e)).2.1 ((y.l.take k).map zC.e) (q.l.map zC.e)++Mn.rp1 (Mn.AZ (Mn.eval lk a d.e)).2.1 (Mn.AZ (Mn.eval lk a p.e)).2.1 u.e ((q.l.take j).map zC.e))++[(u.sr.l,u.value,D.value)]:=by rw [Mn.Vg V a9 (qs d3),ub]
 exact ⟨qO,d9,Mn.FN Q.2.2.1 b0,by rw [b0]; exact Mn.PG Q.2.2.2.1,qQ⟩;omega;apply go 9;refine zK (jG (k + 1) H gd (.slice A4 H.length a2) sA (S9 [1,2,3,4,5,6,7,8,9,10,11,12,13,14,15,16,17,18,19]) ?_ ?_);have h0:q.l.take j=q.l:=vg qO;have h9:=Q.2.2.1;have h8:=Q.2.2.2.1;rw [h0] at h9 h8;exact ⟨qO,c1,by rw [Mn.rp_at a4]; exact h9,by rw [Mn.rp_at a4]; exact h8,by rw [Nat.succ_mul]; omega⟩;omega;apply go 9;refine zV (zz rfl) ?_;refine (go 2) (yj (fun b9=>?_) fun b9=>?_);refine (go 9) (uN results85 fun w1 t=>?_);have a6:(Mn.AZ (Mn.eval lk a d.e)).2.1=(Mn.eval lk a d.e).1.vec:=(Mn.CT E).2;have a5:(Mn.AZ (Mn.eval lk a p.e)).2.1=(Mn.eval lk a p.e).1.vec:=(Mn.CT O).2;have a1:Mn.rp (Mn.AZ (Mn.eval lk a d.e)).2.1 (Mn.AZ (Mn.eval lk a p.e)).2.1 ((y.l.take k).map zC.e) (q.l.map zC.e)=Mn.rp (Mn.eval lk a d.e).1.vec (Mn.eval lk a p.e).1.vec (Mn.cellsOf (Mn.eval lk a d.e).1) (Mn.cellsOf (Mn.eval lk a p.e).1):=by rw [Mn.RM qO,J,W,a6,a5]
 have a3:(Mn.AZ (Mn.eval lk a e.e))=if Dd=true then (cs.map zC.e,(Mn.eval lk a d.e).1.vec || (Mn.eval lk a p.e).1.vec,0) else ([],false,3):=by rw [Mn.kid2 (show e.kind=4 by omega) (show e.kids.l.length=2 by omega) I K,zI (by simpa using E),zI (by simpa using O),Mn.RA (Mn.Gt a8 a _),<-a1,<-R.2.2.1,<-R.2.2.2.1]
 have hb9:(Mn.AZ (Mn.eval lk a e.e))=([],false,3):=by rw [a3,zI (qs b9)]
 have F:(Mn.AW lk B a p.e (Mn.AW lk B a d.e n))=(Mn.AW lk B a e.e n):=Mn.IV (show e.kind=4 by omega) (show e.kids.l.length=2 by omega) I K E;have t:=t.yO (CelsX.Ok.loc (n0:SlX zC)) fun L P=>⟨zH.vh _ _ _ _,fun c hc=>jr⟩;exact t.yz (n0:SlX zC) q_2 q_2 (fun h=>by rw [<-F]; exact h.sel [0,6,19] qD rfl);refine (go 7) (jK 196 (fun c8=>?_) fun c8=>?_);refine (go 8) (uN results85 fun w1 t=>?_);have a6:(Mn.AZ (Mn.eval lk a d.e)).2.1=(Mn.eval lk a d.e).1.vec:=(Mn.CT E).2;have a5:(Mn.AZ (Mn.eval lk a p.e)).2.1=(Mn.eval lk a p.e).1.vec:=(Mn.CT O).2;have a1:Mn.rp (Mn.AZ (Mn.eval lk a d.e)).2.1 (Mn.AZ (Mn.eval lk a p.e)).2.1 ((y.l.take k).map zC.e) (q.l.map zC.e)=Mn.rp (Mn.eval lk a d.e).1.vec (Mn.eval lk a p.e).1.vec (Mn.cellsOf (Mn.eval lk a d.e).1) (Mn.cellsOf (Mn.eval lk a p.e).1):=by rw [Mn.RM qO,J,W,a6,a5]
 have a3:(Mn.AZ (Mn.eval lk a e.e))=if Dd=true then (cs.map zC.e,(Mn.eval lk a d.e).1.vec || (Mn.eval lk a p.e).1.vec,0) else ([],false,3):=by rw [Mn.kid2 (show e.kind=4 by omega) (show e.kids.l.length=2 by omega) I K,zI (by simpa using E),zI (by simpa using O),Mn.RA (Mn.Gt a8 a _),<-a1,<-R.2.2.1,<-R.2.2.2.1]
 have hb9:(Mn.AZ (Mn.eval lk a e.e))=(cs.map zC.e,true,0):=by rw [a3,zP (qs b9),<-a6,<-a5]; simp [c8]
 have t:=t.vT AJ (i:=1) (j:=5) rfl rfl qD (fun b hb=>hf.fpc _ _ b (Pw b hb));have F:(Mn.AW lk B a p.e (Mn.AW lk B a d.e n))=(Mn.AW lk B a e.e n):=Mn.IV (show e.kind=4 by omega) (show e.kids.l.length=2 by omega) I K E;have t:=t.yO (CelsX.Ok.loc (⟨A3,b2,cs⟩:SlX zC)) fun L P=>⟨P.sl 1 rfl,P.at_ 0 _ rfl⟩;exact t.yz (⟨A3,b2,cs⟩:SlX zC) q_2 q_2 (fun h=>by rw [<-F]; exact h.sel [0,6,19] qD rfl);refine (go 8) (uN results85 fun w1 t=>?_);have a6:(Mn.AZ (Mn.eval lk a d.e)).2.1=(Mn.eval lk a d.e).1.vec:=(Mn.CT E).2;have a5:(Mn.AZ (Mn.eval lk a p.e)).2.1=(Mn.eval lk a p.e).1.vec:=(Mn.CT O).2;have a1:Mn.rp (Mn.AZ (Mn.eval lk a d.e)).2.1 (Mn.AZ (Mn.eval lk a p.e)).2.1 ((y.l.take k).map zC.e) (q.l.map zC.e)=Mn.rp (Mn.eval lk a d.e).1.vec (Mn.eval lk a p.e).1.vec (Mn.cellsOf (Mn.eval lk a d.e).1) (Mn.cellsOf (Mn.eval lk a p.e).1):=by rw [Mn.RM qO,J,W,a6,a5]
 have a3:(Mn.AZ (Mn.eval lk a e.e))=if Dd=true then (cs.map zC.e,(Mn.eval lk a d.e).1.vec || (Mn.eval lk a p.e).1.vec,0) else ([],false,3):=by rw [Mn.kid2 (show e.kind=4 by omega) (show e.kids.l.length=2 by omega) I K,zI (by simpa using E),zI (by simpa using O),Mn.RA (Mn.Gt a8 a _),<-a1,<-R.2.2.1,<-R.2.2.2.1]
 have hb9:(Mn.AZ (Mn.eval lk a e.e))=(cs.map zC.e,(Mn.AZ (Mn.eval lk a p.e)).2.1,0):=by rw [a3,zP (qs b9),<-a6,<-a5]; simp [c8]
 have t:=t.vT AJ (i:=1) (j:=5) rfl rfl qD (fun b hb=>hf.fpc _ _ b (Pw b hb));have F:(Mn.AW lk B a p.e (Mn.AW lk B a d.e n))=(Mn.AW lk B a e.e n):=Mn.IV (show e.kind=4 by omega) (show e.kids.l.length=2 by omega) I K E;have t:=t.yO (CelsX.Ok.loc (⟨A3,b2,cs⟩:SlX zC)) fun L P=>⟨P.sl 1 rfl,P.at_ 0 _ rfl⟩;exact t.yz (⟨A3,b2,cs⟩:SlX zC) q_2 q_2 (fun h=>by rw [<-F]; exact h.sel [0,6,19] qD rfl)
theorem Jz (e:zD) (i:∀ k:zD,SizeOf.sizeOf k < SizeOf.sizeOf e->ul k):ul e:=fun c n f d o S C G lk g p w h j l b m a=>Rc lk g h j l b m a i
theorem LY (e:zD):ul e:=NU Jz e
theorem Bt {p:Nat} {s:ByteArray} {i:Nat} {n a b:Int} {c:Nat->Prop} {w:World} (d:Mem w ⟨AX [Wb 208 p s i n a b],c⟩ [Wb 208 p s i n a b] w)  :
    Calls prog 135 #[.pointer (some ⟨p,0,none⟩)] w (Be w [Wb 208 p s i n a b] c (fun _:Unit=>.bool (decide (a=0))) (fun _=>True) (fun _=>[Wb 208 p s i n a b])):=by
 refine zp func135 d ?_;refine (gg) (zR fun f e=>?_);exact e.rtA () trivial
theorem CP {p:Nat} {s:ByteArray} {i:Nat} {n b c:Int} {e a:Int} {j:Nat->Prop} {w:World} (d:Mem w ⟨AX [Wb 208 p s i n b c],j⟩ [Wb 208 p s i n b c] w)  :
    Calls prog 137 #[.pointer (some ⟨p,0,none⟩),iV e,iV a] w (Be w [Wb 208 p s i n b c] j (fun _:Int × Int=>.tuple #[]) (fun z=>Pz.EN b c e a z) (fun z=>[Wb 208 p s i n z.1 z.2])):=by
 refine zp func137 d ?_;apply go 3;refine zn (sG [0]) rfl rfl call135 (fun _ _ d=>Bt d) fun m l=>?_;refine (go 2) (zQ (fun f=>?_) fun f=>?_);apply go 9;refine ut (.inr rfl) results137 fun k g=>?_;exact g.rtA (e,a) ⟨fun _=>rfl,fun h=>absurd f h⟩;apply go 1;refine ut (.inr rfl) results137 fun k g=>?_;exact g.rtA (b,c) ⟨fun h=>absurd h f,fun _=>rfl⟩
theorem Hn {p:Nat} {s:ByteArray} {i:Nat} {n c d:Int} {g:Nat->Prop} {w:World} (h:Mem w ⟨AX [Wb 208 p s i n c d],g⟩ [Wb 208 p s i n c d] w) (hi:i<=s.size) (m:s.size<=2000) :
    Calls prog 136 #[.pointer (some ⟨p,0,none⟩)] w (Be w [Wb 208 p s i n c d] g (fun _:Nat=>.tuple #[]) (fun z=>Pz.blank s i=z∧i<=z∧z<=s.size) (fun z=>[Wb 208 p s z n c d])):=by
 refine zp func136 h ?_;apply go 1;refine yk (jE1 [0] fun (k:Nat)=>[]) (jS1 fun k=>[.s 0 (Wb 208 p s k n c d)]) (fun k=>i<=k∧k<=s.size∧Pz.blank s i=Pz.blank s k) (fun k=>s.size - k) i ?_ (fun k a=>?_);exact ⟨vY _,hi,rfl⟩;refine (go 14) (vp 12 (fun j=>?_) fun j=>?_);apply go 8;obtain ⟨o,b⟩:∃ x,s[k]?=some x:=⟨_,ET qI⟩;refine uD (ua rfl rfl qO b underlying9) ?_;refine (go 4) (zQ (fun f=>?_) fun f=>?_);apply go 12;refine zK (zj (zy (k + 1) ?_ ?_));exact ⟨qO,qO,a.2.2.trans (Pz.Lv b f)⟩;omega;apply go 4;refine ut (.inr rfl) results136 fun l e=>?_;exact e.rtA (k) ⟨a.2.2.trans (Pz.Kr b f),a.1,a.2.1⟩;apply go 18;refine ut (.inr rfl) results136 fun l e=>?_;exact e.rtA (k) ⟨a.2.2.trans (Pz.Mg qO),a.1,a.2.1⟩
theorem DI {p:Nat} {s:ByteArray} {i:Nat} {n j k:Int} {sg:ByteArray} {v:Nat->Prop} {w:World} (e:Mem w ⟨AX [Wb 208 p s i n j k],v⟩ [Wb 208 p s i n j k] w) (hi:i<=s.size) (E:s.size<=2000) (F:sg.size<=100) :
    Calls prog 173 #[.pointer (some ⟨p,0,none⟩),.string sg] w (Be w [Wb 208 p s i n j k] v (fun z:Bool × Nat=>.bool z.1) (fun z=>Pz.CC s sg j i z) (fun z=>[Wb 208 p s z.2 n j k])):=by
 refine zp func173 e ?_;apply go 8;refine zn (sG [0]) rfl rfl call136 (fun _ _ e=>Hn e qO qO) fun d r=>?_;obtain ⟨a,y,u⟩:=r;apply go 4;refine vV (yH 37 [0] rfl fun C b=>?_);apply go 1;refine zc b (zi 1 rfl fun G q=>zn (sG [0]) rfl rfl call135 (fun _ _ e=>Bt e) fun D B=>?_);apply go 1;refine q _ _ mJ (yH 0 [2,3,4,5,6,7,8,9,10,11,12,13,14,15,16,17,18,19,20,21,22,23,24,25,26,27,28,29,30,31,32,33,34,35,36,37] rfl fun C b=>?_);apply go 2;refine qj (t:=10) rfl (fun f=>?_) (fun f=>?_);apply go 34;refine zc b ?_;refine zg q_3 ((go 1) ?_);refine (go 8) (zR fun m c=>?_);exact c.rtA (false,d) ⟨qB,fun h=>absurd h f,fun _=>rfl⟩;apply go 15;refine qj (t:=25) rfl (fun A=>?_) (fun A=>?_);apply go 19;refine zc b ?_;refine zg q_3 ((go 1) ?_);refine (go 8) (zR fun m c=>?_);exact c.rtA (false,d) ⟨qB,fun _=>Pz.Qy a (Pz.Sw (fun g=>by have:=g.1; omega) qO),fun h=>absurd (nn f) h⟩;apply go 15;refine s_val (wg rfl rfl rfl) (u3 (l:=d) (h:=(d + sg.size)) rfl rfl qO rfl qO qO qO underlying9) rfl ?_;apply go 3;refine zc b ?_;refine zg q_3 ((go 1) (zQ (fun o=>?_) fun o=>?_));refine (go 7) (zR fun m c=>?_);exact c.rtA (false,d) ⟨qB,fun _=>Pz.Qy a (Pz.Sw (fun g=>o g.2) qO),fun h=>absurd (nn f) h⟩;refine (go 23) (zR fun m c=>?_);have x:Pz.pfx s sg d=true:=Pz.pfx_pos qO (nn o);exact c.rtA (true,(d + sg.size)) ⟨by have:=Pz.Na x qO; exact this,fun _=>Pz.SA a x,fun h=>absurd (nn f) h⟩
theorem Ee {p:Nat} {s:ByteArray} {i:Nat} {n c d:Int} {sg:ByteArray} {m:Nat->Prop} {w:World} (b:Mem w ⟨AX [Wb 208 p s i n c d],m⟩ [Wb 208 p s i n c d] w) (hi:i<=s.size) (r:s.size<=2000) (t:sg.size<=100) :
    Calls prog 203 #[.pointer (some ⟨p,0,none⟩),.string sg] w (Be w [Wb 208 p s i n c d] m (fun _:Nat × Int × Int=>.tuple #[]) (fun z=>Pz.BQ s c d (Pz.BH s sg ⟨i,n⟩) ⟨z.1,n,z.2.1,z.2.2⟩) (fun z=>[Wb 208 p s z.1 n z.2.1 z.2.2])):=by
 refine zp func203 b ?_;apply go 4;refine zn (sG [0]) rfl rfl call173 (fun _ _ b=>DI b qO qO qF) ?_;rintro ⟨l,h⟩ a;have o:h<=s.size:=a.1;refine yv (.bool l) (zV (zz rfl) ?_);refine (go 2) (yj (fun g=>?_) fun g=>?_);apply go 6;refine zn (sG [0]) rfl rfl call137 (fun _ _ b=>CP b ) ?_;rintro ⟨k,f⟩ e;apply go 1;refine ut (.inr rfl) results203 fun q j=>?_;exact j.rtA (h,k,f) (Pz.Vh a (qs g) e);apply go 1;refine ut (.inr rfl) results203 fun q j=>?_;exact j.rtA (h,c,d) (Pz.Wn a (qs g))
theorem RN {p:Nat} {s:ByteArray} {i:Nat} {n g o:Int} {E:Nat->Prop} {w:World} (d:Mem w ⟨AX [Wb 208 p s i n g o],E⟩ [Wb 208 p s i n g o] w) (hi:i<=s.size) (U:s.size<=2000) :
    Calls prog 204 #[.pointer (some ⟨p,0,none⟩)] w (Be w [Wb 208 p s i n g o] E (fun z:ByteArray × Nat × Int × Int=>.string z.1) (fun z=>Pz.Sim s g o (Pz.word s ⟨i,n⟩) z.1 ⟨z.2.1,n,z.2.2.1,z.2.2.2⟩∧z.1.size<=2000) (fun z=>[Wb 208 p s z.2.1 n z.2.2.1 z.2.2.2])):=by
 refine zp func204 d ?_
 apply go 8
 refine zn (sG [0]) rfl rfl call136 (fun _ _ d=>Hn d qO qO) fun a B=>?_
 obtain ⟨f,F,C⟩:=B
 apply go 11
 refine yM (jE0 [0] [(3,iV ((Pz.BX s a):Int))]) (jS0 [.i (.pub (fun _ _=>a<=Pz.BX s a∧Pz.BX s a<=s.size))]) (fun _ c=>?_) ?_
 ·apply go 1
  refine yk (jE1 [0] fun (k:Nat)=>[(3,iV k)]) (jS1 fun k=>[]) (fun k=>(k=a∨(a < k∧Pz.BX s a=Pz.run Pz.wch s k))∧a<=k∧k<=s.size) (fun k=>s.size - k) a ?_ (fun k hI1=>?_)
  ·exact ⟨.inl rfl,vY _,qO⟩
  refine (go 12) (zQ (fun K=>?_) fun K=>?_)
  ·apply go 10
   obtain ⟨T,b⟩:∃ x,s[k]?=some x:=⟨_,ET qI⟩
   refine zV (ua rfl rfl qO b underlying9) ?_
   refine (go 8) (zm 28 (fun M=>?_) fun M=>?_)
   ·refine (go 12) (zm 34 (fun O=>?_) fun O=>?_)
    ·refine (go 7) (zm 41 (fun H=>?_) fun H=>?_)
     ·apply go 15
      have hw9:Pz.BX s a=k:=Pz.Ds b hI1.1 qO
      refine yS (zw (vF rfl (ye (zx (kX c sA (fun _ h=>have h:=Mem.fact (gk) h; h))))))
     refine (go 3) (zm 44 (fun I=>?_) fun I=>?_)
     ·refine (go 3) (zm 47 (fun G=>?_) fun G=>?_)
      ·apply go 9
       have hw9:Pz.BX s a=k:=Pz.Ds b hI1.1 qO
       refine yS (zw (vF rfl (ye (zx (kX c sA (fun _ h=>have h:=Mem.fact (gk) h; h))))))
      refine (go 8) (zQ (fun u=>?_) fun u=>?_)
      ·have hw9:Pz.BX s a=k:=Pz.Ds b hI1.1 qO
       refine yS (zw (vF rfl (ye (zx (kX c sA (fun _ h=>have h:=Mem.fact (gk) h; h))))))
      apply go 6
      refine zK (zj (zy (k + 1) ?_ ?_))
      ·exact ⟨.inr ⟨qO,Pz.Eb b hI1.1 qO⟩,qO,qO⟩
      omega
     apply go 18
     refine zK (zj (zy (k + 1) ?_ ?_))
     ·exact ⟨.inr ⟨qO,Pz.Eb b hI1.1 qO⟩,qO,qO⟩
     omega
    apply go 28
    refine zK (zj (zy (k + 1) ?_ ?_))
    ·exact ⟨.inr ⟨qO,Pz.Eb b hI1.1 qO⟩,qO,qO⟩
    omega
   apply go 10
   refine zV (zz rfl) ?_
   refine (go 8) (zm 41 (fun L=>?_) fun L=>?_)
   ·apply go 15
    have hw9:Pz.BX s a=k:=Pz.Ds b hI1.1 qO
    refine yS (zw (vF rfl (ye (zx (kX c sA (fun _ h=>have h:=Mem.fact (gk) h; h))))))
   refine (go 3) (zm 44 (fun P=>?_) fun P=>?_)
   ·refine (go 3) (zm 47 (fun v=>?_) fun v=>?_)
    ·apply go 9
     have hw9:Pz.BX s a=k:=Pz.Ds b hI1.1 qO
     refine yS (zw (vF rfl (ye (zx (kX c sA (fun _ h=>have h:=Mem.fact (gk) h; h))))))
    refine (go 8) (zQ (fun A=>?_) fun A=>?_)
    ·have hw9:Pz.BX s a=k:=Pz.Ds b hI1.1 qO
     refine yS (zw (vF rfl (ye (zx (kX c sA (fun _ h=>have h:=Mem.fact (gk) h; h))))))
    apply go 6
    refine zK (zj (zy (k + 1) ?_ ?_))
    ·exact ⟨.inr ⟨qO,Pz.Eb b hI1.1 qO⟩,qO,qO⟩
    omega
   apply go 18
   refine zK (zj (zy (k + 1) ?_ ?_))
   ·exact ⟨.inr ⟨qO,Pz.Eb b hI1.1 qO⟩,qO,qO⟩
   omega
  have hw9:Pz.BX s a=k:=Pz.Qe qO hI1.1
  refine yS (zw (ye (zx (kX c sA (fun _ h=>have h:=Mem.fact (gk) h; h)))))
 refine gW fun S=>?_
 apply go 11
 refine vS (u3 (l:=a) (h:=(Pz.BX s a)) rfl rfl qO rfl qO qI qI underlying9) ?_
 refine (go 11) (zQ (fun j=>?_) fun j=>?_)
 ·apply go 6
  refine zn (sG [0]) rfl rfl call137 (fun _ _ d=>CP d ) ?_
  rintro ⟨r,t⟩ e
  apply go 6
  refine zn (sG [0]) rfl rfl call135 (fun _ _ d=>Bt d) fun Q N=>?_
  apply go 2
  refine yJ rfl (yq (e.ne qD)) ?_
  refine (go 9) (zR fun D q=>?_)
  exact q.yz ((s.extract a (Pz.BX s a)),a,r,t) rfl ⟨by
    show Pz.Sim s g o (Pz.word s ⟨i,n⟩) (s.extract a (Pz.BX s a)) ⟨a,n,r,t⟩
    by_cases y:g=0
    ·exact Pz.UE f rfl j qO qO y e
    ·have u:=e.2 y; exact Pz.Sim.bad qB y (congrArg (·.1) u) (congrArg (·.2) u),by show ByteArray.size _<=2000; rw [Pz.EG _ qO]; omega⟩ (fun h=>h.sel [0] qD rfl)
 apply go 6
 refine zn (sG [0]) rfl rfl call135 (fun _ _ d=>Bt d) fun R J=>?_
 refine (go 2) (zQ (fun m=>?_) fun m=>?_)
 ·refine (go 15) (zR fun D q=>?_)
  exact q.rtA ((s.extract a (Pz.BX s a)),(Pz.BX s a),g,o) ⟨(Pz.Vt f rfl j qO m),by show ByteArray.size _<=2000; rw [Pz.EG _ qO]; omega⟩
 refine (go 9) (zR fun D q=>?_)
 exact q.rtA ((s.extract a (Pz.BX s a)),a,g,o) ⟨(Pz.Sim.bad qB m rfl rfl),by show ByteArray.size _<=2000; rw [Pz.EG _ qO]; omega⟩
theorem Ci {p:Nat} {s:ByteArray} {i:Nat} {n e f:Int} {q:Nat->Prop} {w:World} (c:Mem w ⟨AX [Wb 208 p s i n e f],q⟩ [Wb 208 p s i n e f] w) (hi:i<=s.size) (v:s.size<=2000) :
    Calls prog 209 #[.pointer (some ⟨p,0,none⟩)] w (Be w [Wb 208 p s i n e f] q (fun z:ByteArray × Nat × Int × Int=>.string z.1) (fun z=>Pz.Sim s e f (Pz.name s ⟨i,n⟩) z.1 ⟨z.2.1,n,z.2.2.1,z.2.2.2⟩∧z.1.size<=2000) (fun z=>[Wb 208 p s z.2.1 n z.2.2.1 z.2.2.2])):=by
 refine zp func209 c ?_;apply go 8;refine zn (sG [0]) rfl rfl call204 (fun _ _ c=>RN c qO qO) ?_;rintro ⟨b,o,k,g⟩ a;have t:o<=s.size:=a.1.1;have r:b.size<=2000:=a.2;refine yv (.string b) ?_;refine (go 10) (zQ (fun h=>?_) fun h=>?_);apply go 6;refine zn (sG [0]) rfl rfl call137 (fun _ _ c=>CP c ) ?_;rintro ⟨m,l⟩ d;refine (go 9) (zR fun u j=>?_);exact j.rtA (b,o,m,l) ⟨Pz.UZ a.1 h d rfl,qB⟩;refine (go 9) (zR fun u j=>?_);exact j.rtA (b,o,k,g) ⟨Pz.VM a.1 h,qB⟩
theorem w_num {p:Nat} {s:ByteArray} {i:Nat} {n d e:Int} {b c:Int} {W:Nat->Prop} {w:World} (f:Mem w ⟨AX [Wb 208 p s i n d e],W⟩ [Wb 208 p s i n d e] w) (hi:i<=s.size) (hs:s.size<=2000) (K:c<=1000000) (J:b<=1000000) :
    Calls prog 205 #[.pointer (some ⟨p,0,none⟩),iV b,iV c] w (Be w [Wb 208 p s i n d e] W (fun z:Int × Nat × Int × Int=>iV z.1) (fun z=>Pz.Sim s d e (Pz.num s b c ⟨i,n⟩) z.1 ⟨z.2.1,n,z.2.2.1,z.2.2.2⟩) (fun z=>[Wb 208 p s z.2.1 n z.2.2.1 z.2.2.2])):=by
 refine zp func205 f ?_;apply go 8;refine zn (sG [0]) rfl rfl call136 (fun _ _ f=>Hn f qO qO) fun a S=>?_;obtain ⟨l,X,T⟩:=S;apply go 12;refine yM (jE0 [0,1,2] [(7,iV (Pz.Dm (s.extract a (Pz.run Pz.dig s a)).data.toList)),(8,iV ((Pz.run Pz.dig s a):Int))]) (jS0 [.i (.pub (fun _ _=>a<=Pz.run Pz.dig s a∧Pz.run Pz.dig s a<=s.size∧Pz.Gk (Pz.EE (s.extract a (Pz.run Pz.dig s a)).data.toList) (Pz.Dm (s.extract a (Pz.run Pz.dig s a)).data.toList)))]) (fun _ t=>?_) ?_;apply go 1;refine jY (jE2 [0,1,2] fun (k:Nat) (x:Int)=>[(7,iV x),(8,iV k)]) (jS2 fun k x=>[]) (fun k x=>Pz.run Pz.dig s a=Pz.run Pz.dig s k∧a<=k∧k<=s.size∧Pz.Gk (Pz.EE (s.extract a k).data.toList) x∧x=Pz.Dm (s.extract a k).data.toList) (fun k x=>s.size - k) a 0 ?_ (fun k x hI1=>?_);exact ⟨rfl,vY _,qO,by rw [Pz.Ww]; exact ⟨qO,.inl rfl⟩,by rw [Pz.VW]⟩;have a0:=hI1.2.2.2.1.1;have hxc:=hI1.2.2.2.2;refine (go 11) (zm 22 (fun h1=>?_) fun h1=>?_);apply go 5;obtain ⟨Z,j⟩:∃ x,s[k]?=some x:=⟨_,ET qO⟩;refine yY (ua rfl rfl qO j underlying9) ?_;refine (go 3) (zm 31 (fun h2=>?_) fun h2=>?_);apply go 5;refine yY (ua rfl rfl qO j underlying9) ?_;refine (go 4) (zQ (fun h3=>?_) fun h3=>?_);refine (go 10) (zQ (fun D=>?_) fun D=>?_);apply go 8;refine zV (ua rfl rfl qO j underlying9) (zV (r_sub8 rfl rfl qO) (zV (WX rfl (by rw [underlying5]; rfl) underlying3 qO) ?_));apply go 8;refine zK (zj (vU (k + 1) ((10 * x) + ((Z.toNat:Int) - 48)) ?_ ?_ (kS4 (sc (ji qf) sn))));exact ⟨hI1.1.trans (Pz.LA j qO),qO,qO,hI1.2.2.2.1.step j qO qO qO D,by rw [Pz.My j qO,<-hxc,zP D]⟩;omega;apply go 6;refine zK (zj (vU (k + 1) x ?_ ?_ (kS4 (sc (ji qf) sn))));exact ⟨hI1.1.trans (Pz.LA j qO),qO,qO,hI1.2.2.2.1.stay j qO D,by rw [Pz.My j qO,<-hxc,zI D]⟩
 omega;have hw9:Pz.run Pz.dig s a=k:=hI1.1.trans (Pz.Hz j qO);refine yS (zw (uR (zx (kX t (kS3 (sc (ji qf) (sc (ji qf) sn))) (fun _ h=>have h:=Mem.fact (q_42) h; h)))));apply go 11;have hw9:Pz.run Pz.dig s a=k:=hI1.1.trans (Pz.Hz j qO);refine yS (zw (uR (zx (kX t (kS3 (sc (ji qf) (sc (ji qf) sn))) (fun _ h=>have h:=Mem.fact (q_42) h; h)))));apply go 20;have hw9:Pz.run Pz.dig s a=k:=hI1.1.trans (Pz.KR qO);refine yS (zw (uR (zx (kX t (kS3 (sc (ji qf) (sc (ji qf) sn))) (fun _ h=>have h:=Mem.fact (q_42) h; h)))));refine gW fun B=>?_;refine (go 11) (zQ (fun r=>?_) fun r=>?_);apply go 6;refine zn (sG [0]) rfl rfl call137 (fun _ _ f=>CP f ) ?_;rintro ⟨I,N⟩ A;apply go 6;refine zn (sG [0]) rfl rfl call135 (fun _ _ f=>Bt f) fun z2 a2=>?_;apply go 2;refine yJ rfl (yq (A.ne qD)) ?_;refine (go 9) (zR fun o m=>?_);exact m.rtA ((Pz.Dm (s.extract a (Pz.run Pz.dig s a)).data.toList),a,I,N) (show Pz.Sim s d e (Pz.num s b c ⟨i,n⟩) (Pz.Dm (s.extract a (Pz.run Pz.dig s a)).data.toList) ⟨a,n,I,N⟩ from Pz.WZ l rfl qO r A);refine (go 6) (vp 70 (fun P=>?_) fun P=>?_);apply go 34;refine zn (sG [0]) rfl rfl call137 (fun _ _ f=>CP f ) ?_;rintro ⟨C,H⟩ u;apply go 6;refine zn (sG [0]) rfl rfl call135 (fun _ _ f=>Bt f) fun z4 a3=>?_;apply go 2;refine yJ rfl (yq (u.ne qD)) ?_;refine (go 9) (zR fun o m=>?_);exact m.rtA ((Pz.Dm (s.extract a (Pz.run Pz.dig s a)).data.toList),a,C,H) (show Pz.Sim s d e (Pz.num s b c ⟨i,n⟩) (Pz.Dm (s.extract a (Pz.run Pz.dig s a)).data.toList) ⟨a,n,C,H⟩ from Pz.Lt l rfl B.2.2 K J qO r (.inl P) u);refine (go 5) (vp 75 (fun Q=>?_) fun Q=>?_);apply go 29;refine zn (sG [0]) rfl rfl call137 (fun _ _ f=>CP f ) ?_
 rintro ⟨L,F⟩ v;apply go 6;refine zn (sG [0]) rfl rfl call135 (fun _ _ f=>Bt f) fun z6 a4=>?_;apply go 2;refine yJ rfl (yq (v.ne qD)) ?_;refine (go 9) (zR fun o m=>?_);exact m.rtA ((Pz.Dm (s.extract a (Pz.run Pz.dig s a)).data.toList),a,L,F) (show Pz.Sim s d e (Pz.num s b c ⟨i,n⟩) (Pz.Dm (s.extract a (Pz.run Pz.dig s a)).data.toList) ⟨a,n,L,F⟩ from Pz.Lt l rfl B.2.2 K J qO r (.inr (.inl Q)) v);apply go 8;obtain ⟨c2,q⟩:∃ x,s[a]?=some x:=⟨_,ET qO⟩;refine uD (ua rfl rfl qO q underlying9) ?_;refine (go 2) (vp 86 (fun R=>?_) fun R=>?_);refine (go 11) (zQ (fun h9=>?_) fun h9=>?_);apply go 6;refine zn (sG [0]) rfl rfl call137 (fun _ _ f=>CP f ) ?_;rintro ⟨E,M⟩ y;apply go 6;refine zn (sG [0]) rfl rfl call135 (fun _ _ f=>Bt f) fun z8 Y=>?_;apply go 2;refine yJ rfl (yq (y.ne qD)) ?_;refine (go 9) (zR fun o m=>?_);exact m.rtA ((Pz.Dm (s.extract a (Pz.run Pz.dig s a)).data.toList),a,E,M) (show Pz.Sim s d e (Pz.num s b c ⟨i,n⟩) (Pz.Dm (s.extract a (Pz.run Pz.dig s a)).data.toList) ⟨a,n,E,M⟩ from Pz.Lt l rfl B.2.2 K J qO r (.inr (.inr ⟨Pz.at48 q R,qO⟩)) y);apply go 6;refine zn (sG [0]) rfl rfl call135 (fun _ _ f=>Bt f) fun z9 U=>?_;refine (go 2) (zQ (fun G=>?_) fun G=>?_);refine (go 15) (zR fun o m=>?_);exact m.rtA ((Pz.Dm (s.extract a (Pz.run Pz.dig s a)).data.toList),(Pz.run Pz.dig s a),d,e) (show Pz.Sim s d e (Pz.num s b c ⟨i,n⟩) (Pz.Dm (s.extract a (Pz.run Pz.dig s a)).data.toList) ⟨(Pz.run Pz.dig s a),n,d,e⟩ from (Pz.Tc l rfl B.2.2 K J qO r (fun g=>g.elim P (fun g=>g.elim Q (fun g=>(by have:=g.2; omega)))):Pz.Sim s d e (Pz.num s b c ⟨i,n⟩) (Pz.Dm (s.extract a (Pz.run Pz.dig s a)).data.toList) ⟨(Pz.run Pz.dig s a),n,d,e⟩))
 refine (go 9) (zR fun o m=>?_);exact m.rtA ((Pz.Dm (s.extract a (Pz.run Pz.dig s a)).data.toList),a,d,e) (show Pz.Sim s d e (Pz.num s b c ⟨i,n⟩) (Pz.Dm (s.extract a (Pz.run Pz.dig s a)).data.toList) ⟨a,n,d,e⟩ from Pz.Sim.bad qB G rfl rfl);apply go 18;refine zn (sG [0]) rfl rfl call135 (fun _ _ f=>Bt f) fun a1 V=>?_;refine (go 2) (zQ (fun O=>?_) fun O=>?_);refine (go 15) (zR fun o m=>?_);exact m.rtA ((Pz.Dm (s.extract a (Pz.run Pz.dig s a)).data.toList),(Pz.run Pz.dig s a),d,e) (show Pz.Sim s d e (Pz.num s b c ⟨i,n⟩) (Pz.Dm (s.extract a (Pz.run Pz.dig s a)).data.toList) ⟨(Pz.run Pz.dig s a),n,d,e⟩ from (Pz.Tc l rfl B.2.2 K J qO r (fun g=>g.elim P (fun g=>g.elim Q (fun g=>Pz.not48 q R g))):Pz.Sim s d e (Pz.num s b c ⟨i,n⟩) (Pz.Dm (s.extract a (Pz.run Pz.dig s a)).data.toList) ⟨(Pz.run Pz.dig s a),n,d,e⟩));refine (go 9) (zR fun o m=>?_);exact m.rtA ((Pz.Dm (s.extract a (Pz.run Pz.dig s a)).data.toList),a,d,e) (show Pz.Sim s d e (Pz.num s b c ⟨i,n⟩) (Pz.Dm (s.extract a (Pz.run Pz.dig s a)).data.toList) ⟨a,n,d,e⟩ from Pz.Sim.bad qB O rfl rfl)
theorem Hp {p:Nat} {s:ByteArray} {i:Nat} {n a b:Int} {k m r:Int} {wd:ByteArray} {o:Option Addr} {q v:Nat} {A:Option Addr} {y l:Nat} {x:Option Addr} {j u:Nat} {t:Nat->Prop} {w:World} (e:Mem w ⟨AX [Wb 208 p s i n a b],t⟩ [Wb 208 p s i n a b] w) (hi:i<=s.size) (C:s.size<=2000) (E:0<=n∧n<=101) :
    Calls prog 174 #[.pointer (some ⟨p,0,none⟩),.agg (List.toArray [iV k,iV m,iV r,.string wd,.slice o q v,.slice A y l,.slice x j u])] w (Be w [Wb 208 p s i n a b] t (fun _:Int × Int=>.agg (List.toArray [iV k,iV m,iV r,.string wd,.slice o q v,.slice A y l,.slice x j u])) (fun z=>Pz.BQ s a b (Pz.node ⟨i,n⟩) ⟨i,n + 1,z.1,z.2⟩) (fun z=>[Wb 208 p s i (n + 1) z.1 z.2])):=by
 refine zp func174 e ?_;refine (go 2) (yw fun F=>zl fun D=>?_);refine (go 24) (zQ (fun f=>?_) fun f=>?_);apply go 6;refine zn (sG [2,0,1]) rfl rfl call137 (fun _ _ e=>CP e ) ?_;rintro ⟨g,h⟩ c;refine (go 9) (zR fun B d=>?_);exact d.rtA (g,h) (Pz.UM hi f c);refine (go 9) (zR fun B d=>?_);exact d.rtA (a,b) (Pz.Vr hi f)
theorem Wi {p:Nat} {s:ByteArray} {i:Nat} {n be ba:Int} {d:ByteArray} {Pb:Nat->Prop} {w:World} (a:Mem w ⟨AX [Wb 208 p s i n be ba],Pb⟩ [Wb 208 p s i n be ba] w) (hi:i<=s.size) (hs:s.size<=2000) (hn:0<=n∧n<=101) (x0:d.size<=100) (C2:be=0->n<=100) :
    Calls prog 208 #[.pointer (some ⟨p,0,none⟩),.string d] w (Be w [Wb 208 p s i n be ba] Pb (fun z:zD × Nat × Int × Int × Int=>.agg (yD z.1).toArray) (fun z=>Pz.Sim s be ba (Pz.Ai s d ⟨i,n⟩) z.1.e ⟨z.2.1,z.2.2.1,z.2.2.2.1,z.2.2.2.2⟩∧(0<=z.2.2.1∧z.2.2.1<=101)∧(z.2.2.2.1=0->z.2.2.1<=100)) (fun z=>[Wb 208 p s z.2.1 z.2.2.1 z.2.2.2.1 z.2.2.2.2,okI (z.2.2.2.1=0) z.1])):=by
 refine zp func208 a ?_
 refine (go 2) (zl fun b4=>?_)
 refine (go 6) (zl fun b5=>?_)
 apply go 6
 refine zn (sG [2,0,1]) rfl rfl call203 (fun _ _ a=>Ee a qO qO qF) ?_
 rintro ⟨j1,e9,B8⟩ H
 have t4:j1<=s.size:=H.1
 apply go 5
 refine zn (sG [0,1,2]) rfl rfl call203 (fun _ _ a=>Ee a qO qO qF) ?_
 rintro ⟨j2,b8,d0⟩ C
 have t3:j2<=s.size:=C.1
 apply go 2
 refine ze fun m5 e8=>?_
 have Z:∀ (A:List Match) (jW:Nat) (b1:Int) (c9:Int) (d3:Value) (j:Pz.Sim s b8 d0 (Pz.Cq s 6 [] ⟨j2,n⟩) A ⟨jW,n,b1,c9⟩) (p3:jW<=s.size),∀ w9,Mem w ⟨AX [Wb 208 p s i n be ba],Pb⟩ [Row d3 179 3 yF A,Wb 208 p s jW n b1 c9,.blk b5 [iV 2,iV 0,iV 0,.string d,d3,Zs,Zs] 59,.blk b4 Zx 59] w9->∀ a9,Has 91 [] a9 [(0,.pointer (some ⟨p,0,none⟩)),(4,.pointer (some ⟨b4,0,none⟩)),(5,.pointer (some ⟨b5,0,none⟩))]->m5 a9 w9:=by
  intro A jW b1 c9 d3 j p3
  refine e8 _ _ (yP 0 (l:=A) rfl fun A1 K o7 x5 w3 C5=>?_)
  subst o7
  apply go 3
  refine zn (sG [1,0,2,3]) rfl rfl call203 (fun _ _ a=>Ee a qO qO qF) ?_
  rintro ⟨j3,c6,e5⟩ f
  have s4:j3<=s.size:=f.1
  apply go 6
  refine zn (sG [0,1,2,3]) rfl rfl call135 (fun _ _ a=>Bt a) fun z4 x4=>?_
  refine (go 2) (zQ (fun h1=>?_) fun h1=>?_)
  ·
   apply go 2
   refine zn (sG [0,1,2,3]) rfl rfl call205 (fun _ _ a=>w_num a qO qO qO qO) ?_
   rintro ⟨v1,j4,l1,B1⟩ c1
   have t8:j4<=s.size:=c1.1
   apply go 7
   refine zn (sG [0,1,2,3]) rfl rfl call203 (fun _ _ a=>Ee a qO qO qF) ?_
   rintro ⟨j5,o4,D0⟩ a8
   have s1:j5<=s.size:=a8.1
   apply go 5
   refine zn (sG [0,1,2,3]) rfl rfl call203 (fun _ _ a=>Ee a qO qO qF) ?_
   rintro ⟨j6,c5,e3⟩ a0
   have s8:j6<=s.size:=a0.1
   apply go 6
   refine zn (sG [0,1,2,3]) rfl rfl call135 (fun _ _ a=>Bt a) fun z8 B3=>?_
   refine (go 3) (zQ (fun h2=>?_) fun h2=>?_)
   ·
    refine (go 8) (zR fun w1 g=>?_)
    have g:=g.JX (c5=0) (zD.mk 2 0 v1 d ⟨A1,K,A⟩ n0 n0) h2
    exact g.rtA ((zD.mk 2 0 v1 d ⟨A1,K,A⟩ n0 n0),j6,n,c5,e3) ⟨(Pz.GU H C j f c1 a8 a0 (Pz.BQ.bad (r:=⟨j6,n,c5,e3⟩) qB h2 rfl rfl)),qB,qB⟩
   ·
    apply go 6
    have r1:c5=0:=(nn h2)
    have n9:o4=0:=(a0.first (nn h2))
    have p6:l1=0:=(a8.first (a0.first (nn h2)))
    have l7:c6=0:=h1
    have m7:b1=0:=(f.first h1)
    have o5:b8=0:=(j.first (f.first h1))
    have n5:e9=0:=(C.first (j.first (f.first h1)))
    have o1:be=0:=(H.first (C.first (j.first (f.first h1))))
    refine vW 1 0 Ag rfl rfl (fp1) (vc (fun _ h=>h.ER (k:=2) (n:=0) (r:=v1) (wd:=d) (ms:=⟨A1,K,A⟩) (bs:=n0) (ks:=n0) pA fN fN (fun _ _ x hx=>by cases hx) qF (fun x hx=>by have:=Pz.HI 6 (t:=⟨j2,n⟩) qB (j.ok_ (j.first (f.first h1)) (f.first h1)) (fun _ h=>by cases h) x hx; omega) (fun x hx=>by cases hx)) (zn (sG [1,0,2,3,4]) rfl rfl call174 (fun _ _ a=>Hp a qO qO qO) ?_))
    rintro ⟨d2,s0⟩ c3
    have s5:d2=0->n + 1<=100:=fun h9=>by have h8:=(Pz.Bo.ok_ (Pz.CJ (s:=s) (t:=⟨j6,n⟩) qB) (c3.ok_ (c3.first h9) h9)).Az (show n<=100 by omega); exact h8
    refine (go 4) (zR fun w1 g=>?_)
    have g:=g.okI1 (d2=0) 1 rfl
    exact g.rtA ((zD.mk 2 0 v1 d ⟨A1,K,A⟩ n0 n0),j6,(n + 1),d2,s0) ⟨(Pz.GU H C j f c1 a8 a0 c3),qB,qB⟩
  ·
   apply go 5
   refine zn (sG [0,1,2,3]) rfl rfl call203 (fun _ _ a=>Ee a qO qO qF) ?_
   rintro ⟨j7,m3,w0⟩ B
   have t2:j7<=s.size:=B.1
   apply go 5
   refine zn (sG [0,1,2,3]) rfl rfl call203 (fun _ _ a=>Ee a qO qO qF) ?_
   rintro ⟨j8,c2,i4⟩ y
   have t1:j8<=s.size:=y.1
   apply go 6
   refine zn (sG [0,1,2,3]) rfl rfl call135 (fun _ _ a=>Bt a) fun C6 t5=>?_
   refine (go 3) (zQ (fun h3=>?_) fun h3=>?_)
   ·
    refine (go 8) (zR fun w1 g=>?_)
    have g:=g.JX (c2=0) (zD.mk 2 0 0 d ⟨A1,K,A⟩ n0 n0) h3
    exact g.rtA ((zD.mk 2 0 0 d ⟨A1,K,A⟩ n0 n0),j8,n,c2,i4) ⟨(Pz.GU H C j f (Pz.Sim.bad (r:=⟨j3,n,c6,e5⟩) qB h1 rfl rfl) B y (Pz.BQ.bad (r:=⟨j8,n,c2,i4⟩) qB h3 rfl rfl)),qB,qB⟩
   ·
    apply go 6
    have o6:c2=0:=(nn h3)
    have k4:m3=0:=(y.first (nn h3))
    have k1:c6=0:=(B.first (y.first (nn h3)))
    have k5:b1=0:=(f.first (B.first (y.first (nn h3))))
    have k2:b8=0:=(j.first (f.first (B.first (y.first (nn h3)))))
    have k3:e9=0:=(C.first (j.first (f.first (B.first (y.first (nn h3))))))
    have k0:be=0:=(H.first (C.first (j.first (f.first (B.first (y.first (nn h3)))))))
    refine vW 1 0 Ag rfl rfl (fp1) (vc (fun _ h=>h.ER (k:=2) (n:=0) (r:=0) (wd:=d) (ms:=⟨A1,K,A⟩) (bs:=n0) (ks:=n0) pA fN fN (fun _ _ x hx=>by cases hx) qF (fun x hx=>by have:=Pz.HI 6 (t:=⟨j2,n⟩) qB (j.ok_ (j.first (f.first (B.first (y.first (nn h3))))) (f.first (B.first (y.first (nn h3))))) (fun _ h=>by cases h) x hx; omega) (fun x hx=>by cases hx)) (zn (sG [1,0,2,3,4]) rfl rfl call174 (fun _ _ a=>Hp a qO qO qO) ?_))
    rintro ⟨b2,e6⟩ M
    have k6:b2=0->n + 1<=100:=fun h9=>by have h8:=(Pz.Bo.ok_ (Pz.CJ (s:=s) (t:=⟨j8,n⟩) qB) (M.ok_ (M.first h9) h9)).Az (show n<=100 by omega); exact h8
    refine (go 4) (zR fun w1 g=>?_)
    have g:=g.okI1 (b2=0) 1 rfl
    exact g.rtA ((zD.mk 2 0 0 d ⟨A1,K,A⟩ n0 n0),j8,(n + 1),b2,e6) ⟨(Pz.GU H C j f (Pz.Sim.bad (r:=⟨j3,n,c6,e5⟩) qB h1 rfl rfl) B y M),qB,qB⟩
 apply go 1
 refine uu (fun _ h=>h.uG Match 179 3 yF) (qH (jE6 [0,4,5] fun (ms:List Match) (k:Nat) (bl:Int) (al:Int) (q:Nat) (rv:Value)=>[]) (jS6 fun ms k bl al q rv=>[.s 0 (Row rv 179 3 yF ms),.s 1 (Wb 208 p s k n bl al),.s 2 (.blk b5 [iV 2,iV 0,iV 0,.string d,rv,Zs,Zs] 59)]) (fun ms k bl al q rv=>(∀ b r,Pz.Sim s bl al (Pz.Cq s (q + 1) ms ⟨k,n⟩) b r->Pz.Sim s b8 d0 (Pz.Cq s 6 [] ⟨j2,n⟩) b r)∧ms.length + q=5∧k<=s.size) (fun ms k bl al q rv=>q) [] j2 b8 d0 5 (Zs) ?_ (fun ms k bl al q rv o=>?_))
 ·exact ⟨fun _ _ h=>h,rfl,qO⟩
 refine yP 0 (l:=ms) rfl fun A2 W p4 t9 B7 C8=>?_
 subst p4
 apply go 4
 refine zn (sG [1,0,2,3]) rfl rfl call135 (fun _ _ a=>Bt a) fun w2 s2=>?_
 refine (go 1) (zm 15 (fun L=>?_) fun L=>?_)
 ·apply go 1
  refine zn (sG [0,1,2,3]) rfl rfl call173 (fun _ _ a=>DI a qO qO qF) ?_
  rintro ⟨k9,j9⟩ c
  have r5:j9<=s.size:=c.1
  refine yv (.bool k9) (yY (zz rfl) ?_)
  refine (go 3) (yj (fun O=>?_) fun O=>?_)
  ·refine (go 12) (zQ (fun Y=>?_) fun Y=>?_)
   ·apply go 2
    refine zn (sG [0,1,2,3]) rfl rfl call203 (fun _ _ a=>Ee a qO qO qF) ?_
    rintro ⟨d1,i5,i7⟩ v
    have r6:d1<=s.size:=v.1
    refine (go 11) (zQ (fun h7=>?_) fun h7=>?_)
    ·apply go 6
     refine zn (sG [0,1,2,3]) rfl rfl call137 (fun _ _ a=>CP a ) ?_
     rintro ⟨i8,d9⟩ b3
     apply go 6
     refine zn (sG [0,1,2,3]) rfl rfl call135 (fun _ _ a=>Bt a) fun B5 s7=>?_
     apply go 3
     refine yh rfl (vM (b3.ne qD)) ?_
     refine yS (zw (vF rfl (va (zx (kX (Z ms d1 i8 d9 (.slice A2 ms.length W) (Pz.TE o.1 L c (qs O) (Pz.HQ Y v) h7 qO b3) qO))))))
    apply go 6
    refine zn (sG [0,1,2,3]) rfl rfl call135 (fun _ _ a=>Bt a) fun x7 t6=>?_
    refine (go 3) (zQ (fun h8=>?_) fun h8=>?_)
    ·refine yS (zw (vF rfl (va (zx (kX (Z ms d1 i5 i7 (.slice A2 ms.length W) (Pz.wl_off o.1 L c (qs O) (Pz.HQ Y v) h8) qO))))))
    refine (go 5) (zl fun b6=>?_)
    apply go 7
    refine zn (sG [1,0,2,3,4]) rfl rfl call173 (fun _ _ a=>DI a qO qO qF) ?_
    rintro ⟨m4,r9⟩ F
    have o2:r9<=s.size:=F.1
    refine yv (.bool m4) ?_
    refine (go 2) (yj (fun h9=>?_) fun h9=>?_)
    ·apply go 3
     refine zn (sG [0,1,2,3,4]) rfl rfl call209 (fun _ _ a=>Ci a qO qO) ?_
     rintro ⟨a2,f1,f8,i6⟩ P
     have o0:f1<=s.size:=P.1.1
     have n2:a2.size<=2000:=P.2
     refine yv (.string a2) ?_
     apply go 9
     refine zf yF ([(⟨4,a2,bz⟩:Match)]:List Match) wn underlying55 BM rfl rfl rfl rfl qD qD rfl fun m1=>zh 3 ms ([(⟨4,a2,bz⟩:Match)]:List Match) Ag wn rfl rfl rfl (fun _ g=>(AM Ag g 0 rfl)) underlying55 BM rfl rfl qQ rfl fun A3 l0 x8 C9 C3=>?_
     apply go 4
     refine yS (zw (zx (vx (ms++([(⟨4,a2,bz⟩:Match)]:List Match)) f1 f8 i6 (q - 1) (.slice A3 ((ms++([(⟨4,a2,bz⟩:Match)]:List Match)).length) l0) ?_ ?_)))
     ·exact ⟨by rw [show q - 1 + 1=q by omega]; exact Pz.FK o.1 L c (qs O) (Pz.HQ Y v) h7 (Pz.ms1 (nn h8) F h9 P.1),qQ,qO⟩
     omega
    apply go 5
    refine zn (sG [0,1,2,3,4]) rfl rfl call209 (fun _ _ a=>Ci a qO qO) ?_
    rintro ⟨u,o9,f5,i9⟩ G
    have l5:o9<=s.size:=G.1.1
    have m8:u.size<=2000:=G.2
    refine yv (.string u) ?_
    apply go 10
    refine zn (sG [0,1,2,3,4]) rfl rfl call173 (fun _ _ a=>DI a qO qO qF) ?_
    rintro ⟨k7,p5⟩ J
    have r8:p5<=s.size:=J.1
    refine yv (.bool k7) ?_
    refine (go 2) (yj (fun c0=>?_) fun c0=>?_)
    ·apply go 2
     refine zn (sG [0,1,2,3,4]) rfl rfl call209 (fun _ _ a=>Ci a qO qO) ?_
     rintro ⟨a1,e7,i1,d6⟩ T
     have l2:e7<=s.size:=T.1.1
     have l9:a1.size<=2000:=T.2
     refine yv (.string a1) ?_
     apply go 10
     refine zf yF ([(⟨2,u,a1⟩:Match)]:List Match) wn underlying55 BM rfl rfl rfl rfl qD qD rfl fun b7=>zh 3 ms ([(⟨2,u,a1⟩:Match)]:List Match) Ag wn rfl rfl rfl (fun _ g=>(AM Ag g 0 rfl)) underlying55 BM rfl rfl qQ rfl fun A4 l6 x9 x3 A0=>?_
     apply go 2
     refine zK (zj (vx (ms++([(⟨2,u,a1⟩:Match)]:List Match)) e7 i1 d6 (q - 1) (.slice A4 ((ms++([(⟨2,u,a1⟩:Match)]:List Match)).length) l6) ?_ ?_))
     ·exact ⟨by rw [show q - 1 + 1=q by omega]; exact Pz.FK o.1 L c (qs O) (Pz.HQ Y v) h7 (Pz.ms2 (nn h8) F (qs h9) G.1 J c0 T.1),qQ,qO⟩
     omega
    apply go 3
    refine zn (sG [0,1,2,3,4]) rfl rfl call173 (fun _ _ a=>DI a qO qO qF) ?_
    rintro ⟨p8,d8⟩ U
    have n8:d8<=s.size:=U.1
    refine yv (.bool p8) ?_
    refine (go 2) (yj (fun c8=>?_) fun c8=>?_)
    ·apply go 2
     refine zn (sG [0,1,2,3,4]) rfl rfl call209 (fun _ _ a=>Ci a qO qO) ?_
     rintro ⟨a6,f9,i0,f6⟩ N
     have p1:f9<=s.size:=N.1.1
     have l3:a6.size<=2000:=N.2
     refine yv (.string a6) ?_
     apply go 10
     refine zf yF ([(⟨1,u,a6⟩:Match)]:List Match) wn underlying55 BM rfl rfl rfl rfl qD qD rfl fun b7=>zh 3 ms ([(⟨1,u,a6⟩:Match)]:List Match) Ag wn rfl rfl rfl (fun _ g=>(AM Ag g 0 rfl)) underlying55 BM rfl rfl qQ rfl fun A5 n1 B4 w6 C1=>?_
     apply go 2
     refine zK (zj (vx (ms++([(⟨1,u,a6⟩:Match)]:List Match)) f9 i0 f6 (q - 1) (.slice A5 ((ms++([(⟨1,u,a6⟩:Match)]:List Match)).length) n1) ?_ ?_))
     ·exact ⟨by rw [show q - 1 + 1=q by omega]; exact Pz.FK o.1 L c (qs O) (Pz.HQ Y v) h7 (Pz.ms3 (nn h8) F (qs h9) G.1 J (qs c0) U c8 N.1),qQ,qO⟩
     omega
    apply go 6
    refine zf yF ([(⟨3,u,bz⟩:Match)]:List Match) wn underlying55 BM rfl rfl rfl rfl qD qD rfl fun b7=>zh 3 ms ([(⟨3,u,bz⟩:Match)]:List Match) Ag wn rfl rfl rfl (fun _ g=>(AM Ag g 0 rfl)) underlying55 BM rfl rfl qQ rfl fun A6 n7 B6 B0 x2=>?_
    apply go 2
    refine zK (zj (vx (ms++([(⟨3,u,bz⟩:Match)]:List Match)) d8 f5 i9 (q - 1) (.slice A6 ((ms++([(⟨3,u,bz⟩:Match)]:List Match)).length) n7) ?_ ?_))
    ·exact ⟨by rw [show q - 1 + 1=q by omega]; exact Pz.FK o.1 L c (qs O) (Pz.HQ Y v) h7 (Pz.ms4 (nn h8) F (qs h9) G.1 J (qs c0) U (qs c8)),qQ,qO⟩
    omega
   refine (go 11) (zQ (fun a4=>?_) fun a4=>?_)
   ·apply go 6
    refine zn (sG [0,1,2,3]) rfl rfl call137 (fun _ _ a=>CP a ) ?_
    rintro ⟨f0,f2⟩ b0
    apply go 6
    refine zn (sG [0,1,2,3]) rfl rfl call135 (fun _ _ a=>Bt a) fun w7 s3=>?_
    apply go 3
    refine yh rfl (vM (b0.ne qD)) ?_
    refine yS (zw (vF rfl (va (zx (kX (Z ms j9 f0 f2 (.slice A2 ms.length W) (Pz.TE o.1 L c (qs O) (Pz.Iv Y qO) a4 qO b0) qO))))))
   apply go 6
   refine zn (sG [0,1,2,3]) rfl rfl call135 (fun _ _ a=>Bt a) fun B2 s9=>?_
   refine (go 3) (zQ (fun a7=>?_) fun a7=>?_)
   ·refine yS (zw (vF rfl (va (zx (kX (Z ms j9 bl al (.slice A2 ms.length W) (Pz.wl_off o.1 L c (qs O) (Pz.Iv Y qO) a7) qO))))))
   refine (go 5) (zl fun b6=>?_)
   apply go 7
   refine zn (sG [1,0,2,3,4]) rfl rfl call173 (fun _ _ a=>DI a qO qO qF) ?_
   rintro ⟨l8,m9⟩ E
   have l4:m9<=s.size:=E.1
   refine yv (.bool l8) ?_
   refine (go 2) (yj (fun b9=>?_) fun b9=>?_)
   ·apply go 3
    refine zn (sG [0,1,2,3,4]) rfl rfl call209 (fun _ _ a=>Ci a qO qO) ?_
    rintro ⟨a5,e0,d7,d4⟩ R
    have r0:e0<=s.size:=R.1.1
    have p0:a5.size<=2000:=R.2
    refine yv (.string a5) ?_
    apply go 9
    refine zf yF ([(⟨4,a5,bz⟩:Match)]:List Match) wn underlying55 BM rfl rfl rfl rfl qD qD rfl fun m1=>zh 3 ms ([(⟨4,a5,bz⟩:Match)]:List Match) Ag wn rfl rfl rfl (fun _ g=>(AM Ag g 0 rfl)) underlying55 BM rfl rfl qQ rfl fun A7 m6 w5 w4 x6=>?_
    apply go 4
    refine yS (zw (zx (vx (ms++([(⟨4,a5,bz⟩:Match)]:List Match)) e0 d7 d4 (q - 1) (.slice A7 ((ms++([(⟨4,a5,bz⟩:Match)]:List Match)).length) m6) ?_ ?_)))
    ·exact ⟨by rw [show q - 1 + 1=q by omega]; exact Pz.FK o.1 L c (qs O) (Pz.Iv Y qO) a4 (Pz.ms1 (nn a7) E b9 R.1),qQ,qO⟩
    omega
   apply go 5
   refine zn (sG [0,1,2,3,4]) rfl rfl call209 (fun _ _ a=>Ci a qO qO) ?_
   rintro ⟨m,p9,f4,h0⟩ D
   have r3:p9<=s.size:=D.1.1
   have m2:m.size<=2000:=D.2
   refine yv (.string m) ?_
   apply go 10
   refine zn (sG [0,1,2,3,4]) rfl rfl call173 (fun _ _ a=>DI a qO qO qF) ?_
   rintro ⟨n3,o3⟩ I
   have r4:o3<=s.size:=I.1
   refine yv (.bool n3) ?_
   refine (go 2) (yj (fun c4=>?_) fun c4=>?_)
   ·apply go 2
    refine zn (sG [0,1,2,3,4]) rfl rfl call209 (fun _ _ a=>Ci a qO qO) ?_
    rintro ⟨X,e2,f7,f3⟩ V
    have n4:e2<=s.size:=V.1.1
    have n6:X.size<=2000:=V.2
    refine yv (.string X) ?_
    apply go 10
    refine zf yF ([(⟨2,m,X⟩:Match)]:List Match) wn underlying55 BM rfl rfl rfl rfl qD qD rfl fun b7=>zh 3 ms ([(⟨2,m,X⟩:Match)]:List Match) Ag wn rfl rfl rfl (fun _ g=>(AM Ag g 0 rfl)) underlying55 BM rfl rfl qQ rfl fun A8 m0 C7 C0 C4=>?_
    apply go 2
    refine zK (zj (vx (ms++([(⟨2,m,X⟩:Match)]:List Match)) e2 f7 f3 (q - 1) (.slice A8 ((ms++([(⟨2,m,X⟩:Match)]:List Match)).length) m0) ?_ ?_))
    ·exact ⟨by rw [show q - 1 + 1=q by omega]; exact Pz.FK o.1 L c (qs O) (Pz.Iv Y qO) a4 (Pz.ms2 (nn a7) E (qs b9) D.1 I c4 V.1),qQ,qO⟩
    omega
   apply go 3
   refine zn (sG [0,1,2,3,4]) rfl rfl call173 (fun _ _ a=>DI a qO qO qF) ?_
   rintro ⟨k8,e4⟩ Q
   have p2:e4<=s.size:=Q.1
   refine yv (.bool k8) ?_
   refine (go 2) (yj (fun c7=>?_) fun c7=>?_)
   ·apply go 2
    refine zn (sG [0,1,2,3,4]) rfl rfl call209 (fun _ _ a=>Ci a qO qO) ?_
    rintro ⟨a3,i2,i3,d5⟩ S
    have r2:i2<=s.size:=S.1.1
    have r7:a3.size<=2000:=S.2
    refine yv (.string a3) ?_
    apply go 10
    refine zf yF ([(⟨1,m,a3⟩:Match)]:List Match) wn underlying55 BM rfl rfl rfl rfl qD qD rfl fun b7=>zh 3 ms ([(⟨1,m,a3⟩:Match)]:List Match) Ag wn rfl rfl rfl (fun _ g=>(AM Ag g 0 rfl)) underlying55 BM rfl rfl qQ rfl fun A9 o8 x1 w8 B9=>?_
    apply go 2
    refine zK (zj (vx (ms++([(⟨1,m,a3⟩:Match)]:List Match)) i2 i3 d5 (q - 1) (.slice A9 ((ms++([(⟨1,m,a3⟩:Match)]:List Match)).length) o8) ?_ ?_))
    ·exact ⟨by rw [show q - 1 + 1=q by omega]; exact Pz.FK o.1 L c (qs O) (Pz.Iv Y qO) a4 (Pz.ms3 (nn a7) E (qs b9) D.1 I (qs c4) Q c7 S.1),qQ,qO⟩
    omega
   apply go 6
   refine zf yF ([(⟨3,m,bz⟩:Match)]:List Match) wn underlying55 BM rfl rfl rfl rfl qD qD rfl fun b7=>zh 3 ms ([(⟨3,m,bz⟩:Match)]:List Match) Ag wn rfl rfl rfl (fun _ g=>(AM Ag g 0 rfl)) underlying55 BM rfl rfl qQ rfl fun p7 e1 s6 t7 t0=>?_
   apply go 2
   refine zK (zj (vx (ms++([(⟨3,m,bz⟩:Match)]:List Match)) e4 f4 h0 (q - 1) (.slice p7 ((ms++([(⟨3,m,bz⟩:Match)]:List Match)).length) e1) ?_ ?_))
   ·exact ⟨by rw [show q - 1 + 1=q by omega]; exact Pz.FK o.1 L c (qs O) (Pz.Iv Y qO) a4 (Pz.ms4 (nn a7) E (qs b9) D.1 I (qs c4) Q (qs c7)),qQ,qO⟩
   omega
  refine yS (zw (va (zx (kX (Z ms j9 bl al (.slice A2 ms.length W) (Pz.wl_done o.1 c (qs O)) qO)))))
 apply go 7
 refine yS (zw (va (zx (kX (Z ms k bl al (.slice A2 ms.length W) (Pz.wl_bad o.1 L qO) qO)))))
def FacR (N:Nat):Prop:=∀ (p:Nat) (s:ByteArray) (i:Nat) (n be ba:Int) (d:Int) (Pb:Nat->Prop) (w:World) (hG:Mem w ⟨AX [Wb 208 p s i n be ba],Pb⟩ [Wb 208 p s i n be ba] w) (hi:i<=s.size) (hs:s.size<=2000) (hn:0<=n∧n<=101) (hne:be=0->n<=100) (hd:d + (N:Int)=21) (hd1:1<=d),
    Calls prog 172 #[.pointer (some ⟨p,0,none⟩),iV d] w (Be w [Wb 208 p s i n be ba] Pb (fun z:zD × Nat × Int × Int × Int=>.agg (yD z.1).toArray) (fun z=>Pz.Sim s be ba (Pz.fac s N ⟨i,n⟩) z.1.e ⟨z.2.1,z.2.2.1,z.2.2.2.1,z.2.2.2.2⟩∧(0<=z.2.2.1∧z.2.2.1<=101)∧(z.2.2.2.1=0->z.2.2.1<=100)) (fun z=>[Wb 208 p s z.2.1 z.2.2.1 z.2.2.2.1 z.2.2.2.2,okI (z.2.2.2.1=0) z.1]))
def FacS (N:Nat):Prop:=∀ (p:Nat) (s:ByteArray) (i:Nat) (n be ba:Int) (d:Int) (Pb:Nat->Prop) (w:World) (hG:Mem w ⟨AX [Wb 208 p s i n be ba],Pb⟩ [Wb 208 p s i n be ba] w) (hi:i<=s.size) (hs:s.size<=2000) (hn:0<=n∧n<=101) (hne:be=0->n<=100) (hd:d + (N:Int)=21) (hd1:1<=d),
    Calls prog 134 #[.pointer (some ⟨p,0,none⟩),iV 2,iV d] w (Be w [Wb 208 p s i n be ba] Pb (fun z:zD × Nat × Int × Int × Int=>.agg (yD z.1).toArray) (fun z=>Pz.Sim s be ba (Pz.fac s N ⟨i,n⟩) z.1.e ⟨z.2.1,z.2.2.1,z.2.2.2.1,z.2.2.2.2⟩∧(0<=z.2.2.1∧z.2.2.1<=101)∧(z.2.2.2.1=0->z.2.2.1<=100)) (fun z=>[Wb 208 p s z.2.1 z.2.2.1 z.2.2.2.1 z.2.2.2.2,okI (z.2.2.2.1=0) z.1]))
def TrmR (N:Nat):Prop:=∀ (p:Nat) (s:ByteArray) (i:Nat) (n be ba:Int) (d:Int) (Pb:Nat->Prop) (w:World) (hG:Mem w ⟨AX [Wb 208 p s i n be ba],Pb⟩ [Wb 208 p s i n be ba] w) (hi:i<=s.size) (hs:s.size<=2000) (hn:0<=n∧n<=101) (hne:be=0->n<=100) (hd:d + (N:Int)=21) (hd1:1<=d),
    Calls prog 134 #[.pointer (some ⟨p,0,none⟩),iV 1,iV d] w (Be w [Wb 208 p s i n be ba] Pb (fun z:zD × Nat × Int × Int × Int=>.agg (yD z.1).toArray) (fun z=>Pz.Sim s be ba (Pz.trm s N ⟨i,n⟩) z.1.e ⟨z.2.1,z.2.2.1,z.2.2.2.1,z.2.2.2.2⟩∧(0<=z.2.2.1∧z.2.2.1<=101)∧(z.2.2.2.1=0->z.2.2.1<=100)) (fun z=>[Wb 208 p s z.2.1 z.2.2.1 z.2.2.2.1 z.2.2.2.2,okI (z.2.2.2.1=0) z.1]))
def XprR (N:Nat):Prop:=∀ (p:Nat) (s:ByteArray) (i:Nat) (n be ba:Int) (d:Int) (Pb:Nat->Prop) (w:World) (hG:Mem w ⟨AX [Wb 208 p s i n be ba],Pb⟩ [Wb 208 p s i n be ba] w) (hi:i<=s.size) (hs:s.size<=2000) (hn:0<=n∧n<=101) (hne:be=0->n<=100) (hd:d + (N:Int)=21) (hd1:1<=d),
    Calls prog 134 #[.pointer (some ⟨p,0,none⟩),iV 0,iV d] w (Be w [Wb 208 p s i n be ba] Pb (fun z:zD × Nat × Int × Int × Int=>.agg (yD z.1).toArray) (fun z=>Pz.Sim s be ba (Pz.xpr s N ⟨i,n⟩) z.1.e ⟨z.2.1,z.2.2.1,z.2.2.2.1,z.2.2.2.2⟩∧(0<=z.2.2.1∧z.2.2.1<=101)∧(z.2.2.2.1=0->z.2.2.1<=100)) (fun z=>[Wb 208 p s z.2.1 z.2.2.1 z.2.2.2.1 z.2.2.2.2,okI (z.2.2.2.1=0) z.1]))
theorem w_sum2 {p:Nat} {s:ByteArray} {i:Nat} {n b f:Int} {d:Int} (N:Nat) {g:Nat->Prop} {w:World} (j:Mem w ⟨AX [Wb 208 p s i n b f],g⟩ [Wb 208 p s i n b f] w) (hi:i<=s.size) (B:s.size<=2000) (D:0<=n∧n<=101) (u:b=0->n<=100) (E:d + (N:Int)=21) (v:1<=d) (x:FacR N) :
    Calls prog 134 #[.pointer (some ⟨p,0,none⟩),iV 2,iV d] w (Be w [Wb 208 p s i n b f] g (fun z:zD × Nat × Int × Int × Int=>.agg (yD z.1).toArray) (fun z=>Pz.Sim s b f (Pz.fac s N ⟨i,n⟩) z.1.e ⟨z.2.1,z.2.2.1,z.2.2.2.1,z.2.2.2.2⟩∧(0<=z.2.2.1∧z.2.2.1<=101)∧(z.2.2.2.1=0->z.2.2.1<=100)) (fun z=>[Wb 208 p s z.2.1 z.2.2.1 z.2.2.2.1 z.2.2.2.2,okI (z.2.2.2.1=0) z.1])):=by
 refine zp func134 j ?_;refine (go 2) (zl fun C=>?_);apply go 9;refine yh rfl (vM gl) ?_;apply go 4;refine zn (sG [1,0]) rfl rfl call172 (fun l g j=>x p s i n b f d g l j qO qO qO qO qO qO) ?_;rintro ⟨t,o,A,c,k⟩ a;dsimp only at a;have r:o<=s.size:=a.1.1;have m:=a.2.1;have q:=a.2.2;refine (go 5) (zR fun l h=>?_);have h:=h.okI2 (c=0) 1 rfl (fun y=>y);exact h.rtA (t,o,A,c,k) ⟨a.1,qB,qB⟩
theorem w_sum1 {p:Nat} {s:ByteArray} {i:Nat} {n F K:Int} {d:Int} (N:Nat) {M:Nat->Prop} {w:World} (f:Mem w ⟨AX [Wb 208 p s i n F K],M⟩ [Wb 208 p s i n F K] w) (hi:i<=s.size) (hs:s.size<=2000) (hn:0<=n∧n<=101) (c0:F=0->n<=100) (hd:d + (N:Int)=21) (c2:1<=d) (ih:FacS N) :
    Calls prog 134 #[.pointer (some ⟨p,0,none⟩),iV 1,iV d] w (Be w [Wb 208 p s i n F K] M (fun z:zD × Nat × Int × Int × Int=>.agg (yD z.1).toArray) (fun z=>Pz.Sim s F K (Pz.trm s N ⟨i,n⟩) z.1.e ⟨z.2.1,z.2.2.1,z.2.2.2.1,z.2.2.2.2⟩∧(0<=z.2.2.1∧z.2.2.1<=101)∧(z.2.2.2.1=0->z.2.2.1<=100)) (fun z=>[Wb 208 p s z.2.1 z.2.2.1 z.2.2.2.1 z.2.2.2.2,okI (z.2.2.2.1=0) z.1])):=by
 refine zp func134 f ?_;refine (go 2) (zl fun b6=>?_);apply go 9;refine yJ rfl (yq gl) ?_;apply go 8;refine zn (sG [1,0]) rfl rfl call134 (fun Q M f=>ih p s i n F K d M Q f qO qO qO qO qO qO) ?_;rintro ⟨x1,j1,m1,S,T⟩ g;try dsimp only at g
 have b0:j1<=s.size:=g.1.1;have a6:=g.2.1;have a8:=g.2.2;refine zl fun b7=>?_;apply go 5;refine qH (jE6 [0,1,2,6,7] fun (x:zD) (k:Nat) (m:Int) (a:Int) (l:Int) (q:Nat)=>[]) (jS6 fun x k m a l q=>[.s 0 (.blk b7 [iV x.kind,iV x.n,iV x.range,.string x.word,x.ms.v,x.by_.v,x.kids.v] 59),.s 1 (Wb 208 p s k m a l),.s 2 (okI (a=0) x)]) (fun x k m a l q=>(∀ b r,Pz.Sim s a l (Pz.DO s (Pz.fac s N) Pz.star q x.e ⟨k,m⟩) b r->Pz.Sim s S T (Pz.DO s (Pz.fac s N) Pz.star 101 x1.e ⟨j1,m1⟩) b r)∧k<=s.size∧(0<=m∧m<=101)∧(a=0->m<=100)∧(a=0->(101:Int)<=(q:Int) + m)) (fun x k m a l q=>q) x1 j1 m1 S T 101 ?_ (fun x k m a l q A=>?_);exact ⟨fun _ _ h=>h,qO,qO,qO,qO⟩;have b4:=A.2.2.1;have b8:=A.2.2.2.1;have b5:=A.2.2.2.2;have o:=A.1;apply go 4;refine zn (sG [1,0,2,3]) rfl rfl call135 (fun _ _ f=>Bt f) fun z2 c4=>?_;refine (go 2) (zQ (fun y=>?_) fun y=>?_);apply go 11;refine zf Ac ([⟨#[43]⟩,⟨#[45]⟩]:List ByteArray) wn underlying56 BN rfl rfl rfl rfl qD qD rfl fun R=>zf Ac ([⟨#[42]⟩]:List ByteArray) wn underlying56 BN rfl rfl rfl rfl qD qD rfl fun H=>zf strsE ([(El.mk ⟨(some ⟨R,0,none⟩),2,([⟨#[43]⟩,⟨#[45]⟩]:List ByteArray)⟩),(El.mk ⟨(some ⟨H,0,none⟩),1,([⟨#[42]⟩]:List ByteArray)⟩)]:List El) wn underlying236 inf56 rfl rfl rfl rfl qD qD rfl fun c1=>?_;apply go 2;refine zV (uK 0 PW rfl rfl rfl (show ([(El.mk ⟨(some ⟨R,0,none⟩),2,([⟨#[43]⟩,⟨#[45]⟩]:List ByteArray)⟩),(El.mk ⟨(some ⟨H,0,none⟩),1,([⟨#[42]⟩]:List ByteArray)⟩)]:List El)[1]?=some (El.mk ⟨(some ⟨H,0,none⟩),1,([⟨#[42]⟩]:List ByteArray)⟩) from rfl) rfl Nt) ?_;apply go 5;refine qT (vz fun _ C=>?_);apply go 6;refine yh rfl (vM gl) ?_;apply go 7;refine zV (uK 1 AL rfl rfl rfl (show ([⟨#[42]⟩]:List ByteArray)[0]?=some ⟨#[42]⟩ from rfl) rfl Hf) ?_
 apply go 8;refine jz (t:=37) rfl qD ?_;apply go 2;refine zn (sG [3,0,1,2,4,5,6]) rfl rfl call173 (fun _ _ f=>DI f qO qO qF) ?_;rintro ⟨a1,W⟩ j;try dsimp only at j
 have E:W<=s.size:=j.1;refine yv (.bool a1) ?_;refine (go 3) (yj (fun V=>?_) fun V=>?_);apply go 10;refine jx C (vz fun _ b3=>?_);apply go 6;refine yJ rfl (yq gl) ?_;apply go 12;refine yJ rfl (yq qD) ?_;apply go 8;refine zn (sG [0,1,2,3,4,5,6]) rfl rfl call134 (fun Q M f=>ih p s W m a l d M Q f qO qO qO qO qO qO) ?_;rintro ⟨Z,X,P,L,a4⟩ c;try dsimp only at c
 have b2:X<=s.size:=c.1.1;have a9:=c.2.1;have b1:=c.2.2;refine zl fun b9=>?_;apply go 6;refine zn (sG [1,0,2,3,4,5,6,7,8]) rfl rfl call135 (fun _ _ f=>Bt f) fun z5 c3=>?_;refine (go 2) (zQ (fun I=>?_) fun I=>?_);apply go 5;refine zf yD ([x,Z]:List zD) wn underlying57 An rfl rfl rfl rfl qD qD rfl fun U=>?_;apply go 1;refine vc (fun _ h=>h.okOf 8 rfl y) (vc (fun _ h=>h.okOf 4 rfl I) ?_);have a3:L=0:=I;have a0:a=0:=y;refine vW 2 3 Ch rfl rfl (fp1) (vc (fun _ h=>h.ER (k:=4) (n:=0) (r:=0) (wd:=⟨#[42]⟩) (ms:=n0) (bs:=n0) (ks:=⟨(some ⟨U,0,none⟩),2,([x,Z]:List zD)⟩) fN fN pA (fun _ pp x O=>by simp only [ya,List.not_mem_nil,or_false] at O; rcases O with rfl | rfl <;> first | exact pp.at_ 1 _ rfl | exact pp.at_ 0 _ rfl) qF (fun x O=>by cases O) (fun x O=>by cases O)) (zn (sG [4,0,1,2,3,5,6,7,8,9,10,11,12]) rfl rfl call174 (fun _ _ f=>Hp f qO qO qO) ?_));rintro ⟨J,a2⟩ B;try dsimp only at B
 have a5:J=0->P + 1<=100:=fun u=>by have h8:=(Pz.Bo.ok_ (Pz.CJ (s:=s) (t:=⟨X,P⟩) qB) (B.ok_ (B.first u) u)).Az (show P<=100 by omega); exact h8
 apply go 1;refine vc (fun _ h=>h.okI1 (J=0) 1 rfl) (zK (zj (vx (zD.mk 4 0 0 ⟨#[42]⟩ n0 n0 ⟨(some ⟨U,0,none⟩),2,([x,Z]:List zD)⟩) X (P + 1) J a2 (q - 1) ?_ ?_)));have D:=o;rw [show q=(q - 1) + 1 by omega] at D;have Y:=(Pz.Kid.ok (Pz.Ef s N) (by show _<=s.size; exact E) (c.1.ok_ y I)).mono;exact ⟨Pz.NZ D y (Pz.Qd (j.yes V).2) qD c.1 B,qO,qO,qO,by intro u; have h8:m<=P:=Y; omega⟩;omega;refine uu (fun _ h=>h.JX (L=0) x I) (yW (zj (vx x X P L a4 (q - 1) ?_ ?_)));have D:=o;rw [show q=(q - 1) + 1 by omega] at D;exact ⟨Pz.Ra D y (Pz.Qd (j.yes V).2) qD c.1 I (q - 1) x.e,qO,qO,qO,by intro u; exact absurd u I⟩;omega;apply go 7;refine jx C (vz fun _ a7=>?_);apply go 6;refine yJ rfl (yq gl) ?_;apply go 12;refine yh rfl (vM qD) ?_;refine (go 13) (zR fun Q G=>?_);have G:=G.okI2 (a=0) 5 rfl (fun u=>u);exact G.rtA (x,W,m,a,l) ⟨show Pz.Sim s F K (Pz.trm s N ⟨i,n⟩) (x).e ⟨W,m,a,l⟩ from Pz.KL g.1 ((by have D:=o; rw [show q=(q - 1) + 1 by omega] at D; exact Pz.To D y (Pz.star0 (j.no (qs V) y)) E)),qB,qB⟩;refine (go 12) (zR fun Q G=>?_);have G:=G.okI2 (a=0) 2 rfl (fun u=>u);exact G.rtA (x,k,m,a,l) ⟨show Pz.Sim s F K (Pz.trm s N ⟨i,n⟩) (x).e ⟨k,m,a,l⟩ from Pz.KL g.1 (Pz.sl_bad o y qO),qB,qB⟩
theorem w_sum0 {p:Nat} {s:ByteArray} {i:Nat} {n L Y:Int} {d:Int} (N:Nat) {K:Nat->Prop} {w:World} (a:Mem w ⟨AX [Wb 208 p s i n L Y],K⟩ [Wb 208 p s i n L Y] w) (hi:i<=s.size) (hs:s.size<=2000) (hn:0<=n∧n<=101) (d8:L=0->n<=100) (hd:d + (N:Int)=21) (d6:1<=d) (ih:TrmR N) :
    Calls prog 134 #[.pointer (some ⟨p,0,none⟩),iV 0,iV d] w (Be w [Wb 208 p s i n L Y] K (fun z:zD × Nat × Int × Int × Int=>.agg (yD z.1).toArray) (fun z=>Pz.Sim s L Y (Pz.xpr s N ⟨i,n⟩) z.1.e ⟨z.2.1,z.2.2.1,z.2.2.2.1,z.2.2.2.2⟩∧(0<=z.2.2.1∧z.2.2.1<=101)∧(z.2.2.2.1=0->z.2.2.1<=100)) (fun z=>[Wb 208 p s z.2.1 z.2.2.1 z.2.2.2.1 z.2.2.2.2,okI (z.2.2.2.1=0) z.1])):=by
 refine zp func134 a ?_;refine (go 2) (zl fun b6=>?_);apply go 9;refine yJ rfl (yq gl) ?_;apply go 8;refine zn (sG [1,0]) rfl rfl call134 (fun O K a=>ih p s i n L Y d K O a qO qO qO qO qO qO) ?_;rintro ⟨x1,j1,m1,a1,a3⟩ A;try dsimp only at A
 have d1:j1<=s.size:=A.1.1;have c1:=A.2.1;have c2:=A.2.2;refine zl fun b7=>?_;apply go 5;refine qH (jE6 [0,1,2,6,7] fun (x:zD) (k:Nat) (m:Int) (c:Int) (C:Int) (q:Nat)=>[]) (jS6 fun x k m c C q=>[.s 0 (.blk b7 [iV x.kind,iV x.n,iV x.range,.string x.word,x.ms.v,x.by_.v,x.kids.v] 59),.s 1 (Wb 208 p s k m c C),.s 2 (okI (c=0) x)]) (fun x k m c C q=>(∀ b r,Pz.Sim s c C (Pz.DO s (Pz.trm s N) Pz.plus q x.e ⟨k,m⟩) b r->Pz.Sim s a1 a3 (Pz.DO s (Pz.trm s N) Pz.plus 101 x1.e ⟨j1,m1⟩) b r)∧k<=s.size∧(0<=m∧m<=101)∧(c=0->m<=100)∧(c=0->(101:Int)<=(q:Int) + m)) (fun x k m c C q=>q) x1 j1 m1 a1 a3 101 ?_ (fun x k m c C q F=>?_);exact ⟨fun _ _ h=>h,qO,qO,qO,qO⟩;have d7:=F.2.2.1;have d5:=F.2.2.2.1;have d4:=F.2.2.2.2;have y:=F.1;apply go 4;refine zn (sG [1,0,2,3]) rfl rfl call135 (fun _ _ a=>Bt a) fun z2 e0=>?_;refine (go 2) (zQ (fun f=>?_) fun f=>?_);apply go 11;refine zf Ac ([⟨#[43]⟩,⟨#[45]⟩]:List ByteArray) wn underlying56 BN rfl rfl rfl rfl qD qD rfl fun U=>zf Ac ([⟨#[42]⟩]:List ByteArray) wn underlying56 BN rfl rfl rfl rfl qD qD rfl fun a0=>zf strsE ([(El.mk ⟨(some ⟨U,0,none⟩),2,([⟨#[43]⟩,⟨#[45]⟩]:List ByteArray)⟩),(El.mk ⟨(some ⟨a0,0,none⟩),1,([⟨#[42]⟩]:List ByteArray)⟩)]:List El) wn underlying236 inf56 rfl rfl rfl rfl qD qD rfl fun d2=>?_;apply go 2;refine zV (uK 0 PW rfl rfl rfl (show ([(El.mk ⟨(some ⟨U,0,none⟩),2,([⟨#[43]⟩,⟨#[45]⟩]:List ByteArray)⟩),(El.mk ⟨(some ⟨a0,0,none⟩),1,([⟨#[42]⟩]:List ByteArray)⟩)]:List El)[0]?=some (El.mk ⟨(some ⟨U,0,none⟩),2,([⟨#[43]⟩,⟨#[45]⟩]:List ByteArray)⟩) from rfl) rfl Nt) ?_;apply go 5;refine qT (vz fun _ M=>?_);apply go 6;refine yh rfl (vM gl) ?_;apply go 7;refine zV (uK 2 AL rfl rfl rfl (show ([⟨#[43]⟩,⟨#[45]⟩]:List ByteArray)[0]?=some ⟨#[43]⟩ from rfl) rfl Hf) ?_
 apply go 8;refine jz (t:=37) rfl qD ?_;apply go 2;refine zn (sG [3,0,1,2,4,5,6]) rfl rfl call173 (fun _ _ a=>DI a qO qO qF) ?_;rintro ⟨a5,j2⟩ l;try dsimp only at l
 have a4:j2<=s.size:=l.1;refine yv (.bool a5) ?_;refine (go 3) (yj (fun h2=>?_) fun h2=>?_);apply go 10;refine jx M (vz fun _ a2=>?_);apply go 6;refine yh rfl (vM gl) ?_;apply go 7;refine zV (uK 3 AL rfl rfl rfl (show ([⟨#[43]⟩,⟨#[45]⟩]:List ByteArray)[1]?=some ⟨#[45]⟩ from rfl) rfl Hf) ?_;apply go 8;refine jN (t:=37) rfl qD ?_;apply go 14;refine jx a2 (vz fun _ b8=>?_);apply go 6;refine yJ rfl (yq gl) ?_;apply go 12;refine yJ rfl (yq qD) ?_;apply go 8;refine zn (sG [0,1,2,3,4,5,6]) rfl rfl call134 (fun O K a=>ih p s j2 m c C d K O a qO qO qO qO qO qO) ?_;rintro ⟨x2,j3,m2,W,a9⟩ g;try dsimp only at g
 have c5:j3<=s.size:=g.1.1;have c3:=g.2.1;have c4:=g.2.2;refine zl fun b2=>?_;apply go 6;refine zn (sG [1,0,2,3,4,5,6,7,8]) rfl rfl call135 (fun _ _ a=>Bt a) fun z5 d9=>?_;refine (go 2) (zQ (fun Q=>?_) fun Q=>?_);apply go 5;refine zf yD ([x,x2]:List zD) wn underlying57 An rfl rfl rfl rfl qD qD rfl fun E=>?_;apply go 1;refine vc (fun _ h=>h.okOf 8 rfl f) (vc (fun _ h=>h.okOf 4 rfl Q) ?_);have b4:W=0:=Q;have b1:c=0:=f;refine vW 2 3 Ch rfl rfl (fp1) (vc (fun _ h=>h.ER (k:=4) (n:=0) (r:=0) (wd:=⟨#[43]⟩) (ms:=n0) (bs:=n0) (ks:=⟨(some ⟨E,0,none⟩),2,([x,x2]:List zD)⟩) fN fN pA (fun _ pp x B=>by simp only [ya,List.not_mem_nil,or_false] at B; rcases B with rfl | rfl <;> first | exact pp.at_ 1 _ rfl | exact pp.at_ 0 _ rfl) qF (fun x B=>by cases B) (fun x B=>by cases B)) (zn (sG [4,0,1,2,3,5,6,7,8,9,10,11,12]) rfl rfl call174 (fun _ _ a=>Hp a qO qO qO) ?_));rintro ⟨X,a8⟩ G;try dsimp only at G
 have c0:X=0->m2 + 1<=100:=fun o=>by have h8:=(Pz.Bo.ok_ (Pz.CJ (s:=s) (t:=⟨j3,m2⟩) qB) (G.ok_ (G.first o) o)).Az (show m2<=100 by omega); exact h8
 apply go 1;refine vc (fun _ h=>h.okI1 (X=0) 1 rfl) (zK (zj (vx (zD.mk 4 0 0 ⟨#[43]⟩ n0 n0 ⟨(some ⟨E,0,none⟩),2,([x,x2]:List zD)⟩) j3 (m2 + 1) X a8 (q - 1) ?_ ?_)));have u:=y;rw [show q=(q - 1) + 1 by omega] at u;have T:=(Pz.Kid.ok (Pz.Ib s N) (by show _<=s.size; exact a4) (g.1.ok_ f Q)).mono;exact ⟨Pz.NZ u f (Pz.Qb (l.yes h2).2) qD g.1 G,qO,qO,qO,by intro o; have h8:m<=m2:=T; omega⟩;omega;refine uu (fun _ h=>h.JX (W=0) x Q) (yW (zj (vx x j3 m2 W a9 (q - 1) ?_ ?_)));have u:=y;rw [show q=(q - 1) + 1 by omega] at u;exact ⟨Pz.Ra u f (Pz.Qb (l.yes h2).2) qD g.1 Q (q - 1) x.e,qO,qO,qO,by intro o; exact absurd o Q⟩;omega;apply go 7;refine jx M (vz fun _ J=>?_);apply go 6;refine yh rfl (vM gl) ?_;apply go 7;refine zV (uK 3 AL rfl rfl rfl (show ([⟨#[43]⟩,⟨#[45]⟩]:List ByteArray)[1]?=some ⟨#[45]⟩ from rfl) rfl Hf) ?_;apply go 8;refine jz (t:=37) rfl qD ?_;apply go 2;refine zn (sG [0,1,2,3,4,5,6]) rfl rfl call173 (fun _ _ a=>DI a qO qO qF) ?_;rintro ⟨a7,j4⟩ D;try dsimp only at D
 have I:j4<=s.size:=D.1;refine yv (.bool a7) ?_;refine (go 3) (yj (fun h4=>?_) fun h4=>?_);apply go 10;refine jx J (vz fun _ c6=>?_);apply go 6;refine yJ rfl (yq gl) ?_;apply go 12;refine yJ rfl (yq qD) ?_;apply go 8;refine zn (sG [0,1,2,3,4,5,6]) rfl rfl call134 (fun O K a=>ih p s j4 m c C d K O a qO qO qO qO qO qO) ?_;rintro ⟨x3,j5,Z,P,b0⟩ j;try dsimp only at j
 have c8:j5<=s.size:=j.1.1;have b9:=j.2.1;have c9:=j.2.2;refine zl fun b2=>?_;apply go 6;refine zn (sG [1,0,2,3,4,5,6,7,8]) rfl rfl call135 (fun _ _ a=>Bt a) fun z9 d3=>?_;refine (go 2) (zQ (fun S=>?_) fun S=>?_);apply go 5;refine zf yD ([x,x3]:List zD) wn underlying57 An rfl rfl rfl rfl qD qD rfl fun E=>?_;apply go 1;refine vc (fun _ h=>h.okOf 8 rfl f) (vc (fun _ h=>h.okOf 4 rfl S) ?_);have b3:P=0:=S;have a6:c=0:=f;refine vW 2 3 Ch rfl rfl (fp1) (vc (fun _ h=>h.ER (k:=4) (n:=0) (r:=0) (wd:=⟨#[45]⟩) (ms:=n0) (bs:=n0) (ks:=⟨(some ⟨E,0,none⟩),2,([x,x3]:List zD)⟩) fN fN pA (fun _ pp x B=>by simp only [ya,List.not_mem_nil,or_false] at B; rcases B with rfl | rfl <;> first | exact pp.at_ 1 _ rfl | exact pp.at_ 0 _ rfl) qF (fun x B=>by cases B) (fun x B=>by cases B)) (zn (sG [4,0,1,2,3,5,6,7,8,9,10,11,12]) rfl rfl call174 (fun _ _ a=>Hp a qO qO qO) ?_));rintro ⟨V,b5⟩ H;try dsimp only at H
 have c7:V=0->Z + 1<=100:=fun o=>by have h8:=(Pz.Bo.ok_ (Pz.CJ (s:=s) (t:=⟨j5,Z⟩) qB) (H.ok_ (H.first o) o)).Az (show Z<=100 by omega); exact h8
 apply go 1;refine vc (fun _ h=>h.okI1 (V=0) 1 rfl) (zK (zj (vx (zD.mk 4 0 0 ⟨#[45]⟩ n0 n0 ⟨(some ⟨E,0,none⟩),2,([x,x3]:List zD)⟩) j5 (Z + 1) V b5 (q - 1) ?_ ?_)));have u:=y;rw [show q=(q - 1) + 1 by omega] at u;have T:=(Pz.Kid.ok (Pz.Ib s N) (by show _<=s.size; exact I) (j.1.ok_ f S)).mono;exact ⟨Pz.NZ u f (Pz.Kv (l.no (qs h2) f) (D.yes h4).2) qD j.1 H,qO,qO,qO,by intro o; have h8:m<=Z:=T; omega⟩;omega;refine uu (fun _ h=>h.JX (P=0) x S) (yW (zj (vx x j5 Z P b0 (q - 1) ?_ ?_)));have u:=y;rw [show q=(q - 1) + 1 by omega] at u;exact ⟨Pz.Ra u f (Pz.Kv (l.no (qs h2) f) (D.yes h4).2) qD j.1 S (q - 1) x.e,qO,qO,qO,by intro o; exact absurd o S⟩;omega;apply go 7;refine jx J (vz fun _ d0=>?_);apply go 6;refine yJ rfl (yq gl) ?_;apply go 12;refine yh rfl (vM qD) ?_;refine (go 13) (zR fun O R=>?_);have R:=R.okI2 (c=0) 5 rfl (fun o=>o);exact R.rtA (x,j4,m,c,C) ⟨show Pz.Sim s L Y (Pz.xpr s N ⟨i,n⟩) (x).e ⟨j4,m,c,C⟩ from Pz.KL A.1 ((by have u:=y; rw [show q=(q - 1) + 1 by omega] at u; exact Pz.To u f (Pz.plus0 (l.no (qs h2) f) (D.no (qs h4) f)) I)),qB,qB⟩;refine (go 12) (zR fun O R=>?_);have R:=R.okI2 (c=0) 2 rfl (fun o=>o);exact R.rtA (x,k,m,c,C) ⟨show Pz.Sim s L Y (Pz.xpr s N ⟨i,n⟩) (x).e ⟨k,m,c,C⟩ from Pz.KL A.1 (Pz.sl_bad y f qO),qB,qB⟩
theorem Qn {p:Nat} {s:ByteArray} {i:Nat} {n be ba:Int} {d:Int} (N:Nat) {Pb:Nat->Prop} {w:World} (o:Mem w ⟨AX [Wb 208 p s i n be ba],Pb⟩ [Wb 208 p s i n be ba] w) (hi:i<=s.size) (hs:s.size<=2000) (hn:0<=n∧n<=101) (Q6:be=0->n<=100) (hd:d + (N:Int)=21) (Q1:1<=d) (ih:∀ M,N=M + 1->XprR M) :
    Calls prog 172 #[.pointer (some ⟨p,0,none⟩),iV d] w (Be w [Wb 208 p s i n be ba] Pb (fun z:zD × Nat × Int × Int × Int=>.agg (yD z.1).toArray) (fun z=>Pz.Sim s be ba (Pz.fac s N ⟨i,n⟩) z.1.e ⟨z.2.1,z.2.2.1,z.2.2.2.1,z.2.2.2.2⟩∧(0<=z.2.2.1∧z.2.2.1<=101)∧(z.2.2.2.1=0->z.2.2.1<=100)) (fun z=>[Wb 208 p s z.2.1 z.2.2.1 z.2.2.2.1 z.2.2.2.2,okI (z.2.2.2.1=0) z.1])):=by
 refine zp func172 o ?_
 refine (go 2) (zl fun b4=>?_)
 apply go 6
 refine zn (sG [1,0]) rfl rfl call135 (fun _ _ o=>Bt o) fun z1 P9=>?_
 refine (go 3) (zQ (fun h1=>?_) fun h1=>?_)
 ·apply go 2
  refine zV (uE Zx LU An rfl rfl) ?_
  refine (go 5) (zR fun w1 v=>?_)
  have v:=v.JX (be=0) (zD.mk 0 0 0 bz n0 n0 n0) h1
  exact v.rtA ((zD.mk 0 0 0 bz n0 n0 n0),i,n,be,ba) ⟨(Pz.Sim.bad (r:=⟨i,n,be,ba⟩) qB h1 rfl rfl),qB,qB⟩
 refine (go 9) (zQ (fun h2=>?_) fun h2=>?_)
 ·apply go 7
  refine zn (sG [0,1]) rfl rfl call137 (fun _ _ o=>CP o ) ?_
  rintro ⟨o4,t0⟩ m9
  try dsimp only at m9
  apply go 4
  refine zV (uE Zx LU An rfl rfl) ?_
  refine (go 5) (zR fun w1 v=>?_)
  have v:=v.JX (o4=0) (zD.mk 0 0 0 bz n0 n0 n0) (m9.ne qD)
  exact v.rtA ((zD.mk 0 0 0 bz n0 n0 n0),i,n,o4,t0) ⟨(by rw [show N=0 by omega]; exact Pz.VA (nn h1) qO m9),qB,qB⟩
 obtain ⟨M,rfl⟩:∃ M,N=M + 1:=⟨N - 1,qO⟩
 apply go 6
 refine zn (sG [0,1]) rfl rfl call173 (fun _ _ o=>DI o qO qO qF) ?_
 rintro ⟨D7,j1⟩ a1
 try dsimp only at a1
 have G3:j1<=s.size:=a1.1
 refine yv (.bool D7) ?_
 refine (go 2) (yj (fun h3=>?_) fun h3=>?_)
 ·apply go 5
  refine zn (sG [0,1]) rfl rfl call134 (fun w1 Pb o=>(ih M rfl) p s j1 n be ba (d + 1) Pb w1 o qO qO qO qO qO qO) ?_
  rintro ⟨x1,j2,m1,n2,M3⟩ e1
  try dsimp only at e1
  have I8:j2<=s.size:=e1.1.1
  have K2:=e1.2.1
  have I6:=e1.2.2
  have s8:n2=0->be=0:=e1.1.first
  refine zl fun b5=>?_
  apply go 6
  refine zn (sG [1,0,2,3]) rfl rfl call203 (fun _ _ o=>Ee o qO qO qF) ?_
  rintro ⟨j3,m6,w8⟩ f5
  try dsimp only at f5
  have K1:j3<=s.size:=f5.1
  have s4:m6=0->n2=0:=f5.first
  refine (go 10) (zR fun w1 v=>?_)
  have v:=v.okI2 (m6=0) 2 rfl (fun A=>f5.first A)
  exact v.rtA (x1,j3,m1,m6,w8) ⟨(Pz.fac_par a1 h3 e1.1 f5),qB,qB⟩
 apply go 5
 refine zn (sG [0,1]) rfl rfl call136 (fun _ _ o=>Hn o qO qO) fun j4 E4=>?_
 obtain ⟨Q,G1,I1⟩:=E4
 apply go 14
 refine zn (sG [0,1]) rfl rfl call204 (fun _ _ o=>RN o qO qO) ?_
 rintro ⟨f2,j5,H,s0⟩ D
 try dsimp only at D
 have F8:j5<=s.size:=D.1.1
 have H4:f2.size<=2000:=D.2
 refine yv (.string f2) ?_
 apply go 7
 refine zn (sG [0,1]) rfl rfl call135 (fun _ _ o=>Bt o) fun z7 P3=>?_
 refine (go 3) (zQ (fun h4=>?_) fun h4=>?_)
 ·apply go 2
  refine zV (uE Zx LU An rfl rfl) ?_
  refine (go 5) (zR fun w1 v=>?_)
  have G:H=0->be=0:=D.1.first
  have v:=v.JX (H=0) (zD.mk 0 0 0 bz n0 n0 n0) h4
  exact v.rtA ((zD.mk 0 0 0 bz n0 n0 n0),j5,n,H,s0) ⟨(Pz.Dc a1 (qs h3) Q D.1 ((Pz.Sim.bad (r:=⟨j5,n,H,s0⟩) qB h4 rfl rfl))),qB,qB⟩
 refine (go 9) (zQ (fun h5=>?_) fun h5=>?_)
 ·apply go 3
  refine zn (sG [0,1]) rfl rfl call205 (fun _ _ o=>w_num o qO qO qO qO) ?_
  rintro ⟨v1,j6,c5,r7⟩ e5
  try dsimp only at e5
  have H8:j6<=s.size:=e5.1
  apply go 7
  refine zn (sG [0,1]) rfl rfl call135 (fun _ _ o=>Bt o) fun z9 L4=>?_
  refine (go 3) (zQ (fun h6=>?_) fun h6=>?_)
  ·apply go 2
   refine zV (uE Zx LU An rfl rfl) ?_
   refine (go 6) (zR fun w1 v=>?_)
   have G:H=0->be=0:=D.1.first
   have i5:c5=0->H=0:=e5.first
   have v:=v.JX (c5=0) (zD.mk 0 0 0 bz n0 n0 n0) h6
   exact v.rtA ((zD.mk 0 0 0 bz n0 n0 n0),j6,n,c5,r7) ⟨(Pz.Dc a1 (qs h3) Q D.1 (Pz.Sim.val (Pz.PC h5 e5 (Pz.BQ.bad (r:=⟨j6,n,c5,r7⟩) qB h6 rfl rfl)) h6)),qB,qB⟩
  apply go 7
  have G:H=0->be=0:=D.1.first
  have i5:c5=0->H=0:=e5.first
  have M0:f2.size<=12:=Pz.DL (t:=⟨j4,n⟩) qB (D.1.ok_ (D.1.first (nn h4)) (nn h4))
  have x7:c5=0:=(nn h6)
  have E7:H=0:=(nn h4)
  have C6:be=0:=(nn h1)
  refine vc (fun _ h=>h.ER (k:=1) (n:=v1) (r:=0) (wd:=bz) (ms:=n0) (bs:=n0) (ks:=n0) fN fN fN (fun _ _ x hx=>by cases hx) qF (fun x hx=>by cases hx) (fun x hx=>by cases hx)) (zn (sG [1,0,2]) rfl rfl call174 (fun _ _ o=>Hp o qO qO qO) ?_)
  rintro ⟨i1,E3⟩ f7
  try dsimp only at f7
  have F6:i1=0->n + 1<=100:=fun A=>by have h8:=(Pz.Bo.ok_ (Pz.CJ (s:=s) (t:=⟨j6,n⟩) qB) (f7.ok_ (f7.first A) A)).Az (show n<=100 by omega); exact h8
  have s7:i1=0->c5=0:=f7.first
  refine (go 5) (zR fun w1 v=>?_)
  have v:=v.okI1 (i1=0) 1 rfl
  exact v.rtA ((zD.mk 1 v1 0 bz n0 n0 n0),j6,(n + 1),i1,E3) ⟨(Pz.Dc a1 (qs h3) Q D.1 (Pz.PC h5 e5 f7)),qB,qB⟩
 refine (go 9) (zQ (fun h7=>?_) fun h7=>?_)
 ·apply go 4
  refine vo Agg.words wn rfl call207 rfl (fun _ _=>Kn) fun A1 M8 O7 N4 P8=>yB call206 wn rfl (fun _ v=>gO Agg.words (AM AL v 0 rfl)) ?_
  refine (go 3) (zQ (fun h8=>?_) fun h8=>?_)
  ·apply go 4
   refine zn (sG [1,0,2]) rfl rfl call137 (fun _ _ o=>CP o ) ?_
   rintro ⟨p0,D9⟩ m0
   try dsimp only at m0
   apply go 4
   refine zV (uE Zx LU An rfl rfl) ?_
   refine (go 6) (zR fun w1 v=>?_)
   have G:H=0->be=0:=D.1.first
   have v:=v.JX (p0=0) (zD.mk 0 0 0 bz n0 n0 n0) (m0.ne qD)
   exact v.rtA ((zD.mk 0 0 0 bz n0 n0 n0),j5,n,p0,D9) ⟨(Pz.Dc a1 (qs h3) Q D.1 (Pz.facW_no h5 h7 h8 qO m0)),qB,qB⟩
  apply go 6
  have G:H=0->be=0:=D.1.first
  have Q4:f2.size<=12:=Pz.DL (t:=⟨j4,n⟩) qB (D.1.ok_ (D.1.first (nn h4)) (nn h4))
  refine zn (sG [1,0,2]) rfl rfl call208 (fun _ _ o=>Wi o qO qO qO qO qO) ?_
  rintro ⟨x2,j7,m2,m7,x0⟩ d9
  try dsimp only at d9
  have K0:j7<=s.size:=d9.1.1
  have K8:=d9.2.1
  have K9:=d9.2.2
  have s6:m7=0->H=0:=d9.1.first
  refine (go 5) (zR fun w1 v=>?_)
  have v:=v.okI2 (m7=0) 1 rfl (fun A=>A)
  exact v.rtA (x2,j7,m2,m7,x0) ⟨(Pz.Dc a1 (qs h3) Q D.1 (Pz.XD h5 h7 h8 d9.1)),qB,qB⟩
 apply go 5
 refine zn (sG [0,1]) rfl rfl call136 (fun _ _ o=>Hn o qO qO) fun j8 r3=>?_
 obtain ⟨b1,C7,t6⟩:=r3
 apply go 14
 refine zn (sG [0,1]) rfl rfl call209 (fun _ _ o=>Ci o qO qO) ?_
 rintro ⟨J,j9,c2,n6⟩ I
 try dsimp only at I
 have B7:j9<=s.size:=I.1.1
 have t4:J.size<=2000:=I.2
 refine yv (.string J) ?_
 refine (go 1) (zl fun b9=>?_)
 apply go 5
 refine vV (yH 8 [0] rfl fun KS u=>?_)
 apply go 1
 refine zc u (zi 1 rfl fun B c=>zn (sG [1,0,2]) rfl rfl call135 (fun _ _ o=>Bt o) fun N7 I0=>?_)
 apply go 1
 refine kN c (yH 4 [2,3,4] rfl fun KS u=>?_)
 apply go 1
 refine qj (t:=82) rfl (fun A=>?_) (fun A=>?_)
 ·apply go 2
  refine zc u (zi 5 rfl fun B c=>vo Lg.CF (wg rfl rfl rfl) rfl call210 rfl (fun _ _=>Jv) fun A2 F4 P2 N1 M9=>?_)
  apply go 1
  refine kN c (zi 6 rfl fun B c=>yB call206 (wg rfl rfl rfl) rfl (fun _ v=>gO Lg.CF (AM AL v 0 rfl)) ?_)
  apply go 1
  refine kN c (yH 0 [7,8] rfl fun KS u=>?_)
  apply go 2
  refine zc u ?_
  refine zg q_3 ((go 1) (zQ (fun i4=>?_) fun i4=>?_))
  ·apply go 3
   refine zn (sG [1,0,2,3]) rfl rfl call137 (fun _ _ o=>CP o ) ?_
   rintro ⟨i7,o5⟩ d6
   try dsimp only at d6
   apply go 6
   refine zn (sG [0,1,2,3]) rfl rfl call135 (fun _ _ o=>Bt o) fun O3 L5=>?_
   apply go 3
   refine yh rfl (vM (d6.ne qD)) ?_
   refine (go 8) (zR fun w1 v=>?_)
   have G:H=0->be=0:=D.1.first
   have c9:c2=0->H=0:=I.1.first
   have v:=v.JX (i7=0) (zD.mk 3 0 0 J n0 n0 n0) (d6.ne qD)
   exact v.rtA ((zD.mk 3 0 0 J n0 n0 n0),j9,n,i7,o5) ⟨(Pz.Dc a1 (qs h3) Q D.1 (Pz.IB h7 (Pz.IA b1 I.1 (Pz.allW_no i4 qO d6)))),qB,qB⟩
  apply go 6
  refine zn (sG [1,0,2,3]) rfl rfl call135 (fun _ _ o=>Bt o) fun Q8 G5=>?_
  apply go 3
  refine yJ rfl (yq (fun g=>g A)) ?_
  apply go 5
  refine zn (sG [0,1,2,3]) rfl rfl call136 (fun _ _ o=>Hn o qO qO) fun r9 n5=>?_
  obtain ⟨f6,w4,F3⟩:=n5
  apply go 14
  refine zn (sG [0,1,2,3]) rfl rfl call204 (fun _ _ o=>RN o qO qO) ?_
  rintro ⟨i3,a0,T,d4⟩ V
  try dsimp only at V
  have B0:a0<=s.size:=V.1.1
  have w5:i3.size<=2000:=V.2
  refine yv (.string i3) ?_
  apply go 3
  refine c_seq2 fun t8 o2 P5 d1=>?_
  have b3:∀ (lB:List ByteArray) (jB:Nat) (b7:Int) (m8:Int) (l9:Value) (m5:∀ e r,Pz.Sim s b7 m8 (Pz.AO s (Pz.xpr s M) J lB ⟨jB,n⟩) e r->Pz.Sim s T d4 (Pz.byT s (Pz.xpr s M) r9 J i3 ⟨a0,n⟩) e r) (F0:jB<=s.size) (o6:b7=0->∀ x ∈ lB,x.size<=12) (f1:Pz.Fst T b7),∀ w9,Mem w ⟨AX [Wb 208 p s i n be ba],Pb⟩ [Row l9 9 1 Ac lB,Wb 208 p s jB n b7 m8,Row (.slice A2 Lg.CF.length F4) 9 1 Ac Lg.CF,.blk b9 [iV 3,iV 0,iV 0,.string J,Zs,l9,Zs] 59,.blk b4 Zx 59] w9->∀ a9,Has 167 [] a9 [(0,.pointer (some ⟨p,0,none⟩)),(1,iV d),(4,.pointer (some ⟨b4,0,none⟩)),(9,.pointer (some ⟨b9,0,none⟩))]->t8 a9 w9:=by
   intro lB jB b7 m8 l9 m5 F0 o6 f1
   refine o2 _ _ (yP 0 (l:=lB) rfl fun A3 i2 B4 O1 P1 Q2=>?_)
   subst B4
   apply go 3
   have G:H=0->be=0:=D.1.first
   have c9:c2=0->H=0:=I.1.first
   have r5:T=0->c2=0:=V.1.first
   have s3:b7=0->T=0:=f1.first
   refine zn (sG [1,0,2,3,4]) rfl rfl call203 (fun _ _ o=>Ee o qO qO qF) ?_
   rintro ⟨n9,c7,o1⟩ P
   try dsimp only at P
   have D1:n9<=s.size:=P.1
   have p7:c7=0->b7=0:=P.first
   apply go 7
   refine zn (sG [0,1,2,3,4]) rfl rfl call134 (fun w1 Pb o=>(ih M rfl) p s n9 n c7 o1 (d + 1) Pb w1 o qO qO qO qO qO qO) ?_
   rintro ⟨x3,x5,m3,h0,F9⟩ E
   try dsimp only at E
   have w7:x5<=s.size:=E.1.1
   have F5:=E.2.1
   have B1:=E.2.2
   have p2:h0=0->c7=0:=E.1.first
   refine zl fun O8=>?_
   apply go 6
   refine zn (sG [1,0,2,3,4,5,6]) rfl rfl call203 (fun _ _ o=>Ee o qO qO qF) ?_
   rintro ⟨f0,a7,l1⟩ F
   try dsimp only at F
   have x9:f0<=s.size:=F.1
   have p5:a7=0->h0=0:=F.first
   apply go 6
   refine zn (sG [0,1,2,3,4,5,6]) rfl rfl call135 (fun _ _ o=>Bt o) fun Q7 K7=>?_
   refine (go 3) (zQ (fun R=>?_) fun R=>?_)
   ·
    refine (go 8) (zR fun w1 v=>?_)
    have v:=v.JX (a7=0) (zD.mk 3 0 0 J n0 ⟨A3,i2,lB⟩ n0) R
    exact v.rtA ((zD.mk 3 0 0 J n0 ⟨A3,i2,lB⟩ n0),f0,m3,a7,l1) ⟨(Pz.Dc a1 (qs h3) Q D.1 (Pz.IB h7 (Pz.IA b1 I.1 (Pz.Mx i4 f6 V.1 (m5 _ _ (Pz.Sim.val (Pz.Ol P E.1 F (Pz.BQ.bad (r:=⟨f0,m3,a7,l1⟩) qB R rfl rfl)) R)))))),qB,qB⟩
   ·
    apply go 5
    refine zf yD ([x3]:List zD) wn underlying57 An rfl rfl rfl rfl qD qD rfl fun k6=>?_
    apply go 8
    have M2:f2.size<=12:=Pz.DL (t:=⟨j4,n⟩) qB (D.1.ok_ (D.1.first (nn h4)) (nn h4))
    have L9:J.size<=12:=Pz.Ak (t:=⟨j8,n⟩) qB (I.1.ok_ (I.1.first A) A)
    have O5:i3.size<=12:=Pz.DL (t:=⟨r9,n⟩) qB (V.1.ok_ (V.1.first (f1.first (P.first (E.1.first (F.first (nn R)))))) (f1.first (P.first (E.1.first (F.first (nn R))))))
    refine vc (fun _ h=>h.okOf 3 rfl (F.first (nn R))) ?_
    have D3:a7=0:=(nn R)
    have C5:h0=0:=(F.first (nn R))
    have C1:c7=0:=(E.1.first (F.first (nn R)))
    have C3:b7=0:=(P.first (E.1.first (F.first (nn R))))
    have x8:T=0:=(f1.first (P.first (E.1.first (F.first (nn R)))))
    have B5:c2=0:=A
    have s5:H=0:=(nn h4)
    have s9:be=0:=(nn h1)
    refine vW 5 2 AL rfl rfl (fp1) (vW 1 2 Ch rfl rfl (fp1) (vc (fun _ h=>h.ER (k:=3) (n:=0) (r:=0) (wd:=J) (ms:=n0) (bs:=⟨A3,i2,lB⟩) (ks:=⟨(some ⟨k6,0,none⟩),1,([x3]:List zD)⟩) fN pA pA (fun _ pp x hx=>by simp only [ya,List.not_mem_nil,or_false] at hx; rcases hx with rfl <;> first | exact pp.at_ 0 _ rfl) qF (fun x hx=>by cases hx) (fun x hx=>by have:=o6 (P.first (E.1.first (F.first (nn R)))) x hx; omega)) (zn (sG [3,0,1,2,4,5,6,7,8,9]) rfl rfl call174 (fun _ _ o=>Hp o qO qO qO) ?_)))
    rintro ⟨d3,r1⟩ c4
    try dsimp only at c4
    have E6:d3=0->m3 + 1<=100:=fun A=>by have h8:=(Pz.Bo.ok_ (Pz.CJ (s:=s) (t:=⟨f0,m3⟩) qB) (c4.ok_ (c4.first A) A)).Az (show m3<=100 by omega); exact h8
    have p8:d3=0->a7=0:=c4.first
    refine (go 4) (zR fun w1 v=>?_)
    have v:=v.okI1 (d3=0) 1 rfl
    exact v.rtA ((zD.mk 3 0 0 J n0 ⟨A3,i2,lB⟩ ⟨(some ⟨k6,0,none⟩),1,([x3]:List zD)⟩),f0,(m3 + 1),d3,r1) ⟨(Pz.Dc a1 (qs h3) Q D.1 (Pz.IB h7 (Pz.IA b1 I.1 (Pz.Mx i4 f6 V.1 (m5 _ _ (Pz.Ol P E.1 F c4)))))),qB,qB⟩
  apply go 3
  refine zn (sG [0,1,2,3]) rfl rfl call135 (fun _ _ o=>Bt o) fun N5 L0=>?_
  refine (go 1) (zm 106 (fun c3=>?_) fun c3=>?_)
  ·refine (go 4) (zm 110 (fun i6=>?_) fun i6=>?_)
   ·refine (go 5) (zQ (fun b2=>?_) fun b2=>?_)
    ·apply go 3
     refine zn (sG [0,1,2,3]) rfl rfl call137 (fun _ _ o=>CP o ) ?_
     rintro ⟨r0,p1⟩ b0
     try dsimp only at b0
     apply go 1
     refine qz d1 ?_
     apply go 3
     refine zn (sG [0,1,2,3]) rfl rfl call135 (fun _ _ o=>Bt o) fun P6 G0=>?_
     apply go 1
     refine jN (t:=119) rfl (b0.ne qD) ?_
     apply go 6
     refine uu (fun _ h=>h.uG ByteArray 9 1 Ac) ?_
     refine yW (kX (b3 [] a0 r0 p1 (Zs) (fun e r h=>Pz.Sim.over (Pz.Vf i6 b2 qO b0 (e:=.mk 0 0 0 bz [] [] [])) (b0.ne qD) h) qO (fun A=>absurd A (b0.ne qD)) (⟨fun A=>absurd A (b0.ne qD)⟩)))
    apply go 1
    refine qz d1 ?_
    apply go 3
    refine zn (sG [0,1,2,3]) rfl rfl call135 (fun _ _ o=>Bt o) fun O9 I5=>?_
    apply go 1
    refine jz (t:=119) rfl c3 ?_
    apply go 5
    refine yh rfl (vM (nn b2)) ?_
    apply go 1
    refine vV (uA 6 [0,2] [1,3] rfl fun KS u=>?_)
    apply go 2
    refine zc u (yR (f:=5) (i:=1) (j:=3) rfl q_3 ?_ ?_)
    ·refine yI (i:=1) rfl fun B c=>?_
     apply go 2
     refine kN c (zi 3 rfl fun B c=>zn (sG [0,1,2,3]) rfl rfl call209 (fun _ _ o=>Ci o qO qO) ?_)
     rintro ⟨b6,c6,d2,d5⟩ K
     try dsimp only at K
     have t2:c6<=s.size:=K.1.1
     have A0:b6.size<=2000:=K.2
     refine yv (.string b6) ?_
     apply go 1
     refine kN c (zi 4 rfl fun B c=>zf Ac ([b6]:List ByteArray) wn underlying56 BN rfl rfl rfl rfl qD qD rfl fun k4=>?_)
     apply go 1
     refine kN c (zi 5 rfl fun B c=>zr (Ac:ByteArray->List Value) 9 1 (zh 0 ([]:List ByteArray) ([b6]:List ByteArray) AL wn rfl rfl rfl (fun _ v=>(AM AL v 1 rfl)) underlying56 BN rfl rfl qQ rfl fun A4 B8 N6 M4 P0=>?_))
     apply go 1
     refine kN c (yH 1 [6] rfl fun KS u=>?_)
     apply go 1
     refine zc u (zi 7 rfl fun B c=>?_)
     apply go 2
     refine c _ _ mA ?_
     refine zg q_3 ((go 1) ?_)
     apply go 1
     refine qH (jE6 [0,1,4,9] fun (l:List ByteArray) (k:Nat) (Z:Int) (X:Int) (q:Nat) (rv:Value)=>[]) (jS6 fun l k Z X q rv=>[.s 0 (Row rv 9 1 Ac l),.s 2 (Wb 208 p s k n Z X),.s 4 (.blk b9 [iV 3,iV 0,iV 0,.string J,Zs,rv,Zs] 59)]) (fun l k Z X q rv=>(∀ b r,Pz.Sim s Z X (Pz.byL s (q + 1) l ⟨k,n⟩) b r->Pz.Sim s d2 d5 (Pz.byL s 5 [b6] ⟨c6,n⟩) b r)∧l.length + q=5∧l.length<=4∧k<=s.size) (fun l k Z X q rv=>q) (([]:List ByteArray)++([b6]:List ByteArray)) c6 d2 d5 4 (.slice A4 ((([]:List ByteArray)++([b6]:List ByteArray)).length) B8) ?_ (fun l k Z X q rv e9=>?_)
     ·exact ⟨fun _ _ h=>h,rfl,qS,qO⟩
     refine yP 0 (l:=l) rfl fun A5 r2 B9 N2 N0 M1=>?_
     subst B9
     apply go 4
     refine zn (sG [2,0,1,3,4,5]) rfl rfl call173 (fun _ _ o=>DI o qO qO qF) ?_
     rintro ⟨C2,i0⟩ a2
     try dsimp only at a2
     have t1:i0<=s.size:=a2.1
     refine yv (.bool C2) ?_
     refine (go 2) (yj (fun e0=>?_) fun e0=>?_)
     ·refine (go 12) (zQ (fun e8=>?_) fun e8=>?_)
      ·apply go 7
       refine zn (sG [0,1,2,3,4,5]) rfl rfl call137 (fun _ _ o=>CP o ) ?_
       rintro ⟨k3,k7⟩ k9
       try dsimp only at k9
       apply go 2
       have m:Pz.Sim s d2 d5 (Pz.byL s 5 [b6] ⟨c6,n⟩) l ⟨i0,n,k3,k7⟩:=Pz.OQ e9.1 a2 e0 e8 qO k9
       refine yS (zw (vF rfl (va (zx (kX (b3 l i0 k3 k7 (.slice A5 l.length r2) (fun e r h=>Pz.JC (nn b2) K.1 m h) qO (fun A=>Pz.Cz 5 (t:=⟨c6,n⟩) qB (m.ok_ (m.first A) A) (fun y hy=>by rw [yf.1 hy]; exact Pz.Ak (t:=⟨a0,n⟩) qB (K.1.ok_ (K.1.first (m.first A)) (m.first A)))) (⟨fun A=>K.1.first (m.first A)⟩)))))))
      apply go 2
      refine vV (uA 6 [0,2] [2,3,5] rfl fun KS u=>?_)
      apply go 2
      refine zc u (yR (f:=5) (i:=1) (j:=3) rfl q_3 ?_ ?_)
      ·refine yI (i:=1) rfl fun B c=>?_
       apply go 2
       refine kN c (zi 3 rfl fun B c=>zn (sG [0,1,2,3,4,5]) rfl rfl call209 (fun _ _ o=>Ci o qO qO) ?_)
       rintro ⟨e4,s2,p3,p4⟩ d0
       try dsimp only at d0
       have C8:s2<=s.size:=d0.1.1
       have D0:e4.size<=2000:=d0.2
       refine yv (.string e4) ?_
       apply go 1
       refine kN c (zi 4 rfl fun B c=>zf Ac ([e4]:List ByteArray) wn underlying56 BN rfl rfl rfl rfl qD qD rfl fun Y=>?_)
       apply go 1
       refine kN c (zi 5 rfl fun B c=>zh 2 l ([e4]:List ByteArray) AL wn rfl rfl rfl (fun _ v=>(AM AL v 0 rfl)) underlying56 BN rfl rfl qQ rfl fun A6 B2 P7 M6 Q5=>?_)
       apply go 1
       refine kN c (yH 1 [6] rfl fun KS u=>?_)
       apply go 1
       refine zc u (zi 7 rfl fun B c=>?_)
       apply go 2
       refine kN c (zg q_3 (zj (vx (l++([e4]:List ByteArray)) s2 p3 p4 (q - 1) (.slice A6 ((l++([e4]:List ByteArray)).length) B2) ?_ ?_)))
       ·exact ⟨by rw [show q - 1 + 1=q by omega]; exact Pz.EZ e9.1 a2 e0 e8 d0.1,qQ,qQ,qO⟩
       omega
      refine yI (i:=3) rfl fun B c=>zn (sG [0,1,2,3,4,5]) rfl rfl call209 (fun _ _ o=>Ci o qO qO) ?_
      rintro ⟨a6,m4,i8,l0⟩ c1
      try dsimp only at c1
      have E2:m4<=s.size:=c1.1.1
      have C9:a6.size<=2000:=c1.2
      refine yv (.string a6) ?_
      apply go 1
      refine kN c (yR (f:=4) (i:=1) (j:=4) rfl q_3 ?_ ?_)
      ·refine yI (i:=1) rfl fun B c=>?_
       apply go 2
       refine kN c (zi 4 rfl fun B c=>zf Ac ([a6]:List ByteArray) wn underlying56 BN rfl rfl rfl rfl qD qD rfl fun Y=>?_)
       apply go 1
       refine kN c (zi 5 rfl fun B c=>zh 2 l ([a6]:List ByteArray) AL wn rfl rfl rfl (fun _ v=>(AM AL v 0 rfl)) underlying56 BN rfl rfl qQ rfl fun A7 x6 Q0 M5 N9=>?_)
       apply go 1
       refine kN c (yH 1 [6] rfl fun KS u=>?_)
       apply go 1
       refine zc u (zi 7 rfl fun B c=>?_)
       apply go 2
       refine kN c (zg q_3 (zj (vx (l++([a6]:List ByteArray)) m4 i8 l0 (q - 1) (.slice A7 ((l++([a6]:List ByteArray)).length) x6) ?_ ?_)))
       ·exact ⟨by rw [show q - 1 + 1=q by omega]; exact Pz.EZ e9.1 a2 e0 e8 c1.1,qQ,qQ,qO⟩
       omega
      refine yI (i:=4) rfl fun B c=>zf Ac ([a6]:List ByteArray) wn underlying56 BN rfl rfl rfl rfl qD qD rfl fun Y=>?_
      apply go 1
      refine kN c (zi 1 rfl fun B c=>?_)
      apply go 2
      refine kN c (zi 5 rfl fun B c=>zh 2 l ([a6]:List ByteArray) AL wn rfl rfl rfl (fun _ v=>(AM AL v 0 rfl)) underlying56 BN rfl rfl qQ rfl fun A8 w3 O6 O4 Q3=>?_)
      apply go 1
      refine kN c (yH 1 [6] rfl fun KS u=>?_)
      apply go 1
      refine zc u (zi 7 rfl fun B c=>?_)
      apply go 2
      refine kN c (zg q_3 (zj (vx (l++([a6]:List ByteArray)) m4 i8 l0 (q - 1) (.slice A8 ((l++([a6]:List ByteArray)).length) w3) ?_ ?_)))
      ·exact ⟨by rw [show q - 1 + 1=q by omega]; exact Pz.EZ e9.1 a2 e0 e8 c1.1,qQ,qQ,qO⟩
      omega
     have m:Pz.Sim s d2 d5 (Pz.byL s 5 [b6] ⟨c6,n⟩) l ⟨i0,n,Z,X⟩:=Pz.OL e9.1 a2 (qs e0)
     refine yS (zw (va (zx (kX (b3 l i0 Z X (.slice A5 l.length r2) (fun e r h=>Pz.JC (nn b2) K.1 m h) qO (fun A=>Pz.Cz 5 (t:=⟨c6,n⟩) qB (m.ok_ (m.first A) A) (fun y hy=>by rw [yf.1 hy]; exact Pz.Ak (t:=⟨a0,n⟩) qB (K.1.ok_ (K.1.first (m.first A)) (m.first A)))) (⟨fun A=>K.1.first (m.first A)⟩))))))
    refine yI (i:=3) rfl fun B c=>zn (sG [0,1,2,3]) rfl rfl call209 (fun _ _ o=>Ci o qO qO) ?_
    rintro ⟨L,S,W,U⟩ C
    try dsimp only at C
    have E8:S<=s.size:=C.1.1
    have t7:L.size<=2000:=C.2
    refine yv (.string L) ?_
    apply go 1
    refine kN c (yR (f:=4) (i:=1) (j:=4) rfl q_3 ?_ ?_)
    ·refine yI (i:=1) rfl fun B c=>?_
     apply go 2
     refine kN c (zi 4 rfl fun B c=>zf Ac ([L]:List ByteArray) wn underlying56 BN rfl rfl rfl rfl qD qD rfl fun k4=>?_)
     apply go 1
     refine kN c (zi 5 rfl fun B c=>zr (Ac:ByteArray->List Value) 9 1 (zh 0 ([]:List ByteArray) ([L]:List ByteArray) AL wn rfl rfl rfl (fun _ v=>(AM AL v 1 rfl)) underlying56 BN rfl rfl qQ rfl fun A9 w6 N8 O0 N3=>?_))
     apply go 1
     refine kN c (yH 1 [6] rfl fun KS u=>?_)
     apply go 1
     refine zc u (zi 7 rfl fun B c=>?_)
     apply go 2
     refine c _ _ mA ?_
     refine zg q_3 ((go 1) ?_)
     apply go 1
     refine qH (jE6 [0,1,4,9] fun (l:List ByteArray) (k:Nat) (Z:Int) (X:Int) (q:Nat) (rv:Value)=>[]) (jS6 fun l k Z X q rv=>[.s 0 (Row rv 9 1 Ac l),.s 2 (Wb 208 p s k n Z X),.s 4 (.blk b9 [iV 3,iV 0,iV 0,.string J,Zs,rv,Zs] 59)]) (fun l k Z X q rv=>(∀ b r,Pz.Sim s Z X (Pz.byL s (q + 1) l ⟨k,n⟩) b r->Pz.Sim s W U (Pz.byL s 5 [L] ⟨S,n⟩) b r)∧l.length + q=5∧l.length<=4∧k<=s.size) (fun l k Z X q rv=>q) (([]:List ByteArray)++([L]:List ByteArray)) S W U 4 (.slice A9 ((([]:List ByteArray)++([L]:List ByteArray)).length) w6) ?_ (fun l k Z X q rv f9=>?_)
     ·exact ⟨fun _ _ h=>h,rfl,qS,qO⟩
     refine yP 0 (l:=l) rfl fun o9 k2 t3 L7 H2 L6=>?_
     subst t3
     apply go 4
     refine zn (sG [2,0,1,3,4,5]) rfl rfl call173 (fun _ _ o=>DI o qO qO qF) ?_
     rintro ⟨D5,e7⟩ a4
     try dsimp only at a4
     have x4:e7<=s.size:=a4.1
     refine yv (.bool D5) ?_
     refine (go 2) (yj (fun e3=>?_) fun e3=>?_)
     ·refine (go 12) (zQ (fun f3=>?_) fun f3=>?_)
      ·apply go 7
       refine zn (sG [0,1,2,3,4,5]) rfl rfl call137 (fun _ _ o=>CP o ) ?_
       rintro ⟨k5,i9⟩ l2
       try dsimp only at l2
       apply go 2
       have m:Pz.Sim s W U (Pz.byL s 5 [L] ⟨S,n⟩) l ⟨e7,n,k5,i9⟩:=Pz.OQ f9.1 a4 e3 f3 qO l2
       refine yS (zw (vF rfl (va (zx (kX (b3 l e7 k5 i9 (.slice o9 l.length k2) (fun e r h=>Pz.JC (nn b2) C.1 m h) qO (fun A=>Pz.Cz 5 (t:=⟨S,n⟩) qB (m.ok_ (m.first A) A) (fun y hy=>by rw [yf.1 hy]; exact Pz.Ak (t:=⟨a0,n⟩) qB (C.1.ok_ (C.1.first (m.first A)) (m.first A)))) (⟨fun A=>C.1.first (m.first A)⟩)))))))
      apply go 2
      refine vV (uA 6 [0,2] [2,3,5] rfl fun KS u=>?_)
      apply go 2
      refine zc u (yR (f:=5) (i:=1) (j:=3) rfl q_3 ?_ ?_)
      ·refine yI (i:=1) rfl fun B c=>?_
       apply go 2
       refine kN c (zi 3 rfl fun B c=>zn (sG [0,1,2,3,4,5]) rfl rfl call209 (fun _ _ o=>Ci o qO qO) ?_)
       rintro ⟨d8,o7,p6,n8⟩ d7
       try dsimp only at d7
       have D8:o7<=s.size:=d7.1.1
       have D6:d8.size<=2000:=d7.2
       refine yv (.string d8) ?_
       apply go 1
       refine kN c (zi 4 rfl fun B c=>zf Ac ([d8]:List ByteArray) wn underlying56 BN rfl rfl rfl rfl qD qD rfl fun Y=>?_)
       apply go 1
       refine kN c (zi 5 rfl fun B c=>zh 2 l ([d8]:List ByteArray) AL wn rfl rfl rfl (fun _ v=>(AM AL v 0 rfl)) underlying56 BN rfl rfl qQ rfl fun C4 o3 G7 H0 L1=>?_)
       apply go 1
       refine kN c (yH 1 [6] rfl fun KS u=>?_)
       apply go 1
       refine zc u (zi 7 rfl fun B c=>?_)
       apply go 2
       refine kN c (zg q_3 (zj (vx (l++([d8]:List ByteArray)) o7 p6 n8 (q - 1) (.slice C4 ((l++([d8]:List ByteArray)).length) o3) ?_ ?_)))
       ·exact ⟨by rw [show q - 1 + 1=q by omega]; exact Pz.EZ f9.1 a4 e3 f3 d7.1,qQ,qQ,qO⟩
       omega
      refine yI (i:=3) rfl fun B c=>zn (sG [0,1,2,3,4,5]) rfl rfl call209 (fun _ _ o=>Ci o qO qO) ?_
      rintro ⟨a5,l8,l5,k8⟩ c0
      try dsimp only at c0
      have B3:l8<=s.size:=c0.1.1
      have t9:a5.size<=2000:=c0.2
      refine yv (.string a5) ?_
      apply go 1
      refine kN c (yR (f:=4) (i:=1) (j:=4) rfl q_3 ?_ ?_)
      ·refine yI (i:=1) rfl fun B c=>?_
       apply go 2
       refine kN c (zi 4 rfl fun B c=>zf Ac ([a5]:List ByteArray) wn underlying56 BN rfl rfl rfl rfl qD qD rfl fun Y=>?_)
       apply go 1
       refine kN c (zi 5 rfl fun B c=>zh 2 l ([a5]:List ByteArray) AL wn rfl rfl rfl (fun _ v=>(AM AL v 0 rfl)) underlying56 BN rfl rfl qQ rfl fun w2 n7 F7 I2 G2=>?_)
       apply go 1
       refine kN c (yH 1 [6] rfl fun KS u=>?_)
       apply go 1
       refine zc u (zi 7 rfl fun B c=>?_)
       apply go 2
       refine kN c (zg q_3 (zj (vx (l++([a5]:List ByteArray)) l8 l5 k8 (q - 1) (.slice w2 ((l++([a5]:List ByteArray)).length) n7) ?_ ?_)))
       ·exact ⟨by rw [show q - 1 + 1=q by omega]; exact Pz.EZ f9.1 a4 e3 f3 c0.1,qQ,qQ,qO⟩
       omega
      refine yI (i:=4) rfl fun B c=>zf Ac ([a5]:List ByteArray) wn underlying56 BN rfl rfl rfl rfl qD qD rfl fun Y=>?_
      apply go 1
      refine kN c (zi 1 rfl fun B c=>?_)
      apply go 2
      refine kN c (zi 5 rfl fun B c=>zh 2 l ([a5]:List ByteArray) AL wn rfl rfl rfl (fun _ v=>(AM AL v 0 rfl)) underlying56 BN rfl rfl qQ rfl fun F1 r4 G6 H9 G9=>?_)
      apply go 1
      refine kN c (yH 1 [6] rfl fun KS u=>?_)
      apply go 1
      refine zc u (zi 7 rfl fun B c=>?_)
      apply go 2
      refine kN c (zg q_3 (zj (vx (l++([a5]:List ByteArray)) l8 l5 k8 (q - 1) (.slice F1 ((l++([a5]:List ByteArray)).length) r4) ?_ ?_)))
      ·exact ⟨by rw [show q - 1 + 1=q by omega]; exact Pz.EZ f9.1 a4 e3 f3 c0.1,qQ,qQ,qO⟩
      omega
     have m:Pz.Sim s W U (Pz.byL s 5 [L] ⟨S,n⟩) l ⟨e7,n,Z,X⟩:=Pz.OL f9.1 a4 (qs e3)
     refine yS (zw (va (zx (kX (b3 l e7 Z X (.slice o9 l.length k2) (fun e r h=>Pz.JC (nn b2) C.1 m h) qO (fun A=>Pz.Cz 5 (t:=⟨S,n⟩) qB (m.ok_ (m.first A) A) (fun y hy=>by rw [yf.1 hy]; exact Pz.Ak (t:=⟨a0,n⟩) qB (C.1.ok_ (C.1.first (m.first A)) (m.first A)))) (⟨fun A=>C.1.first (m.first A)⟩))))))
    refine yI (i:=4) rfl fun B c=>zf Ac ([L]:List ByteArray) wn underlying56 BN rfl rfl rfl rfl qD qD rfl fun k4=>?_
    apply go 1
    refine kN c (zi 1 rfl fun B c=>?_)
    apply go 2
    refine kN c (zi 5 rfl fun B c=>zr (Ac:ByteArray->List Value) 9 1 (zh 0 ([]:List ByteArray) ([L]:List ByteArray) AL wn rfl rfl rfl (fun _ v=>(AM AL v 1 rfl)) underlying56 BN rfl rfl qQ rfl fun t5 r8 H7 I7 H6=>?_))
    apply go 1
    refine kN c (yH 1 [6] rfl fun KS u=>?_)
    apply go 1
    refine zc u (zi 7 rfl fun B c=>?_)
    apply go 2
    refine c _ _ mA ?_
    refine zg q_3 ((go 1) ?_)
    apply go 1
    refine qH (jE6 [0,1,4,9] fun (l:List ByteArray) (k:Nat) (Z:Int) (X:Int) (q:Nat) (rv:Value)=>[]) (jS6 fun l k Z X q rv=>[.s 0 (Row rv 9 1 Ac l),.s 2 (Wb 208 p s k n Z X),.s 4 (.blk b9 [iV 3,iV 0,iV 0,.string J,Zs,rv,Zs] 59)]) (fun l k Z X q rv=>(∀ b r,Pz.Sim s Z X (Pz.byL s (q + 1) l ⟨k,n⟩) b r->Pz.Sim s W U (Pz.byL s 5 [L] ⟨S,n⟩) b r)∧l.length + q=5∧l.length<=4∧k<=s.size) (fun l k Z X q rv=>q) (([]:List ByteArray)++([L]:List ByteArray)) S W U 4 (.slice t5 ((([]:List ByteArray)++([L]:List ByteArray)).length) r8) ?_ (fun l k Z X q rv f4=>?_)
    ·exact ⟨fun _ _ h=>h,rfl,qS,qO⟩
    refine yP 0 (l:=l) rfl fun s1 l3 B6 G4 L2 I9=>?_
    subst B6
    apply go 4
    refine zn (sG [2,0,1,3,4,5]) rfl rfl call173 (fun _ _ o=>DI o qO qO qF) ?_
    rintro ⟨F2,e6⟩ a3
    try dsimp only at a3
    have D2:e6<=s.size:=a3.1
    refine yv (.bool F2) ?_
    refine (go 2) (yj (fun e2=>?_) fun e2=>?_)
    ·refine (go 12) (zQ (fun f8=>?_) fun f8=>?_)
     ·apply go 7
      refine zn (sG [0,1,2,3,4,5]) rfl rfl call137 (fun _ _ o=>CP o ) ?_
      rintro ⟨l6,k0⟩ l7
      try dsimp only at l7
      apply go 2
      have m:Pz.Sim s W U (Pz.byL s 5 [L] ⟨S,n⟩) l ⟨e6,n,l6,k0⟩:=Pz.OQ f4.1 a3 e2 f8 qO l7
      refine yS (zw (vF rfl (va (zx (kX (b3 l e6 l6 k0 (.slice s1 l.length l3) (fun e r h=>Pz.JC (nn b2) C.1 m h) qO (fun A=>Pz.Cz 5 (t:=⟨S,n⟩) qB (m.ok_ (m.first A) A) (fun y hy=>by rw [yf.1 hy]; exact Pz.Ak (t:=⟨a0,n⟩) qB (C.1.ok_ (C.1.first (m.first A)) (m.first A)))) (⟨fun A=>C.1.first (m.first A)⟩)))))))
     apply go 2
     refine vV (uA 6 [0,2] [2,3,5] rfl fun KS u=>?_)
     apply go 2
     refine zc u (yR (f:=5) (i:=1) (j:=3) rfl q_3 ?_ ?_)
     ·refine yI (i:=1) rfl fun B c=>?_
      apply go 2
      refine kN c (zi 3 rfl fun B c=>zn (sG [0,1,2,3,4,5]) rfl rfl call209 (fun _ _ o=>Ci o qO qO) ?_)
      rintro ⟨a8,o0,r6,n4⟩ c8
      try dsimp only at c8
      have C0:o0<=s.size:=c8.1.1
      have E0:a8.size<=2000:=c8.2
      refine yv (.string a8) ?_
      apply go 1
      refine kN c (zi 4 rfl fun B c=>zf Ac ([a8]:List ByteArray) wn underlying56 BN rfl rfl rfl rfl qD qD rfl fun Y=>?_)
      apply go 1
      refine kN c (zi 5 rfl fun B c=>zh 2 l ([a8]:List ByteArray) AL wn rfl rfl rfl (fun _ v=>(AM AL v 0 rfl)) underlying56 BN rfl rfl qQ rfl fun E9 o8 K5 L8 H5=>?_)
      apply go 1
      refine kN c (yH 1 [6] rfl fun KS u=>?_)
      apply go 1
      refine zc u (zi 7 rfl fun B c=>?_)
      apply go 2
      refine kN c (zg q_3 (zj (vx (l++([a8]:List ByteArray)) o0 r6 n4 (q - 1) (.slice E9 ((l++([a8]:List ByteArray)).length) o8) ?_ ?_)))
      ·exact ⟨by rw [show q - 1 + 1=q by omega]; exact Pz.EZ f4.1 a3 e2 f8 c8.1,qQ,qQ,qO⟩
      omega
     refine yI (i:=3) rfl fun B c=>zn (sG [0,1,2,3,4,5]) rfl rfl call209 (fun _ _ o=>Ci o qO qO) ?_
     rintro ⟨O,n1,k1,l4⟩ b8
     try dsimp only at b8
     have w0:n1<=s.size:=b8.1.1
     have D4:O.size<=2000:=b8.2
     refine yv (.string O) ?_
     apply go 1
     refine kN c (yR (f:=4) (i:=1) (j:=4) rfl q_3 ?_ ?_)
     ·refine yI (i:=1) rfl fun B c=>?_
      apply go 2
      refine kN c (zi 4 rfl fun B c=>zf Ac ([O]:List ByteArray) wn underlying56 BN rfl rfl rfl rfl qD qD rfl fun Y=>?_)
      apply go 1
      refine kN c (zi 5 rfl fun B c=>zh 2 l ([O]:List ByteArray) AL wn rfl rfl rfl (fun _ v=>(AM AL v 0 rfl)) underlying56 BN rfl rfl qQ rfl fun E1 p9 I4 K3 H1=>?_)
      apply go 1
      refine kN c (yH 1 [6] rfl fun KS u=>?_)
      apply go 1
      refine zc u (zi 7 rfl fun B c=>?_)
      apply go 2
      refine kN c (zg q_3 (zj (vx (l++([O]:List ByteArray)) n1 k1 l4 (q - 1) (.slice E1 ((l++([O]:List ByteArray)).length) p9) ?_ ?_)))
      ·exact ⟨by rw [show q - 1 + 1=q by omega]; exact Pz.EZ f4.1 a3 e2 f8 b8.1,qQ,qQ,qO⟩
      omega
     refine yI (i:=4) rfl fun B c=>zf Ac ([O]:List ByteArray) wn underlying56 BN rfl rfl rfl rfl qD qD rfl fun Y=>?_
     apply go 1
     refine kN c (zi 1 rfl fun B c=>?_)
     apply go 2
     refine kN c (zi 5 rfl fun B c=>zh 2 l ([O]:List ByteArray) AL wn rfl rfl rfl (fun _ v=>(AM AL v 0 rfl)) underlying56 BN rfl rfl qQ rfl fun E5 n3 K6 I3 L3=>?_)
     apply go 1
     refine kN c (yH 1 [6] rfl fun KS u=>?_)
     apply go 1
     refine zc u (zi 7 rfl fun B c=>?_)
     apply go 2
     refine kN c (zg q_3 (zj (vx (l++([O]:List ByteArray)) n1 k1 l4 (q - 1) (.slice E5 ((l++([O]:List ByteArray)).length) n3) ?_ ?_)))
     ·exact ⟨by rw [show q - 1 + 1=q by omega]; exact Pz.EZ f4.1 a3 e2 f8 b8.1,qQ,qQ,qO⟩
     omega
    have m:Pz.Sim s W U (Pz.byL s 5 [L] ⟨S,n⟩) l ⟨e6,n,Z,X⟩:=Pz.OL f4.1 a3 (qs e2)
    refine yS (zw (va (zx (kX (b3 l e6 Z X (.slice s1 l.length l3) (fun e r h=>Pz.JC (nn b2) C.1 m h) qO (fun A=>Pz.Cz 5 (t:=⟨S,n⟩) qB (m.ok_ (m.first A) A) (fun y hy=>by rw [yf.1 hy]; exact Pz.Ak (t:=⟨a0,n⟩) qB (C.1.ok_ (C.1.first (m.first A)) (m.first A)))) (⟨fun A=>C.1.first (m.first A)⟩))))))
   apply go 7
   refine qz d1 ?_
   apply go 3
   refine zn (sG [0,1,2,3]) rfl rfl call135 (fun _ _ o=>Bt o) fun O2 G8=>?_
   apply go 1
   refine jz (t:=119) rfl c3 ?_
   apply go 5
   refine yJ rfl (yq (by rw [nn i6]; decide)) (uu (fun _ h=>h.uG ByteArray 9 1 Ac) ?_)
   refine yW (kX (b3 [] a0 T d4 (Zs) (fun e r h=>Pz.Wc (nn i6) h) qO (fun _ y hy=>by cases hy) (⟨fun A=>A⟩)))
  apply go 11
  refine qz d1 ?_
  apply go 3
  refine zn (sG [0,1,2,3]) rfl rfl call135 (fun _ _ o=>Bt o) fun M7 K4=>?_
  apply go 1
  refine jN (t:=119) rfl c3 ?_
  apply go 6
  refine uu (fun _ h=>h.uG ByteArray 9 1 Ac) ?_
  refine yW (kX (b3 [] a0 T d4 (Zs) (fun e r h=>Pz.Sim.over (Pz.Sim.bad (r:=⟨a0,n,T,d4⟩) (a:=.mk 0 0 0 bz [] [] []) qB (c3) rfl rfl) (c3) h) qO (fun A=>absurd A (c3)) (⟨fun A=>absurd A (c3)⟩)))
 apply go 2
 refine zc u (zi 5 rfl fun B c=>?_)
 apply go 2
 refine kN c (zi 6 rfl fun B c=>?_)
 apply go 2
 refine kN c (yH 0 [7,8] rfl fun KS u=>?_)
 apply go 2
 refine zc u ?_
 refine zg q_3 ((go 1) ?_)
 apply go 7
 refine zn (sG [0,1,2]) rfl rfl call135 (fun _ _ o=>Bt o) fun P4 H3=>?_
 apply go 3
 refine yh rfl (vM A) ?_
 refine (go 8) (zR fun w1 v=>?_)
 have G:H=0->be=0:=D.1.first
 have c9:c2=0->H=0:=I.1.first
 have v:=v.JX (c2=0) (zD.mk 3 0 0 J n0 n0 n0) A
 exact v.rtA ((zD.mk 3 0 0 J n0 n0 n0),j9,n,c2,n6) ⟨(Pz.Dc a1 (qs h3) Q D.1 (Pz.IB h7 (Pz.IA b1 I.1 ((Pz.Sim.bad (r:=⟨j9,n,c2,n6⟩) qB A rfl rfl))))),qB,qB⟩
theorem TD {N:Nat} (f:FacR N):FacS N:=fun p s i n k l d j w c hi e h b g a=>w_sum2 N c hi e h b g a f
theorem Tu {N:Nat} (f:FacS N):TrmR N:=fun p s i n k l d j w c hi e h b g a=>w_sum1 N c hi e h b g a f
theorem Sz {N:Nat} (f:TrmR N):XprR N:=fun p s i n k l d j w c hi e h b g a=>w_sum0 N c hi e h b g a f
theorem Pk:∀ N,FacR N
  | 0=>fun p s i n be ba d Pb w hG hi hs hn hne hd hd1=>Qn 0 hG hi hs hn hne hd hd1 (fun M h=>by omega)
  | N + 1=>fun p s i n be ba d Pb w hG hi hs hn hne hd hd1=>Qn (N + 1) hG hi hs hn hne hd hd1 (fun M h=>by obtain rfl:N=M:=qO; exact Sz (Tu (TD (Pk N))))
theorem VB (N:Nat):XprR N:=Sz (Tu (TD (Pk N)))
def je (e:zD):Prop:=∀ (P0:Nat->Prop) (w:World) (hP0:∀ b,P0 b->b < w.heap.size) (he:zD.Ok P0 e w) (hb:Pz.depth e.e<=1000),
    Calls prog 138 #[.agg (yD e).toArray] w (Ret w (iV (Pz.depth e.e)))
theorem LF (e:zD) (Q:∀ k:zD,SizeOf.sizeOf k < SizeOf.sizeOf e->je k):je e:=by
  intro P0 w u he Z
  have c:=he.wf
  refine Gv (N:=23) (Bh:=[.agg (yD e).toArray]) (S:=Mem w ⟨no,P0⟩ [okP zD.Ok e]) func138 rfl rfl rfl (Mem.AT u (dc (dp (zD.Ok.loc _) he) dn)) (ze fun K1 y=>zU (gt wn rfl rfl fun I=>y8 rfl (yQ y (ze fun K2 C=>zU (y8 rfl (yQ C (ze fun K3 B=>ze fun K4 s=>?_)))))))
  refine zU (zV (vk rfl CZ) (zV (vZ 0 rfl rfl rfl DR) (zV (ur rfl underlying57) (yt rfl (yQ s (vH (u5 (fun (k:Nat) (m:Int)=>[(3,iV m),(8,e.kids.v),(9,iV e.kids.l.length),(10,iV k)]) (fun (k:Nat) (m:Int)=>[.blk I [iV e.kind,iV e.n,iV e.range,.string e.word,e.ms.v,e.by_.v,e.kids.v] 59,okP zD.Ok e]) (fun (k:Nat) (m:Int)=>k<=e.kids.l.length∧m=Pz.BU ((e.kids.l.take k).map zD.e)) (fun (k:Nat) (m:Int)=>e.kids.l.length - k) 0 0 (kS3 (sc (ji qO) sn)) (fun _ h=>h) ?_ (fun k m d=>?_))))))))
  · exact ⟨qO,rfl⟩
  ·
    have H:=Pz.Di ((e.kids.l.take k).map zD.e)
    refine ze fun K5 p=>zU (zV (jE rfl rfl) (yQ p (ze fun K6 A=>yg rfl (fun J=>?_) (fun J=>?_))))
    ·
      refine uw A (ze fun K7 g=>vH (ze fun K8 D=>zU (zZ (fun _ h=>h.DK 1 rfl) ?_)))
      obtain ⟨K,M,R⟩:=c.ms
      obtain ⟨F,T,U⟩:=c.by_
      obtain ⟨P,Y,t⟩:=c.kids
      obtain ⟨G,j⟩:=t (ne_nil (i:=k) qI)
      refine zV (vO (i:=k) rfl j rfl qO qI underlying57 An) ?_
      obtain ⟨a,b⟩:∃ x,e.kids.l[k]?=some x:=⟨_,vA qI⟩
      refine zV (js 2 [iV a.kind,iV a.n,iV a.range,.string a.word,a.ms.v,a.by_.v,a.kids.v] rfl rfl j b rfl rfl EH An) (u4 wn An rfl fun b5=>jd 0 wn rfl rfl rfl An rfl rfl rfl (yQ D (ze fun K9 z=>zU (zV (gh 0 [iV a.kind,iV a.n,iV a.range,.string a.word,a.ms.v,a.by_.v,a.kids.v] rfl rfl rfl rfl EH An) ?_))))
      have a0:=c.all _ (vQ b)
      refine zZ (fun _ h=>h.one 4 zD.Ok.loc rfl b) (vn wn rfl call138 rfl (fun q r=>Q a (zD.Ek (vQ b)) (In q) q (fun _ h=>h) (r.yU (i:=0) rfl) (by have:=Pz.Uk (vQ b); omega)) (y8 rfl (yQ z (ze fun E o=>zU (yt rfl (yt rfl (zV (jV rfl rfl) (yQ o (yg rfl (fun L=>?_) (fun L=>?_))))))))))
      ·
        refine zU (yt rfl (y8 rfl (zK (zj (uo g (zU (zV (vf rfl rfl qO) (yt rfl (zK (jF (k + 1) (Pz.depth a.e) (kS3 (sc (ji qO) sn)) (S9 [6,7]) ?_ ?_))))))))))
        · exact ⟨qO,by rw [Pz.Jt b]; split <;> omega⟩
        · omega
      ·
        refine yW (zj (uo g (zU (zV (vf rfl rfl qO) (yt rfl (zK (jF (k + 1) m (kS3 (sc (ji qO) sn)) (S9 [6,7]) ?_ ?_)))))))
        · exact ⟨qO,by rw [Pz.Jt b]; split <;> omega⟩
        · omega
    ·
      refine yS (zw (uR (zx (uo B (ze fun O f=>zU ?_)))))
      have W:Pz.BU (e.kids.l.map zD.e) + 1<=1000:=by rw [<-Pz.Od]; exact Z
      rw [vg qO] at d
      have X:=Pz.Di (e.kids.l.map zD.e)
      have V:=d.2
      refine yt rfl (zV (vf rfl rfl qO) (y8 rfl (yQ f (vK (yo (.inl rfl) results138 (yn rfl) fun q r=>?_)))))
      exact zL (congrArg (Value.int .i64) (by rw [Pz.Od,d.2])) r
theorem UW (e:zD):je e:=NU LF e
theorem Ru {s:ByteArray} (P0:Nat->Prop) {w:World} (C:∀ b,P0 b->b < w.heap.size)  :
    Calls prog 83 #[.string s] w (FU w P0 (fun z:zD × Pz.F=>.tuple #[.agg (yD z.1).toArray,.agg #[iV z.2.1,iV z.2.2]]) (fun z=>Pz.parse s=(z.1.e,z.2)) (fun z S=>zD.Ok S z.1)):=by
 refine zp func83 (Mem.AT C dn) ?_;refine (go 2) (zl fun b2=>zl fun b3=>?_);refine (go 10) (zQ (fun u=>?_) fun u=>?_);apply go 2;refine zV (uE Zx LU An rfl rfl) ?_;refine (go 7) (yE fun j k=>?_);exact k.uL ((zD.mk 0 0 0 bz n0 n0 n0),(4,0)) rfl (Pz.Mz u) fun n x=>Pz.Gh n j;refine (go 6) (yw fun A=>?_);apply go 6;refine zn (sG [0,1,2]) rfl rfl call134 (fun j n a=>(VB 20) A s 0 0 0 0 1 n j a qO qO qO qO qO qO) ?_;rintro ⟨J,R,m1,E,G⟩ d;have M:R<=s.size:=d.1.1;have I:=d.2.1;have v:=d.2.2;refine zl fun b5=>?_;apply go 7;refine zn (sG [1,0,2,3,4]) rfl rfl call135 (fun _ _ a=>Bt a) fun z2 a0=>?_;refine (go 2) (zQ (fun f=>?_) fun f=>?_);apply go 3;refine zn (sG [0,1,2,3,4]) rfl rfl call136 (fun _ _ a=>Hn a qO qO) fun P D=>?_;obtain ⟨m,L,N⟩:=D;refine (go 13) (zQ (fun h3=>?_) fun h3=>?_);apply go 6;refine zn (sG [0,1,2,3,4]) rfl rfl call137 (fun _ _ a=>CP a ) ?_;rintro ⟨a2,V⟩ p;apply go 6;refine zn (sG [0,1,2,3,4]) rfl rfl call135 (fun _ _ a=>Bt a) fun z4 Y=>?_;apply go 1;refine jN (t:=35) rfl (p.ne qD) ?_;apply go 13;refine zn (sG [0,1,2,3,4]) rfl rfl call135 (fun _ _ a=>Bt a) fun z5 W=>?_;apply go 3;refine yh rfl (vM (p.ne qD)) ?_;apply go 1;refine vV (uA 2 [0,1,2,3,4] [0,1,2,4] rfl fun Q l=>vy (uE Zx LU An rfl rfl) ?_);apply go 4;refine zc l (zi 5 rfl fun y c=>?_);apply go 2;refine kN c (zi 6 rfl fun y c=>?_);apply go 2;refine c _ _ mA ?_;refine zg q_3 ((go 1) ?_);refine (go 2) (yE fun j k=>?_);have o:=p.1 f;obtain ⟨rfl,rfl⟩:=Prod.mk.inj o;exact k.uL ((zD.mk 0 0 0 bz n0 n0 n0),(2,(P:Int))) rfl (Pz.LI u (d.1.ok_ rfl f) m qO) fun n x=>Pz.Gh n j;apply go 6;refine zn (sG [0,1,2,3,4]) rfl rfl call135 (fun _ _ a=>Bt a) fun z6 Z=>?_
 apply go 1;refine jz (t:=35) rfl f ?_;apply go 1;refine vc (fun _ h=>h.okOf 2 rfl f) ?_;have r:=v f;refine yB call138 (wg rfl rfl rfl) rfl (fun j k=>UW J (In j) j mJ (k.yU (i:=0) rfl) (Pz.VJ (d.1.ok_ rfl f) r)) ?_;refine (go 4) (zQ (fun B=>?_) fun B=>?_);apply go 6;refine zn (sG [1,0,2,3,4,5]) rfl rfl call137 (fun _ _ a=>CP a ) ?_;rintro ⟨a1,U⟩ q;apply go 6;refine zn (sG [0,1,2,3,4,5]) rfl rfl call135 (fun _ _ a=>Bt a) fun z8 o=>?_;apply go 3;refine yh rfl (vM (q.ne qD)) ?_;apply go 1;refine vV (uA 2 [0,1,2,3,4] [0,1,2,3,5] rfl fun Q l=>vy (uE Zx LU An rfl rfl) ?_);apply go 4;refine zc l (zi 5 rfl fun y c=>?_);apply go 2;refine kN c (zi 6 rfl fun y c=>?_);apply go 2;refine c _ _ mA ?_;refine zg q_3 ((go 1) ?_);refine (go 2) (yE fun j k=>?_);have o:=q.1 f;obtain ⟨rfl,rfl⟩:=Prod.mk.inj o;exact k.uL ((zD.mk 0 0 0 bz n0 n0 n0),(4,(P:Int))) rfl (Pz.Ls u (d.1.ok_ rfl f) m qO (Pz.Wv (d.1.ok_ rfl f) r B)) fun n x=>Pz.Gh n j;apply go 6;refine zn (sG [1,0,2,3,4,5]) rfl rfl call135 (fun _ _ a=>Bt a) fun z9 H=>?_;apply go 3;refine yJ rfl (yq (fun g=>g f)) ?_;refine (go 11) (yE fun j k=>?_);exact k.uL (J,(0,0)) rfl (Pz.Qt u (d.1.ok_ rfl f) m qO (Pz.Vx (d.1.ok_ rfl f) r B)) fun n x=>x.at_ 1 _ rfl;apply go 6;refine zn (sG [0,1,2,3,4]) rfl rfl call135 (fun _ _ a=>Bt a) fun X K=>?_;apply go 1;refine jN (t:=35) rfl f ?_;apply go 13;refine zn (sG [0,1,2,3,4]) rfl rfl call135 (fun _ _ a=>Bt a) fun T O=>?_;apply go 3;refine yh rfl (vM f) ?_;apply go 1;refine vV (uA 2 [0,1,2,3,4] [0,1,2,4] rfl fun Q l=>vy (uE Zx LU An rfl rfl) ?_);apply go 4;refine zc l (zi 5 rfl fun y c=>?_);apply go 2;refine kN c (zi 6 rfl fun y c=>?_)
 apply go 2;refine c _ _ mA ?_;refine zg q_3 ((go 1) ?_);refine (go 2) (yE fun j k=>?_);exact k.uL ((zD.mk 0 0 0 bz n0 n0 n0),(E,G)) rfl (Pz.Pp u (d.1.bad_ rfl f)) fun n x=>Pz.Gh n j
end
end Go.Proofs.YtgojhpocpajmlaaGreatDoor
