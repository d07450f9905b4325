/- Laws and walks for the proof of BaseTells, packed by program; each theorem bears its own conditions. -/
import Derived.Test.YtgojhpocpajmlaaGreatDoorKBt5
set_option linter.unusedVariables false
set_option linter.unusedSimpArgs false
set_option maxHeartbeats 20000000
namespace Go.Proofs.YtgojhpocpajmlaaGreatDoor
section
open Tryz
open Ex
attribute [local irreducible] WC WL WQ WE WS
theorem Ky {l m j k:Value} {z:Shelf} {to:Int} (P0:Nat->Prop) {w:World} (i:∀ b,P0 b->b < w.heap.size) (a:zH P0 2 zb l z.zM w) (f:zH P0 2 zX m z.raw w) (g:zH P0 8 zO j z.AD w) (d:zH P0 8 zO k z.coarse w) (c:∀ x ∈ z.zM,x.key.size<=9223372036854775807∧x.val.size<=9223372036854775807):Calls prog 80 #[.agg (List.toArray [l,m,j,k,iV z.zS,iV z.zN,iV z.zG,iV z.zJ,iV z.zE]),iV to] w (FU w P0 (fun y:zB=>.tuple #[.agg (za y).toArray,iV (Sh.Ab z to).2]) (fun y=>y.e=(Sh.Ab z to).1) (fun y S=>zB.Ok S y)):=(Ul P0 i a f g d c).mono fun _ _ h=>h.toE
theorem OX {l m j k:Value} {z:Shelf} {x:AA} (P0:Nat->Prop) {w:World} (i:∀ b,P0 b->b < w.heap.size) (a:zH P0 2 zb l z.zM w) (f:zH P0 2 zX m z.raw w) (g:zH P0 8 zO j z.AD w) (d:zH P0 8 zO k z.coarse w) (c:∀ x ∈ z.zM,x.key.size<=9223372036854775807∧x.val.size<=9223372036854775807):Calls prog 79 #[.agg (List.toArray [l,m,j,k,iV z.zS,iV z.zN,iV z.zG,iV z.zJ,iV z.zE]),.agg (zX x).toArray] w (FU w P0 (fun y:zB=>.tuple #[.agg (za y).toArray,iV (Sh.append z x).2]) (fun y=>y.e=(Sh.append z x).1) (fun y S=>zB.Ok S y)):=(PV P0 i a f g d c).mono fun _ _ h=>h.toE
theorem Oc {m n k l:Value} {z:Shelf} {a to:Int} (P0:Nat->Prop) {w:World} (j:∀ b,P0 b->b < w.heap.size) (c:zH P0 2 zb m z.zM w) (g:zH P0 2 zX n z.raw w) (i:zH P0 8 zO k z.AD w) (d:zH P0 8 zO l z.coarse w) (f:∀ x ∈ z.zM,x.key.size<=9223372036854775807∧x.val.size<=9223372036854775807):Calls prog 81 #[.agg (List.toArray [m,n,k,l,iV z.zS,iV z.zN,iV z.zG,iV z.zJ,iV z.zE]),iV a,iV to] w (FU w P0 (fun y:zB=>.tuple #[.agg (za y).toArray,iV (Sh.forget z a to).2]) (fun y=>y.e=(Sh.forget z a to).1) (fun y S=>zB.Ok S y)):=(Ph P0 j c g i d f).mono fun _ _ h=>h.toE
theorem Vo {x:yA} (i:∀ s ∈ x.zA.l,s.sr.l.length<=1048576∧∀ y ∈ s.sr.l,y.key.size<=9223372036854775807∧y.val.size<=9223372036854775807) (d:x.zA.l.length<=8) (g:∀ s ∈ x.zA.l,∀ a b:Int,(Sh.choose s.e a b).2=0->(Sh.read s.e (Sh.choose s.e a b).1).2.2=0) (S:Nat->Prop) (f k c:Nat):RefG prog 86 #[.pointer (some ⟨f,0,none⟩),.pointer (some ⟨c,0,none⟩)] (fun n=>.blk c [iV n] 3) S (EL 97 25 S f k x) (ShG x) (Bs.look (x.zA.l.map zB.e)) (Bs.cost (x.zA.l.map zB.e)) :=
  ⟨call86,fun n=>.inl rfl,fun n m b h=>h,fun ms a b n w o j q p=>by simpa using WK j i d g⟩
theorem UK {E:Nat} {x:yA} {d:vC} {o:Nat->Prop} {w:World} (hG:Mem w ⟨AX [.blk E [x.zA.v,iV x.zT] 25,slP 9 za (x.zA.v) x.zA.l,AS zB.Ok x.zA.l,okP vC.Ok d],o⟩ [.blk E [x.zA.v,iV x.zT] 25,slP 9 za (x.zA.v) x.zA.l,AS zB.Ok x.zA.l,okP vC.Ok d] w) (hi:Bs.Inv x.e 120) (f0:DA d.sr.l) :
    Calls prog 38 #[.pointer (some ⟨E,0,none⟩),.agg (List.toArray [iV d.kind,iV d.AG,iV d.to,d.sr.v,iV d.zW.time,iV d.zW.value,.string d.text])] w (Be w [.blk E [x.zA.v,iV x.zT] 25,slP 9 za (x.zA.v) x.zA.l,AS zB.Ok x.zA.l,okP vC.Ok d] o (fun z:yA × zk=>.agg (uZ z.2).toArray) (fun z=>(z.1.e,z.2.e)=Bs.one x.e d.e) (fun z=>[okP zk.Ok z.2,.blk E [z.1.zA.v,iV z.1.zT] 25,slP 9 za (z.1.zA.v) z.1.zA.l,AS zB.Ok z.1.zA.l,okP vC.Ok d])):=by
 have J:∀ y ∈ x.zA.l,zB.Wf y:=fun y hy=>((hG.yU (i:=2) rfl) y hy).wf
 have k1:=(hG.yU (i:=3) rfl).wf
 obtain ⟨B3,D6,b0⟩:=zH.wf (hG.slp 1 rfl)
 have O:=asc_k hi
 have c5:=Sx hi
 have D:=PJ hi
 have i4:=hi.hor
 have C1:x.e.zT=x.zT:=rfl
 have e4:∀ x ∈ d.sr.l,x.key.size<=9223372036854775807∧x.val.size<=9223372036854775807:=f0
 refine zp func38 hG ?_
 refine (go 2) (qn fun R=>yw fun L=>zl fun N=>?_)
 refine (go 21) (zQ (fun G=>?_) fun G=>?_)
 ·apply go 5
  refine zZ (fun _ h=>h.doX 6 rfl) ?_
  obtain ⟨C0,D2,x6⟩:=k1.sr
  refine yB call76 wn rfl (fun _ a=>Fi d.sr.l (a.slp 0 rfl) e4) ?_
  refine (go 9) (zQ (fun h2=>?_) fun h2=>?_)
  ·apply go 4
   refine vI wn rfl rfl call75 rfl (fun _ _=>uh) ?_
   refine (go 7) (zR fun B a=>?_)
   have a:=a.yO (zk.Ok.loc (noX (zF.AE d.sr.l):zk)) fun o b=>As _ _ _
   exact a.yz (x,noX (zF.AE d.sr.l)) rfl (Jm G (add_1 h2)) (fun h=>h.sel [0,5,6,7,8] qD rfl)
  have C8:=Sh.Fa (nn (show ¬ zF.AE d.sr.l≠0 from h2))
  apply go 7
  refine zf zX ([d.zW]:List AA) wn underlying47 Ao rfl rfl rfl rfl qD qD rfl fun W=>yB call77 wn rfl (fun _ a=>gD ([d.zW]:List AA) (AM AK a 0 rfl)) (zl fun b7=>?_)
  refine (go 10) (zQ (fun h3=>?_) fun h3=>?_)
  ·apply go 5
   refine vI wn rfl rfl call75 rfl (fun _ _=>uh) ?_
   refine (go 7) (zR fun B a=>?_)
   have a:=a.yO (zk.Ok.loc (noX ((Codec.AE ([d.zW]:List AA)).err):zk)) fun o b=>As _ _ _
   exact a.yz (x,noX ((Codec.AE ([d.zW]:List AA)).err)) rfl (Jm G (add_2 h2 h3)) (fun h=>h.sel [0,7,8,9,10] qD rfl)
  refine (go 15) (zQ (fun h4=>?_) fun h4=>?_)
  ·apply go 3
   refine vI wn rfl rfl call75 rfl (fun _ _=>uh) ?_
   refine (go 7) (zR fun B a=>?_)
   have a:=a.yO (zk.Ok.loc (noX 9:zk)) fun o b=>As _ _ _
   exact a.yz (x,noX 9) rfl (Jm G (add_3 h2 h3 h4)) (fun h=>h.sel [0,7,8,9,10] qD rfl)
  apply go 7
  refine ze fun i0 d2=>?_
  have d6:∀ (m:Nat) (k7:m<=x.zA.l.length) (Z:Mn.pos (x.zA.l.map zB.k) d.sr.l=m),∀ w9,Mem w ⟨AX [.blk E [x.zA.v,iV x.zT] 25,slP 9 za (x.zA.v) x.zA.l,AS zB.Ok x.zA.l,okP vC.Ok d],o⟩ [.blk b7 [iV ((Codec.AE ([d.zW]:List AA)).err),iV ((Codec.AE ([d.zW]:List AA)).at_)] 61,Row (.slice (some ⟨W,0,none⟩) 1 1) 41 2 zX ([d.zW]:List AA),slP 2 zb (d.sr.v) d.sr.l,.blk N [iV 0,iV 0,Zs,iV 0] 34,.blk L [iV d.kind,iV d.AG,iV d.to,d.sr.v,iV d.zW.time,iV d.zW.value,.string d.text] 43,.blk R [.pointer (some ⟨E,0,none⟩)] 97,.blk E [x.zA.v,iV x.zT] 25,slP 9 za (x.zA.v) x.zA.l,AS zB.Ok x.zA.l,okP vC.Ok d] w9->∀ a9,Has 300 [] a9 [(2,.pointer (some ⟨R,0,none⟩)),(3,.pointer (some ⟨L,0,none⟩)),(4,.pointer (some ⟨N,0,none⟩)),(5,.func (.func 75) #[] #[]),(8,iV m)]->i0 a9 w9:=by
   intro m k7 Z
   refine d2 _ _ (ze fun l1 e9=>?_)
   have e6:∀ (nb:Bool) (a5:nb=Mn.has (x.zA.l.map zB.k) d.sr.l) (c8:nb=true->m < x.zA.l.length),∀ w9,Mem w ⟨AX [.blk E [x.zA.v,iV x.zT] 25,slP 9 za (x.zA.v) x.zA.l,AS zB.Ok x.zA.l,okP vC.Ok d],o⟩ [.blk b7 [iV ((Codec.AE ([d.zW]:List AA)).err),iV ((Codec.AE ([d.zW]:List AA)).at_)] 61,Row (.slice (some ⟨W,0,none⟩) 1 1) 41 2 zX ([d.zW]:List AA),slP 2 zb (d.sr.v) d.sr.l,.blk N [iV 0,iV 0,Zs,iV 0] 34,.blk L [iV d.kind,iV d.AG,iV d.to,d.sr.v,iV d.zW.time,iV d.zW.value,.string d.text] 43,.blk R [.pointer (some ⟨E,0,none⟩)] 97,.blk E [x.zA.v,iV x.zT] 25,slP 9 za (x.zA.v) x.zA.l,AS zB.Ok x.zA.l,okP vC.Ok d] w9->∀ a9,Has 300 [] a9 [(2,.pointer (some ⟨R,0,none⟩)),(3,.pointer (some ⟨L,0,none⟩)),(4,.pointer (some ⟨N,0,none⟩)),(5,.func (.func 75) #[] #[]),(8,iV m),(9,.bool nb)]->l1 a9 w9:=by
    intro nb a5 c8
    refine e9 _ _ ?_
    apply go 1
    refine jO _ mix (fun _ h=>h.drew) rfl (qC (f:=2) [0,1,2,3,4,5,6,7,8,9,10,11,12] rfl rfl q_3 q_3 (fun _ h=>h) fun KS C=>?_)
    apply go 13
    refine zc C (gG 1 13 (yI (i:=13) rfl fun KN u=>zl fun c0=>?_))
    apply go 1
    refine u _ _ (S9 [1,2,3,4,5,6,7,8,9,10]) (gG 0 14 (yI (i:=14) rfl fun KN u=>?_))
    apply go 2
    refine u _ _ (S9 [1,2,3,4,5,6,7,8,9,10]) ?_
    refine zg q_3 ((go 1) ?_)
    refine ze fun h0 e8=>?_
    have e2:∀ (y:zB) (b5:nb=true->x.zA.l[m]?=some y) (c1:nb=false->y.e=Bs.fresh d.sr.l x.zT∧x.zA.l.length < 8) (hok:DA y.sr.l) (a7:zB.Wf y),∀ w9,Mem w ⟨AX [.blk E [x.zA.v,iV x.zT] 25,slP 9 za (x.zA.v) x.zA.l,AS zB.Ok x.zA.l,okP vC.Ok d],o⟩ [okP zB.Ok y,.blk c0 [y.sr.v,y.raw.v,y.AD.v,y.coarse.v,iV y.zS,iV y.zN,iV y.zG,iV y.zJ,iV y.zE] 50,.blk b7 [iV ((Codec.AE ([d.zW]:List AA)).err),iV ((Codec.AE ([d.zW]:List AA)).at_)] 61,Row (.slice (some ⟨W,0,none⟩) 1 1) 41 2 zX ([d.zW]:List AA),slP 2 zb (d.sr.v) d.sr.l,.blk N [iV 0,iV 0,Zs,iV 0] 34,.blk L [iV d.kind,iV d.AG,iV d.to,d.sr.v,iV d.zW.time,iV d.zW.value,.string d.text] 43,.blk R [.pointer (some ⟨E,0,none⟩)] 97,.blk E [x.zA.v,iV x.zT] 25,slP 9 za (x.zA.v) x.zA.l,AS zB.Ok x.zA.l,okP vC.Ok d] w9->∀ a9,Has 300 [] a9 [(2,.pointer (some ⟨R,0,none⟩)),(3,.pointer (some ⟨L,0,none⟩)),(4,.pointer (some ⟨N,0,none⟩)),(5,.func (.func 75) #[] #[]),(8,iV m),(9,.bool nb),(10,.pointer (some ⟨c0,0,none⟩))]->h0 a9 w9:=by
     intro y b5 c1 hok a7
     refine e8 _ _ ?_
     apply go 5
     refine zZ (fun _ h=>h.DU 0 rfl) ?_
     obtain ⟨w6,C2,B2⟩:=a7.sr
     obtain ⟨A0,E2,D0⟩:=a7.raw
     obtain ⟨E0,D5,E1⟩:=a7.AD
     obtain ⟨C3,B4,B6⟩:=a7.coarse
     refine vP (β:=zB) (fun z=>.tuple #[.agg (za z).toArray,iV (Sh.append (zB.e y) d.zW).2]) (fun z=>z.e=(Sh.append (zB.e y) d.zW).1) (fun z S=>zB.Ok S z) (fun z=>zB.Ok.loc z) wn rfl call79 rfl (fun _ o _ b=>OX o b.lt (b.sl 0 rfl) (b.sl 1 rfl) (b.sl 2 rfl) (b.sl 3 rfl) gw) fun q d9=>vd 0 rfl (fun S w h=>zB.Ok.wf h) fun f2=>?_
     refine (go 3) (zl fun e5=>?_)
     refine (go 11) (zQ (fun h5=>?_) fun h5=>?_)
     ·
      apply go 4
      refine vI wn rfl rfl call75 rfl (fun _ _=>uh) ?_
      refine (go 7) (zR fun B a=>?_)
      have I:=add_y (x:=x) (d:=d) (k:=m) (nb:=nb) (y:=y) h2 h3 h4 Z a5 b5 c1
      have a:=a.yO (zk.Ok.loc (noX ((Sh.append (zB.e y) d.zW).2):zk)) fun o b=>As _ _ _
      exact a.yz (x,noX ((Sh.append (zB.e y) d.zW).2)) rfl (Jm G (add_bad I h5)) (fun h=>h.sel [0,15,16,17,18] qD rfl)
     ·
      apply go 4
      refine uS za wn underlying23 BS rfl fun o9=>?_
      apply go 5
      refine l_dslP 16 (lo:=0) (hi:=m) (x.zA.l.take m) wn rfl rfl lo0 (hi1 rfl qO) qI qI qI qW underlying23 BS rfl fun A1 d3 x4 D9 D3=>zh 1 ([]:List zB) (x.zA.l.take m) AV wn rfl rfl rfl (fun _ a=>(a.slp 0 rfl)) underlying23 BS rfl rfl q_9 rfl fun A2 D8 B7 D7 x1=>zZ (fun _ h=>h.FR zB.Ok.loc) (zZ (fun _ h=>h.RO (l':=(x.zA.l.take m)) 19 zB.Ok.loc rfl (fun x hx=>List.mem_of_mem_take hx)) (zZ (fun _ h=>h.RF 1 0 zB.Ok.loc rfl rfl) ?_))
      have l9:∀ y9 ∈ (x.zA.l.take m),zB.Wf y9:=(fun x hx=>J x (List.mem_of_mem_take hx))
      have f7:∀ y9 ∈ (([]:List zB)++(x.zA.l.take m)),zB.Wf y9:=fun x hx=>(yl.1 hx).elim ((fun x hx=>by cases hx) x) (l9 x)
      apply go 7
      refine zf za ([q]:List zB) wn underlying23 BS rfl rfl rfl rfl qD qD rfl fun c6=>zh 5 (([]:List zB)++(x.zA.l.take m)) ([q]:List zB) AV wn rfl rfl rfl (fun _ a=>(AM AV a 0 rfl)) underlying23 BS rfl rfl q_9 rfl fun A3 x2 B9 B8 D1=>zZ (fun _ h=>h.Fw 1 7 zB.Ok.loc rfl rfl) ?_
      have d5:∀ y9 ∈ ((([]:List zB)++(x.zA.l.take m))++([q]:List zB)),zB.Wf y9:=fun x hx=>(yl.1 hx).elim (f7 x) fun h=>by rw [yf.1 h]; exact f2
      refine (go 9) (yj (fun h6=>?_) fun h6=>?_)
      ·
       have e7:=c8 h6
       apply go 7
       refine jO (Mem w ⟨AX [.blk E [x.zA.v,iV x.zT] 25,slP 9 za (x.zA.v) x.zA.l,AS zB.Ok x.zA.l,okP vC.Ok d],o⟩ [AS zB.Ok ((([]:List zB)++(x.zA.l.take m))++([q]:List zB)),Row (.slice (some ⟨c6,0,none⟩) 1 1) 50 9 za ([q]:List zB),AS zB.Ok (([]:List zB)++(x.zA.l.take m)),AS zB.Ok (x.zA.l.take m),AS zB.Ok ([]:List zB),slP 9 za (.slice A1 ((x.zA.l.take m).length) d3) (x.zA.l.take m),.blk e5 [q.sr.v,q.raw.v,q.AD.v,q.coarse.v,iV q.zS,iV q.zN,iV q.zG,iV q.zJ,iV q.zE] 50,okP zB.Ok q,slP 2 zb (y.sr.v) y.sr.l,slP 2 zX (y.raw.v) y.raw.l,slP 8 zO (y.AD.v) y.AD.l,slP 8 zO (y.coarse.v) y.coarse.l,okP zB.Ok y,.blk c0 [y.sr.v,y.raw.v,y.AD.v,y.coarse.v,iV y.zS,iV y.zN,iV y.zG,iV y.zJ,iV y.zE] 50,.blk b7 [iV ((Codec.AE ([d.zW]:List AA)).err),iV ((Codec.AE ([d.zW]:List AA)).at_)] 61,Row (.slice (some ⟨W,0,none⟩) 1 1) 41 2 zX ([d.zW]:List AA),slP 2 zb (d.sr.v) d.sr.l,.blk N [iV 0,iV 0,Zs,iV 0] 34,.blk L [iV d.kind,iV d.AG,iV d.to,d.sr.v,iV d.zW.time,iV d.zW.value,.string d.text] 43,.blk R [.pointer (some ⟨E,0,none⟩)] 97,slP 9 za (x.zA.v) x.zA.l,AS zB.Ok x.zA.l,okP vC.Ok d]) mix (fun _ h=>h.drew) rfl (qP 6 [0,1,2,3,4,6] [0,1,2,3,4,5,7,8,9,10,11,12,13,14,15,16,17,18,19,20,22,23,24] rfl fun KS C=>?_)
       apply go 6
       refine zc C (gG 5 5 (yI (i:=5) rfl fun KN u=>?_))
       apply go 2
       refine u _ _ (S9 [0,1,2,3,4,5,7,8,9,10,11,12,13,14,15,16,17,18,19,20,22,23,24]) (qP 4 [7] [0,1,2,3,4,5,7,8,9,10,11,12,13,14,15,16,17,18,19,20,22,23,24] rfl fun KS C=>vy (jw (lo:=(m + 1)) (hi:=x.zA.l.length) rfl (lo1 rfl qO) hi0 qI qI qI underlying23 BS) (zc C (gG 3 8 (yI (i:=8) rfl fun KN u=>zh 6 ((([]:List zB)++(x.zA.l.take m))++([q]:List zB)) (x.zA.l.drop (m + 1)) AV wn rfl rfl rfl (fun _ a=>(zH.Jq (a.slp 22 rfl) (lo:=(m + 1)) (hi:=x.zA.l.length) qI qI qW rfl)) underlying23 BS rfl rfl q_9 rfl fun A4 l0 w8 x3 C5=>zZ (fun _ h=>h.RO (l':=(x.zA.l.drop (m + 1))) 23 zB.Ok.loc rfl (fun x hx=>List.mem_of_mem_drop hx)) (zZ (fun _ h=>h.RF 1 0 zB.Ok.loc rfl rfl) ?_)))))
       have i7:∀ y9 ∈ (x.zA.l.drop (m + 1)),zB.Wf y9:=(fun x hx=>J x (List.mem_of_mem_drop hx))
       have x9:∀ y9 ∈ (((([]:List zB)++(x.zA.l.take m))++([q]:List zB))++(x.zA.l.drop (m + 1))),zB.Wf y9:=fun x hx=>(yl.1 hx).elim (d5 x) (i7 x)
       apply go 1
       refine u _ _ (S9 [2,3,4,5,6,7,9,10,11,12,13,14,15,16,17,18,19,20,21,22,24,25,26]) (qP 1 [9,10] [2,3,4,5,6,7,9,10,11,12,13,14,15,16,17,18,19,20,21,22,24,25,26] rfl fun KS C=>?_)
       apply go 2
       refine zc C (gG 0 11 (yI (i:=11) rfl fun KN u=>?_))
       apply go 2
       refine u _ _ (S9 [2,3,4,5,6,7,9,10,11,12,13,14,15,16,17,18,19,20,21,22,24,25,26]) ?_
       refine zg q_3 ((go 1) ?_)
       refine (go 9) (zR fun B a=>?_)
       have I:=add_y (x:=x) (d:=d) (k:=m) (nb:=nb) (y:=y) h2 h3 h4 Z a5 b5 c1
       have a:=a.vT AV (i:=8) (j:=23) rfl rfl qD Sm
       have a:=a.yO (zk.Ok.loc (noX 0:zk)) fun o b=>As _ _ _
       exact a.yz (⟨⟨A4,l0,(((([]:List zB)++(x.zA.l.take m))++([q]:List zB))++(x.zA.l.drop (m + 1)))⟩,x.zT⟩,noX 0) rfl (Jm G (Sd (k':=m + 1) I h5 d9 (zP h6).symm (by simp only [List.nil_append,ub,List.cons_append]))) (fun h=>h.sel [0,24,9,1,27] qD rfl)
      ·
       apply go 3
       refine jO (Mem w ⟨AX [.blk E [x.zA.v,iV x.zT] 25,slP 9 za (x.zA.v) x.zA.l,AS zB.Ok x.zA.l,okP vC.Ok d],o⟩ [AS zB.Ok ((([]:List zB)++(x.zA.l.take m))++([q]:List zB)),Row (.slice (some ⟨c6,0,none⟩) 1 1) 50 9 za ([q]:List zB),AS zB.Ok (([]:List zB)++(x.zA.l.take m)),AS zB.Ok (x.zA.l.take m),AS zB.Ok ([]:List zB),slP 9 za (.slice A1 ((x.zA.l.take m).length) d3) (x.zA.l.take m),.blk e5 [q.sr.v,q.raw.v,q.AD.v,q.coarse.v,iV q.zS,iV q.zN,iV q.zG,iV q.zJ,iV q.zE] 50,okP zB.Ok q,slP 2 zb (y.sr.v) y.sr.l,slP 2 zX (y.raw.v) y.raw.l,slP 8 zO (y.AD.v) y.AD.l,slP 8 zO (y.coarse.v) y.coarse.l,okP zB.Ok y,.blk c0 [y.sr.v,y.raw.v,y.AD.v,y.coarse.v,iV y.zS,iV y.zN,iV y.zG,iV y.zJ,iV y.zE] 50,.blk b7 [iV ((Codec.AE ([d.zW]:List AA)).err),iV ((Codec.AE ([d.zW]:List AA)).at_)] 61,Row (.slice (some ⟨W,0,none⟩) 1 1) 41 2 zX ([d.zW]:List AA),slP 2 zb (d.sr.v) d.sr.l,.blk N [iV 0,iV 0,Zs,iV 0] 34,.blk L [iV d.kind,iV d.AG,iV d.to,d.sr.v,iV d.zW.time,iV d.zW.value,.string d.text] 43,.blk R [.pointer (some ⟨E,0,none⟩)] 97,slP 9 za (x.zA.v) x.zA.l,AS zB.Ok x.zA.l,okP vC.Ok d]) mix (fun _ h=>h.drew) rfl (qP 6 [0,1,2,3,4,6] [0,1,2,3,4,5,7,8,9,10,11,12,13,14,15,16,17,18,19,20,22,23,24] rfl fun KS C=>?_)
       apply go 6
       refine zc C (gG 5 5 (yI (i:=5) rfl fun KN u=>?_))
       apply go 2
       refine u _ _ (S9 [0,1,2,3,4,5,7,8,9,10,11,12,13,14,15,16,17,18,19,20,22,23,24]) (qP 4 [7] [0,1,2,3,4,5,7,8,9,10,11,12,13,14,15,16,17,18,19,20,22,23,24] rfl fun KS C=>vy (jw (lo:=m) (hi:=x.zA.l.length) rfl (lo1 rfl qO) hi0 qI qI qI underlying23 BS) (zc C (gG 3 8 (yI (i:=8) rfl fun KN u=>zh 6 ((([]:List zB)++(x.zA.l.take m))++([q]:List zB)) (x.zA.l.drop m) AV wn rfl rfl rfl (fun _ a=>(zH.Jq (a.slp 22 rfl) (lo:=m) (hi:=x.zA.l.length) qI qI qW rfl)) underlying23 BS rfl rfl q_9 rfl fun A5 k0 t9 m6 t2=>zZ (fun _ h=>h.RO (l':=(x.zA.l.drop m)) 23 zB.Ok.loc rfl (fun x hx=>List.mem_of_mem_drop hx)) (zZ (fun _ h=>h.RF 1 0 zB.Ok.loc rfl rfl) ?_)))))
       have k5:∀ y9 ∈ (x.zA.l.drop m),zB.Wf y9:=(fun x hx=>J x (List.mem_of_mem_drop hx))
       have C9:∀ y9 ∈ (((([]:List zB)++(x.zA.l.take m))++([q]:List zB))++(x.zA.l.drop m)),zB.Wf y9:=fun x hx=>(yl.1 hx).elim (d5 x) (k5 x)
       apply go 1
       refine u _ _ (S9 [2,3,4,5,6,7,9,10,11,12,13,14,15,16,17,18,19,20,21,22,24,25,26]) (qP 1 [9,10] [2,3,4,5,6,7,9,10,11,12,13,14,15,16,17,18,19,20,21,22,24,25,26] rfl fun KS C=>?_)
       apply go 2
       refine zc C (gG 0 11 (yI (i:=11) rfl fun KN u=>?_))
       apply go 2
       refine u _ _ (S9 [2,3,4,5,6,7,9,10,11,12,13,14,15,16,17,18,19,20,21,22,24,25,26]) ?_
       refine zg q_3 ((go 1) ?_)
       refine (go 9) (zR fun B a=>?_)
       have I:=add_y (x:=x) (d:=d) (k:=m) (nb:=nb) (y:=y) h2 h3 h4 Z a5 b5 c1
       have a:=a.vT AV (i:=8) (j:=23) rfl rfl qD Sm
       have a:=a.yO (zk.Ok.loc (noX 0:zk)) fun o b=>As _ _ _
       exact a.yz (⟨⟨A5,k0,(((([]:List zB)++(x.zA.l.take m))++([q]:List zB))++(x.zA.l.drop m))⟩,x.zT⟩,noX 0) rfl (Jm G (Sd (k':=m) I h5 d9 (zI (by rw [h6]; decide)).symm (by simp only [List.nil_append,ub,List.cons_append]))) (fun h=>h.sel [0,24,9,1,27] qD rfl)
    refine (go 5) (yj (fun h7=>?_) fun h7=>?_)
    ·
     have e7:=c8 h7
     apply go 6
     obtain ⟨B1,s1,C6,a2⟩:=elx b0 m
     apply go 1
     have hok:=(D _ (mo a2)).2
     have b9:=(D _ (mo a2)).1
     apply go 1
     have f5:=J _ (mo a2)
     refine zZ (fun _ h=>h.one 9 zB.Ok.loc rfl a2) ?_
     apply go 1
     refine zK (yc (e2 s1 ((fun _=>a2)) ((fun h=>by rw [h7] at h; cases h)) ((D _ (mo a2)).2) (f5)) sA (fun _ h=>h))
    ·
     apply go 2
     refine zZ (fun _ h=>h.yO (zB.Ok.loc (zB.mk ⟨d.sr.A,d.sr.c,d.sr.l⟩ n0 n0 n0 0 0 x.zT 0 ((x.zT / 60) * 60))) fun o b=>⟨b.sl 3 rfl,zH.vh _ _ _ _,zH.vh _ _ _ _,zH.vh _ _ _ _⟩) (vd 0 rfl (fun S w h=>zB.Ok.wf h) fun e0=>?_)
     refine (go 8) (zQ (fun h8=>?_) fun h8=>?_)
     ·
      apply go 3
      refine vI wn rfl rfl call75 rfl (fun _ _=>uh) ?_
      refine (go 7) (zR fun B a=>?_)
      have a:=a.yO (zk.Ok.loc (noX 5:zk)) fun o b=>As _ _ _
      exact a.yz (x,noX 5) rfl (Jm G (Vp h2 h3 h4 (by rw [<-a5]; exact h7) h8 c5)) (fun h=>h.sel [0,9,10,11,12] qD rfl)
     ·
      refine yW (yc (e2 (zB.mk ⟨d.sr.A,d.sr.c,d.sr.l⟩ n0 n0 n0 0 0 x.zT 0 ((x.zT / 60) * 60)) ((fun h=>by rw [h7] at h; cases h)) ((fun _=>⟨UL (nn h2) i4,qO⟩)) (e4) (e0)) sA (fun _ h=>h))
   refine (go 9) (vp 89 (fun h9=>?_) fun h9=>?_)
   ·
    apply go 5
    obtain ⟨B5,s2,D4,X⟩:=elx b0 m
    apply go 2
    have hok:=(D _ (mo X)).2
    have b9:=(D _ (mo X)).1
    apply go 3
    have P:=J _ (mo X)
    refine uf (fun _ h=>h.one 8 zB.Ok.loc rfl X) (fun _ h=>h.Bl) (uf (fun _ h=>h.DU 0 rfl) (fun _ h=>h.Bl.Bl.Bl.Bl) ?_)
    obtain ⟨s0,w3,n7⟩:=P.sr
    obtain ⟨m5,r9,p0⟩:=P.raw
    obtain ⟨r5,o4,s8⟩:=P.AD
    obtain ⟨n4,n5,n3⟩:=P.coarse
    refine yL (wg rfl rfl rfl) rfl call41 rfl (fun _ a=>v8 s2.sr.l d.sr.l (a.slp 0 rfl) (a.slp 7 rfl)) ?_
    apply go 2
    refine gF (yc (e6 (decide (s2.sr.l=d.sr.l)) ((Um O Z X)) ((fun _=>(yb.1 X).1))) sA (S9 [5,6,7,8,9,10,11,12,13,14]))
   ·
    apply go 13
    refine gF (yc (e6 false ((Qq O Z (fun z hz=>absurd (yb.1 hz).1 qO)).symm) ((fun h=>by cases h))) sA (fun _ h=>h))
  apply go 1
  refine vu (fun (k:Nat)=>[(2,.pointer (some ⟨R,0,none⟩)),(3,.pointer (some ⟨L,0,none⟩)),(4,.pointer (some ⟨N,0,none⟩)),(5,.func (.func 75) #[] #[]),(8,iV k)]) (fun (k:Nat)=>[.blk b7 [iV ((Codec.AE ([d.zW]:List AA)).err),iV ((Codec.AE ([d.zW]:List AA)).at_)] 61,Row (.slice (some ⟨W,0,none⟩) 1 1) 41 2 zX ([d.zW]:List AA),slP 2 zb (d.sr.v) d.sr.l,.blk N [iV 0,iV 0,Zs,iV 0] 34,.blk L [iV d.kind,iV d.AG,iV d.to,d.sr.v,iV d.zW.time,iV d.zW.value,.string d.text] 43,.blk R [.pointer (some ⟨E,0,none⟩)] 97,.blk E [x.zA.v,iV x.zT] 25,slP 9 za (x.zA.v) x.zA.l,AS zB.Ok x.zA.l,okP vC.Ok d]) (fun (k:Nat)=>k<=x.zA.l.length∧Fo x.zA.l d.sr.l k) (fun (k:Nat)=>x.zA.l.length - k) 0 sA (fun _ h=>h) ?_ (fun k M=>?_)
  ·exact ⟨Nat.zero_le _,ahead_0⟩
  refine (go 11) (vp 66 (fun i2=>?_) fun i2=>?_)
  ·apply go 5
   obtain ⟨x0,s3,C4,a4⟩:=elx b0 k
   apply go 2
   have hok:=(D _ (mo a4)).2
   have b9:=(D _ (mo a4)).1
   apply go 3
   have T:=J _ (mo a4)
   refine uf (fun _ h=>h.one 8 zB.Ok.loc rfl a4) (fun _ h=>h.Bl) (uf (fun _ h=>h.DU 0 rfl) (fun _ h=>h.Bl.Bl.Bl.Bl) ?_)
   obtain ⟨p6,p1,o5⟩:=T.sr
   obtain ⟨s7,w2,n1⟩:=T.raw
   obtain ⟨w0,r7,m0⟩:=T.AD
   obtain ⟨s9,t0,r3⟩:=T.coarse
   refine yL (wg rfl rfl rfl) rfl call78 rfl (fun _ a=>IP s3.sr.l d.sr.l (a.slp 0 rfl) (a.slp 7 rfl)) ?_
   refine (go 4) (zQ (fun c9=>?_) fun c9=>?_)
   ·apply go 7
    refine zK (zj (uB (k + 1) sA (S9 [5,6,7,8,9,10,11,12,13,14]) ?_ ?_))
    ·exact ⟨qO,Qv M.2 a4 c9⟩
    omega
   refine yS (zw (ye (zx (yc (d6 k (M.1) (NI O M.1 M.2 (fun z hz=>by obtain rfl:=Option.some.inj (a4.symm.trans hz); exact c9))) sA (S9 [5,6,7,8,9,10,11,12,13,14])))))
  apply go 16
  refine yS (zw (ye (zx (yc (d6 k (M.1) (NI O M.1 M.2 (fun z hz=>absurd (yb.1 hz).1 qO))) sA (fun _ h=>h)))))
 refine (go 7) (zQ (fun K=>?_) fun K=>?_)
 ·apply go 2
  refine yh rfl (vM K) ?_
  refine (go 7) (zm 176 (fun f8=>?_) fun f8=>?_)
  ·apply go 10
   refine vI wn rfl rfl call75 rfl (fun _ _=>uh) ?_
   refine (go 7) (zR fun B a=>?_)
   have a:=a.yO (zk.Ok.loc (noX 3:zk)) fun o b=>As _ _ _
   exact a.yz (x,noX 3) rfl (Jc G qO (.inl K) qO) (fun h=>h.sel [0,4,5,6,7] qD rfl)
  refine (go 6) (zQ (fun l2=>?_) fun l2=>?_)
  ·apply go 3
   refine vI wn rfl rfl call75 rfl (fun _ _=>uh) ?_
   refine (go 7) (zR fun B a=>?_)
   have a:=a.yO (zk.Ok.loc (noX 3:zk)) fun o b=>As _ _ _
   exact a.yz (x,noX 3) rfl (Jc G qO (.inl K) qO) (fun h=>h.sel [0,4,5,6,7] qD rfl)
  apply go 9
  refine jN (t:=186) rfl qO ?_
  apply go 16
  refine zr (za:zB->List Value) 50 9 (zZ (fun _ h=>h.FR zB.Ok.loc) ?_)
  apply go 15
  refine jk (fun (k:Nat) (r:List zB) (Y:Value)=>[(2,.pointer (some ⟨R,0,none⟩)),(3,.pointer (some ⟨L,0,none⟩)),(4,.pointer (some ⟨N,0,none⟩)),(5,.func (.func 75) #[] #[]),(14,Y),(201,x.zA.v),(202,iV x.zA.l.length),(203,iV k)]) (fun (k:Nat) (r:List zB) (Y:Value)=>[AS zB.Ok r,Row Y 50 9 za r,.blk N [iV 0,iV 0,Zs,iV 0] 34,.blk L [iV d.kind,iV d.AG,iV d.to,d.sr.v,iV d.zW.time,iV d.zW.value,.string d.text] 43,.blk R [.pointer (some ⟨E,0,none⟩)] 97,.blk E [x.zA.v,iV x.zT] 25,slP 9 za (x.zA.v) x.zA.l,AS zB.Ok x.zA.l,okP vC.Ok d]) (fun (k:Nat) (r:List zB) (Y:Value)=>k<=x.zA.l.length∧(∀ y ∈ r,zB.Wf y)∧Bs.each (fun s=>Sh.Ab s d.to) ((x.zA.l.take k).map zB.e)=(r.map zB.e,0)∧r.length=k) (fun (k:Nat) (r:List zB) (Y:Value)=>x.zA.l.length - k) 0 [] (Zs) sA (fun _ h=>h) ?_ (fun k r Y a8=>?_)
  ·exact ⟨Nat.zero_le _,fun x hx=>ja,rfl,rfl⟩
  have c7:=a8.2.1
  have f6:=a8.2.2.2
  refine yP 1 (l:=r) rfl fun A6 i8 k3 p3 o1 w4=>?_
  subst k3
  refine (go 6) (zQ (fun l3=>?_) fun l3=>?_)
  ·apply go 6
   obtain ⟨C7,s4,B0,a0⟩:=elx b0 k
   apply go 1
   have hok:=(D _ (mo a0)).2
   have b9:=(D _ (mo a0)).1
   refine (go 1) (zl fun i3=>?_)
   apply go 8
   have U:=J _ (mo a0)
   refine zZ (fun _ h=>h.one 8 zB.Ok.loc rfl a0) (zZ (fun _ h=>h.DU 0 rfl) ?_)
   obtain ⟨n6,p5,o3⟩:=U.sr
   obtain ⟨w5,r4,n8⟩:=U.raw
   obtain ⟨p2,p9,t5⟩:=U.AD
   obtain ⟨r6,o8,s6⟩:=U.coarse
   refine vP (β:=zB) (fun z=>.tuple #[.agg (za z).toArray,iV (Sh.Ab (zB.e s4) d.to).2]) (fun z=>z.e=(Sh.Ab (zB.e s4) d.to).1) (fun z S=>zB.Ok S z) (fun z=>zB.Ok.loc z) wn rfl call80 rfl (fun _ o _ b=>Ky o b.lt (b.sl 0 rfl) (b.sl 1 rfl) (b.sl 2 rfl) (b.sl 3 rfl) gw) fun z2 k9=>vd 0 rfl (fun S w h=>zB.Ok.wf h) fun d8=>?_
   refine (go 3) (zl fun l5=>?_)
   apply go 12
   refine yJ rfl (yq qO) ?_
   refine (go 9) (zQ (fun c4=>?_) fun c4=>?_)
   ·apply go 4
    refine vI wn rfl rfl call75 rfl (fun _ _=>uh) ?_
    refine (go 12) (zR fun B a=>?_)
    have a:=a.yO (zk.Ok.loc (noX ((Sh.Ab (zB.e s4) d.to).2):zk)) fun o b=>As _ _ _
    exact a.yz (x,noX ((Sh.Ab (zB.e s4) d.to).2)) rfl (rroll_1 G qO K (JK (g:=(fun s=>Sh.Ab s d.to)) a0 a8.2.2.1 c4) c4) (fun h=>h.sel [0,14,15,16,17] qD rfl)
   apply go 5
   refine zf za ([z2]:List zB) wn underlying23 BS rfl rfl rfl rfl qD qD rfl fun d4=>zh 10 r ([z2]:List zB) AV wn rfl rfl rfl (fun _ a=>(AM AV a 0 rfl)) underlying23 BS rfl rfl q_9 rfl fun A7 f4 p8 r8 t4=>zZ (fun _ h=>h.Fw 9 2 zB.Ok.loc rfl rfl) ?_
   have d1:∀ y9 ∈ (r++([z2]:List zB)),zB.Wf y9:=fun x hx=>(yl.1 hx).elim (c7 x) fun h=>by rw [yf.1 h]; exact d8
   apply go 7
   refine zK (uY (k + 1) (r++([z2]:List zB)) (.slice A7 ((r++([z2]:List zB)).length) f4) sA (S9 [0,11,12,13,14,15,16,17,18]) ?_ ?_)
   ·exact ⟨qO,d1,Hw (g:=(fun s=>Sh.Ab s d.to)) a0 a8.2.2.1 c4 k9,by rw [uF,List.length_singleton]; omega⟩
   omega
  apply go 22
  refine yh rfl (vM K) (jJ 12 ?_)
  apply go 9
  refine yL wn rfl call82 rfl (fun B _=>qc x.zT ((d.to / 10) * 10) B) ?_
  refine (go 15) (zR fun B a=>?_)
  have a:=a.vT AV (i:=1) (j:=5) rfl rfl qD Sm
  have a:=a.yO (zk.Ok.loc (noX 0:zk)) fun o b=>As _ _ _
  exact a.yz (⟨⟨A6,i8,r⟩,(Sh.mx x.zT ((d.to / 10) * 10))⟩,noX 0) rfl (rroll_2 G qO K (JT (g:=(fun s=>Sh.Ab s d.to)) a8.2.2.1 qO)) (fun h=>h.sel [0,6,2,1,9] qD rfl)
 refine (go 5) (zQ (fun H=>?_) fun H=>?_)
 ·refine (go 7) (zm 176 (fun l7=>?_) fun l7=>?_)
  ·apply go 10
   refine vI wn rfl rfl call75 rfl (fun _ _=>uh) ?_
   refine (go 7) (zR fun B a=>?_)
   have a:=a.yO (zk.Ok.loc (noX 3:zk)) fun o b=>As _ _ _
   exact a.yz (x,noX 3) rfl (Jc G qO (.inr H) qO) (fun h=>h.sel [0,4,5,6,7] qD rfl)
  refine (go 6) (zQ (fun f9=>?_) fun f9=>?_)
  ·apply go 3
   refine vI wn rfl rfl call75 rfl (fun _ _=>uh) ?_
   refine (go 7) (zR fun B a=>?_)
   have a:=a.yO (zk.Ok.loc (noX 3:zk)) fun o b=>As _ _ _
   exact a.yz (x,noX 3) rfl (Jc G qO (.inr H) qO) (fun h=>h.sel [0,4,5,6,7] qD rfl)
  apply go 9
  refine jz (t:=186) rfl H ?_
  refine (go 4) (zm 190 (fun i1=>?_) fun i1=>?_)
  ·apply go 11
   refine vI wn rfl rfl call75 rfl (fun _ _=>uh) ?_
   refine (go 7) (zR fun B a=>?_)
   have a:=a.yO (zk.Ok.loc (noX 1:zk)) fun o b=>As _ _ _
   exact a.yz (x,noX 1) rfl (SK G qO H qO qO) (fun h=>h.sel [0,4,5,6,7] qD rfl)
  refine (go 7) (zQ (fun k2=>?_) fun k2=>?_)
  ·apply go 3
   refine vI wn rfl rfl call75 rfl (fun _ _=>uh) ?_
   refine (go 7) (zR fun B a=>?_)
   have a:=a.yO (zk.Ok.loc (noX 1:zk)) fun o b=>As _ _ _
   exact a.yz (x,noX 1) rfl (SK G qO H qO qO) (fun h=>h.sel [0,4,5,6,7] qD rfl)
  apply go 4
  refine zr (za:zB->List Value) 50 9 (zZ (fun _ h=>h.FR zB.Ok.loc) ?_)
  apply go 15
  refine jk (fun (k:Nat) (r:List zB) (Y:Value)=>[(2,.pointer (some ⟨R,0,none⟩)),(3,.pointer (some ⟨L,0,none⟩)),(4,.pointer (some ⟨N,0,none⟩)),(5,.func (.func 75) #[] #[]),(14,Y),(201,x.zA.v),(202,iV x.zA.l.length),(203,iV k)]) (fun (k:Nat) (r:List zB) (Y:Value)=>[AS zB.Ok r,Row Y 50 9 za r,.blk N [iV 0,iV 0,Zs,iV 0] 34,.blk L [iV d.kind,iV d.AG,iV d.to,d.sr.v,iV d.zW.time,iV d.zW.value,.string d.text] 43,.blk R [.pointer (some ⟨E,0,none⟩)] 97,.blk E [x.zA.v,iV x.zT] 25,slP 9 za (x.zA.v) x.zA.l,AS zB.Ok x.zA.l,okP vC.Ok d]) (fun (k:Nat) (r:List zB) (Y:Value)=>k<=x.zA.l.length∧(∀ y ∈ r,zB.Wf y)∧Bs.each (fun s=>Sh.forget s d.AG d.to) ((x.zA.l.take k).map zB.e)=(r.map zB.e,0)∧r.length=k) (fun (k:Nat) (r:List zB) (Y:Value)=>x.zA.l.length - k) 0 [] (Zs) sA (fun _ h=>h) ?_ (fun k r Y a6=>?_)
  ·exact ⟨Nat.zero_le _,fun x hx=>ja,rfl,rfl⟩
  have c7:=a6.2.1
  have f6:=a6.2.2.2
  refine yP 1 (l:=r) rfl fun A8 i9 l4 o2 r1 m2=>?_
  subst l4
  refine (go 6) (zQ (fun l6=>?_) fun l6=>?_)
  ·apply go 6
   obtain ⟨w7,s5,x8,a1⟩:=elx b0 k
   apply go 1
   have hok:=(D _ (mo a1)).2
   have b9:=(D _ (mo a1)).1
   refine (go 1) (zl fun i3=>?_)
   apply go 8
   have Q:=J _ (mo a1)
   refine zZ (fun _ h=>h.one 8 zB.Ok.loc rfl a1) (zZ (fun _ h=>h.DU 0 rfl) ?_)
   obtain ⟨o7,t8,t1⟩:=Q.sr
   obtain ⟨t6,n9,p4⟩:=Q.raw
   obtain ⟨r2,m1,t7⟩:=Q.AD
   obtain ⟨t3,m7,p7⟩:=Q.coarse
   refine vP (β:=zB) (fun z=>.tuple #[.agg (za z).toArray,iV (Sh.Ab (zB.e s5) d.to).2]) (fun z=>z.e=(Sh.Ab (zB.e s5) d.to).1) (fun z S=>zB.Ok S z) (fun z=>zB.Ok.loc z) wn rfl call80 rfl (fun _ o _ b=>Ky o b.lt (b.sl 0 rfl) (b.sl 1 rfl) (b.sl 2 rfl) (b.sl 3 rfl) gw) fun z3 x7=>vd 0 rfl (fun S w h=>zB.Ok.wf h) fun m3=>?_
   refine (go 3) (zl fun l5=>?_)
   apply go 12
   refine yh rfl (vM H) ?_
   apply go 6
   refine vP (β:=zB) (fun z=>.tuple #[.agg (za z).toArray,iV (Sh.forget (zB.e s5) d.AG d.to).2]) (fun z=>z.e=(Sh.forget (zB.e s5) d.AG d.to).1) (fun z S=>zB.Ok S z) (fun z=>zB.Ok.loc z) wn rfl call81 rfl (fun _ o _ b=>Oc o b.lt (b.sl 2 rfl) (b.sl 3 rfl) (b.sl 4 rfl) (b.sl 5 rfl) gw) fun z4 i5=>vd 0 rfl (fun S w h=>zB.Ok.wf h) fun e3=>?_
   refine (go 14) (zQ (fun c2=>?_) fun c2=>?_)
   ·apply go 4
    refine vI wn rfl rfl call75 rfl (fun _ _=>uh) ?_
    refine (go 12) (zR fun B a=>?_)
    have a:=a.yO (zk.Ok.loc (noX ((Sh.forget (zB.e s5) d.AG d.to).2):zk)) fun o b=>As _ _ _
    exact a.yz (x,noX ((Sh.forget (zB.e s5) d.AG d.to).2)) rfl (rforg_1 G qO H qO (JK (g:=(fun s=>Sh.forget s d.AG d.to)) a1 a6.2.2.1 c2) c2) (fun h=>h.sel [0,15,16,17,18] qD rfl)
   apply go 5
   refine zf za ([z4]:List zB) wn underlying23 BS rfl rfl rfl rfl qD qD rfl fun d4=>zh 11 r ([z4]:List zB) AV wn rfl rfl rfl (fun _ a=>(AM AV a 0 rfl)) underlying23 BS rfl rfl q_9 rfl fun A9 k6 o6 m4 o0=>zZ (fun _ h=>h.Fw 10 1 zB.Ok.loc rfl rfl) ?_
   have d7:∀ y9 ∈ (r++([z4]:List zB)),zB.Wf y9:=fun x hx=>(yl.1 hx).elim (c7 x) fun h=>by rw [yf.1 h]; exact e3
   apply go 7
   refine zK (uY (k + 1) (r++([z4]:List zB)) (.slice A9 ((r++([z4]:List zB)).length) k6) sA (S9 [0,12,13,14,15,16,17,18,19]) ?_ ?_)
   ·exact ⟨qO,d7,Hw (g:=(fun s=>Sh.forget s d.AG d.to)) a1 a6.2.2.1 c2 i5,by rw [uF,List.length_singleton]; omega⟩
   omega
  apply go 22
  refine yJ rfl (yq K) ?_
  refine (go 11) (zR fun B a=>?_)
  have a:=a.vT AV (i:=1) (j:=5) rfl rfl qD Sm
  have a:=a.yO (zk.Ok.loc (noX 0:zk)) fun o b=>As _ _ _
  exact a.yz (⟨⟨A8,i9,r⟩,x.zT⟩,noX 0) rfl (rforg_2 G qO H qO (JT (g:=(fun s=>Sh.forget s d.AG d.to)) a6.2.2.1 qO)) (fun h=>h.sel [0,6,2,1,9] qD rfl)
 refine (go 6) (zQ (fun a3=>?_) fun a3=>?_)
 ·apply go 4
  refine vP (β:=zD × Pz.F) (fun z=>.tuple #[.agg (yD z.1).toArray,.agg #[iV z.2.1,iV z.2.2]]) (fun z=>Pz.parse d.text=(z.1.e,z.2)) (fun z S=>zD.Ok S z.1) (fun z=>zD.Ok.loc z.1) wn rfl call83 rfl (fun _ o _ b=>Ru o b.lt) fun z5 i6=>?_
  obtain ⟨p,b8,c3⟩:=z5
  have b6:Pz.parse d.text=(p.e,(b8,c3)):=i6
  refine vd 0 rfl (fun S w h=>zD.Ok.wf h) fun r0=>?_
  refine (go 3) (zl fun k4=>zl fun f3=>?_)
  refine (go 12) (zQ (fun b1=>?_) fun b1=>?_)
  ·refine (go 14) (zR fun B a=>?_)
   have a:=a.yO (zk.Ok.loc (⟨b8,c3,n0,0⟩:zk)) fun o b=>⟨zH.vh _ _ _ _,fun c hc=>jr⟩
   exact a.yz (x,⟨b8,c3,n0,0⟩) rfl (Ot G a3 (ask_1 b6 b1)) (fun h=>h.sel [0,7,8,9,10] qD rfl)
  apply go 8
  refine yB call84 wn rfl (fun B a=>RI (In B) (fun _ h=>h) (a.yU (i:=2) rfl)) ?_
  refine (go 9) (zQ (fun V=>?_) fun V=>?_)
  ·apply go 4
   refine vI wn rfl rfl call75 rfl (fun _ _=>uh) ?_
   refine (go 7) (zR fun B a=>?_)
   have a:=a.yO (zk.Ok.loc (noX (Mn.check p.e d.to):zk)) fun o b=>As _ _ _
   exact a.yz (x,noX (Mn.check p.e d.to)) rfl (Ot G a3 (ask_2 b6 b1 V)) (fun h=>h.sel [0,7,8,9,10] qD rfl)
  have l8:=Mn.JY (nn V)
  have k8:=Mn.VN (nn V)
  refine (go 4) (l_aO fun x5=>?_)
  apply go 8
  refine zV (vR rfl rfl) (zZ (fun _ h=>h.yO (ShG.loc x) fun o b=>⟨b.sl 8 rfl,b.at_ 9 _ rfl⟩) (l_lendR (e:=p) (n:=0) (n':=(Mn.AW (Bs.look (x.zA.l.map zB.e)) (Bs.cost (x.zA.l.map zB.e)) d.to p.e 0)) (T1:=97) (T2:=25) (TI:=3) [.blk f3 [iV b8,iV c3] 61,.blk k4 [iV p.kind,iV p.n,iV p.range,.string p.word,p.ms.v,p.by_.v,p.kids.v] 59,.blk N [iV 0,iV 0,Zs,iV 0] 34,.blk L [iV d.kind,iV d.AG,iV d.to,d.sr.v,iV d.zW.time,iV d.zW.value,.string d.text] 43,slP 9 za (x.zA.v) x.zA.l,AS zB.Ok x.zA.l,okP vC.Ok d] (rV (Mn.AZ (Mn.eval (Bs.look (x.zA.l.map zB.e)) d.to p.e))) (fun z=>z.l.map zC.e=(Mn.AZ (Mn.eval (Bs.look (x.zA.l.map zB.e)) d.to p.e)).1) CelsX.Ok (S9 [1,4,0,7,8,2,3,5,6,9,10,11]) wn rfl rfl call85 rfl (fun S B o hG=>LY p _ _ _ _ _ _ _ _ _ _ o B hG (Vo D c5 (Qj hi) _ _ _ _) (Bs.Ma hi) (Bs.VQ hi) l8.2 k8) fun z6 f1=>vd 0 rfl (fun S w h=>CelsX.Ok.wf h) fun e1=>zZ (fun _ h=>h.celsY 0 rfl) ?_))
  obtain ⟨m9,m8,n2⟩:=e1.cells
  refine (go 16) (zQ (fun d0=>?_) fun d0=>?_)
  ·apply go 4
   refine vI wn rfl rfl call75 rfl (fun _ _=>uh) ?_
   refine (go 7) (zR fun B a=>?_)
   have a:=a.yO (zk.Ok.loc (noX ((Mn.AZ (Mn.eval (Bs.look (x.zA.l.map zB.e)) d.to p.e)).2.2):zk)) fun o b=>As _ _ _
   exact a.yz (x,noX ((Mn.AZ (Mn.eval (Bs.look (x.zA.l.map zB.e)) d.to p.e)).2.2)) rfl (Ot G a3 (ask_3r b6 b1 V d0)) (fun h=>h.sel [0,7,12,13,14] qD rfl)
  refine (go 13) (zR fun B a=>?_)
  have a:=a.yO (zk.Ok.loc (⟨0,0,z6,(Mn.AW (Bs.look (x.zA.l.map zB.e)) (Bs.cost (x.zA.l.map zB.e)) d.to p.e 0)⟩:zk)) fun o b=>⟨b.sl 0 rfl,b.at_ 1 _ rfl⟩
  exact a.yz (x,⟨0,0,z6,(Mn.AW (Bs.look (x.zA.l.map zB.e)) (Bs.cost (x.zA.l.map zB.e)) d.to p.e 0)⟩) rfl (Ot G a3 (ask_4r b6 b1 V d0 f1)) (fun h=>h.sel [0,7,12,13,14] qD rfl)
 apply go 6
 refine vI wn rfl rfl call75 rfl (fun _ _=>uh) ?_
 refine (go 4) (zR fun B a=>?_)
 have a:=a.yO (zk.Ok.loc (noX 1:zk)) fun o b=>As _ _ _
 exact a.yz (x,noX 1) rfl (one_3 G a3 qO) (fun h=>h.sel [0,4,5,6,7] qD rfl)
theorem Ub {K:Value} (l:List vC) (P0:Nat->Prop) {w:World} (H:∀ b,P0 b->b < w.heap.size) (L:zH P0 7 qA K l w) (r:∀ x ∈ l,vC.Ok P0 x w) (B:∀ d ∈ l,DA d.sr.l) :
    Calls prog 15 #[K] w (FU w P0 (fun z:yA × SlX zk=>.tuple #[.agg (gb z.1).toArray,z.2.v,iV (Bs.GQ (l.map vC.e)).2.2]) (fun z=>(z.1.e,z.2.l.map zk.e)=((Bs.GQ (l.map vC.e)).1,(Bs.GQ (l.map vC.e)).2.1)) (fun z S w=>yA.Ok S z.1 w∧AnssX.Ok S z.2 w)):=by
 have E:∀ x ∈ l,vC.Wf x:=fun x hx=>(r x hx).wf;obtain ⟨lA,lc,rfl,N,W,u⟩:=L.form;refine zp func15 (Mem.AT H (dc (dlp L) (dc (dp (Av vC.Ok.loc _) r) dn))) ?_;refine (go 2) (zl fun b2=>?_);refine (go 12) (zQ (fun J=>?_) fun J=>?_);refine (go 10) (uN results15 fun R m=>?_);have f:=MS J;exact m.uL ((⟨n0,0⟩,n0):yA × SlX zk) (by rw [f]; rfl) (by rw [f]; rfl) fun Pb p=>⟨⟨zH.vh _ _ _ _,fun c hc=>jr⟩,⟨zH.vh _ _ _ _,fun c hc=>jr⟩⟩;refine (go 5) (zl fun X=>?_);apply go 5;refine zZ (fun _ h=>h.nilSh) (zZ (fun _ h=>h.FR zB.Ok.loc) (zr (uZ:zk->List Value) 34 4 (zZ (fun _ h=>h.FR zk.Ok.loc) ?_)));apply go 12;refine gI (jE4 [2,5,14,15] fun (k:Nat) (x:yA) (a:List zk) (o:Value)=>[(6,o),(16,iV k)]) (jS4 fun k x a o=>[.s 0 (AS zk.Ok a),.s 1 (Row o 34 4 uZ a),.s 2 (AS zB.Ok x.zA.l),.s 3 (slP 9 za (x.zA.v) x.zA.l),.s 4 (.blk X [x.zA.v,iV x.zT] 25)]) (fun k x a o=>k<=l.length∧(∀ y ∈ a,zk.Wf y)∧Bs.run Bs.zero ((l.take k).map vC.e)=(x.e,a.map zk.e)∧a.length=k) (fun k x a o=>l.length - k) 0 (⟨n0,0⟩:yA) [] (Zs) ?_ (fun k x a o g=>?_);exact ⟨Nat.zero_le _,fun x hx=>ja,rfl,rfl⟩;have t:=g.2.1;have a0:=g.2.2.2;refine yP 1 (l:=a) rfl fun A1 A C Z O a3=>?_;subst C;refine (go 6) (zQ (fun Y=>?_) fun Y=>?_);apply go 6;obtain ⟨T,s1,a2,j⟩:=elx u k;refine (go 2) (zl fun b8=>?_);apply go 6;have q:Bs.Inv x.e 120:=inv_at g.2.2.1 qO;have V:=E _ (mo j);refine zZ (fun _ h=>h.one 8 vC.Ok.loc rfl j) (zn (sG [6,5,4,0,1,2,3,7,8,9]) rfl rfl call38 (fun _ _ hG=>UK hG q (B _ (mo j))) fun n F=>vd 0 rfl (fun S w h=>zk.Ok.wf h) fun G=>zf uZ ([n.2]:List zk) wn underlying26 Rx rfl rfl rfl rfl qD qD rfl fun Q=>zh 8 a ([n.2]:List zk) HE wn rfl rfl rfl (fun _ m=>(AM HE m 0 rfl)) underlying26 Rx rfl rfl qQ rfl fun M D P a1 U=>zZ (fun _ h=>h.Fw 7 1 zk.Ok.loc rfl rfl) ?_)
 have I:∀ y9 ∈ (a++([n.2]:List zk)),zk.Wf y9:=fun x hx=>(yl.1 hx).elim (t x) fun h=>by rw [yf.1 h]; exact G
 apply go 7;refine zK (ug (k + 1) n.1 (a++([n.2]:List zk)) (.slice M ((a++([n.2]:List zk)).length) D) ?_ ?_);exact ⟨qO,I,Mp j g.2.2.1 F,by rw [uF,List.length_singleton]; omega⟩;omega;refine (go 15) (uN results15 fun R m=>?_);have f:=On g.2.2.1 qO qO;have m:=m.zo HE (i:=1) rfl rfl;exact m.uL ((x,⟨A1,A,a⟩):yA × SlX zk) (by rw [f]; first | done | rfl) (by rw [f]) fun Pb p=>⟨⟨p.sl 3 rfl,p.at_ 2 _ rfl⟩,⟨p.sl 1 rfl,p.at_ 0 _ rfl⟩⟩
theorem UO {a:zk} {b:zk} (P0:Nat->Prop) {w:World} (g:∀ b,P0 b->b < w.heap.size) (m:zk.Ok P0 a w) (k:zk.Ok P0 b w)  :
    Calls prog 17 #[.agg (uZ a).toArray,.agg (uZ b).toArray] w (Ret w (.bool (decide (a.e=b.e)))):=by
 have f:=m.wf;have j:=k.wf;refine zp func17 (Mem.AT g (dc (dp (zk.Ok.loc _) m) (dc (dp (zk.Ok.loc _) k) dn))) ?_;refine (gg) (yw fun x=>yw fun y=>?_);refine (gg) (zm 10 (fun n=>?_) fun n=>?_);refine (gg) (zm 17 (fun t=>?_) fun t=>?_);refine (gg) (zm 24 (fun q=>?_) fun q=>?_);apply go 4;refine zZ (fun _ h=>h.ansX 2 rfl) ?_;obtain ⟨o,u,p⟩:=f.cells;refine zZ (fun _ h=>h.ansX 5 rfl) ?_;obtain ⟨s,r,v⟩:=j.cells;refine yB call19 (wg rfl rfl rfl) rfl (fun d c=>Ql a.cells.l b.cells.l (In d) mJ (c.slp 2 rfl) (c.yU (i:=3) rfl) (c.slp 0 rfl) (c.yU (i:=1) rfl)) ?_;refine (gg) (zR fun d c=>?_);exact zL (congrArg Value.bool q_59) c;refine (gg) (zR fun d c=>?_);exact zL (congrArg Value.bool q_59) c;refine (gg) (zR fun d c=>?_);exact zL (congrArg Value.bool q_59) c;refine (gg) (zR fun d c=>?_);exact zL (congrArg Value.bool q_59) c
theorem MI {H:Value} (l:List vC) (P0:Nat->Prop) {w:World} (u:∀ b,P0 b->b < w.heap.size) (G:zH P0 7 qA H l w) (n:∀ x ∈ l,vC.Ok P0 x w) (M:yT P0 w) (r:∀ d ∈ l,DA d.sr.l) :
    Calls prog 3 #[H] w (Ret w (.bool true)):=by
 have I:∀ x ∈ l,vC.Wf x:=fun x hx=>(n x hx).wf;obtain ⟨lA,lc,rfl,W,Q,L⟩:=G.form;refine zp func3 (Mem.AT u (dc (dlp G) (dc (dp (Av vC.Ok.loc _) n) (dc (dp yT.loc M) dn)))) ?_;apply go 8;refine vP (β:=yA × SlX zk) (fun z=>.tuple #[.agg (gb z.1).toArray,z.2.v,iV (Bs.GQ (l.map vC.e)).2.2]) (fun z=>(z.1.e,z.2.l.map zk.e)=((Bs.GQ (l.map vC.e)).1,(Bs.GQ (l.map vC.e)).2.1)) (fun z S w=>Eg z S w) (fun z=>Eg.loc z) wn rfl call14 rfl (fun _ s _ a=>c_play l s a.lt (a.sl 0 rfl) (a.at_ 1 _ rfl) (a.at_ 2 _ rfl)) fun F D=>vd 0 rfl (fun S w h=>Eg.wf h) fun o=>zZ (fun _ h=>h.playX 0 rfl) ?_;obtain ⟨P,T,y⟩:=o.2.sl;refine (go 4) (zl fun b3=>?_);apply go 8;refine vP (β:=yA × SlX zk) (fun z=>.tuple #[.agg (gb z.1).toArray,z.2.v,iV (Bs.GQ (l.map vC.e)).2.2]) (fun z=>(z.1.e,z.2.l.map zk.e)=((Bs.GQ (l.map vC.e)).1,(Bs.GQ (l.map vC.e)).2.1)) (fun z S w=>Eg z S w) (fun z=>Eg.loc z) wn rfl call15 rfl (fun _ s _ a=>Ub l s a.lt (a.sl 5 rfl) (a.at_ 6 _ rfl) r) fun z2 A=>vd 0 rfl (fun S w h=>Eg.wf h) fun p=>zZ (fun _ h=>h.playX 0 rfl) ?_;obtain ⟨J,X,B⟩:=p.2.sl;obtain ⟨C,m⟩:=Prod.mk.inj (D.trans A.symm);have E:=congrArg List.length m;simp only [vb] at E;refine (go 4) (zl fun b6=>?_);apply go 12;refine jN (t:=25) rfl (fun g=>g rfl) ?_;apply go 2;refine yB call16 (wg rfl rfl rfl) rfl (fun q c=>RT (In q) mJ (c.yU (i:=8) rfl) (c.yU (i:=3) rfl)) ?_;apply go 3;refine jN (t:=31) rfl (fun g=>g C) ?_;apply go 8;refine yJ rfl (yq qO) ?_;apply go 11;refine yk (jE1 [4,7,39] fun (k:Nat)=>[(40,iV k)]) (jS1 fun k=>[]) (fun k=>k<=F.2.l.length) (fun k=>F.2.l.length - k) 0 ?_ (fun k O=>?_);exact Nat.zero_le _;refine (go 6) (zQ (fun N=>?_) fun N=>?_)
 apply go 14;obtain ⟨K,s1,V,j⟩:=elx y k;apply go 4;obtain ⟨R,s2,Y,f⟩:=elx B k;apply go 2;have Z:=o.2.all _ (mo j);refine uf (fun _ h=>h.one 7 zk.Ok.loc rfl j) (fun _ h=>h.Bl) ?_;have U:=p.2.all _ (mo f);refine uf (fun _ h=>h.one 3 zk.Ok.loc rfl f) (fun _ h=>h.Bl) (yL wn rfl call17 rfl (fun q c=>UO (In q) mJ (c.yU (i:=1) rfl) (c.yU (i:=0) rfl)) ?_);apply go 3;refine yJ rfl (yq (fun g=>g (Bs.at_same m j f))) ?_;apply go 6;refine zK (zy (k + 1) ?_ ?_);omega;omega;refine (go 11) (zR fun q c=>?_);exact zL rfl c
end
end Go.Proofs.YtgojhpocpajmlaaGreatDoor
