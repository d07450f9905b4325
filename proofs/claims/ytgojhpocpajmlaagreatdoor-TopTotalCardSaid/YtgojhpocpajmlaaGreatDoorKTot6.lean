/- Laws and walks for the proof of TopTotal, packed by program; each theorem bears its own conditions. -/
import Derived.Test.YtgojhpocpajmlaaGreatDoorRows
import Derived.Carry
import Derived.Deep.Slices
import Derived.Test.YtgojhpocpajmlaaGreatDoorKTot5
namespace Go.Proofs.YtgojhpocpajmlaaGreatDoor
section
open _root_.Go.Proofs.Tryz
open Ex
attribute [local irreducible] WC WL WQ WE WS
set_option linter.unusedVariables false
set_option linter.unusedSimpArgs false
set_option maxHeartbeats 1000000 in
theorem c_play (lv:Value) (l:List zu) (P0:Nat→Prop) (w:World) (hP0:∀ b,P0 b→b < w.heap.size) (hl:zD P0 7 y8 lv l w) (hla:∀ x ∈ l,zu.Ok P0 x w) (hE:zO P0 w)  :
    Calls prog 14 #[lv] w (RetE w P0 (fun z:yF × SlX zl=>.tuple #[.agg (baseXE z.1).toArray,.slice z.2.A z.2.l.length z.2.c,iV (Bs.play (l.map zu.e)).2.2]) (fun z=>(z.1.e,z.2.l.map zl.e)=((Bs.play (l.map zu.e)).1,(Bs.play (l.map zu.e)).2.1)) (fun z S w=>yF.Ok S z.1 w∧AnssX.Ok S z.2 w)):=by
 have hwl:∀ x ∈ l,zu.Wf x:=fun x hx=>(hla x hx).wf
 obtain ⟨lA,lc,rfl,hlc,hlm,hlA⟩:=hl.form
 refine zt (N:=33) func14 (Mem.ofDatsP hP0 (dc (dlp hl) (dc (dp (all_loc zu.Ok.loc _) hla) (dc (dp zO.loc hE) dn)))) ?_
 refine (go 2) (yC fun b2=>?_)
 refine (go 12) (zZ (fun h1=>?_) fun h1=>?_)
 ·refine (go 10) (jG results14 fun w1 hM=>?_)
  have hb9:=play_many h1
  exact hM.vH ((⟨⟨none,0,[]⟩,0⟩,⟨none,0,[]⟩):yF × SlX zl) (by rw [hb9]; rfl) (by rw [hb9]; rfl) fun Pb pp=>⟨⟨zD.zy _ _ _ _,fun c hc=>(by cases hc)⟩,⟨zD.zy _ _ _ _,fun c hc=>(by cases hc)⟩⟩
 refine (go 5) (yy fun b13=>?_)
 refine (go 5) ?_
 refine yI (vE:zl→List Value) 34 4 (zd (fun _ h=>h.all0 zl.Ok.loc) ?_)
 refine (go 12) ?_
 refine ut (fun _ h=>h.vX zC 50 9 zY) (u6 (fun _ h=>h.all0 zC.Ok.loc) (vR (fun (k:Nat) (x:yF) (zs:List zl) (ov:Value)=>[(0,.slice lA l.length lc),(2,.pointer (some ⟨b2,0,none⟩)),(5,.pointer (some ⟨b13,0,none⟩)),(6,ov),(15,iV l.length),(16,iV k)]) (fun (k:Nat) (x:yF) (zs:List zl) (ov:Value)=>[allP zC.Ok x.zA.l,Row (.slice x.zA.A x.zA.l.length x.zA.c) 50 9 zY x.zA.l,allP zl.Ok zs,Row ov 34 4 vE zs,.blk b13 [.slice x.zA.A x.zA.l.length x.zA.c,iV x.zN] 93,.blk b2 [Zs,iV 0] 25,slP 7 y8 (.slice lA l.length lc) l,allP zu.Ok l,.pub zO]) (fun (k:Nat) (x:yF) (zs:List zl) (ov:Value)=>k≤l.length∧(∀ y ∈ zs,zl.Wf y)∧Bs.run Bs.zero ((l.take k).map zu.e)=(x.e,zs.map zl.e)∧zs.length=k) (fun (k:Nat) (x:yF) (zs:List zl) (ov:Value)=>l.length - k) 0 (⟨⟨none,0,[]⟩,0⟩:yF) [] (Zs) (sc rfl (sc rfl (sc rfl (sc rfl (sc rfl (sc (ji qO) sn)))))) (fun _ h=>h) ?_ (fun k x zs ov hI1=>?_)))
 ·exact ⟨Nat.zero_le _,fun x hx=>(by cases hx),rfl,rfl⟩
 have hwz:=hI1.2.1
 have hzl:=hI1.2.2.2
 refine ye 3 (l:=zs) rfl fun A1 cp1 hv1 hc1 hm1 hA1=>?_
 subst hv1
 refine (go 6) (zZ (fun h2=>?_) fun h2=>?_)
 ·refine (go 15) ?_
  obtain ⟨ad1,s1,hd1,hs1⟩:=elx hlA k
  refine (go 1) ?_
  have hiv1:Bs.Inv x.e 120:=inv_at hI1.2.2.1 qO
  refine zd (fun _ h=>h.celAt 6 rfl hd1 hs1) ?_
  have hw1:=hwl _ (List.mem_of_getElem? hs1)
  refine zd (fun _ h=>h.one 8 zu.Ok.loc rfl hs1) (zd (fun _ h=>h.dup 10 rfl rfl) (zj (α:=yF × zl) [.blk b13 [.slice x.zA.A x.zA.l.length x.zA.c,iV x.zN] 93,Row (.slice x.zA.A x.zA.l.length x.zA.c) 50 9 zY x.zA.l,allP zC.Ok x.zA.l,celP (Addr.add ad1 (k * 7)) [iV s1.kind,iV s1.tier,iV s1.to,.slice s1.sr.A s1.sr.l.length s1.sr.c,iV s1.zP.time,iV s1.zP.value,.string s1.text],okP zu.Ok s1,.pub zO] [allP zl.Ok zs,Row (.slice A1 zs.length cp1) 34 4 vE zs,.blk b2 [Zs,iV 0] 25,slP 7 y8 (.slice lA l.length lc) l,allP zu.Ok l,.pub zO] (fun z:yF × zl=>.agg (vE z.2).toArray) (fun z1=>(z1.1.e,z1.2.e)=Bs.one x.e s1.e) (fun z1=>[okP zl.Ok z1.2,.blk b13 [.slice z1.1.zA.A z1.1.zA.l.length z1.1.zA.c,iV z1.1.zN] 93,Row (.slice z1.1.zA.A z1.1.zA.l.length z1.1.zA.c) 50 9 zY z1.1.zA.l,allP zC.Ok z1.1.zA.l,celP (Addr.add ad1 (k * 7)) [iV s1.kind,iV s1.tier,iV s1.to,.slice s1.sr.A s1.sr.l.length s1.sr.c,iV s1.zP.time,iV s1.zP.value,.string s1.text],okP zu.Ok s1,.pub zO]) _ (fun _=>rfl) (S9 [7,4,3,2,1,0,5,6,8,9,10,11]) (fun _=>rfl) wn rfl rfl call37 rfl (fun w1 Pb hG=>c_bdo b13 x (Addr.add ad1 (k * 7)) s1 Pb w1 hG hiv1) fun z1 hz1=>yq 0 rfl (fun S w h=>zl.Ok.wf h) fun hw2=>yA vE ([z1.2]:List zl) wn underlying26 inf34 rfl rfl rfl rfl qD qD rfl fun b25=>yG 9 zs ([z1.2]:List zl) encAnsX wn rfl rfl rfl (fun _ hM=>(RowSl encAnsX hM 0 rfl)) underlying26 inf34 rfl rfl (by simp only [qL]; omega) rfl fun A2 cp2 hc2 hm2 hA2=>zd (fun _ h=>h.allSnoc 8 1 zl.Ok.loc rfl rfl) ?_))
  have hw3:∀ x ∈ (zs++([z1.2]:List zl)),zl.Wf x:=fun x hx=>(List.mem_append.1 hx).elim (hwz x) fun h=>by rw [List.mem_singleton.1 h]; exact hw2
  refine (go 7) ?_
  refine zV (yh (k + 1) z1.1 (zs++([z1.2]:List zl)) (.slice A2 ((zs++([z1.2]:List zl)).length) cp2) (sc rfl (sc rfl (sc rfl (sc rfl (sc rfl (sc (ji qO) sn)))))) (S9 [5,4,0,10,3,11,12,13,8]) ?_ ?_)
  ·exact ⟨by omega,hw3,play_next hs1 hI1.2.2.1 hz1,by rw [List.length_append,List.length_singleton]; omega⟩
  omega
 refine (go 18) (jG results14 fun w1 hM=>?_)
 have hb9:=play_end hI1.2.2.1 qO qO
 have hM:=hM.zq encShelfX (i:=1) rfl rfl
 have hM:=hM.zq encAnsX (i:=3) rfl rfl
 exact hM.vH ((x,⟨A1,cp1,zs⟩):yF × SlX zl) (by rw [hb9]; first | done | rfl) (by rw [hb9]) fun Pb pp=>⟨⟨pp.sl 1 rfl,pp.at_ 0 _ rfl⟩,⟨pp.sl 3 rfl,pp.at_ 2 _ rfl⟩⟩
end
section
open _root_.Go.Proofs.Tryz
open Ex
attribute [local irreducible] WC WL WQ WE WS
set_option linter.unusedVariables false
set_option linter.unusedSimpArgs false
theorem c_tadd (h:ByteArray) (t:Int) (v:Int) (P0:Nat→Prop) (w:World) (hP0:∀ b,P0 b→b < w.heap.size)  :
    Calls prog 27 #[.string h,iV t,iV v] w (RetE w P0 (fun z:zu=>.agg (y8 z).toArray) (fun z=>z.e=Bs.addD h t v) (fun z S=>zu.Ok S z)):=by
 refine zt (N:=14) func27 (Mem.ofDatsP hP0 dn) ?_
 refine (go 2) (yC fun b6=>?_)
 refine (go 6) ?_
 refine yA zS ([(⟨⟨#[104,111,115,116]⟩,h⟩:Label)]:List Label) wn underlying39 inf74 rfl rfl rfl rfl qD qD rfl fun b9=>?_
 refine (go 8) (za results27 fun w1 hM=>?_)
 have hM:=hM.zq encLabel (i:=0) rfl rfl
 exact hM.vH (zu.mk 1 0 0 ⟨(some ⟨b9,0,none⟩),1,([(⟨⟨#[104,111,115,116]⟩,h⟩:Label)]:List Label)⟩ ⟨t,v⟩ ⟨#[]⟩) rfl rfl fun Pb pp=>⟨pp.sl 0 rfl⟩
theorem c_troll (t:Int) (P0:Nat→Prop) (w:World) (hP0:∀ b,P0 b→b < w.heap.size)  :
    Calls prog 28 #[iV t] w (RetE w P0 (fun z:zu=>.agg (y8 z).toArray) (fun z=>z.e=Bs.rollD t) (fun z S=>zu.Ok S z)):=by
 refine zt (N:=5) func28 (Mem.ofDatsP hP0 dn) ?_
 refine (go 2) (yC fun b2=>?_)
 refine (go 10) (za results28 fun w1 hM=>?_)
 exact hM.vH (zu.mk 2 0 t ⟨none,0,[]⟩ ⟨0,0⟩ ⟨#[]⟩) rfl rfl fun Pb pp=>⟨zD.zy _ _ _ _⟩
theorem jK (s:ByteArray) (t:Int) (P0:Nat→Prop) (w:World) (hP0:∀ b,P0 b→b < w.heap.size)  :
    Calls prog 31 #[.string s,iV t] w (RetE w P0 (fun z:zu=>.agg (y8 z).toArray) (fun z=>z.e=Bs.askD s t) (fun z S=>zu.Ok S z)):=by
 refine zt (N:=8) func31 (Mem.ofDatsP hP0 dn) ?_
 refine (go 2) (yC fun b4=>?_)
 refine (go 11) (za results31 fun w1 hM=>?_)
 exact hM.vH (zu.mk 4 0 t ⟨none,0,[]⟩ ⟨0,0⟩ s) rfl rfl fun Pb pp=>⟨zD.zy _ _ _ _⟩
theorem jL (lv:Value) (l:List zu) (P0:Nat→Prop) (w:World) (hP0:∀ b,P0 b→b < w.heap.size) (hl:zD P0 7 y8 lv l w) (hla:∀ x ∈ l,zu.Ok P0 x w) (hE:zO P0 w)  :
    Calls prog 26 #[lv] w (RetE w P0 (fun z:zl=>.agg (vE z).toArray) (fun z=>z.e=Bs.last (l.map zu.e)) (fun z S=>zl.Ok S z)):=by
 have hwl:∀ x ∈ l,zu.Wf x:=fun x hx=>(hla x hx).wf
 obtain ⟨lA,lc,rfl,hlc,hlm,hlA⟩:=hl.form
 refine zt (N:=26) func26 (Mem.ofDatsP hP0 (dc (dlp hl) (dc (dp (all_loc zu.Ok.loc _) hla) (dc (dp zO.loc hE) dn)))) ?_
 refine (go 2) (yC fun b2=>?_)
 refine (go 5) ?_
 refine yY (β:=yF × SlX zl) (fun z=>.tuple #[.agg (baseXE z.1).toArray,.slice z.2.A z.2.l.length z.2.c,iV (Bs.play (l.map zu.e)).2.2]) (fun z=>(z.1.e,z.2.l.map zl.e)=((Bs.play (l.map zu.e)).1,(Bs.play (l.map zu.e)).2.1)) (fun z S w=>PlayOk z S w) (fun z=>PlayOk.loc z) wn rfl call14 rfl (fun w1 Pb hM pp=>c_play _ l Pb w1 pp.lt (pp.sl 1 rfl) (pp.at_ 2 _ rfl) (pp.at_ 3 _ rfl)) fun z1 hz1=>yq 0 rfl (fun S w h=>PlayOk.wf h) fun hw1=>zd (fun _ h=>h.playX 0 rfl) ?_
 obtain ⟨hc1,hm1,hA1⟩:=hw1.2.sl
 refine (go 4) (yC fun b3=>?_)
 refine (go 11) (yU 14 (fun h1=>?_) fun h1=>?_)
 ·refine (go 15) (za results26 fun w1 hM=>?_)
  exact hM.vH (noX 1) rfl (Bs.last_no hz1 (.inl h1)) fun Pb pp=>noX_ok _ _ _
 refine (go 6) (zZ (fun h2=>?_) fun h2=>?_)
 ·refine (go 8) (za results26 fun w1 hM=>?_)
  exact hM.vH (noX 1) rfl (Bs.last_no hz1 (.inr h2)) fun Pb pp=>noX_ok _ _ _
 refine (go 8) ?_
 obtain ⟨ad1,s1,hd1,hs1⟩:=elx hA1 (z1.2.l.length - 1)
 refine zc (vB (i:=(z1.2.l.length - 1)) rfl hd1 rfl qO qI underlying26 inf34) ?_
 refine (go 1) ?_
 have hw2:=hw1.2.all _ (List.mem_of_getElem? hs1)
 refine zd (fun _ h=>h.one 2 zl.Ok.loc rfl hs1) ?_
 refine (go 4) (za results26 fun w1 hM=>?_)
 exact hM.vH s1 rfl (Bs.last_of hz1 h1 hs1) fun Pb pp=>pp.at_ 0 _ rfl
end
section
open _root_.Go.Proofs.Tryz
open Ex
attribute [local irreducible] WC WL WQ WE WS
set_option linter.unusedVariables false
set_option linter.unusedSimpArgs false
theorem c_talive (P0:Nat→Prop) (w:World) (hP0:∀ b,P0 b→b < w.heap.size) (hE:zO P0 w)  :
    Calls prog 25 #[] w (Ret w (.bool true)):=by
 refine zt (N:=24) func25 (Mem.ofDatsP hP0 (dc (dp zO.loc hE) dn)) ?_
 refine (go 7) ?_
 refine yY (β:=zu) (fun z=>.agg (y8 z).toArray) (fun z=>z.e=Bs.addD ⟨#[97]⟩ 5 7) (fun z S=>zu.Ok S z) (fun z=>zu.Ok.loc z) wn rfl call27 rfl (fun w1 Pb hM pp=>c_tadd ⟨#[97]⟩ 5 7 Pb w1 pp.lt) fun z1 hz1=>yq 0 rfl (fun S w h=>zu.Ok.wf h) fun hw1=>yY (β:=zu) (fun z=>.agg (y8 z).toArray) (fun z=>z.e=Bs.rollD 60) (fun z S=>zu.Ok S z) (fun z=>zu.Ok.loc z) wn rfl call28 rfl (fun w1 Pb hM pp=>c_troll 60 Pb w1 pp.lt) fun z2 hz2=>yq 0 rfl (fun S w h=>zu.Ok.wf h) fun hw2=>yY (β:=zu) (fun z=>.agg (y8 z).toArray) (fun z=>z.e=Bs.askD ⟨#[115,117,109,40,123,125,91,54,48,93,41]⟩ 60) (fun z S=>zu.Ok S z) (fun z=>zu.Ok.loc z) wn rfl call31 rfl (fun w1 Pb hM pp=>jK ⟨#[115,117,109,40,123,125,91,54,48,93,41]⟩ 60 Pb w1 pp.lt) fun z3 hz3=>yq 0 rfl (fun S w h=>zu.Ok.wf h) fun hw3=>yA y8 ([z1,z2,z3]:List zu) wn underlying22 inf43 rfl rfl rfl rfl qD qD rfl fun b5=>zd (fun _ h=>h.all0 zu.Ok.loc) (zd (fun _ h=>h.allSnoc 0 4 zu.Ok.loc rfl rfl) (zd (fun _ h=>h.allSnoc 0 4 zu.Ok.loc rfl rfl) (zd (fun _ h=>h.allSnoc 0 4 zu.Ok.loc rfl rfl) (ux 4 encDoX rfl rfl ?_))))
 refine yY (β:=zl) (fun z=>.agg (vE z).toArray) (fun z=>z.e=Bs.last (([z1,z2,z3]:List zu).map zu.e)) (fun z S=>zl.Ok S z) (fun z=>zl.Ok.loc z) wn rfl call26 rfl (fun w1 Pb hM pp=>jL _ ([z1,z2,z3]:List zu) Pb w1 pp.lt (pp.sl 4 rfl) (pp.at_ 0 _ rfl) (pp.at_ 8 _ rfl)) fun z4 hz4=>yq 0 rfl (fun S w h=>zl.Ok.wf h) fun hw4=>?_
 have hal:=Bs.alive_x (hz4.trans (congrArg Bs.last (show [zu.e z1,zu.e z2,zu.e z3]=Bs.topL from by rw [hz1,hz2,hz3]; rfl)))
 refine yC fun b1=>?_
 refine (go 9) ?_
 refine uN (t:=10) rfl hal.1 ?_
 refine (go 6) ?_
 refine uN (t:=16) rfl (by have:=congrArg List.length hal.2; simp only [List.length_map,List.length_cons,List.length_nil] at this; omega) ?_
 refine (go 2) ?_
 refine zd (fun _ h=>h.ansX 1 rfl) ?_
 obtain ⟨hc1,hm1,hA1⟩:=hw4.cells
 obtain ⟨ad1,hd1⟩:=hA1 (ne_nil (i:=0) (by have:=congrArg List.length hal.2; simp only [List.length_map,List.length_cons,List.length_nil] at this; omega))
 refine vF (vB (i:=0) rfl hd1 rfl qO (by have:=congrArg List.length hal.2; simp only [List.length_map,List.length_cons,List.length_nil] at this; omega) underlying32 inf81) ?_
 refine (go 1) ?_
 obtain ⟨s1,hs1⟩:∃ x,z4.cells.l[0]?=some x:=⟨_,List.getElem?_eq_getElem (by have:=congrArg List.length hal.2; simp only [List.length_map,List.length_cons,List.length_nil] at this; omega)⟩
 refine (go 7) (za results25 fun w1 hM=>?_)
 exact zQ (by simp [hal.1,Bs.val_x hal.2 hs1]) hM
end
section
namespace Pz
open Ex Mn
set_option linter.unusedVariables false
def bareM (m:Match):Match:=if 2 < m.kind then ⟨m.kind,m.key,⟨#[]⟩⟩ else m
mutual
def bare:Expr→Expr
  | .mk k n r w ms bs ks=>if k=1 then .mk k n 0 ⟨#[]⟩ [] [] (bares ks) else if k=2 then .mk k 0 r w (ms.map bareM) [] (bares ks) else if k=3 then .mk k 0 0 w [] bs (bares ks) else .mk k 0 0 w [] [] (bares ks)
def bares:List Expr→List Expr
  | []=>[]
  | x::xs=>bare x::bares xs
end
theorem bares_map:∀ l,bares l=l.map bare
  | []=>rfl
  | x::xs=>by rw [bares,bares_map xs]; rfl
theorem bare_1 {n r:Int} {w:ByteArray} {ms:List Match} {bs:List ByteArray} {ks:List Expr}:bare (.mk 1 n r w ms bs ks)=.mk 1 n 0 ⟨#[]⟩ [] [] (bares ks):=by rw [bare,if_pos rfl]
theorem bare_2 {n r:Int} {w:ByteArray} {ms:List Match} {bs:List ByteArray} {ks:List Expr}:bare (.mk 2 n r w ms bs ks)=.mk 2 0 r w (ms.map bareM) [] (bares ks):=by rw [bare,if_neg qD,if_pos rfl]
theorem bare_3 {n r:Int} {w:ByteArray} {ms:List Match} {bs:List ByteArray} {ks:List Expr}:bare (.mk 3 n r w ms bs ks)=.mk 3 0 0 w [] bs (bares ks):=by rw [bare,if_neg qD,if_neg qD,if_pos rfl]
theorem bare_4 {n r:Int} {w:ByteArray} {ms:List Match} {bs:List ByteArray} {ks:List Expr}:bare (.mk 4 n r w ms bs ks)=.mk 4 0 0 w [] [] (bares ks):=by rw [bare,if_neg qD,if_neg qD,if_neg qD]
def Post {α:Type} (x:Res α) (p:α→Prop):Prop:=∀ a,x=.ok a→p a
theorem Post.then {α β:Type} {x:Res α} {g:α→Res β} {p:α→Prop} {q:β→Prop} (h:Post x p) (hg:∀ a,p a→Post (g a) q):Post (x.then g) q:=fun b hb=>by
  obtain ⟨a,h1,h2⟩:=then_some hb
  exact hg a (h a h1) b h2
theorem Post.ok {α:Type} {a:α} {p:α→Prop} (h:p a):Post (.ok a) p:=fun b hb=>by cases hb; exact h
theorem Post.no {α:Type} (f:F) (p:α→Prop):Post (.no f) p:=fun b hb=>by cases hb
theorem ext_rest (s:ByteArray) (b e:Nat):(s.extract b e).data.toList=(rest s b).take (e - b):=by
  rw [ByteArray.data_extract,Array.toList_extract,List.extract_eq_take_drop]; rfl
structure Read (e:Expr) (n m:Int):Prop where
  fine:fineE e
  bare:bare e=e
  nd:m=n + nodes e
mutual
def depth:Expr→Int
  | .mk _ _ _ _ _ _ ks=>depths ks + 1
def depths:List Expr→Int
  | []=>0
  | x::xs=>if depths xs < depth x then depth x else depths xs
end
mutual
theorem depth_pos:∀ (e:Expr),1≤depth e
  | .mk _ _ _ _ _ _ ks=>by rw [depth]; have:=depths_pos ks; omega
theorem depths_pos:∀ (l:List Expr),0≤depths l
  | []=>by rw [depths]; omega
  | x::xs=>by rw [depths]; have:=depth_pos x; have:=depths_pos xs; split <;> omega
end
mutual
theorem low_depth:∀ (e:Expr) (d:Int),Mn.low d e↔d + depth e≤21
  | .mk _ _ _ _ _ _ ks, d => by
    rw [Mn.low,depth]
    have h1:=lows_depth ks (d + 1); have h2:=depths_pos ks
    constructor
    · rintro ⟨a,b⟩
      rcases h1.1 b with h | h <;> omega
    · intro h; exact ⟨by omega,h1.2 (.inl qO)⟩
theorem lows_depth:∀ (l:List Expr) (d:Int),lows d l↔(d + depths l≤21∨depths l=0)
  | [],d=>by rw [lows,depths]; simp
  | x :: xs, d => by
    rw [lows,depths]
    have h1:=low_depth x d; have h2:=lows_depth xs d; have h3:=depth_pos x; have h4:=depths_pos xs
    rw [h1,h2]
    split <;> omega
end
theorem read_wrong {e:Expr} {m:Int} (h:Read e 0 m) (hm:m≤100):Lg.wrong e≠0↔20 < depth e:=by
  unfold Lg.wrong
  have h0:=h.nd
  constructor
  · intro hw
    refine Classical.byContradiction fun g=>hw ?_
    rw [shape_ok e 1 0 h.fine qO ((low_depth e 1).2 qO)]
  · intro hd hw
    have:=(low_depth e 1).1 (shape_of e 1 0 hw).2.2.2
    omega
end Pz
end
section
namespace Pz
open Ex Mn
set_option linter.unusedVariables false
structure At (s:ByteArray) (i:Nat) (L:List UInt8):Prop where
  le:i≤s.size
  eq:rest s i=L
def sk (L:List UInt8):List UInt8:=L.dropWhile spc
theorem rest_add (s:ByteArray) (i n:Nat):rest s (i + n)=(rest s i).drop n:=by unfold rest; rw [List.drop_drop]
theorem rest_len {s:ByteArray} {i:Nat} (h:i≤s.size):i + (rest s i).length=s.size:=by
  unfold rest; rw [List.length_drop,size_l]; omega
section
variable {s:ByteArray} {i j k:Nat} {c:Int} {L R A:List UInt8}
theorem At.fwd (h:At s i (A++R)):At s (i + A.length) R:=by
  have h1:=rest_len h.le
  rw [h.eq,List.length_append] at h1
  exact ⟨by omega,by rw [rest_add,h.eq,List.drop_left]⟩
theorem At.past (h:At s i L):At s (blank s i) (sk L):=by
  have h1:blank s i=i + (L.takeWhile spc).length:=by show run spc s i=_; unfold run; rw [h.eq]
  rw [h1]
  refine At.fwd (A:=L.takeWhile spc) ⟨h.le,?_⟩
  rw [h.eq]; exact (List.takeWhile_append_dropWhile).symm
theorem sk_sk (L:List UInt8):sk (sk L)=sk L:=by
  unfold sk
  cases h:L.dropWhile spc with
  | nil=>rfl
  | cons a r =>
    have:=List.head_dropWhile_not spc (l:=L) (by rw [h]; simp)
    simp only [h,List.head_cons] at this
    rw [List.dropWhile_cons_of_neg (by simpa using this)]
theorem sk_cons {b:UInt8} {r:List UInt8} (h:spc b=false):sk (b::r)=b::r:=by unfold sk; rw [List.dropWhile_cons_of_neg (by simp [h])]
theorem sk_blank (r:List UInt8):sk (32::r)=sk r:=by unfold sk; rw [List.dropWhile_cons_of_pos qD]
theorem At.pfx {sg:ByteArray} (h:At s i L):pfx s sg i=sg.data.toList.isPrefixOf L:=by unfold Pz.pfx; rw [h.eq]
theorem eat_at {sg:ByteArray} (h:At s i L) (e:sk L=sg.data.toList++R):∃ j,eat s sg i=(true,j)∧At s j R:=by
  have h1:=h.past
  refine ⟨_,eat_yes rfl ?_,?_⟩
  · rw [h1.pfx,e,List.isPrefixOf_iff_prefix]; exact List.prefix_append _ _
  · rw [bl_size]; exact At.fwd (by rw [← e]; exact h1)
theorem eat_at_no {sg:ByteArray} (h:At s i L) (e:¬ sg.data.toList <+: sk L):∃ j,eat s sg i=(false,j)∧At s j (sk L):=by
  have h1:=h.past
  exact ⟨_,eat_no rfl (by rw [h1.pfx,List.isPrefixOf_iff_prefix]; exact e),h1⟩
theorem eat_at_ne {a:UInt8} (h:At s i L) (e:∀ b r,sk L=b::r→b≠a):∃ j,eat s ⟨#[a]⟩ i=(false,j)∧At s j (sk L) :=
  eat_at_no h fun ⟨t,ht⟩=>e a t ht.symm rfl
theorem must_at {sg:ByteArray} (h:At s i L) (e:sk L=sg.data.toList++R):∃ j,must s sg ⟨i,c⟩=.ok ⟨j,c⟩∧At s j R:=by
  obtain ⟨j,h1,h2⟩:=eat_at h e
  exact ⟨j,by unfold must; simp only [h1,if_true,St.go],h2⟩
theorem fineB_wch {k:Nat} {b:UInt8} (h:zI.fineB k b):wch b=true:=by unfold zI.fineB at h; unfold wch; exact decide_eq_true qO
theorem fineB_low {b:UInt8} (h:zI.fineB 0 b):low b=true:=by unfold zI.fineB at h; unfold low; exact decide_eq_true qO
theorem namedL_all:∀ {l:List UInt8} {k:Nat},zI.namedL k l=true→∀ b ∈ l,wch b=true
  | [],_,_,b,hb=>by cases hb
  | a :: l, k, h, b, hb => by
    rw [zI.namedL,Bool.and_eq_true,decide_eq_true_iff] at h
    rcases List.mem_cons.1 hb with rfl | hb
    · exact fineB_wch h.1
    · exact namedL_all h.2 b hb
theorem named_form {w:ByteArray} (h:zI.named w=true):∃ a r,w.data.toList=a::r∧low a=true∧(∀ b ∈ a::r,wch b=true)∧w.size≤12:=by
  unfold zI.named at h
  simp only [Bool.and_eq_true,decide_eq_true_eq] at h
  obtain ⟨⟨h1,h2⟩,h3⟩:=h
  rw [bl_size] at h1
  cases hw:w.data.toList with
  | nil=>rw [hw] at h1; simp at h1
  | cons a r =>
    rw [hw] at h3
    have h4:=h3
    rw [zI.namedL,Bool.and_eq_true,decide_eq_true_iff] at h4
    exact ⟨a,r,rfl,fineB_low h4.1,namedL_all h3,h2⟩
theorem tw_app {p:UInt8→Bool}:∀ {A R:List UInt8},(∀ b ∈ A,p b=true)→(∀ b r,R=b::r→p b=false)→(A++R).takeWhile p=A
  | [],[],_,_=>rfl
  | [],b::r,_,h=>by rw [List.nil_append,List.takeWhile_cons_of_neg (by simp [h b r rfl])]
  | a::A,R,h1,h2=>by rw [List.cons_append,List.takeWhile_cons_of_pos (h1 a List.mem_cons_self),tw_app (fun b hb=>h1 b (List.mem_cons_of_mem _ hb)) h2]
theorem low_spc {a:UInt8} (h:low a=true):spc a=false:=by unfold low at h; unfold spc; simp only [decide_eq_true_eq] at h; exact decide_eq_false qO
theorem word_at {w:ByteArray} (h:At s i L) (e:sk L=w.data.toList++R) (hw:zI.named w=true) (hR:∀ b r,R=b::r→wch b=false):∃ j,word s ⟨i,c⟩=.ok (w,⟨j,c⟩)∧At s j R:=by
  obtain ⟨a,r,h1,h2,h3,h4⟩:=named_form hw
  have hb:At s (blank s i) (w.data.toList++R):=by rw [← e]; exact h.past
  have h5:wend s (blank s i)=blank s i + w.data.toList.length:=by
    have h6:rest s (blank s i)=a::(r++R):=by rw [hb.eq,h1]; rfl
    have h7:wend s (blank s i)=run wch s (blank s i):=by unfold wend; rw [h6]; exact if_pos h2
    rw [h7]; unfold run
    rw [hb.eq,tw_app (by rw [h1]; exact h3) hR]
  have h6:s.extract (blank s i) (wend s (blank s i))=w:=by
    rw [toB (ext_rest s _ _),h5,hb.eq,Nat.add_sub_cancel_left,List.take_left]
  refine ⟨blank s i + w.data.toList.length,?_,hb.fwd⟩
  unfold word
  show (if 12 < wend s (blank s i) - blank s i then _ else _)=_
  rw [bl_size] at h4
  rw [if_neg (by rw [h5]; omega)]
  show Res.ok (s.extract (blank s i) (wend s (blank s i)),(⟨wend s (blank s i),c⟩:St))=_
  rw [h6,h5]
theorem word_none (h:At s i L) (hL:∀ b r,sk L=b::r→low b=false):∃ j,word s ⟨i,c⟩=.ok (⟨#[]⟩,⟨j,c⟩)∧At s j (sk L):=by
  have hb:=h.past
  have h1:wend s (blank s i)=blank s i:=by
    unfold wend; rw [hb.eq]
    cases hk:sk L with
    | nil=>rfl
    | cons b r=>exact if_neg (by simp [hL b r hk])
  refine ⟨_,?_,hb⟩
  unfold word
  show (if 12 < wend s (blank s i) - blank s i then _ else _)=_
  rw [if_neg qO]
  show Res.ok (s.extract (blank s i) (wend s (blank s i)),(⟨wend s (blank s i),c⟩:St))=_
  rw [h1,toB (ext_rest s _ _)]
  simp
theorem named_ne {w:ByteArray} (hw:zI.named w=true):w≠⟨#[]⟩:=by rintro rfl; cases hw
theorem name_at {w:ByteArray} (h:At s i L) (e:sk L=w.data.toList++R) (hw:zI.named w=true) (hR:∀ b r,R=b::r→wch b=false):∃ j,name s ⟨i,c⟩=.ok (w,⟨j,c⟩)∧At s j R:=by
  obtain ⟨j,h1,h2⟩:=word_at (c:=c) h e hw hR
  refine ⟨j,?_,h2⟩
  unfold name; rw [h1,then_ok,if_neg (named_ne hw)]
theorem digit (u:Nat) (h:u < 10):(UInt8.ofNat (48 + u)).toNat=48 + u:=by rw [UInt8.toNat_ofNat']; omega
theorem dd_dig (u:Nat):∀ b ∈ Go.Lib.decDigits u,dig b=true:=by
  induction u using Nat.strongRecOn with
  | _ u ih =>
    intro b hb
    rw [Go.Lib.decDigits] at hb
    split at hb
    · rename_i h
      rw [List.mem_singleton.1 hb]; unfold dig; rw [digit u h]; exact decide_eq_true qO
    · rename_i h
      rcases List.mem_append.1 hb with hb | hb
      · exact ih (u / 10) qO b hb
      · rw [List.mem_singleton.1 hb]; unfold dig; rw [digit _ (Nat.mod_lt u qO)]; exact decide_eq_true qO
theorem dd_val (u:Nat):dval (Go.Lib.decDigits u)=u:=by
  induction u using Nat.strongRecOn with
  | _ u ih =>
    rw [Go.Lib.decDigits]
    split
    · rename_i h
      show 10 * 0 + ((UInt8.ofNat (48 + u)).toNat - 48)=u
      rw [digit u h]; omega
    · rename_i h
      have h1:=ih (u / 10) qO
      unfold dval at h1 ⊢
      rw [List.foldl_append,h1]
      show 10 * (u / 10) + ((UInt8.ofNat (48 + u % 10)).toNat - 48)=u
      rw [digit _ (Nat.mod_lt u qO)]; omega
theorem dd_head (u:Nat):(∃ r,Go.Lib.decDigits u=48::r∧r=[])∨∃ b r,Go.Lib.decDigits u=b::r∧b≠48:=by
  induction u using Nat.strongRecOn with
  | _ u ih =>
    by_cases h0:u=0
    · subst h0; left; exact ⟨[],by rw [Go.Lib.decDigits,dif_pos qD]; rfl,rfl⟩
    · right
      rw [Go.Lib.decDigits]
      split
      · rename_i h
        refine ⟨_,[],rfl,fun e=>?_⟩
        have:=congrArg UInt8.toNat e
        rw [digit u h] at this
        have h48:(48:UInt8).toNat=48:=rfl
        omega
      · rename_i h
        rcases ih (u / 10) qO with ⟨r,h1,rfl⟩ | ⟨b,r,h1,h2⟩
        · exfalso
          have:=dd_val (u / 10)
          rw [h1] at this
          have h3:dval [48]=0:=rfl
          omega
        · exact ⟨b,r++[UInt8.ofNat (48 + u % 10)],by rw [h1]; rfl,h2⟩
theorem nb_dd {n:Int} (h:0≤n):Lg.nb n=Go.Lib.decDigits n.toNat:=by unfold Lg.nb Go.Lib.itoa; rw [if_neg qO]
theorem dig_spc {a:UInt8} (h:dig a=true):spc a=false:=by unfold dig at h; unfold spc; simp only [decide_eq_true_eq] at h; exact decide_eq_false qO
theorem dig_low {a:UInt8} (h:dig a=true):low a=false:=by unfold dig at h; unfold low; simp only [decide_eq_true_eq] at h; exact decide_eq_false qO
theorem nb_form {n:Int} (h:0≤n):∃ a r,Lg.nb n=a::r∧∀ b ∈ a::r,dig b=true:=by
  rw [nb_dd h]
  have h1:=dd_dig n.toNat
  rcases dd_head n.toNat with ⟨r,h2,_⟩ | ⟨b,r,h2,_⟩ <;> (rw [h2] at h1 ⊢; exact ⟨_,_,rfl,h1⟩)
theorem at_get (h:At s i (A++R)) {a:UInt8} {r:List UInt8} (e:A=a::r):s[i]?=some a:=by
  have h1:=rest_len h.le
  rw [h.eq,e] at h1
  simp only [List.length_append,List.length_cons] at h1
  have hi:i < s.size:=qO
  have h2:=rest_cons (s:=s) (i:=i) (b:=s[i]) (getElem?_pos s i hi)
  rw [h.eq,e,List.cons_append] at h2
  injection h2 with h3 _
  rw [getElem?_pos s i hi,h3]
theorem numb_at {n least most:Int} (h:At s i L) (e:sk L=Lg.nb n++R) (h0:0≤n) (hl:least≤n) (hm:n≤most) (hR:∀ b r,R=b::r→dig b=false):∃ j,num s least most ⟨i,c⟩=.ok (n,⟨j,c⟩)∧At s j R:=by
  have hb:At s (blank s i) (Lg.nb n++R):=by rw [← e]; exact h.past
  obtain ⟨a,r,h1,h2⟩:=nb_form h0
  have h3:run dig s (blank s i)=blank s i + (Lg.nb n).length:=by unfold run; rw [hb.eq,tw_app (by rw [h1]; exact h2) hR]
  have h4:numAt s (blank s i)=n:=by
    unfold numAt
    rw [h3,ext_rest,hb.eq,Nat.add_sub_cancel_left,List.take_left,nb_dd h0,dd_val]; omega
  refine ⟨_,num_ok rfl h3 (by rw [h1,List.length_cons]; omega) ?_ |>.trans ?_,hb.fwd⟩
  · unfold badNum
    rw [h4,h3]
    rintro (g | g | ⟨g1,g2⟩)
    · omega
    · omega
    · rw [at_get hb h1] at g1
      have ha:a=48:=Option.some.inj g1
      rw [nb_dd h0] at h1 g2
      rcases dd_head n.toNat with ⟨r',h5,rfl⟩ | ⟨b,r',h5,h6⟩
      · rw [h5] at g2; simp at g2
      · rw [h5] at h1; injection h1 with h7 _; exact h6 (h7.trans ha)
  · rw [h4]
theorem node_at (h:c + 1≤100):node ⟨i,c⟩=.ok ⟨i,c + 1⟩:=by unfold node; rw [if_neg (by show ¬ 100 < c + 1; omega)]
theorem matchW_of {m:Match} (h:Lg.matchW m=0):(1≤m.kind∧m.kind≤4)∧zI.named m.key=true∧((m.kind=1∨m.kind=2)→zI.named m.val=true):=by
  unfold Lg.matchW at h
  split at h
  · cases h
  split at h
  · cases h
  rename_i g1 g2
  simp only [not_or,not_and,Bool.not_eq_false] at g2
  exact ⟨by omega,g2.1,g2.2⟩
theorem sk_name {w:ByteArray} (hw:zI.named w=true) (R:List UInt8):sk (w.data.toList++R)=w.data.toList++R:=by
  obtain ⟨a,r,h1,h2,_,_⟩:=named_form hw
  rw [h1,List.cons_append]; exact sk_cons (low_spc h2)
theorem low_ne {a b:UInt8} (h:low a=true) (hb:low b=false):a≠b:=by rintro rfl; rw [h] at hb; cases hb
theorem name_ne {w:ByteArray} (hw:zI.named w=true) {R r:List UInt8} {a b:UInt8} (hb:low b=false) (e:w.data.toList++R=a::r):a≠b:=by
  obtain ⟨x,y,h1,h2,_,_⟩:=named_form hw
  rw [h1,List.cons_append] at e
  injection e with e1 _
  exact low_ne (e1 ▸ h2) hb
def Sgn (R:List UInt8):Prop:=∃ b r,R=b::r∧(b=44∨b=125)
theorem Sgn.wch (h:Sgn R):∀ b r,R=b::r→wch b=false:=by
  rintro b r e
  obtain ⟨b',r',e',hb⟩:=h
  rw [e] at e'; injection e' with e1 _
  rw [e1]; rcases hb with rfl | rfl <;> decide
theorem Sgn.sk (h:Sgn R):sk R=R:=by
  obtain ⟨b',r',rfl,hb⟩:=h
  exact sk_cons (by rcases hb with rfl | rfl <;> decide)
theorem match_at {m:Match} (h:At s i L) (e:Pz.sk L=Lg.mt m++R) (hm:Lg.matchW m=0) (hR:Sgn R):∃ j,match_ s ⟨i,c⟩=.ok (bareM m,⟨j,c⟩)∧At s j R:=by
  obtain ⟨hk,hkey,hval⟩:=matchW_of hm
  obtain ⟨kind,key,val⟩:=m
  simp only at hk hkey hval
  unfold Lg.mt at e; simp only at e
  have hcase:kind=4∨kind=1∨kind=2∨kind=3:=qO
  rcases hcase with rfl | hcase
  · rw [if_neg qD,if_neg qD,if_neg qD] at e
    obtain ⟨j1,e1,a1⟩:=eat_at (sg:=⟨#[33]⟩) (R:=key.data.toList++R) h (by rw [e]; rfl)
    obtain ⟨j2,e2,a2⟩:=name_at (c:=c) a1 (sk_name hkey R) hkey hR.wch
    refine ⟨j2,?_,a2⟩
    unfold match_; simp only [e1,if_true,St.go]
    rw [e2,then_ok]; unfold bareM; rw [if_pos (show (2:Int) < 4 by decide)]
  · have e9:∃ T,Pz.sk L=key.data.toList++T∧T=(if kind=1 then 61::val.data.toList else if kind=2 then 33::61::val.data.toList else [])++R:=by
      refine ⟨_,?_,rfl⟩
      rw [e]
      rcases hcase with rfl | rfl | rfl <;> simp
    obtain ⟨T,eT,hT⟩:=e9
    obtain ⟨j1,e1,a1⟩:=eat_at_ne (a:=33) h fun b r g=>name_ne hkey qD (eT.symm.trans g)
    rw [eT] at a1
    have hTw:∀ b r,T=b::r→wch b=false:=by
      intro b r g
      rcases hcase with rfl | rfl | rfl
      · rw [if_pos rfl] at hT; rw [hT] at g; injection g with g1 _; rw [← g1]; decide
      · rw [if_neg qD,if_pos rfl] at hT; rw [hT] at g; injection g with g1 _; rw [← g1]; decide
      · rw [if_neg qD,if_neg qD] at hT; rw [hT] at g; exact hR.wch b r g
    obtain ⟨j2,e2,a2⟩:=name_at (c:=c) a1 (sk_name hkey T) hkey hTw
    have hcut:match_ s ⟨i,c⟩=msR s key ⟨j2,c⟩:=by rw [match_no e1,e2,then_ok]
    rw [hcut]
    rcases hcase with rfl | rfl | rfl
    · rw [if_pos rfl] at hT
      have hs:Pz.sk T=T:=by rw [hT]; exact sk_cons qD
      obtain ⟨j3,e3,a3⟩:=eat_at_no (sg:=⟨#[33,61]⟩) a2 (by rw [hs,hT]; rintro ⟨t,ht⟩; cases ht)
      rw [hs] at a3
      obtain ⟨j4,e4,a4⟩:=eat_at (sg:=⟨#[61]⟩) (R:=val.data.toList++R) a3 (by rw [hs,hT]; rfl)
      obtain ⟨j5,e5,a5⟩:=name_at (c:=c) a4 (sk_name (hval (.inl rfl)) R) (hval (.inl rfl)) hR.wch
      exact ⟨j5,by rw [msR_2 e3 e4,e5,then_ok]; rfl,a5⟩
    · rw [if_neg qD,if_pos rfl] at hT
      have hs:Pz.sk T=T:=by rw [hT]; exact sk_cons qD
      obtain ⟨j3,e3,a3⟩:=eat_at (sg:=⟨#[33,61]⟩) (R:=val.data.toList++R) a2 (by rw [hs,hT]; rfl)
      obtain ⟨j5,e5,a5⟩:=name_at (c:=c) a3 (sk_name (hval (.inr rfl)) R) (hval (.inr rfl)) hR.wch
      exact ⟨j5,by rw [msR_1 e3,e5,then_ok]; rfl,a5⟩
    · rw [if_neg qD,if_neg qD] at hT
      obtain rfl:T=R:=hT
      obtain ⟨b',r',rfl,hb⟩:=hR
      have hs:Pz.sk (b'::r')=b'::r':=sk_cons (by rcases hb with rfl | rfl <;> decide)
      obtain ⟨j3,e3,a3⟩:=eat_at_no (sg:=⟨#[33,61]⟩) a2 (by rw [hs]; rintro ⟨t,ht⟩; injection ht with h1 _; rcases hb with rfl | rfl <;> cases h1)
      rw [hs] at a3
      obtain ⟨j4,e4,a4⟩:=eat_at_ne (a:=61) a3 (by rw [hs]; intro b r g; injection g with g1 _; rw [← g1]; rcases hb with rfl | rfl <;> decide)
      rw [hs] at a4
      exact ⟨j4,by rw [msR_3 e3 e4]; rfl,a4⟩
theorem mt_head {m:Match} (hm:Lg.matchW m=0):∃ a r,Lg.mt m=a::r∧spc a=false∧a≠125∧a≠44:=by
  obtain ⟨hk,hkey,_⟩:=matchW_of hm
  obtain ⟨a,r,h1,h2,_,_⟩:=named_form hkey
  unfold Lg.mt
  split
  · exact ⟨a,_,by rw [h1]; rfl,low_spc h2,low_ne h2 qD,low_ne h2 qD⟩
  split
  · exact ⟨a,_,by rw [h1]; rfl,low_spc h2,low_ne h2 qD,low_ne h2 qD⟩
  split
  · exact ⟨a,_,h1,low_spc h2,low_ne h2 qD,low_ne h2 qD⟩
  · exact ⟨33,_,rfl,by decide,by decide,by decide⟩
theorem winL_at:∀ (r:List Match) (q:Nat) (done:List Match) {i:Nat} {L R:List UInt8},At s i L→Pz.sk L=Lg.mts (decide (done=[])) r++125::R→(∀ m ∈ r,Lg.matchW m=0)→r.length + 1≤q→done.length + r.length≤5 →
    ∃ j,winL s q done ⟨i,c⟩=.ok (done++r.map bareM,⟨j,c⟩)∧At s j R
  | [], q + 1, done, i, L, R, h, e, hm, hq, hd => by
    rw [Lg.mts,List.nil_append] at e
    obtain ⟨j,e1,a1⟩:=eat_at (sg:=⟨#[125]⟩) (R:=R) h (by rw [e]; rfl)
    refine ⟨j,?_,a1⟩
    rw [winL]; simp only [e1,if_true,St.go,List.map_nil,List.append_nil]
  | m :: r, q + 1, done, i, L, R, h, e, hm, hq, hd => by
    rw [List.length_cons] at hq hd
    have hm0:=hm m List.mem_cons_self
    obtain ⟨a,x,hx1,hx2,hx3,hx4⟩:=mt_head hm0
    have hS:Sgn (Lg.mts false r++125::R):=by
      cases r with
      | nil=>exact ⟨125,R,rfl,.inr rfl⟩
      | cons y ys=>exact ⟨44,_,rfl,.inl rfl⟩
    rw [Lg.mts] at e
    by_cases hdn:done=[]
    · subst hdn
      rw [decide_eq_true rfl,if_pos rfl,List.append_assoc] at e
      obtain ⟨j1,e1,a1⟩:=eat_at_ne (a:=125) h fun b y g=>by
        rw [e,hx1,List.cons_append] at g; injection g with g1 _; rw [← g1]; exact hx3
      rw [e] at a1
      obtain ⟨j2,e2,a2⟩:=match_at (c:=c) a1 (by rw [hx1,List.cons_append]; exact sk_cons hx2) hm0 hS
      obtain ⟨j3,e3,a3⟩:=winL_at r q [bareM m] a2 (by rw [decide_eq_false qS]; exact hS.sk) (fun y hy=>hm y (List.mem_cons_of_mem _ hy)) qO (by rw [List.length_nil] at hd; rw [List.length_singleton]; omega)
      refine ⟨j3,?_,a3⟩
      rw [winL]
      simp only [e1,if_false,Bool.false_eq_true,St.go,List.length_nil,Nat.lt_irrefl,then_ok]
      rw [if_neg qD,e2,then_ok]
      simp only [List.nil_append]
      rw [e3]; rfl
    · rw [decide_eq_false hdn,if_neg qS] at e
      obtain ⟨j1,e1,a1⟩:=eat_at_ne (a:=125) h fun b y g=>by
        rw [e,List.cons_append] at g; injection g with g1 _; rw [← g1]; decide
      rw [e] at a1
      have hs:Pz.sk ((44::Lg.mt m)++Lg.mts false r++125::R)=(44::Lg.mt m)++Lg.mts false r++125::R:=sk_cons qD
      obtain ⟨j4,e4,a4⟩:=must_at (sg:=⟨#[44]⟩) (R:=Lg.mt m++(Lg.mts false r++125::R)) (c:=c) a1 (by rw [hs]; simp)
      obtain ⟨j2,e2,a2⟩:=match_at (c:=c) a4 (by rw [hx1,List.cons_append]; exact sk_cons hx2) hm0 hS
      obtain ⟨j3,e3,a3⟩:=winL_at r q (done++[bareM m]) a2 (by rw [decide_eq_false qS]; exact hS.sk) (fun y hy=>hm y (List.mem_cons_of_mem _ hy)) qO (by rw [List.length_append,List.length_singleton]; omega)
      refine ⟨j3,?_,a3⟩
      have hp:0 < done.length:=List.length_pos_iff.2 hdn
      rw [winL]
      simp only [e1,if_false,Bool.false_eq_true,St.go]
      rw [if_pos hp,e4,then_ok,if_neg qO,e2,then_ok,e3]
      simp
theorem matchesW_all:∀ {l:List Match},Lg.matchesW l=0→∀ m ∈ l,Lg.matchW m=0
  | x :: l, h, m, hm => by
    rw [Lg.matchesW] at h
    split at h
    · rename_i g; exact absurd h g
    rename_i g
    rcases List.mem_cons.1 hm with rfl | hm
    · exact Classical.not_not.1 g
    · exact matchesW_all h m hm
theorem window_at {w:ByteArray} {ms:List Match} {r:Int} (h:At s i L) (e:sk L=[40,123]++Lg.mts true ms++[125,91]++Lg.nb r++[93,41]++R) (hm:∀ m ∈ ms,Lg.matchW m=0) (hl:ms.length≤5) (hr:1≤r∧r≤100000) (hc:c + 1≤100) :
    ∃ j,window s w ⟨i,c⟩=.ok (.mk 2 0 r w (ms.map bareM) [] [],⟨j,c + 1⟩)∧At s j R:=by
  obtain ⟨x,y,n1,n2⟩:=nb_form (n:=r) qO
  obtain ⟨j1,e1,a1⟩:=must_at (sg:=⟨#[40]⟩) (c:=c) (R:=123::(Lg.mts true ms++125::91::(Lg.nb r++93::41::R))) h (by rw [e]; simp)
  obtain ⟨j2,e2,a2⟩:=must_at (sg:=⟨#[123]⟩) (c:=c) (R:=Lg.mts true ms++125::91::(Lg.nb r++93::41::R)) a1 (sk_cons qD)
  have hs2:sk (Lg.mts true ms++125::91::(Lg.nb r++93::41::R))=Lg.mts (decide (([]:List Match)=[])) ms++125::91::(Lg.nb r++93::41::R):=by
    rw [decide_eq_true rfl]
    cases ms with
    | nil=>exact sk_cons qD
    | cons m l =>
      obtain ⟨a,z,hx1,hx2,_,_⟩:=mt_head (hm m List.mem_cons_self)
      rw [Lg.mts,if_pos rfl,hx1]; exact sk_cons hx2
  obtain ⟨j3,e3,a3⟩:=winL_at (c:=c) ms 6 [] a2 hs2 hm qO (by simpa using hl)
  obtain ⟨j4,e4,a4⟩:=must_at (sg:=⟨#[91]⟩) (c:=c) (R:=Lg.nb r++93::41::R) a3 (sk_cons qD)
  obtain ⟨j5,e5,a5⟩:=numb_at (c:=c) (least:=1) (most:=100000) a4 (by rw [n1,List.cons_append]; exact sk_cons (dig_spc (n2 x List.mem_cons_self))) qO hr.1 hr.2 (fun b r' g=>by injection g with g1 _; rw [← g1]; decide)
  obtain ⟨j6,e6,a6⟩:=must_at (sg:=⟨#[93]⟩) (c:=c) (R:=41::R) a5 (sk_cons qD)
  obtain ⟨j7,e7,a7⟩:=must_at (sg:=⟨#[41]⟩) (c:=c) (R:=R) a6 (sk_cons qD)
  refine ⟨j7,?_,a7⟩
  unfold window
  rw [e1,then_ok,e2,then_ok,e3,then_ok]
  simp only [List.nil_append]
  rw [e4,then_ok,e5,then_ok]
  simp only
  rw [e6,then_ok,e7,then_ok,node_at hc,then_ok]
theorem byL_at:∀ (r:List ByteArray) (q:Nat) (done:List ByteArray) {i:Nat} {L R:List UInt8},At s i L→sk L=sk (Lg.bys false r++32::40::R)→(∀ b ∈ r,zI.named b=true)→r.length + 1≤q→done.length + r.length≤4 →
    ∃ j,byL s q done ⟨i,c⟩=.ok (done++r,⟨j,c⟩)∧At s j (40::R)
  | [], q + 1, done, i, L, R, h, e, hb, hq, hd => by
    have e':sk L=40::R:=e.trans (by rw [Lg.bys,List.nil_append,sk_blank]; exact sk_cons qD)
    obtain ⟨j,e1,a1⟩:=eat_at_ne (a:=44) h fun b y g=>by rw [e'] at g; injection g with g1 _; rw [← g1]; decide
    rw [e'] at a1
    refine ⟨j,?_,a1⟩
    rw [byL]; simp only [e1,if_false,Bool.false_eq_true,St.go,List.append_nil]
  | b :: r, q + 1, done, i, L, R, h, e, hb, hq, hd => by
    rw [List.length_cons] at hq hd
    have hb0:=hb b List.mem_cons_self
    have e':sk L=44::(b.data.toList++(Lg.bys false r++32::40::R)):=by
      rw [e,Lg.bys,if_neg qS]
      have:[44]++b.data.toList++Lg.bys false r++32::40::R=44::(b.data.toList++(Lg.bys false r++32::40::R)):=qS
      rw [this]; exact sk_cons qD
    obtain ⟨j1,e1,a1⟩:=eat_at (sg:=⟨#[44]⟩) (R:=b.data.toList++(Lg.bys false r++32::40::R)) h (by rw [e']; rfl)
    have hw:∀ x y,Lg.bys false r++32::40::R=x::y→wch x=false:=by
      intro x y g
      cases r with
      | nil=>injection g with g1 _; rw [← g1]; decide
      | cons z zs=>rw [Lg.bys,if_neg qS] at g; injection g with g1 _; rw [← g1]; decide
    obtain ⟨j2,e2,a2⟩:=name_at (c:=c) a1 (sk_name hb0 _) hb0 hw
    obtain ⟨j3,e3,a3⟩:=byL_at r q (done++[b]) a2 rfl (fun y hy=>hb y (List.mem_cons_of_mem _ hy)) qO (by rw [List.length_append,List.length_singleton]; omega)
    refine ⟨j3,?_,a3⟩
    rw [byL]; simp only [e1,if_true,St.go]
    rw [if_neg qO,e2,then_ok,e3]; simp
theorem bys_at {r:List ByteArray} {w:ByteArray} {j0:Nat} (h:At s i L) (e:sk L=sk (Lg.bys true r++32::40::R)) (hb:∀ b ∈ r,zI.named b=true) (hl:r.length≤4) :
    ∃ v j1 j2,word s ⟨i,c⟩=.ok (v,⟨j1,c⟩)∧¬ (v≠⟨#[]⟩∧v≠⟨#[98,121]⟩)∧bys s v ⟨j1,c⟩=.ok (r,⟨j2,c⟩)∧At s j2 (if r=[] then 40::R else 40::R):=by
  cases r with
  | nil =>
    have e':sk L=40::R:=e.trans (by rw [Lg.bys,List.nil_append,sk_blank]; exact sk_cons qD)
    obtain ⟨j1,e1,a1⟩:=word_none (c:=c) h fun b y g=>by rw [e'] at g; injection g with g1 _; rw [← g1]; decide
    refine ⟨⟨#[]⟩,j1,j1,e1,fun g=>g.1 rfl,?_,by rw [e'] at a1; simpa using a1⟩
    unfold bys; rw [if_neg qD]
  | cons b r =>
    have hb0:=hb b List.mem_cons_self
    have hby:zI.named ⟨#[98,121]⟩=true:=by decide
    have e':sk L=(⟨#[98,121]⟩:ByteArray).data.toList++(32::(b.data.toList++(Lg.bys false r++32::40::R))):=by
      rw [e,Lg.bys,if_pos rfl]
      have:[32,98,121,32]++b.data.toList++Lg.bys false r++32::40::R=32::((⟨#[98,121]⟩:ByteArray).data.toList++(32::(b.data.toList++(Lg.bys false r++32::40::R)))):=qS
      rw [this,sk_blank]; exact sk_name hby _
    obtain ⟨j1,e1,a1⟩:=word_at (c:=c) h e' hby fun x y g=>by injection g with g1 _; rw [← g1]; decide
    have hw:∀ x y,Lg.bys false r++32::40::R=x::y→wch x=false:=by
      intro x y g
      cases r with
      | nil=>injection g with g1 _; rw [← g1]; decide
      | cons z zs=>rw [Lg.bys,if_neg qS] at g; injection g with g1 _; rw [← g1]; decide
    obtain ⟨j2,e2,a2⟩:=name_at (c:=c) a1 (by rw [sk_blank]; exact sk_name hb0 _) hb0 hw
    rw [List.length_cons] at hl
    obtain ⟨j3,e3,a3⟩:=byL_at (c:=c) r 5 [b] a2 rfl (fun y hy=>hb y (List.mem_cons_of_mem _ hy)) qO (by rw [List.length_singleton]; omega)
    refine ⟨⟨#[98,121]⟩,j1,j3,e1,fun g=>g.2 rfl,?_,by simpa using a3⟩
    unfold bys; rw [if_pos rfl,e2,then_ok]; simp only; rw [e3]; rfl
def Sep (R:List UInt8):Prop:=∀ b r,R=b::r→b=32∨b=41
def Nst (R:List UInt8):Prop:=∀ b r,sk R=b::r→b≠42
def Npl (R:List UInt8):Prop:=∀ b r,sk R=b::r→b≠43∧b≠45
def FacP (s:ByteArray) (e:Expr):Prop:=∀ (N:Nat) (c d:Int) (i:Nat) (L R:List UInt8),fineE e→Mn.low d e→21≤d + N→(e.kind=4→22≤d + N)→0≤c→c + nodes e≤100→At s i L→sk L=Lg.txt e 2++R→Sep R →
  ∃ j,fac s N ⟨i,c⟩=.ok (bare e,⟨j,c + nodes e⟩)∧At s j R
def TrmP (s:ByteArray) (e:Expr):Prop:=∀ (N:Nat) (c d:Int) (i:Nat) (L R:List UInt8),fineE e→Mn.low d e→21≤d + N→(e.kind=4→22≤d + N)→0≤c→c + nodes e≤100→At s i L→sk L=Lg.txt e 1++R→Sep R →
  ∃ j k:Nat,trm s N ⟨i,c⟩=binL s (fac s N) star (101 - k) (bare e) ⟨j,c + nodes e⟩∧At s j R∧(k:Int) + 1≤nodes e
def XprP (s:ByteArray) (e:Expr):Prop:=∀ (N:Nat) (c d:Int) (i:Nat) (L R:List UInt8),fineE e→Mn.low d e→21≤d + N→0≤c→c + nodes e≤100→At s i L→sk L=Lg.txt e 0++R→Sep R→Nst R →
  ∃ j k:Nat,xpr s N ⟨i,c⟩=binL s (trm s N) plus (101 - k) (bare e) ⟨j,c + nodes e⟩∧At s j (sk R)∧(k:Int) + 1≤nodes e
theorem Nst.star (h:Nst R) {j:Nat} (a:At s j R):∃ j',pick s star j=(⟨#[]⟩,j')∧At s j' (sk R):=by
  obtain ⟨j',e,a'⟩:=eat_at_ne (a:=42) a h
  exact ⟨j',star0 e,a'⟩
theorem Npl.plus (h:Npl R) {j:Nat} (a:At s j (sk R)):∃ j',pick s plus j=(⟨#[]⟩,j')∧At s j' (sk R):=by
  obtain ⟨j1,e1,a1⟩:=eat_at_ne (a:=43) a fun b r g=>(h b r (by rw [sk_sk] at g; exact g)).1
  rw [sk_sk] at a1
  obtain ⟨j2,e2,a2⟩:=eat_at_ne (a:=45) a1 fun b r g=>(h b r (by rw [sk_sk] at g; exact g)).2
  rw [sk_sk] at a2
  exact ⟨j2,plus0 e1 e2,a2⟩
theorem TrmP.ok {e:Expr} (h:TrmP s e) {N:Nat} {d:Int} (hf:fineE e) (hl:Mn.low d e) (hN:21≤d + N) (hk:e.kind=4→22≤d + N) (h0:0≤c) (hc:c + nodes e≤100) (a:At s i L) (ht:sk L=Lg.txt e 1++R) (hs:Sep R) (hn:Nst R) :
    ∃ j,trm s N ⟨i,c⟩=.ok (bare e,⟨j,c + nodes e⟩)∧At s j (sk R):=by
  obtain ⟨j,k,e1,a1,hk1⟩:=h N c d i L R hf hl hN hk h0 hc a ht hs
  obtain ⟨j',e2,a2⟩:=hn.star a1
  refine ⟨j',?_,a2⟩
  rw [e1]
  exact bin_done (q:=100 - k) (by rw [show 101 - k=100 - k + 1 by omega]) e2
theorem XprP.ok {e:Expr} (h:XprP s e) {N:Nat} {d:Int} (hf:fineE e) (hl:Mn.low d e) (hN:21≤d + N) (h0:0≤c) (hc:c + nodes e≤100) (a:At s i L) (ht:sk L=Lg.txt e 0++R) (hs:Sep R) (hn:Nst R) (hp:Npl R) :
    ∃ j,xpr s N ⟨i,c⟩=.ok (bare e,⟨j,c + nodes e⟩)∧At s j (sk R):=by
  obtain ⟨j,k,e1,a1,hk1⟩:=h N c d i L R hf hl hN h0 hc a ht hs hn
  obtain ⟨j',e2,a2⟩:=hp.plus a1
  refine ⟨j',?_,a2⟩
  rw [e1]
  exact bin_done (q:=100 - k) (by rw [show 101 - k=100 - k + 1 by omega]) e2
theorem trm_of_fac {e:Expr} (h:FacP s e) (ht:Lg.txt e 1=Lg.txt e 2):TrmP s e:=fun N c d i L R hf hl hN hk h0 hc a e1 hs=>by
  obtain ⟨j,e2,a2⟩:=h N c d i L R hf hl hN hk h0 hc a (by rw [← ht]; exact e1) hs
  exact ⟨j,0,by unfold trm sumOf; rw [e2,then_ok],a2,by have:=nodes_pos e; omega⟩
theorem xpr_of_trm {e:Expr} (h:TrmP s e) (hk:e.kind=4→∀ (N:Nat) (d:Int),Mn.low d e→21≤d + N→22≤d + N∨True) (ht:Lg.txt e 0=Lg.txt e 1)
    (h':∀ (N:Nat) (c d:Int) (i:Nat) (L R:List UInt8),fineE e→Mn.low d e→21≤d + N→0≤c→c + nodes e≤100→At s i L→sk L=Lg.txt e 1++R→Sep R→Nst R→∃ j,trm s N ⟨i,c⟩=.ok (bare e,⟨j,c + nodes e⟩)∧At s j (sk R)):XprP s e:=fun N c d i L R hf hl hN h0 hc a e1 hs hn=>by
  obtain ⟨j,e2,a2⟩:=h' N c d i L R hf hl hN h0 hc a (by rw [← ht]; exact e1) hs hn
  exact ⟨j,0,by unfold xpr sumOf; rw [e2,then_ok],a2,by have:=nodes_pos e; omega⟩
theorem txt_1 {n r l:Int} {w:ByteArray} {ms:List Match} {bs:List ByteArray} {ks:List Expr}:Lg.txt (.mk 1 n r w ms bs ks) l=Lg.nb n:=by rw [Lg.txt,if_pos rfl]
theorem txt_2 {n r l:Int} {w:ByteArray} {ms:List Match} {bs:List ByteArray} {ks:List Expr}:Lg.txt (.mk 2 n r w ms bs ks) l=Lg.wint w ms r:=by rw [Lg.txt,if_neg qD,if_pos rfl]
theorem txt_3 {n r l:Int} {w:ByteArray} {ms:List Match} {bs:List ByteArray} {k:Expr}:Lg.txt (.mk 3 n r w ms bs [k]) l=[97,108,108,32]++w.data.toList++Lg.bys true bs++[32,40]++Lg.txt k 0++[41]:=by
  rw [Lg.txt,if_neg qD,if_neg qD,if_pos rfl,Lg.txts]; rfl
def tw (w:ByteArray) (a b:Expr):List UInt8:=Lg.txt a (Lg.lv w)++[32]++w.data.toList++[32]++Lg.txt b (Lg.lv w + 1)
theorem txt_4 {n r l:Int} {w:ByteArray} {ms:List Match} {bs:List ByteArray} {a b:Expr}:Lg.txt (.mk 4 n r w ms bs [a,b]) l=if Lg.lv w < l then [40]++tw w a b++[41] else tw w a b:=by
  rw [Lg.txt,if_neg qD,if_neg qD,if_neg qD,Lg.txts,Lg.txts,Lg.txts]; rfl
theorem word_named_of {w:ByteArray} (h:0≤zI.indexOf Agg.words w 0):zI.named w=true∧w≠⟨#[97,108,108]⟩:=by
  have h1:=(zI.index_mem _ _ _).1 h
  have h2:∀ x ∈ Agg.words,zI.named x=true∧x≠⟨#[97,108,108]⟩:=by decide
  exact h2 w h1
theorem total_named {w:ByteArray} (h:0≤zI.indexOf Lg.totals w 0):zI.named w=true:=by
  have h1:=(zI.index_mem _ _ _).1 h
  have h2:∀ x ∈ Lg.totals,zI.named x=true:=by decide
  exact h2 w h1
structure OkW (n r:Int) (w:ByteArray) (ms:List Match) (bs:List ByteArray):Prop where
  word:0≤zI.indexOf Agg.words w 0
  len:ms.length≤5
  each:∀ m ∈ ms,Lg.matchW m=0
  range:1≤r∧r≤100000
theorem okW_of {n r:Int} {w:ByteArray} {ms:List Match} {bs:List ByteArray} (h:Lg.ownW 2 n r w ms bs=0):OkW n r w ms bs:=by
  rw [Lg.ownW,if_neg qD,if_pos rfl,Lg.windowW] at h
  split at h
  · cases h
  rename_i g1
  split at h
  · cases h
  split at h
  · rename_i g; exact absurd h g
  rename_i g3
  split at h
  · cases h
  exact ⟨Classical.not_not.1 g1,by omega,matchesW_all (Classical.not_not.1 g3),by omega⟩
structure OkA (w:ByteArray) (bs:List ByteArray):Prop where
  word:0≤zI.indexOf Lg.totals w 0
  len:bs.length≤4
  each:∀ b ∈ bs,zI.named b=true
theorem okA_of {n r:Int} {w:ByteArray} {ms:List Match} {bs:List ByteArray} (h:Lg.ownW 3 n r w ms bs=0):OkA w bs:=by
  rw [Lg.ownW,if_neg qD,if_neg qD,if_pos rfl] at h
  split at h
  · cases h
  rename_i g1
  split at h
  · cases h
  split at h
  · cases h
  rename_i g3
  refine ⟨Classical.not_not.1 g1,by omega,fun b hb=>?_⟩
  rw [Bool.not_eq_true,List.any_eq_false] at g3
  simpa using g3 b hb
theorem txt_head:∀ (e:Expr) (l:Int),fineE e→∃ a r,Lg.txt e l=a::r∧spc a=false
  | .mk k n r w ms bs ks, l, hf => by
    rw [fineE] at hf
    obtain ⟨hk,ha,ho,hs⟩:=hf
    have:k=1∨k=2∨k=3∨k=4:=qO
    rcases this with rfl | rfl | rfl | rfl
    · rw [txt_1]
      obtain ⟨a,r,h1,h2⟩:=nb_form (Lg.numR_of ho).1
      exact ⟨a,r,h1,dig_spc (h2 a List.mem_cons_self)⟩
    · rw [txt_2]
      obtain ⟨a,r,h1,h2,_,_⟩:=named_form (word_named_of (okW_of ho).word).1
      exact ⟨a,_,by unfold Lg.wint; rw [h1]; rfl,low_spc h2⟩
    · match ks,ha with
      | [x],_=>rw [txt_3]; exact ⟨97,_,rfl,by decide⟩
    · match ks,ha,hs with
      | [x, y], _, hs =>
        rw [txt_4]
        split
        · exact ⟨40,_,rfl,by decide⟩
        · rw [fineEs] at hs
          obtain ⟨a,r,h1,h2⟩:=txt_head x (Lg.lv w) hs.1
          exact ⟨a,_,by unfold tw; rw [h1]; rfl,h2⟩
theorem sk_txt {e:Expr} (h:fineE e) (l:Int) (R:List UInt8):sk (Lg.txt e l++R)=Lg.txt e l++R:=by
  obtain ⟨a,r,h1,h2⟩:=txt_head e l h
  rw [h1,List.cons_append]; exact sk_cons h2
theorem fac_open {N:Nat} {d:Int} {e:Expr} (hl:Mn.low d e) (hN:21≤d + N):∃ M,N=M + 1∧20≤d + M:=by
  cases e with
  | mk k n r w ms bs ks=>rw [Mn.low] at hl; exact ⟨N - 1,by omega,by omega⟩
theorem fac_num {n r:Int} {w:ByteArray} {ms:List Match} {bs:List ByteArray} {ks:List Expr}:FacP s (.mk 1 n r w ms bs ks):=fun N c d i L R hf hl hN hk h0 hc a e hs=>by
  obtain ⟨M,rfl,_⟩:=fac_open hl hN
  rw [fineE] at hf
  obtain ⟨_,ha,ho,_⟩:=hf
  obtain ⟨h1,h2⟩:=Lg.numR_of ho
  obtain rfl:ks=[]:=by
    simp [Lg.arity] at ha; exact ha
  rw [nodes,nodess] at hc ⊢
  rw [txt_1] at e
  obtain ⟨x,y,n1,n2⟩:=nb_form h1
  have hx:=n2 x List.mem_cons_self
  have hsk:sk (Lg.nb n++R)=Lg.nb n++R:=by rw [n1,List.cons_append]; exact sk_cons (dig_spc hx)
  obtain ⟨j1,e1,a1⟩:=eat_at_ne (a:=40) a fun b y' g=>by
    rw [e,n1,List.cons_append] at g; injection g with g1 _; rw [← g1]; rintro rfl; simp [dig] at hx
  rw [e] at a1
  have a2:=a1.past; rw [hsk] at a2
  obtain ⟨j3,e3,a3⟩:=word_none (c:=c) a2 fun b y' g=>by
    rw [hsk,n1,List.cons_append] at g; injection g with g1 _; rw [← g1]; exact dig_low hx
  rw [hsk] at a3
  obtain ⟨j4,e4,a4⟩:=numb_at (c:=c) (least:=0) (most:=1000000) a3 hsk h1 h1 h2 fun b r' g=>by
    rcases hs b r' g with rfl | rfl <;> decide
  refine ⟨j4,?_,a4⟩
  rw [fac_succ]
  unfold factor
  simp only [e1,if_false,Bool.false_eq_true,St.go]
  rw [e3,then_ok]
  simp only
  rw [if_neg qD,if_pos trivial,e4,then_ok]
  simp only
  rw [node_at qO,then_ok,bare_1,bares]; rfl
theorem fac_win {n r:Int} {w:ByteArray} {ms:List Match} {bs:List ByteArray} {ks:List Expr}:FacP s (.mk 2 n r w ms bs ks):=fun N c d i L R hf hl hN hk h0 hc a e hs=>by
  obtain ⟨M,rfl,_⟩:=fac_open hl hN
  rw [fineE] at hf
  obtain ⟨_,ha,ho,_⟩:=hf
  have hw:=okW_of ho
  obtain ⟨hn,hall⟩:=word_named_of hw.word
  obtain rfl:ks=[]:=by
    simp [Lg.arity] at ha; exact ha
  rw [nodes,nodess] at hc ⊢
  rw [txt_2] at e
  have e':sk L=w.data.toList++([40,123]++Lg.mts true ms++[125,91]++Lg.nb r++[93,41]++R):=by rw [e]; unfold Lg.wint; simp
  obtain ⟨j1,e1,a1⟩:=eat_at_ne (a:=40) a fun b y g=>name_ne hn qD (e'.symm.trans g)
  have a2:=a1.past; rw [sk_sk] at a2
  obtain ⟨j3,e3,a3⟩:=word_at (c:=c) a2 (by rw [sk_sk]; exact e') hn fun b y g=>by
    simp only [List.cons_append,List.nil_append] at g; injection g with g1 _; rw [← g1]; decide
  obtain ⟨j4,e4,a4⟩:=window_at (c:=c) (w:=w) a3 (sk_cons qD) hw.each hw.len hw.range qO
  refine ⟨j4,?_,a4⟩
  rw [fac_succ]
  unfold factor
  simp only [e1,if_false,Bool.false_eq_true,St.go]
  rw [e3,then_ok]
  simp only
  rw [if_neg hall,if_neg (named_ne hn),if_neg (by simpa using hw.word),e4,bare_2,bares]; rfl
theorem fac_all_ {n r:Int} {w:ByteArray} {ms:List Match} {bs:List ByteArray} {k:Expr} (ih:XprP s k):FacP s (.mk 3 n r w ms bs [k]):=fun N c d i L R hf hl hN hk h0 hc a e hs=>by
  obtain ⟨M,rfl,hM⟩:=fac_open hl hN
  rw [fineE,fineEs,fineEs] at hf
  obtain ⟨_,ha,ho,hfk,_⟩:=hf
  rw [Mn.low,lows,lows] at hl
  have hA:=okA_of ho
  have hn:=total_named hA.word
  rw [nodes,nodess,nodess] at hc ⊢
  rw [txt_3] at e
  have hk0:=nodes_pos k
  have hal:zI.named ⟨#[97,108,108]⟩=true:=by decide
  have e':sk L=(⟨#[97,108,108]⟩:ByteArray).data.toList++(32::(w.data.toList++(Lg.bys true bs++32::40::(Lg.txt k 0++41::R)))):=by rw [e]; simp
  obtain ⟨j1,e1,a1⟩:=eat_at_ne (a:=40) a fun b y g=>name_ne hal qD (e'.symm.trans g)
  have a2:=a1.past; rw [sk_sk] at a2
  obtain ⟨j3,e3,a3⟩:=word_at (c:=c) a2 (by rw [sk_sk]; exact e') hal fun b y g=>by injection g with g1 _; rw [← g1]; decide
  have a4:=a3.past
  rw [sk_blank,sk_name hn] at a4
  have hwb:∀ x y,Lg.bys true bs++32::40::(Lg.txt k 0++41::R)=x::y→wch x=false:=by
    intro x y g
    cases bs with
    | nil=>injection g with g1 _; rw [← g1]; decide
    | cons z zs=>rw [Lg.bys,if_pos rfl] at g; injection g with g1 _; rw [← g1]; decide
  obtain ⟨j5,e5,a5⟩:=name_at (c:=c) a4 (sk_name hn _) hn hwb
  have a6:=a5.past
  obtain ⟨v,j7,j8,e7,hv,e8,a8⟩:=bys_at (c:=c) (R:=Lg.txt k 0++41::R) (w:=w) (j0:=0) a6 (sk_sk _) hA.each hA.len
  have a8':At s j8 (40::(Lg.txt k 0++41::R)):=by
    by_cases hb:bs=[]
    · rw [if_pos hb] at a8; exact a8
    · rw [if_neg hb] at a8; exact a8
  obtain ⟨j9,e9,a9⟩:=must_at (sg:=⟨#[40]⟩) (c:=c) (R:=Lg.txt k 0++41::R) a8' (sk_cons qD)
  obtain ⟨ja,ea,aa⟩:=ih.ok (N:=M) (d:=d + 1) (c:=c) hfk hl.2.1 qO h0 qO a9 (sk_txt hfk 0 _) (fun b r' g=>by injection g with g1 _; exact .inr g1.symm) (fun b r' g=>by
    rw [sk_cons qD] at g; injection g with g1 _; rw [← g1]; decide) (fun b r' g=>by
    rw [sk_cons qD] at g; injection g with g1 _; rw [← g1]; decide)
  rw [sk_cons qD] at aa
  obtain ⟨jb,eb,ab⟩:=must_at (sg:=⟨#[41]⟩) (c:=c + nodes k) (R:=R) aa (sk_cons qD)
  refine ⟨jb,?_,ab⟩
  rw [fac_succ]
  unfold factor
  simp only [e1,if_false,Bool.false_eq_true,St.go]
  rw [e3,then_ok]
  simp only
  rw [if_pos trivial]
  unfold all
  simp only [St.go]
  rw [e5,then_ok]
  simp only
  rw [if_neg (by simpa using hA.word),e7,then_ok,if_neg hv]
  simp only
  rw [e8,then_ok]
  unfold allTail
  rw [e9,then_ok,ea,then_ok]
  simp only
  rw [eb,then_ok,node_at qO,then_ok,bare_3,bares,bares]
  rw [show c + nodes k + 1=c + (1 + (nodes k + 0)) by omega]
theorem fac_par_ {n r:Int} {w:ByteArray} {ms:List Match} {bs:List ByteArray} {x y:Expr} (hx:XprP s (.mk 4 n r w ms bs [x,y])):FacP s (.mk 4 n r w ms bs [x,y]):=fun N c d i L R hf hl hN hk h0 hc a e hs=>by
  have hN':=hk rfl
  obtain ⟨M,rfl,hM⟩:=fac_open hl hN
  have hlv:Lg.lv w < 2:=by unfold Lg.lv; split <;> omega
  have h40:Lg.txt (.mk 4 n r w ms bs [x,y]) 0=tw w x y:=by rw [txt_4,if_neg (by have:=Lg.lv_pos w; omega)]
  rw [txt_4,if_pos hlv,← h40] at e
  obtain ⟨j1,e1,a1⟩:=eat_at (sg:=⟨#[40]⟩) (R:=Lg.txt (.mk 4 n r w ms bs [x,y]) 0++41::R) a (by rw [e]; simp)
  obtain ⟨ja,ea,aa⟩:=hx.ok (N:=M) (d:=d) (c:=c) hf hl qO h0 hc a1 (sk_txt hf 0 _) (fun b r' g=>by injection g with g1 _; exact .inr g1.symm) (fun b r' g=>by
    rw [sk_cons qD] at g; injection g with g1 _; rw [← g1]; decide) (fun b r' g=>by
    rw [sk_cons qD] at g; injection g with g1 _; rw [← g1]; decide)
  rw [sk_cons qD] at aa
  obtain ⟨jb,eb,ab⟩:=must_at (sg:=⟨#[41]⟩) (c:=c + nodes (.mk 4 n r w ms bs [x,y])) (R:=R) aa (sk_cons qD)
  refine ⟨jb,?_,ab⟩
  rw [fac_succ]
  unfold factor
  simp only [e1,if_true,St.go]
  rw [ea,then_ok]
  simp only
  rw [eb,then_ok]
theorem trm_two {n r:Int} {ms:List Match} {bs:List ByteArray} {x y:Expr} (hx:TrmP s x) (hy:FacP s y):∀ (N:Nat) (c d:Int) (i:Nat) (L R:List UInt8),fineE (.mk 4 n r ⟨#[42]⟩ ms bs [x,y])→Mn.low d (.mk 4 n r ⟨#[42]⟩ ms bs [x,y])→21≤d + N→0≤c→c + nodes (.mk 4 n r ⟨#[42]⟩ ms bs [x,y])≤100→At s i L→sk L=Lg.txt (.mk 4 n r ⟨#[42]⟩ ms bs [x,y]) 1++R→Sep R →
    ∃ j k:Nat,trm s N ⟨i,c⟩=binL s (fac s N) star (101 - k) (bare (.mk 4 n r ⟨#[42]⟩ ms bs [x,y])) ⟨j,c + nodes (.mk 4 n r ⟨#[42]⟩ ms bs [x,y])⟩∧At s j R∧(k:Int) + 1≤nodes (.mk 4 n r ⟨#[42]⟩ ms bs [x,y]):=fun N c d i L R hf hl hN h0 hc a e hs=>by
  have hlv:Lg.lv ⟨#[42]⟩=1:=rfl
  rw [txt_4,if_neg (by rw [hlv]; omega),tw,hlv] at e
  rw [fineE,fineEs,fineEs,fineEs] at hf
  obtain ⟨_,_,_,hfx,hfy,_⟩:=hf
  rw [Mn.low,lows,lows,lows] at hl
  rw [nodes,nodess,nodess,nodess] at hc ⊢
  have p1:=nodes_pos x; have p2:=nodes_pos y
  obtain ⟨j1,k,e1,a1,hk1⟩:=hx N c (d + 1) i L (32::42::32::(Lg.txt y 2++R)) hfx hl.2.1 qO (fun _=>by omega) h0 qO a (by rw [e]; simp) (fun b r' g=>by injection g with g1 _; exact .inl g1.symm)
  obtain ⟨j2,e2,a2⟩:=eat_at (sg:=⟨#[42]⟩) (R:=32::(Lg.txt y 2++R)) a1 (by rw [sk_blank]; exact sk_cons qD)
  obtain ⟨j3,e3,a3⟩:=hy N (c + nodes x) (d + 1) j2 _ R hfy hl.2.2.1 qO (fun _=>by omega) qO qO a2 (by rw [sk_blank]; exact sk_txt hfy 2 R) hs
  refine ⟨j3,k + 1,?_,a3,by omega⟩
  rw [e1]
  have hb:=bin_next (X:=binL s (fac s N) star (101 - k) (bare x) ⟨j1,c + nodes x⟩) (q:=100 - k) (by rw [show 101 - k=100 - k + 1 by omega]) (star1 e2) qD e3
  rw [hb,then_ok]
  simp only
  rw [node_at qO,then_ok,bare_4,bares,bares,bares,show 101 - (k + 1)=100 - k by omega,show c + nodes x + nodes y + 1=c + (1 + (nodes x + (nodes y + 0))) by omega]
theorem xpr_two {n r:Int} {w:ByteArray} {ms:List Match} {bs:List ByteArray} {x y:Expr} (hw:w=⟨#[43]⟩∨w=⟨#[45]⟩) (hx:XprP s x) (hy:TrmP s y):XprP s (.mk 4 n r w ms bs [x,y]):=fun N c d i L R hf hl hN h0 hc a e hs hn=>by
  have hlv:Lg.lv w=0:=by rcases hw with rfl | rfl <;> rfl
  rw [txt_4,if_neg (by rw [hlv]; omega),tw,hlv] at e
  rw [fineE,fineEs,fineEs,fineEs] at hf
  obtain ⟨_,_,_,hfx,hfy,_⟩:=hf
  rw [Mn.low,lows,lows,lows] at hl
  rw [nodes,nodess,nodess,nodess] at hc ⊢
  have p1:=nodes_pos x; have p2:=nodes_pos y
  obtain ⟨b0,hb0,hbs,hb42⟩:∃ b0,w.data.toList=[b0]∧spc b0=false∧b0≠42:=by rcases hw with rfl | rfl <;> exact ⟨_,rfl,by decide,by decide⟩
  have hR:sk (32::(w.data.toList++32::(Lg.txt y 1++R)))=w.data.toList++32::(Lg.txt y 1++R):=by rw [sk_blank,hb0]; exact sk_cons hbs
  obtain ⟨j1,k,e1,a1,hk1⟩:=hx N c (d + 1) i L (32::(w.data.toList++32::(Lg.txt y 1++R))) hfx hl.2.1 qO h0 qO a (by rw [e]; simp) (fun b r' g=>by injection g with g1 _; exact .inl g1.symm)
    (fun b r' g=>by rw [hR,hb0] at g; injection g with g1 _; rw [← g1]; exact hb42)
  rw [hR] at a1
  have hsk1:sk (w.data.toList++32::(Lg.txt y 1++R))=w.data.toList++32::(Lg.txt y 1++R):=by rw [hb0]; exact sk_cons hbs
  obtain ⟨j2,e2,a2⟩:∃ j2,pick s plus j1=(w,j2)∧At s j2 (32::(Lg.txt y 1++R)):=by
    rcases hw with rfl | rfl
    · obtain ⟨j2,e2,a2⟩:=eat_at (sg:=⟨#[43]⟩) (R:=32::(Lg.txt y 1++R)) a1 hsk1
      exact ⟨j2,plus1 e2,a2⟩
    · obtain ⟨j3,e3,a3⟩:=eat_at_ne (a:=43) a1 fun b r' g=>by rw [hsk1] at g; injection g with g1 _; rw [← g1]; decide
      rw [hsk1] at a3
      obtain ⟨j2,e2,a2⟩:=eat_at (sg:=⟨#[45]⟩) (R:=32::(Lg.txt y 1++R)) a3 hsk1
      exact ⟨j2,minus1 e3 e2,a2⟩
  obtain ⟨j3,e3,a3⟩:=hy.ok (N:=N) (d:=d + 1) (c:=c + nodes x) hfy hl.2.2.1 qO (fun _=>by omega) qO qO a2 (by rw [sk_blank]; exact sk_txt hfy 1 R) hs hn
  refine ⟨j3,k + 1,?_,a3,by omega⟩
  rw [e1]
  have hb:=bin_next (X:=binL s (trm s N) plus (101 - k) (bare x) ⟨j1,c + nodes x⟩) (q:=100 - k) (by rw [show 101 - k=100 - k + 1 by omega]) e2 (by rcases hw with rfl | rfl <;> decide) e3
  rw [hb,then_ok]
  simp only
  rw [node_at qO,then_ok,bare_4,bares,bares,bares,show 101 - (k + 1)=100 - k by omega,show c + nodes x + nodes y + 1=c + (1 + (nodes x + (nodes y + 0))) by omega]
end
theorem all_of_fac {s:ByteArray} {e:Expr} (h:FacP s e) (hk:e.kind≠4) (h1:Lg.txt e 1=Lg.txt e 2) (h0:Lg.txt e 0=Lg.txt e 1):FacP s e∧TrmP s e∧XprP s e:=by
  have ht:=trm_of_fac h h1
  exact ⟨h,ht,xpr_of_trm ht (fun g=>absurd g hk) h0 fun N c d i L R hf hl hN h0 hc a e1 hs hn=>ht.ok hf hl hN (fun g=>absurd g hk) h0 hc a e1 hs hn⟩
theorem back_all (s:ByteArray):∀ (e:Expr),fineE e→FacP s e∧TrmP s e∧XprP s e
  | .mk k n r w ms bs ks, hf => by
    have hf':=hf
    rw [fineE] at hf
    obtain ⟨hk,ha,ho,hs⟩:=hf
    have:k=1∨k=2∨k=3∨k=4:=qO
    rcases this with rfl | rfl | rfl | rfl
    · exact all_of_fac fac_num (by simp [Expr.kind]) (by rw [txt_1,txt_1]) (by rw [txt_1,txt_1])
    · exact all_of_fac fac_win (by simp [Expr.kind]) (by rw [txt_2,txt_2]) (by rw [txt_2,txt_2])
    · match ks,ha,hs with
      | [x], _, hs =>
        rw [fineEs] at hs
        exact all_of_fac (fac_all_ (back_all s x hs.1).2.2) (by simp [Expr.kind]) (by rw [txt_3,txt_3]) (by rw [txt_3,txt_3])
    · match ks,ha,hs with
      | [x, y], _, hs =>
        rw [fineEs,fineEs] at hs
        obtain ⟨fx,tx,xx⟩:=back_all s x hs.1
        obtain ⟨fy,ty,xy⟩:=back_all s y hs.2.1
        rcases (Lg.binR_of ho).2 with rfl | rfl | rfl
        · have hX:XprP s (.mk 4 n r ⟨#[43]⟩ ms bs [x,y]):=xpr_two (.inl rfl) xx ty
          have hF:=fac_par_ hX
          exact ⟨hF,trm_of_fac hF (by rw [txt_4,txt_4]; rfl),hX⟩
        · have hX:XprP s (.mk 4 n r ⟨#[45]⟩ ms bs [x,y]):=xpr_two (.inr rfl) xx ty
          have hF:=fac_par_ hX
          exact ⟨hF,trm_of_fac hF (by rw [txt_4,txt_4]; rfl),hX⟩
        · have hT2:=trm_two (s:=s) (n:=n) (r:=r) (ms:=ms) (bs:=bs) tx fy
          have hT:TrmP s (.mk 4 n r ⟨#[42]⟩ ms bs [x,y]):=fun N c d i L R a1 a2 a3 _ a5 a6 a7 a8 a9=>hT2 N c d i L R a1 a2 a3 a5 a6 a7 a8 a9
          have hX:XprP s (.mk 4 n r ⟨#[42]⟩ ms bs [x,y]):=xpr_of_trm hT (fun _ _ _ _ _=>.inr trivial) (by rw [txt_4,txt_4]; rfl) fun N c d i L R hf hl hN h0 hc a e1 hs hn=>by
            obtain ⟨j,k,e2,a2,hk2⟩:=hT2 N c d i L R hf hl hN h0 hc a e1 hs
            obtain ⟨j',e3,a3⟩:=hn.star a2
            exact ⟨j',by rw [e2]; exact bin_done (q:=100 - k) (by rw [show 101 - k=100 - k + 1 by omega]) e3,a3⟩
          exact ⟨fac_par_ hX,hT,hX⟩
theorem bare_matchW (m:Match) (h:Lg.matchW m=0):Lg.matchW (bareM m)=0:=by
  obtain ⟨h1,h2,h3⟩:=matchW_of h
  unfold bareM
  split
  · rename_i g
    unfold Lg.matchW
    rw [if_neg (by show ¬ (m.kind < 1∨4 < m.kind); omega),if_neg]
    rintro (g' | ⟨g',_⟩)
    · rw [show zI.named m.key=false from g'] at h2; cases h2
    · have g'':m.kind=1∨m.kind=2:=g'; omega
  · exact h
theorem matchesW_map:∀ {l:List Match},(∀ m ∈ l,Lg.matchW m=0)→Lg.matchesW (l.map bareM)=0
  | [],_=>rfl
  | m :: l, h => by
    rw [List.map_cons,Lg.matchesW,bare_matchW m (h m List.mem_cons_self),if_neg qS]
    exact matchesW_map fun x hx=>h x (List.mem_cons_of_mem _ hx)
mutual
theorem bare_nodes:∀ (e:Expr),nodes (bare e)=nodes e
  | .mk k n r w ms bs ks => by
    have:=bares_nodes ks
    rw [bare]
    repeat' split
    all_goals rw [nodes,nodes,this]
theorem bares_nodes:∀ (l:List Expr),nodess (bares l)=nodess l
  | []=>rfl
  | x::xs=>by rw [bares,nodess,nodess,bare_nodes x,bares_nodes xs]
end
mutual
theorem bare_low:∀ (e:Expr) (d:Int),Mn.low d e→Mn.low d (bare e)
  | .mk k n r w ms bs ks, d, h => by
    rw [Mn.low] at h
    have:=bares_low ks (d + 1) h.2
    rw [bare]
    repeat' split
    all_goals (rw [Mn.low]; exact ⟨h.1,this⟩)
theorem bares_low:∀ (l:List Expr) (d:Int),lows d l→lows d (bares l)
  | [],_,_=>by rw [bares,lows]; trivial
  | x::xs,d,h=>by rw [lows] at h; rw [bares,lows]; exact ⟨bare_low x d h.1,bares_low xs d h.2⟩
end
mutual
theorem bare_fine:∀ (e:Expr),fineE e→fineE (bare e)
  | .mk k n r w ms bs ks, h => by
    rw [fineE] at h
    obtain ⟨hk,ha,ho,hs⟩:=h
    have hb:=bares_fine ks hs
    have hl:((bares ks).length:Int)=Lg.arity k:=by rw [bares_map,List.length_map]; exact ha
    have:k=1∨k=2∨k=3∨k=4:=qO
    rcases this with rfl | rfl | rfl | rfl
    · rw [bare_1,fineE]
      refine ⟨hk,hl,?_,hb⟩
      have:=Lg.numR_of ho
      rw [Lg.ownW,if_pos rfl,if_neg qO]
    · rw [bare_2,fineE]
      refine ⟨hk,hl,?_,hb⟩
      have hw:=okW_of ho
      rw [Lg.ownW,if_neg qD,if_pos rfl,Lg.windowW,if_neg (by simpa using hw.word),if_neg (by rw [List.length_map]; have:=hw.len; omega),matchesW_map hw.each,if_neg qS,if_neg (by have:=hw.range; omega)]
    · rw [bare_3,fineE]
      refine ⟨hk,hl,?_,hb⟩
      rw [Lg.ownW,if_neg qD,if_neg qD,if_pos rfl] at ho ⊢
      exact ho
    · rw [bare_4,fineE]
      refine ⟨hk,hl,?_,hb⟩
      rw [Lg.ownW,if_neg qD,if_neg qD,if_neg qD] at ho ⊢
      exact ho
theorem bares_fine:∀ (l:List Expr),fineEs l→fineEs (bares l)
  | [],_=>by rw [bares,fineEs]; trivial
  | x::xs,h=>by rw [fineEs] at h; rw [bares,fineEs]; exact ⟨bare_fine x h.1,bares_fine xs h.2⟩
end
theorem shape_le_of {e:Expr} (h:Lg.wrong e=0):nodes e≤100:=(Lg.right_of_wrong h).2
theorem back {e:Expr} (h:Lg.wrong e=0) (hl:(Lg.txt e 0).length≤2000):parse ⟨(Lg.txt e 0).toArray⟩=(bare e,(0,0)):=by
  obtain ⟨hf,hn,_,hlow⟩:=shape_of e 1 0 h
  have hn9:=shape_le_of h
  have h0:At ⟨(Lg.txt e 0).toArray⟩ 0 (Lg.txt e 0):=⟨Nat.zero_le _,by unfold rest; rw [bl_mk]; rfl⟩
  obtain ⟨j,e1,a1⟩:=(back_all ⟨(Lg.txt e 0).toArray⟩ e hf).2.2.ok (N:=20) (c:=0) (d:=1) hf hlow qD qD qO h0 (R:=[]) (by rw [List.append_nil]; have:=sk_txt hf 0 []; rwa [List.append_nil] at this) (fun b r g=>by cases g) (fun b r g=>by cases g) (fun b r g=>by cases g)
  have h2:=rest_len a1.past.le
  rw [a1.past.eq] at h2
  have h3:blank ⟨(Lg.txt e 0).toArray⟩ j=(⟨(Lg.txt e 0).toArray⟩:ByteArray).size:=h2
  have h4:=shape_ok (bare e) 1 0 (bare_fine e hf) (by rw [bare_nodes]; omega) (bare_low e 1 hlow)
  exact parse_ok (by rw [bl_msz]; omega) e1 h3 qO (by rw [h4]; simp)
end Pz
end
section
namespace Bs
open Ex Sh
set_option linter.unusedVariables false
def lB (i:Nat):ByteArray:=⟨#[UInt8.ofNat (97 + i)]⟩
def totL (t:Int):Nat→List Int→List Do
  | _,[]=>[]
  | i,v::r=>addD (lB i) (t - 1) v::totL t (i + 1) r
def shT (t:Int):Nat→List Int→List Shelf
  | _,[]=>[]
  | i,v::r=>⟨hostL (lB i),[⟨t - 1,v⟩],[],[],0,0,0,0,0⟩::shT t (i + 1) r
def keysT:Nat→Nat→List Cell
  | _,0=>[]
  | i,n + 1=>⟨hostL (lB i),0⟩::keysT (i + 1) n
theorem shT_key (t:Int):∀ (l:List Int) (i:Nat),(shT t i l).map key=keysT i l.length
  | [],_=>rfl
  | v::r,i=>by rw [shT,List.map_cons,shT_key t r,List.length_cons,keysT]; rfl
theorem shT_len (t:Int):∀ (l:List Int) (i:Nat),(shT t i l).length=l.length
  | [],_=>rfl
  | v::r,i=>by rw [shT,List.length_cons,List.length_cons,shT_len t r]
theorem shT_snoc (t v:Int):∀ (l:List Int) (i:Nat),shT t i (l++[v])=shT t i l++[⟨hostL (lB (i + l.length)),[⟨t - 1,v⟩],[],[],0,0,0,0,0⟩]
  | [],i=>rfl
  | x::r,i=>by rw [List.cons_append,shT,shT_snoc t v r,shT,List.cons_append,List.length_cons,show i + 1 + r.length=i + (r.length + 1) by omega]
theorem totL_snoc (t v:Int):∀ (l:List Int) (i:Nat),totL t i (l++[v])=totL t i l++[addD (lB (i + l.length)) (t - 1) v]
  | [],i=>rfl
  | x::r,i=>by rw [List.cons_append,totL,totL_snoc t v r,totL,List.cons_append,List.length_cons,show i + 1 + r.length=i + (r.length + 1) by omega]
theorem totL_len (t:Int):∀ (l:List Int) (i:Nat),(totL t i l).length=l.length
  | [],_=>rfl
  | v::r,i=>by rw [totL,List.length_cons,List.length_cons,totL_len t r]
theorem keys_fact:∀ n:Nat,n < 8→Mn.has (keysT 0 n) (hostL (lB n))=false∧Mn.pos (keysT 0 n) (hostL (lB n))=n∧zI.wrong (hostL (lB n))=0:=by decide +kernel
section
variable {t v:Int} {l:List Int}
theorem one_tot (hl:l.length < 8) (ht:1≤t∧t≤1000) (hv:-1000≤v∧v≤1000):one ⟨shT t 0 l,0⟩ (addD (lB l.length) (t - 1) v)=(⟨shT t 0 (l++[v]),0⟩,no 0):=by
  obtain ⟨k1,k2,k3⟩:=keys_fact l.length hl
  have h1:there (shT t 0 l) (hostL (lB l.length))=false:=by unfold there; rw [shT_key]; exact k1
  have h2:place (shT t 0 l) (hostL (lB l.length))=l.length:=by unfold place; rw [shT_key]; exact k2
  obtain ⟨_,hs⟩:=s1_is (h:=lB l.length) (a:=t - 1) (v:=v) k3 qO qO
  have hn:(shT t 0 l).length=l.length:=shT_len t l 0
  rw [add_first k3 ⟨show (0:Int)≤0 by decide,show (0:Int)≤1000000 by decide,show (0:Int) % 10=0 by decide⟩ qO qO h1 (by show (shT t 0 l).length < 8; omega),if_neg (show ¬ t - 1 < (0:Int) by omega)]
  show ((⟨(shT t 0 l).take (place (shT t 0 l) (hostL (lB l.length)))++s1 (lB l.length) (t - 1) v::(shT t 0 l).drop (place (shT t 0 l) (hostL (lB l.length))),0⟩:Base),no 0)=_
  rw [h2,List.take_of_length_le qO,List.drop_of_length_le qO,hs,shT_snoc,Nat.zero_add]
theorem run_tot (ht:1≤t∧t≤1000) (l:List Int):l.length≤8→(∀ v ∈ l,-1000≤v∧v≤1000)→(run zero (totL t 0 l)).1=⟨shT t 0 l,0⟩:=by
  induction l using List.reverseRecOn' with
  | nil=>intro _ _; rfl
  | snoc l x ih =>
    intro h hv
    rw [List.length_append,List.length_singleton] at h
    rw [totL_snoc,run_snoc,ih qO (fun v hm=>hv v (by simp [hm])),Nat.zero_add,one_tot qO ht (hv x qS)]
theorem last_run {m:List Do} {d:Do} (h:m.length < 120):last (m++[d])=(one (run zero m).1 d).2:=by
  have hp:play (m++[d])=((run zero (m++[d])).1,(run zero (m++[d])).2,0):=if_neg (by simp; omega)
  unfold last
  rw [hp,if_neg qS]
  show (match (run zero (m++[d])).2.getLast? with | none=>no 1 | some x=>x)=_
  rw [run_snoc,List.getLast?_concat]
end
def hostB:ByteArray:=⟨#[104,111,115,116]⟩
def okE (e:Expr) (s:ByteArray):Prop:=Pz.parse s=(e,(0,0))∧Lg.wrong e=0∧Lg.typed e=0
theorem ask_e {e:Expr} {s:ByteArray} {t:Int} {b:Base} (hp:okE e s) (ht:0≤t∧t≤1000000):ask b (askD s t)=if (asked b.zA e t).2≠0 then no (asked b.zA e t).2 else ⟨0,0,(asked b.zA e t).1,Mn.evalN (look b.zA) (cost b.zA) t e 0⟩:=by
  obtain ⟨h1,h2,h3⟩:=hp
  have hc:Mn.check e t=0:=by unfold Mn.check; rw [h2,h3,if_neg qS,if_neg qS,if_neg qO]
  unfold ask
  rw [show (askD s t).text=s from rfl,show (askD s t).to=t from rfl,h1]
  show (if (0:Int)≠0 then _ else if Mn.check e t≠0 then _ else _)=_
  rw [if_neg qD,if_neg (by rw [hc]; decide)]
def lastW (r:Int):Expr:=.mk 2 0 r ⟨#[108,97,115,116]⟩ [⟨3,hostB,⟨#[]⟩⟩] [] []
def sumA (r:Int):Expr:=.mk 2 0 r ⟨#[115,117,109]⟩ [⟨2,hostB,⟨#[97]⟩⟩] [] []
def xE (r:Int):Expr:=.mk 3 0 0 ⟨#[115,117,109]⟩ [] [] [lastW r]
def yE (r:Int):Expr:=.mk 4 0 0 ⟨#[42]⟩ [] [] [.mk 3 0 0 ⟨#[109,97,120]⟩ [] [] [lastW r],.mk 1 1 0 ⟨#[]⟩ [] [] []]
def zE (r:Int):Expr:=.mk 3 0 0 ⟨#[99,111,117,110,116]⟩ [] [hostB] [sumA r]
def xT (t:Int):ByteArray:=⟨#[97,108,108,32,115,117,109,32,40,108,97,115,116,40,123,104,111,115,116,125,91]⟩++numT t++⟨#[93,41,41]⟩
def yT (t:Int):ByteArray:=⟨#[97,108,108,32,109,97,120,32,40,108,97,115,116,40,123,104,111,115,116,125,91]⟩++numT t++⟨#[93,41,41,32,42,32,49]⟩
def zT (t:Int):ByteArray:=⟨#[97,108,108,32,99,111,117,110,116,32,98,121,32,104,111,115,116,32,40,115,117,109,40,123,104,111,115,116,33,61,97,125,91]⟩++numT t++⟨#[93,41,41]⟩
theorem win_own {w:ByteArray} {ms:List Match} {t:Int} (hw:0≤zI.indexOf Agg.words w 0) (hm:ms.length≤5) (h0:Lg.matchesW ms=0) (ht:1≤t∧t≤1000):Lg.ownW 2 0 t w ms []=0:=by
  rw [Lg.ownW,if_neg qD,if_pos rfl,Lg.windowW,if_neg (by simpa using hw),if_neg qO,if_neg (by simp [h0]),if_neg qO]
theorem win_shape {w:ByteArray} {ms:List Match} {t d c:Int} (hw:0≤zI.indexOf Agg.words w 0) (hm:ms.length≤5) (h0:Lg.matchesW ms=0) (ht:1≤t∧t≤1000) (hd:d≤20) (hc:c≤99):Lg.shape (.mk 2 0 t w ms [] []) d c=(0,c + 1):=by
  rw [Lg.shape,if_neg qO,if_neg qD,if_neg qD,win_own hw hm h0 ht,if_neg qS,Lg.shapes]
theorem last_shape {t d c:Int} (ht:1≤t∧t≤1000) (hd:d≤20) (hc:c≤99):Lg.shape (lastW t) d c=(0,c + 1):=win_shape (by decide +kernel) qD (by decide +kernel) ht hd hc
theorem all_shape {w:ByteArray} {bs:List ByteArray} {e:Expr} {d c n:Int} (ho:Lg.ownW 3 0 0 w [] bs=0) (he:Lg.shape e (d + 1) (c + 1)=(0,n)) (hd:d≤20) (hc:c≤99):Lg.shape (.mk 3 0 0 w [] bs [e]) d c=(0,n):=by
  rw [Lg.shape,if_neg qO,if_neg qD,if_neg (show ¬ ((([e]:List Expr).length:Int)≠Lg.arity 3) from fun g=>g rfl),ho,if_neg qS,Lg.shapes,he,if_neg qS,Lg.shapes]
section
variable {t:Int}
theorem x_wrong (ht:1≤t∧t≤1000):Lg.wrong (xE t)=0:=by
  unfold Lg.wrong xE; rw [all_shape (n:=0 + 1 + 1) (by decide +kernel) (last_shape ht qD qD) qD qD]
theorem z_wrong (ht:1≤t∧t≤1000):Lg.wrong (zE t)=0:=by
  unfold Lg.wrong zE sumA; rw [all_shape (n:=0 + 1 + 1) (by decide +kernel) (win_shape (by decide +kernel) qD (by decide +kernel) ht qD qD) qD qD]
theorem y_wrong (ht:1≤t∧t≤1000):Lg.wrong (yE t)=0:=by
  unfold Lg.wrong yE
  rw [Lg.shape,if_neg qD,if_neg qD,if_neg (show ¬ ((([_,_]:List Expr).length:Int)≠Lg.arity 4) from fun g=>g rfl),if_neg (by decide +kernel),Lg.shapes,all_shape (n:=0 + 1 + 1 + 1) (by decide +kernel) (last_shape ht qD qD) qD qD,if_neg qS,Lg.shapes,if_neg (by decide +kernel),Lg.shapes]
theorem num_wrong (ht:0≤t∧t≤1000):Lg.wrong (.mk 1 t 0 ⟨#[]⟩ [] [] [])=0:=by
  unfold Lg.wrong; rw [Lg.shape,if_neg qD,if_neg qD,if_neg qD,show Lg.ownW 1 t 0 ⟨#[]⟩ [] []=0 from by rw [Lg.ownW,if_pos rfl,if_neg qO],if_neg qS,Lg.shapes]
theorem num_txt (ht:0≤t∧t≤1000):(numT t).data.toList=Lg.nb t∧(Lg.nb t).length≤21:=by
  have hl:=Lg.nb_len (n:=t) qO
  refine ⟨?_,hl⟩
  have he:Lg.txt (.mk 1 t 0 ⟨#[]⟩ [] [] []) 0=Lg.nb t:=by rw [Lg.txt,if_pos rfl]
  unfold numT Lg.print
  rw [if_neg (by simp [num_wrong ht]),he,if_neg qO]
theorem okE_of {e:Expr} {s:ByteArray} (hw:Lg.wrong e=0) (ht:Lg.typed e=0) (hb:Pz.bare e=e) (hs:s.data.toList=Lg.txt e 0) (hl:(Lg.txt e 0).length≤2000):okE e s:=by
  refine ⟨?_,hw,ht⟩
  rw [toB hs,Pz.back hw hl,hb]
theorem tot_txt (ht:1≤t∧t≤1000):okE (xE t) (xT t)∧okE (yE t) (yT t)∧okE (zE t) (zT t):=by
  obtain ⟨n1,n2⟩:=num_txt (t:=t) qO
  refine ⟨okE_of (x_wrong ht) rfl rfl ?_ ?_,okE_of (y_wrong ht) rfl rfl ?_ ?_,okE_of (z_wrong ht) rfl rfl ?_ ?_⟩
  · unfold xT; rw [bl_app,bl_app,n1]; simp [xE,lastW,Lg.txt,Lg.txts,Lg.wint,Lg.mts,Lg.mt,Lg.bys,hostB]
  · simp only [xE,lastW,Lg.txt,Lg.txts,Lg.wint,Lg.mts,Lg.mt,Lg.bys,hostB]; simp; omega
  · unfold yT; rw [bl_app,bl_app,n1]; simp [yE,lastW,Lg.txt,Lg.txts,Lg.wint,Lg.mts,Lg.mt,Lg.bys,hostB,Lg.lv,Lg.tb,show Lg.nb 1=[49] by decide +kernel]
  · simp only [yE,lastW,Lg.txt,Lg.txts,Lg.wint,Lg.mts,Lg.mt,Lg.bys,hostB,Lg.lv,Lg.tb,show Lg.nb 1=[49] by decide +kernel]; simp; omega
  · unfold zT; rw [bl_app,bl_app,n1]; simp [zE,sumA,Lg.txt,Lg.txts,Lg.wint,Lg.mts,Lg.mt,Lg.bys,hostB]
  · simp only [zE,sumA,Lg.txt,Lg.txts,Lg.wint,Lg.mts,Lg.mt,Lg.bys,hostB]; simp; omega
end
def celT:Nat→List Int→List Cell
  | _,[]=>[]
  | i,v::r=>⟨hostL (lB i),v⟩::celT (i + 1) r
section
variable {t:Int}
theorem of_one (a v:Int):Agg.of [⟨a,v⟩]=Agg.one v:=by
  show Agg.join Sum.zero (Agg.one v)=_
  exact Agg.none_join _
theorem look_T (ht:1≤t∧t≤1000) (ms:List Match) (word:ByteArray) (hw:∀ v,Agg.value word (Agg.one v)=(v,true)) (f:Nat→Bool) (hf:∀ i,i < 8→zI.zh (hostL (lB i)) ms=f i):∀ (l:List Int) (i:Nat),i + l.length≤8→(∀ v ∈ l,-1000≤v∧v≤1000) →
    (look (shT t i l) ms 0 t).2=0∧Mn.winCells word (look (shT t i l) ms 0 t).1=(celT i l).filter fun c=>zI.zh c.sr ms
  | [],i,_,_=>⟨rfl,rfl⟩
  | v :: r, i, hl, hv => by
    rw [List.length_cons] at hl
    obtain ⟨i1,i2⟩:=look_T ht ms word hw f hf r (i + 1) qO (fun x hx=>hv x (List.mem_cons_of_mem _ hx))
    have hvv:=hv v List.mem_cons_self
    obtain ⟨k0,hs⟩:=s1_is (h:=lB i) (a:=t - 1) (v:=v) (keys_fact i qO).2.2 qO qO
    rw [hs] at k0
    rw [shT,celT,look,List.filter_cons]
    show (if ¬ zI.zh (hostL (lB i)) ms=true then _ else _:List (List Label × Sum) × Int).2=0∧Mn.winCells word (if ¬ zI.zh (hostL (lB i)) ms=true then _ else _:List (List Label × Sum) × Int).1=if zI.zh (hostL (lB i)) ms=true then _ else _
    by_cases hm:zI.zh (hostL (lB i)) ms=true
    · have hc:=choose_raw (f:=0) (t:=t) k0.ok rfl qO qO qO
      obtain ⟨r1,r2,_⟩:=read_is k0 hc
      have hin:Roll.inT [(⟨t - 1,v⟩:Sample)] 0 t=[⟨t - 1,v⟩]:=by unfold Roll.inT; rw [List.filter_cons,if_pos (by simp; omega)]; rfl
      rw [if_neg (by simp [hm]),if_neg (by simp [hc]),if_neg (by simp [r2]),if_neg (by simp [i1]),if_pos hm,r1,hin,of_one]
      refine ⟨rfl,?_⟩
      rw [← i2]
      unfold Mn.winCells
      rw [List.filterMap_cons,hw]; rfl
    · rw [if_pos hm,if_neg hm]; exact ⟨i1,i2⟩
theorem has_all:∀ i:Nat,i < 8→zI.zh (hostL (lB i)) [⟨3,hostB,⟨#[]⟩⟩]=true:=by decide +kernel
theorem not_a:∀ i:Nat,i < 8→zI.zh (hostL (lB i)) [⟨2,hostB,⟨#[97]⟩⟩]=decide (i≠0):=by decide +kernel
theorem celT_all (ms:List Match):∀ (l:List Int) (i:Nat),i + l.length≤8→(∀ j,i≤j→j < 8→zI.zh (hostL (lB j)) ms=true)→((celT i l).filter fun c=>zI.zh c.sr ms)=celT i l
  | [],_,_,_=>rfl
  | v :: r, i, h, hm => by
    rw [List.length_cons] at h
    rw [celT,List.filter_cons,if_pos (hm i (Nat.le_refl _) qO),celT_all ms r (i + 1) qO (fun j hj=>hm j qO)]
theorem frm_t (h:1≤t):Mn.frm t t=0:=by unfold Mn.frm; rw [if_neg qO]; omega
theorem last_v (v:Int):Agg.value ⟨#[108,97,115,116]⟩ (Agg.one v)=(v,true):=rfl
theorem sum_v (v:Int):Agg.value ⟨#[115,117,109]⟩ (Agg.one v)=(v,true):=rfl
variable {l:List Int}
theorem eval_last (ht:1≤t∧t≤1000) (hl:l.length≤8) (hv:∀ v ∈ l,-1000≤v∧v≤1000):Mn.eval (look (shT t 0 l)) t (lastW t)=(⟨true,0,celT 0 l⟩,0):=by
  obtain ⟨h1,h2⟩:=look_T ht [⟨3,hostB,⟨#[]⟩⟩] ⟨#[108,97,115,116]⟩ last_v (fun _=>true) has_all l 0 qO hv
  unfold lastW
  rw [Mn.eval,if_neg qD,if_pos rfl]
  unfold Mn.window
  rw [frm_t ht.1,if_neg (by simp [h1]),h2,celT_all _ l 0 qO (fun j _ hj=>has_all j hj)]
theorem eval_sumA (ht:1≤t∧t≤1000) (hl:l.length≤8) (hv:∀ v ∈ l,-1000≤v∧v≤1000):Mn.eval (look (shT t 0 l)) t (sumA t)=(⟨true,0,(celT 0 l).filter fun c=>zI.zh c.sr [⟨2,hostB,⟨#[97]⟩⟩]⟩,0):=by
  obtain ⟨h1,h2⟩:=look_T ht [⟨2,hostB,⟨#[97]⟩⟩] ⟨#[115,117,109]⟩ sum_v _ not_a l 0 qO hv
  unfold sumA
  rw [Mn.eval,if_neg qD,if_pos rfl]
  unfold Mn.window
  rw [frm_t ht.1,if_neg (by simp [h1]),h2]
theorem eval_3 {lk:Look} {w:ByteArray} {bs:List ByteArray} {e:Expr} {v:Val} (h:Mn.eval lk t e=(v,0)):Mn.eval lk t (.mk 3 0 0 w [] bs [e])=Mn.all w bs v.cells:=by
  rw [Mn.eval,if_neg qD,if_neg qD]
  have:Mn.evals lk t [e]=([v],0):=by rw [Mn.evals,h,if_neg qS,Mn.evals]
  rw [this,if_neg qS]; rfl
end
theorem all_sum (l:List Int):∀ (i:Nat) (x:Int),(∀ v ∈ l,-1000≤v∧v≤1000)→(1000 * (l.length:Int) - 100000≤x∧x≤100000 - 1000 * (l.length:Int)) →
    Mn.allFrom ⟨#[115,117,109]⟩ [] [⟨[],x⟩] (celT i l)=(⟨true,0,[⟨[],l.foldl (· + ·) x⟩]⟩,0):=by
  induction l with
  | nil=>intro i x _ _; rfl
  | cons v r ih =>
    intro i x hv hx
    have h1:=hv v List.mem_cons_self
    rw [List.length_cons] at hx
    have hn:((r.length + 1:Nat):Int)=r.length + 1:=qO
    rw [hn] at hx
    have hp:Mn.put ⟨#[115,117,109]⟩ [⟨[],x⟩] (zI.only (hostL (lB i)) []) (Mn.unit ⟨#[115,117,109]⟩ v)=[⟨[],x + v⟩]:=rfl
    have hf:([⟨[],x + v⟩]:List Cell).all (fun d=>Mn.fits d.value)=true:=by
      rw [List.all_cons,List.all_nil,Bool.and_true]; exact Mn.fits_iff.2 (by show -1125899906842624≤x + v∧x + v≤1125899906842624; omega)
    rw [celT,Mn.allFrom,hp,if_pos hf,ih (i + 1) (x + v) (fun y hy=>hv y (List.mem_cons_of_mem _ hy)) qO,List.foldl_cons]
theorem all_max:∀ (l:List Int) (i:Nat) (x:Int),(∀ v ∈ l,-1000≤v∧v≤1000)→(-1000≤x∧x≤1000) →
    Mn.allFrom ⟨#[109,97,120]⟩ [] [⟨[],x⟩] (celT i l)=(⟨true,0,[⟨[],l.foldl (fun a b=>if a < b then b else a) x⟩]⟩,0)
  | [],i,x,_,_=>rfl
  | v :: r, i, x, hv, hx => by
    have h1:=hv v List.mem_cons_self
    have hm:max x v=if x < v then v else x:=by split <;> omega
    have hp:Mn.put ⟨#[109,97,120]⟩ [⟨[],x⟩] (zI.only (hostL (lB i)) []) (Mn.unit ⟨#[109,97,120]⟩ v)=[⟨[],if x < v then v else x⟩]:=by rw [← hm]; rfl
    have hb:-1000≤(if x < v then v else x)∧(if x < v then v else x)≤1000:=by split <;> omega
    rw [celT,Mn.allFrom,hp,if_pos (by simp [Mn.fits]; omega),all_max r (i + 1) _ (fun y hy=>hv y (List.mem_cons_of_mem _ hy)) hb,List.foldl_cons]
theorem count_sr (bs:List ByteArray):∀ (l m:List Cell) (out:List Cell),l.map (·.sr)=m.map (·.sr)→Mn.allFrom ⟨#[99,111,117,110,116]⟩ bs out l=Mn.allFrom ⟨#[99,111,117,110,116]⟩ bs out m
  | [],[],_,_=>rfl
  | [],_::_,_,h=>by cases h
  | _::_,[],_,h=>by cases h
  | x :: l, y :: m, out, h => by
    rw [List.map_cons,List.map_cons] at h
    injection h with h1 h2
    rw [Mn.allFrom,Mn.allFrom,h1,show Mn.unit ⟨#[99,111,117,110,116]⟩ x.value=1 from rfl,show Mn.unit ⟨#[99,111,117,110,116]⟩ y.value=1 from rfl,count_sr bs l m _ h2]
theorem celT_sr:∀ (l:List Int) (i:Nat),(celT i l).map (·.sr)=(keysT i l.length).map (·.sr)
  | [],_=>rfl
  | v::r,i=>by rw [celT,List.map_cons,celT_sr r,List.length_cons,keysT,List.map_cons]
theorem filt_sr (p:List Label→Bool):∀ (l m:List Cell),l.map (·.sr)=m.map (·.sr)→(l.filter fun c=>p c.sr).map (·.sr)=(m.filter fun c=>p c.sr).map (·.sr)
  | [],[],_=>rfl
  | [],_::_,h=>by cases h
  | _::_,[],h=>by cases h
  | x :: l, y :: m, h => by
    rw [List.map_cons,List.map_cons] at h
    injection h with h1 h2
    have ih:=filt_sr p l m h2
    rw [List.filter_cons,List.filter_cons,h1]
    split
    · rw [List.map_cons,List.map_cons,ih,h1]
    · exact ih
theorem count_fact:∀ n:Nat,n < 9→0 < n→(Mn.all ⟨#[99,111,117,110,116]⟩ [hostB] ((keysT 0 n).filter fun c=>zI.zh c.sr [⟨2,hostB,⟨#[97]⟩⟩])).2=0∧(Mn.all ⟨#[99,111,117,110,116]⟩ [hostB] ((keysT 0 n).filter fun c=>zI.zh c.sr [⟨2,hostB,⟨#[97]⟩⟩])).1.vec=true ∧
    (Mn.all ⟨#[99,111,117,110,116]⟩ [hostB] ((keysT 0 n).filter fun c=>zI.zh c.sr [⟨2,hostB,⟨#[97]⟩⟩])).1.cells.length=n - 1:=by decide +kernel
section
variable {t:Int} {l:List Int}
theorem last_tot (ht:1≤t∧t≤1000) (hl:l.length≤8) (hv:∀ v ∈ l,-1000≤v∧v≤1000) (s:ByteArray):last (totL t 0 l++[askD s t])=ask ⟨shT t 0 l,0⟩ (askD s t):=by
  rw [last_run (by rw [totL_len]; omega),run_tot ht l hl hv,one_ask]
def maxOf (l:List Int):Int:=match l with
  | []=>0
  | v::r=>r.foldl (fun a b=>if a < b then b else a) v
def sumOf (l:List Int):Int:=l.foldl (· + ·) 0
theorem x_is (ht:1≤t∧t≤1000) (hl:l.length≤8) (h0:0 < l.length) (hv:∀ v ∈ l,-1000≤v∧v≤1000):(last (totL t 0 l++[askD (xT t) t])).err=0∧(last (totL t 0 l++[askD (xT t) t])).cells=[⟨[],sumOf l⟩]:=by
  have hT:=(tot_txt ht).1
  have e:asked (shT t 0 l) (xE t) t=([⟨[],sumOf l⟩],0):=by
    unfold asked xE
    rw [eval_3 (eval_last ht hl hv)]
    cases l with
    | nil=>simp at h0
    | cons v r =>
      have h1:=hv v List.mem_cons_self
      show Mn.out (Mn.allFrom ⟨#[115,117,109]⟩ [] [] (celT 0 (v::r)))=_
      have hp:Mn.put ⟨#[115,117,109]⟩ [] (zI.only (hostL (lB 0)) []) (Mn.unit ⟨#[115,117,109]⟩ v)=[⟨[],v⟩]:=rfl
      rw [List.length_cons] at hl
      rw [celT,Mn.allFrom,hp,if_pos (by simp [Mn.fits]; omega),all_sum r 1 v (fun y hy=>hv y (List.mem_cons_of_mem _ hy)) qO]
      unfold sumOf
      rw [List.foldl_cons,Int.zero_add]; rfl
  rw [last_tot ht hl hv,ask_e hT qO,e]; exact ⟨rfl,rfl⟩
theorem y_is (ht:1≤t∧t≤1000) (hl:l.length≤8) (h0:0 < l.length) (hv:∀ v ∈ l,-1000≤v∧v≤1000):(last (totL t 0 l++[askD (yT t) t])).err=0∧(last (totL t 0 l++[askD (yT t) t])).cells=[⟨[],maxOf l⟩]:=by
  have hT:=(tot_txt ht).2.1
  have em:Mn.eval (look (shT t 0 l)) t (.mk 3 0 0 ⟨#[109,97,120]⟩ [] [] [lastW t])=(⟨true,0,[⟨[],maxOf l⟩]⟩,0)∧-1000≤maxOf l∧maxOf l≤1000:=by
    rw [eval_3 (eval_last ht hl hv)]
    cases l with
    | nil=>simp at h0
    | cons v r =>
      have h1:=hv v List.mem_cons_self
      show Mn.allFrom ⟨#[109,97,120]⟩ [] [] (celT 0 (v::r))=_∧_
      have hp:Mn.put ⟨#[109,97,120]⟩ [] (zI.only (hostL (lB 0)) []) (Mn.unit ⟨#[109,97,120]⟩ v)=[⟨[],v⟩]:=rfl
      rw [celT,Mn.allFrom,hp,if_pos (by simp [Mn.fits]; omega),all_max r 1 v (fun y hy=>hv y (List.mem_cons_of_mem _ hy)) h1]
      refine ⟨rfl,?_⟩
      have key:∀ (r:List Int) (x:Int),-1000≤x∧x≤1000→(∀ y ∈ r,-1000≤y∧y≤1000)→-1000≤r.foldl (fun a b=>if a < b then b else a) x∧r.foldl (fun a b=>if a < b then b else a) x≤1000:=by
        intro r
        induction r with
        | nil=>intro x hx _; exact hx
        | cons y r ih=>intro x hx hr; rw [List.foldl_cons]; exact ih _ (by have:=hr y List.mem_cons_self; split <;> omega) (fun z hz=>hr z (List.mem_cons_of_mem _ hz))
      exact key r v h1 (fun y hy=>hv y (List.mem_cons_of_mem _ hy))
  obtain ⟨em,m1,m2⟩:=em
  have e:asked (shT t 0 l) (yE t) t=([⟨[],maxOf l⟩],0):=by
    unfold asked yE
    have h2:Mn.evals (look (shT t 0 l)) t [.mk 3 0 0 ⟨#[109,97,120]⟩ [] [] [lastW t],.mk 1 1 0 ⟨#[]⟩ [] [] []]=([⟨true,0,[⟨[],maxOf l⟩]⟩,⟨false,1,[]⟩],0):=by
      rw [Mn.evals,em,if_neg qS,Mn.evals,Mn.eval,if_pos rfl,if_neg qS,Mn.evals]
    rw [Mn.eval,if_neg qD,if_neg qD,h2,if_neg qS]
    show Mn.out (Mn.bin ⟨#[42]⟩ ⟨true,0,[⟨[],maxOf l⟩]⟩ ⟨false,1,[]⟩)=_
    have hb:¬ Mn.tooBig (maxOf l) 1:=by
      intro g
      have:=g.2
      have h1:Mn.abs 1=1:=rfl
      rw [h1] at this
      unfold Mn.abs at this; split at this <;> omega
    have ho:Mn.op ⟨#[42]⟩ (maxOf l) 1=(maxOf l,true):=by
      show (if Mn.tooBig (maxOf l) 1 then _ else _)=_
      rw [if_neg hb,Int.mul_one]
    have hf:Mn.fine ⟨#[42]⟩ [(([]:List Label),maxOf l,(1:Int))]=true:=by unfold Mn.fine; rw [List.all_cons,ho]; rfl
    have hd:Mn.done ⟨#[42]⟩ [(([]:List Label),maxOf l,(1:Int))]=[⟨[],maxOf l⟩]:=by unfold Mn.done; rw [List.map_cons,ho]; rfl
    have hbin:Mn.bin ⟨#[42]⟩ ⟨true,0,[⟨[],maxOf l⟩]⟩ ⟨false,1,[]⟩=(⟨true,0,[⟨[],maxOf l⟩]⟩,0):=by
      show (if Mn.fine ⟨#[42]⟩ [(([]:List Label),maxOf l,(1:Int))]=true then ((⟨true,0,Mn.done ⟨#[42]⟩ [(([]:List Label),maxOf l,(1:Int))]⟩:Val),(0:Int)) else _)=_
      rw [if_pos hf,hd]
    rw [hbin]; rfl
  rw [last_tot ht hl hv,ask_e hT qO,e]; exact ⟨rfl,rfl⟩
theorem z_is (ht:1≤t∧t≤1000) (hl:l.length≤8) (h0:0 < l.length) (hv:∀ v ∈ l,-1000≤v∧v≤1000):(last (totL t 0 l++[askD (zT t) t])).err=0∧(last (totL t 0 l++[askD (zT t) t])).cells.length=l.length - 1:=by
  have hT:=(tot_txt ht).2.2
  obtain ⟨c1,c2,c3⟩:=count_fact l.length qO h0
  have e0:Mn.eval (look (shT t 0 l)) t (zE t)=Mn.all ⟨#[99,111,117,110,116]⟩ [hostB] ((keysT 0 l.length).filter fun c=>zI.zh c.sr [⟨2,hostB,⟨#[97]⟩⟩]):=by
    unfold zE
    rw [eval_3 (eval_sumA ht hl hv)]
    exact count_sr _ _ _ _ (filt_sr (fun s=>zI.zh s [⟨2,hostB,⟨#[97]⟩⟩]) _ _ (celT_sr l 0))
  have e:(asked (shT t 0 l) (zE t) t).2=0∧(asked (shT t 0 l) (zE t) t).1.length=l.length - 1:=by
    unfold asked
    rw [e0]
    unfold Mn.out
    rw [if_neg (by simp [c1]),if_pos c2]; exact ⟨rfl,c3⟩
  rw [last_tot ht hl hv,ask_e hT qO,if_neg (by simp [e.1])]; exact ⟨rfl,e.2⟩
end
theorem fold_bnd:∀ (l:List Int) (x:Int),(∀ v ∈ l,-1000≤v∧v≤1000)→x - 1000 * (l.length:Int)≤l.foldl (· + ·) x∧l.foldl (· + ·) x≤x + 1000 * (l.length:Int)
  | [],x,_=>by simp
  | v :: r, x, h => by
    have h1:=h v List.mem_cons_self
    have h2:=fold_bnd r (x + v) (fun y hy=>h y (List.mem_cons_of_mem _ hy))
    rw [List.foldl_cons,List.length_cons]; push_cast; omega
theorem sum_bnd {l:List Int} (h:∀ v ∈ l,-1000≤v∧v≤1000):-1000 * (l.length:Int)≤sumOf l∧sumOf l≤1000 * (l.length:Int):=by
  have:=fold_bnd l 0 h
  unfold sumOf; omega
section
variable {t v:Int} {l:List Int} {k:Nat}
theorem tot_next {ms:List zu} {z:zu} (hv:l[k]?=some v) (h:ms.map zu.e=totL t 0 (l.take k)) (hz:z.e=addD (lB k) (t - 1) v):(ms++[z]).map zu.e=totL t 0 (l.take (k + 1)):=by
  have hk:=(List.getElem?_eq_some_iff.1 hv).1
  rw [List.take_add_one,hv,Option.toList_some,totL_snoc,List.map_append,h,List.map_cons,List.map_nil,hz,Nat.zero_add,List.length_take,Nat.min_eq_left qO]
theorem sum_next (hv:l[k]?=some v):sumOf (l.take k) + v=sumOf (l.take (k + 1)):=by
  rw [List.take_add_one,hv,Option.toList_some]; unfold sumOf; rw [List.foldl_append]; rfl
theorem max_snoc:∀ (l:List Int) (v:Int),maxOf (l++[v])=if l=[] then v else if maxOf l < v then v else maxOf l
  | [],v=>rfl
  | x::r,v=>by rw [if_neg qS]; show (r++[v]).foldl (fun a b=>if a < b then b else a) x=_; rw [List.foldl_append]; rfl
theorem max_y (hv:l[k]?=some v) (h:k=0∨maxOf (l.take k) < v):v=maxOf (l.take (k + 1)):=by
  rw [List.take_add_one,hv,Option.toList_some,max_snoc]
  split
  · rfl
  · rename_i h0
    rw [if_pos (h.resolve_left (fun e=>h0 (by subst e; rfl)))]
theorem max_n (hv:l[k]?=some v) (h0:¬ k=0) (h:¬ maxOf (l.take k) < v):maxOf (l.take k)=maxOf (l.take (k + 1)):=by
  have hk:=(List.getElem?_eq_some_iff.1 hv).1
  rw [List.take_add_one,hv,Option.toList_some,max_snoc,if_neg (fun e=>by have:=congrArg List.length e; rw [List.length_take,List.length_nil] at this; omega),if_neg h]
theorem all_next {p:Int→Prop} (hv:l[k]?=some v) (h:∀ x ∈ l.take k,p x) (hp:p v):∀ x ∈ l.take (k + 1),p x:=fun x hx=>by
  rw [List.take_add_one,hv,Option.toList_some] at hx
  rcases List.mem_append.1 hx with hx | hx
  · exact h x hx
  · rw [List.mem_singleton.1 hx]; exact hp
end
theorem cell_x {z:zl} {a:Ans} {v:Int} (h:z.e=a) (hc:a.cells=[⟨[],v⟩]):z.cells.l.length=1∧∀ c,z.cells.l[0]?=some c→c.value=v:=by
  subst h
  have hc:z.cells.l.map zG.e=[⟨[],v⟩]:=hc
  refine ⟨by have:=congrArg List.length hc; simpa using this,fun c h=>?_⟩
  have h1:=congrArg (·[0]?) hc
  simp only [List.getElem?_map,h,Option.map_some,List.getElem?_cons_zero] at h1
  exact congrArg Cell.value (Option.some.inj h1)
theorem cell_n {z:zl} {a:Ans} {n:Nat} (h:z.e=a) (hc:a.cells.length=n):z.cells.l.length=n:=by
  subst h
  rw [← hc]; show _=(z.cells.l.map zG.e).length
  rw [List.length_map]
end Bs
end
section
open _root_.Go.Proofs.Tryz
open Ex
attribute [local irreducible] WC WL WQ WE WS
set_option linter.unusedVariables false
set_option linter.unusedSimpArgs false
set_option maxHeartbeats 1000000 in
set_option maxRecDepth 4000 in
theorem law_TopTotal (lv:Value) (l:List Int) (time:Int) (P0:Nat→Prop) (w:World) (hP0:∀ b,P0 b→b < w.heap.size) (hl:zD P0 1 intE lv l w) (hE:zO P0 w) (hT:Tab P0 w)  :
    Calls prog 12 #[lv,iV time] w (Ret w (.bool true)):=by
 obtain ⟨lA,lc,rfl,hlc,hlm,hlA⟩:=hl.form
 refine zt (N:=144) func12 (Mem.ofDatsP hP0 (dc (dlp hl) (dc (dp zO.loc hE) (dc (dp Tab.loc hT) dn)))) ?_
 refine (go 8) ?_
 refine yJ call25 wn rfl (fun w1 hM=>c_talive (In w1) w1 (fun _ h=>h) (hM.yQ (i:=1) rfl)) (zc (yH rfl) ?_)
 refine (go 12) (yU 18 (fun h1=>?_) fun h1=>?_)
 ·refine (go 22) (za results12 fun w1 hM=>?_)
  exact zQ (by first | rfl | exact congrArg Value.bool (decide_eq_true qO)) hM
 refine (go 5) (yU 23 (fun h2=>?_) fun h2=>?_)
 ·refine (go 17) (za results12 fun w1 hM=>?_)
  exact zQ (by first | rfl | exact congrArg Value.bool (decide_eq_true qO)) hM
 refine (go 4) (yU 27 (fun h3=>?_) fun h3=>?_)
 ·refine (go 13) (za results12 fun w1 hM=>?_)
  exact zQ (by first | rfl | exact congrArg Value.bool (decide_eq_true qO)) hM
 refine (go 5) (zZ (fun h4=>?_) fun h4=>?_)
 ·refine (go 7) (za results12 fun w1 hM=>?_)
  exact zQ (by first | rfl | exact congrArg Value.bool (decide_eq_true qO)) hM
 refine (go 4) ?_
 refine yI (y8:zu→List Value) 43 7 (zd (fun _ h=>h.all0 zu.Ok.loc) ?_)
 refine (go 18) ?_
 refine uS (fun (k:Nat) (gs:List zu) (sm:Int) (mo:Int) (gv:Value)=>[(0,.slice lA l.length lc),(1,iV time),(5,gv),(6,iV sm),(7,iV mo),(31,.slice lA l.length lc),(32,iV l.length),(33,iV k)]) (fun (k:Nat) (gs:List zu) (sm:Int) (mo:Int) (gv:Value)=>[allP zu.Ok gs,Row gv 43 7 y8 gs,slP 1 intE (.slice lA l.length lc) l,.pub zO,.pub Tab]) (fun (k:Nat) (gs:List zu) (sm:Int) (mo:Int) (gv:Value)=>k≤l.length∧(∀ y ∈ gs,zu.Wf y)∧gs.map zu.e=Bs.totL time 0 (l.take k)∧gs.length≤k∧sm=Bs.sumOf (l.take k)∧mo=Bs.maxOf (l.take k)∧(∀ v ∈ l.take k,-1000≤v∧v≤1000)) (fun (k:Nat) (gs:List zu) (sm:Int) (mo:Int) (gv:Value)=>l.length - k) 0 [] 0 0 (Zs) (sc rfl (sc rfl (sc rfl (sc rfl (sc rfl (sc rfl (sc rfl (sc (ji qO) sn)))))))) (fun _ h=>h) ?_ (fun k gs sm mo gv hI1=>?_)
 ·exact ⟨Nat.zero_le _,fun x hx=>(by cases hx),rfl,Nat.le_refl _,rfl,rfl,fun x hx=>(by cases hx)⟩
 have hwg:=hI1.2.1
 have hgl:=hI1.2.2.2.1
 have hsb:=Bs.sum_bnd hI1.2.2.2.2.2.2
 have hkl:(l.take k).length≤8:=by rw [List.length_take]; omega
 rw [← hI1.2.2.2.2.1] at hsb
 refine ye 1 (l:=gs) rfl fun A1 cp1 hv1 hc1 hm1 hA1=>?_
 subst hv1
 refine (go 6) (zZ (fun h5=>?_) fun h5=>?_)
 ·refine (go 7) ?_
  obtain ⟨ad1,s1,hd1,hs1⟩:=elx hlA k
  refine (go 12) (yU 40 (fun h6=>?_) fun h6=>?_)
  ·refine (go 18) (za results12 fun w1 hM=>?_)
   exact zQ (by first | rfl | exact congrArg Value.bool (decide_eq_true qO)) hM
  refine (go 5) (zZ (fun h7=>?_) fun h7=>?_)
  ·refine (go 12) (za results12 fun w1 hM=>?_)
   exact zQ (by first | rfl | exact congrArg Value.bool (decide_eq_true qO)) hM
  refine (go 7) ?_
  refine zc (r_low8i (a:=(97 + k)) rfl qO (by rw [underlying3]; rfl) underlying5) (yA byteE ([(UInt8.ofNat (97 + k))]:List UInt8) wn underlying79 inf5 rfl rfl rfl rfl qD qD rfl fun b48=>zc (r_bytesStr rfl underlying79 underlying5 underlying9 (fun _ hM=>RowSl (l:=([(UInt8.ofNat (97 + k))]:List UInt8)) encByte hM 0 rfl)) ?_)
  refine (go 3) ?_
  refine yY (β:=zu) (fun z=>.agg (y8 z).toArray) (fun z=>z.e=Bs.addD (⟨([(UInt8.ofNat (97 + k))]:List UInt8).toArray⟩:ByteArray) (time - 1) s1) (fun z S=>zu.Ok S z) (fun z=>zu.Ok.loc z) wn rfl call27 rfl (fun w1 Pb hM pp=>c_tadd (⟨([(UInt8.ofNat (97 + k))]:List UInt8).toArray⟩:ByteArray) (time - 1) s1 Pb w1 pp.lt) fun z1 hz1=>yq 0 rfl (fun S w h=>zu.Ok.wf h) fun hw1=>yA y8 ([z1]:List zu) wn underlying22 inf43 rfl rfl rfl rfl qD qD rfl fun b54=>yG 4 gs ([z1]:List zu) encDoX wn rfl rfl rfl (fun _ hM=>(RowSl encDoX hM 0 rfl)) underlying22 inf43 rfl rfl (by simp only [qL]; omega) rfl fun A2 cp2 hc2 hm2 hA2=>zd (fun _ h=>h.allSnoc 3 1 zu.Ok.loc rfl rfl) ?_
  have hw2:∀ x ∈ (gs++([z1]:List zu)),zu.Wf x:=fun x hx=>(List.mem_append.1 hx).elim (hwg x) fun h=>by rw [List.mem_singleton.1 h]; exact hw1
  refine (go 16) (yU 61 (fun h8=>?_) fun h8=>?_)
  ·refine (go 16) ?_
   refine zV (yc (k + 1) (gs++([z1]:List zu)) (sm + s1) s1 (.slice A2 ((gs++([z1]:List zu)).length) cp2) (sc rfl (sc rfl (sc rfl (sc rfl (sc rfl (sc rfl (sc rfl (sc (ji qO) sn)))))))) (S9 [0,5,6,7,8]) ?_ ?_)
   ·exact ⟨by omega,hw2,Bs.tot_next hs1 hI1.2.2.1 hz1,by rw [List.length_append,List.length_singleton]; omega,by rw [hI1.2.2.2.2.1]; exact Bs.sum_next hs1,(by first | exact Bs.max_y hs1 (.inl qO) | exact Bs.max_y hs1 (.inr (by rw [← hI1.2.2.2.2.2.1]; assumption))),Bs.all_next hs1 hI1.2.2.2.2.2.2 qO⟩
   omega
  refine (go 6) (zZ (fun h9=>?_) fun h9=>?_)
  ·refine (go 9) ?_
   refine zV (yc (k + 1) (gs++([z1]:List zu)) (sm + s1) s1 (.slice A2 ((gs++([z1]:List zu)).length) cp2) (sc rfl (sc rfl (sc rfl (sc rfl (sc rfl (sc rfl (sc rfl (sc (ji qO) sn)))))))) (S9 [0,5,6,7,8]) ?_ ?_)
   ·exact ⟨by omega,hw2,Bs.tot_next hs1 hI1.2.2.1 hz1,by rw [List.length_append,List.length_singleton]; omega,by rw [hI1.2.2.2.2.1]; exact Bs.sum_next hs1,(by first | exact Bs.max_y hs1 (.inl qO) | exact Bs.max_y hs1 (.inr (by rw [← hI1.2.2.2.2.2.1]; assumption))),Bs.all_next hs1 hI1.2.2.2.2.2.2 qO⟩
   omega
  refine (go 6) ?_
  refine zV (yc (k + 1) (gs++([z1]:List zu)) (sm + s1) mo (.slice A2 ((gs++([z1]:List zu)).length) cp2) (sc rfl (sc rfl (sc rfl (sc rfl (sc rfl (sc rfl (sc rfl (sc (ji qO) sn)))))))) (S9 [0,5,6,7,8]) ?_ ?_)
  ·exact ⟨by omega,hw2,Bs.tot_next hs1 hI1.2.2.1 hz1,by rw [List.length_append,List.length_singleton]; omega,by rw [hI1.2.2.2.2.1]; exact Bs.sum_next hs1,(by rw [hI1.2.2.2.2.2.1]; exact Bs.max_n hs1 qO (by rw [← hI1.2.2.2.2.2.1]; assumption)),Bs.all_next hs1 hI1.2.2.2.2.2.2 qO⟩
  omega
 refine (go 7) ?_
 refine ub y8 wn underlying22 inf43 rfl fun b68=>?_
 refine (go 1) ?_
 refine yG 0 ([]:List zu) gs encDoX wn rfl rfl rfl (fun _ hM=>(RowSl encDoX hM 2 rfl)) underlying22 inf43 rfl rfl (by simp only [qL]; omega) rfl fun A3 cp3 hc3 hm3 hA3=>zd (fun _ h=>h.all0 zu.Ok.loc) (zd (fun _ h=>h.allApp 0 2 zu.Ok.loc rfl rfl) ?_)
 have hw4:∀ x ∈ gs,zu.Wf x:=hwg
 have hw3:∀ x ∈ (([]:List zu)++gs),zu.Wf x:=fun x hx=>(List.mem_append.1 hx).elim ((fun x hx=>by cases hx) x) (hw4 x)
 refine (go 1) ?_
 refine yJ call32 wn rfl (fun w1 hM=>jH time (In w1) w1 (fun _ h=>h) (hM.yQ (i:=7) rfl)) (zc (yp rfl rfl (by (have h9:=Bs.numT_size time; simp [Bs.app_size,Bs.lit_size]; omega))) (zc (yp rfl rfl (by (have h9:=Bs.numT_size time; simp [Bs.app_size,Bs.lit_size]; omega))) ?_))
 refine (go 1) ?_
 refine yY (β:=zu) (fun z=>.agg (y8 z).toArray) (fun z=>z.e=Bs.askD ((⟨#[97,108,108,32,115,117,109,32,40,108,97,115,116,40,123,104,111,115,116,125,91]⟩++(Bs.numT time))++⟨#[93,41,41]⟩) time) (fun z S=>zu.Ok S z) (fun z=>zu.Ok.loc z) wn rfl call31 rfl (fun w1 Pb hM pp=>jK _ time Pb w1 pp.lt) fun z2 hz2=>yq 0 rfl (fun S w h=>zu.Ok.wf h) fun hw5=>yA y8 ([z2]:List zu) wn underlying22 inf43 rfl rfl rfl rfl qD qD rfl fun b77=>yG 4 (([]:List zu)++gs) ([z2]:List zu) encDoX wn rfl rfl rfl (fun _ hM=>(RowSl encDoX hM 0 rfl)) underlying22 inf43 rfl rfl (by simp only [qL]; omega) rfl fun A4 cp4 hc4 hm4 hA4=>zd (fun _ h=>h.allSnoc 2 1 zu.Ok.loc rfl rfl) ?_
 have hw6:∀ x ∈ ((([]:List zu)++gs)++([z2]:List zu)),zu.Wf x:=fun x hx=>(List.mem_append.1 hx).elim (hw3 x) fun h=>by rw [List.mem_singleton.1 h]; exact hw5
 refine ux 5 encDoX rfl rfl (yY (β:=zl) (fun z=>.agg (vE z).toArray) (fun z=>z.e=Bs.last (((([]:List zu)++gs)++([z2]:List zu)).map zu.e)) (fun z S=>zl.Ok S z) (fun z=>zl.Ok.loc z) wn rfl call26 rfl (fun w1 Pb hM pp=>jL _ ((([]:List zu)++gs)++([z2]:List zu)) Pb w1 pp.lt (pp.sl 5 rfl) (pp.at_ 0 _ rfl) (pp.at_ 9 _ rfl)) fun z3 hz3=>yq 0 rfl (fun S w h=>zl.Ok.wf h) fun hw7=>?_)
 have ht9:l.take k=l:=List.take_of_length_le qO
 obtain ⟨hq0,-,hq1,hq2,hq3,hq4,hq5⟩:=hI1
 rw [ht9] at hq1 hq3 hq4 hq5
 have hx91:z3.e=Bs.last (Bs.totL time 0 l++[Bs.askD (Bs.xT time) time]):=hz3.trans (congrArg Bs.last (by simp only [List.map_append,List.map_cons,List.map_nil,List.nil_append,List.append_assoc,hq1,hz2]; rfl))
 obtain ⟨he91,hc91⟩:=Bs.x_is (t:=time) (l:=l) qO qO qO hq5
 obtain ⟨hn91,hc91⟩:=Bs.cell_x hx91 hc91
 rw [← hx91] at he91
 have he91:z3.err=0:=he91
 refine yC fun b10=>?_
 refine (go 5) ?_
 refine ub y8 wn underlying22 inf43 rfl fun b80=>?_
 refine (go 1) ?_
 refine yG 0 ([]:List zu) gs encDoX wn rfl rfl rfl (fun _ hM=>(RowSl encDoX hM 10 rfl)) underlying22 inf43 rfl rfl (by simp only [qL]; omega) rfl fun A5 cp5 hc5 hm5 hA5=>zd (fun _ h=>h.allApp 7 9 zu.Ok.loc rfl rfl) ?_
 have hw9:∀ x ∈ gs,zu.Wf x:=hwg
 have hw8:∀ x ∈ (([]:List zu)++gs),zu.Wf x:=fun x hx=>(List.mem_append.1 hx).elim ((fun x hx=>by cases hx) x) (hw9 x)
 refine (go 1) ?_
 refine yJ call32 wn rfl (fun w1 hM=>jH time (In w1) w1 (fun _ h=>h) (hM.yQ (i:=14) rfl)) (zc (yp rfl rfl (by (have h9:=Bs.numT_size time; simp [Bs.app_size,Bs.lit_size]; omega))) (zc (yp rfl rfl (by (have h9:=Bs.numT_size time; simp [Bs.app_size,Bs.lit_size]; omega))) ?_))
 refine (go 1) ?_
 refine yY (β:=zu) (fun z=>.agg (y8 z).toArray) (fun z=>z.e=Bs.askD ((⟨#[97,108,108,32,109,97,120,32,40,108,97,115,116,40,123,104,111,115,116,125,91]⟩++(Bs.numT time))++⟨#[93,41,41,32,42,32,49]⟩) time) (fun z S=>zu.Ok S z) (fun z=>zu.Ok.loc z) wn rfl call31 rfl (fun w1 Pb hM pp=>jK _ time Pb w1 pp.lt) fun z4 hz4=>yq 0 rfl (fun S w h=>zu.Ok.wf h) fun hw10=>yA y8 ([z4]:List zu) wn underlying22 inf43 rfl rfl rfl rfl qD qD rfl fun b89=>yG 3 (([]:List zu)++gs) ([z4]:List zu) encDoX wn rfl rfl rfl (fun _ hM=>(RowSl encDoX hM 0 rfl)) underlying22 inf43 rfl rfl (by simp only [qL]; omega) rfl fun A6 cp6 hc6 hm6 hA6=>zd (fun _ h=>h.allSnoc 2 1 zu.Ok.loc rfl rfl) ?_
 have hw11:∀ x ∈ ((([]:List zu)++gs)++([z4]:List zu)),zu.Wf x:=fun x hx=>(List.mem_append.1 hx).elim (hw8 x) fun h=>by rw [List.mem_singleton.1 h]; exact hw10
 refine ux 4 encDoX rfl rfl (yY (β:=zl) (fun z=>.agg (vE z).toArray) (fun z=>z.e=Bs.last (((([]:List zu)++gs)++([z4]:List zu)).map zu.e)) (fun z S=>zl.Ok S z) (fun z=>zl.Ok.loc z) wn rfl call26 rfl (fun w1 Pb hM pp=>jL _ ((([]:List zu)++gs)++([z4]:List zu)) Pb w1 pp.lt (pp.sl 4 rfl) (pp.at_ 0 _ rfl) (pp.at_ 16 _ rfl)) fun z5 hz5=>yq 0 rfl (fun S w h=>zl.Ok.wf h) fun hw12=>?_)
 have hx92:z5.e=Bs.last (Bs.totL time 0 l++[Bs.askD (Bs.yT time) time]):=hz5.trans (congrArg Bs.last (by simp only [List.map_append,List.map_cons,List.map_nil,List.nil_append,List.append_assoc,hq1,hz4]; rfl))
 obtain ⟨he92,hc92⟩:=Bs.y_is (t:=time) (l:=l) qO qO qO hq5
 obtain ⟨hn92,hc92⟩:=Bs.cell_x hx92 hc92
 rw [← hx92] at he92
 have he92:z5.err=0:=he92
 refine yC fun b11=>?_
 refine (go 5) ?_
 refine ub y8 wn underlying22 inf43 rfl fun b92=>?_
 refine (go 1) ?_
 refine yG 0 ([]:List zu) gs encDoX wn rfl rfl rfl (fun _ hM=>(RowSl encDoX hM 17 rfl)) underlying22 inf43 rfl rfl (by simp only [qL]; omega) rfl fun A7 cp7 hc7 hm7 hA7=>zd (fun _ h=>h.allApp 14 16 zu.Ok.loc rfl rfl) ?_
 have hw14:∀ x ∈ gs,zu.Wf x:=hwg
 have hw13:∀ x ∈ (([]:List zu)++gs),zu.Wf x:=fun x hx=>(List.mem_append.1 hx).elim ((fun x hx=>by cases hx) x) (hw14 x)
 refine (go 1) ?_
 refine yJ call32 wn rfl (fun w1 hM=>jH time (In w1) w1 (fun _ h=>h) (hM.yQ (i:=21) rfl)) (zc (yp rfl rfl (by (have h9:=Bs.numT_size time; simp [Bs.app_size,Bs.lit_size]; omega))) (zc (yp rfl rfl (by (have h9:=Bs.numT_size time; simp [Bs.app_size,Bs.lit_size]; omega))) ?_))
 refine (go 1) ?_
 refine yY (β:=zu) (fun z=>.agg (y8 z).toArray) (fun z=>z.e=Bs.askD ((⟨#[97,108,108,32,99,111,117,110,116,32,98,121,32,104,111,115,116,32,40,115,117,109,40,123,104,111,115,116,33,61,97,125,91]⟩++(Bs.numT time))++⟨#[93,41,41]⟩) time) (fun z S=>zu.Ok S z) (fun z=>zu.Ok.loc z) wn rfl call31 rfl (fun w1 Pb hM pp=>jK _ time Pb w1 pp.lt) fun z6 hz6=>yq 0 rfl (fun S w h=>zu.Ok.wf h) fun hw15=>yA y8 ([z6]:List zu) wn underlying22 inf43 rfl rfl rfl rfl qD qD rfl fun b101=>yG 3 (([]:List zu)++gs) ([z6]:List zu) encDoX wn rfl rfl rfl (fun _ hM=>(RowSl encDoX hM 0 rfl)) underlying22 inf43 rfl rfl (by simp only [qL]; omega) rfl fun A8 cp8 hc8 hm8 hA8=>zd (fun _ h=>h.allSnoc 2 1 zu.Ok.loc rfl rfl) ?_
 have hw16:∀ x ∈ ((([]:List zu)++gs)++([z6]:List zu)),zu.Wf x:=fun x hx=>(List.mem_append.1 hx).elim (hw13 x) fun h=>by rw [List.mem_singleton.1 h]; exact hw15
 refine ux 4 encDoX rfl rfl (yY (β:=zl) (fun z=>.agg (vE z).toArray) (fun z=>z.e=Bs.last (((([]:List zu)++gs)++([z6]:List zu)).map zu.e)) (fun z S=>zl.Ok S z) (fun z=>zl.Ok.loc z) wn rfl call26 rfl (fun w1 Pb hM pp=>jL _ ((([]:List zu)++gs)++([z6]:List zu)) Pb w1 pp.lt (pp.sl 4 rfl) (pp.at_ 0 _ rfl) (pp.at_ 23 _ rfl)) fun z7 hz7=>yq 0 rfl (fun S w h=>zl.Ok.wf h) fun hw17=>?_)
 have hx93:z7.e=Bs.last (Bs.totL time 0 l++[Bs.askD (Bs.zT time) time]):=hz7.trans (congrArg Bs.last (by simp only [List.map_append,List.map_cons,List.map_nil,List.nil_append,List.append_assoc,hq1,hz6]; rfl))
 obtain ⟨he93,hc93⟩:=Bs.z_is (t:=time) (l:=l) qO qO qO hq5
 have hn93:=Bs.cell_n hx93 hc93
 rw [← hx93] at he93
 have he93:z7.err=0:=he93
 refine yC fun b12=>?_
 refine (go 9) ?_
 refine uN (t:=107) rfl he91 ?_
 refine (go 5) ?_
 refine uN (t:=112) rfl he92 ?_
 refine (go 5) ?_
 refine uN (t:=117) rfl he93 ?_
 refine (go 2) ?_
 refine zd (fun _ h=>h.ansX 15 rfl) ?_
 obtain ⟨hc9,hm9,hA9⟩:=hw7.cells
 obtain ⟨ad2,s2,hd2,hs2⟩:=elx hA9 0
 refine (go 7) ?_
 refine uN (t:=126) rfl ((hc91 _ hs2).trans hq3.symm) ?_
 refine (go 2) ?_
 refine zd (fun _ h=>h.ansX 10 rfl) ?_
 obtain ⟨hc10,hm10,hA10⟩:=hw12.cells
 obtain ⟨ad3,s3,hd3,hs3⟩:=elx hA10 0
 refine (go 7) ?_
 refine uN (t:=135) rfl ((hc92 _ hs3).trans hq4.symm) ?_
 refine (go 12) (za results12 fun w1 hM=>?_)
 exact zQ (by first | rfl | exact congrArg Value.bool (decide_eq_true qO)) hM
end
section
open Go.ChangeShapes Go.WideShapes Go.ChangeAt Go.RowKit
namespace Ex
theorem Tryz.own_:ownKnob Tryz.prog.godebug=none:=by kernel_rfl
theorem Tryz.laid_:laidOutB Tryz.prog=true:=by kernel_rfl
section
variable {H:Type} {enc:TypeId × Value→H} {P:Program}
theorem trodAll_stays (hl:laidOutB P=true) {W W':World} {sp':Nat→Bool} (hsame:Fr no W W'):∀ {ts:List TypeId} {vs:List Value} {ds:List (DataW H)} {ps:List MemPlace},(∀ t ∈ ts,P.readableRec t=true∧t < P.types.size) →
    DataW.TrodAll enc P W 0 (fun _=>true) true ts vs ds ps→(∀ p ∈ ps,p.block < W.heap.size)→(∀ p ∈ ps,sp' p.block=true)→DataW.TrodAll enc P W' 0 sp' true ts vs ds ps
  | [],[],[],_,_,h,_,_=>h
  | t :: ts, v :: vs, d :: ds, _, hr, ⟨p, q, h1, h2, e⟩, hlt, hs =>
    ⟨p,q,WideElems.Trod_stays hl (hr t (List.mem_cons_self ..)).1 (hr t (List.mem_cons_self ..)).2 h1 (fun x hx=>(Fr.below hsame).same (hlt x (by rw [e]; exact List.mem_append_left _ hx))) (fun x hx=>hs x (by rw [e]; exact List.mem_append_left _ hx)),
      trodAll_stays hl hsame (fun t ht=>hr t (List.mem_cons_of_mem _ ht)) h2 (fun x hx=>hlt x (by rw [e]; exact List.mem_append_right _ hx)) (fun x hx=>hs x (by rw [e]; exact List.mem_append_right _ hx)),e⟩
theorem post_true {f:Func} {s:ChangeSpec} {W W':World} {args:Array Value} {ds gs:List (DataW H)} {before:List MemPlace} {bt:TypeId} (hl:laidOutB P=true) (hr:∀ t ∈ f.params.toList,P.readableRec t=true∧t < P.types.size)
    (hres:f.resultTypes=#[bt]) (hb:P.underlying bt=some .bool) (hvars:s.vars=[]) (hW:DataW.Whole enc P f.params.toList s.vars false W args.toList ds gs before)
    (hs:∀ ds:List (DataW H),ds.length=f.params.size→(s.fn H ds).results=[.lit (.bool true)]∧(s.fn H ds).args=ds∧(s.fn H ds).vars=[]) (hf:Fr no W W') :
    s.post enc P f false true false false W args (.bool true) W':=by
  have hlt:=hW.lt
  have hW0:=hW
  obtain ⟨p,q,hA,hV,rfl,hfz,hnd⟩:=hW
  rw [hvars] at hV
  obtain ⟨rfl,rfl⟩:=trodVars_none hV
  have hlen:∀ {ts:List TypeId} {vs:List Value} {ds:List (DataW H)} {ps:List MemPlace},DataW.TrodAll enc P W 0 (fun _=>true) true ts vs ds ps→ds.length=ts.length:=by
    intro ts
    induction ts with
    | nil=>intro vs ds ps h; cases vs <;> cases ds <;> simp_all [DataW.TrodAll]
    | cons t ts ih =>
      intro vs ds ps h
      cases vs <;> cases ds <;> try (simp [DataW.TrodAll] at h; done)
      obtain ⟨_,_,_,h2,_⟩:=h
      simp [ih h2]
  obtain ⟨e1,e2,e3⟩:=hs ds (by rw [hlen hA]; simp)
  refine ⟨ds,[],_,[],p,[],hW0,?_,?_,?_,?_,fun h=>by cases h⟩
  · rw [List.append_nil,e1,hres]
    exact trodAll_mk1 (shut_bool hb true)
  · rw [List.append_nil,e2]
    exact trodAll_stays hl hf hr hA (fun x hx=>hlt x (by simpa using hx)) (fun x hx=>by simpa using hlt x (by simpa using hx))
  · rw [List.append_nil,e3,hvars]
    exact rfl
  · exact (Fr.below hf).frame _
end
def ok64 (n:Int):Prop:=-9223372036854775808≤n∧n≤9223372036854775807
theorem ok64_wf {n:Int} (h:(Lit.int .i64 n).wf=true):ok64 n:=by
  simpa [Lit.wf,IntKind.min,IntKind.max,IntKind.signed,IntKind.bits,ok64] using h
def RdF (P:Program) (t:TypeId) {α:Type} (e:α→List Value) (ok:α→Prop):Prop :=
  ∀ {H:Type} (enc:TypeId × Value→H) (w:World) (base:Nat) (sp:Nat→Bool) (held:Bool) (fuel:Nat) (cs:List Value) (x:DataW H × List MemPlace),
    DataW.trod enc P w base sp held fuel t cs=some x→∃ a,cs=e a∧ok a
theorem rd_int {P:Program} {t:TypeId} (h:P.underlying t=some (.int .i64)):RdF P t intE ok64:=fun _ _ _ _ _ _ _ _ hx=>by
  obtain ⟨n,e,_,hw⟩:=DataW.trod_int h hx
  exact ⟨n,e,ok64_wf hw⟩
theorem rd_slice {H:Type} {enc:TypeId × Value→H} {P:Program} {t et:TypeId} {α:Type} {e:α→List Value} {ok:α→Prop} {k:Nat} (hr:RdF P et e ok) (ht:P.underlying t=some (.slice et)) (hk:P.cellsOf et=k) (hk0:0 < k) (he:∀ a,(e a).length=k) {W:World} {sp:Nat→Bool} {held:Bool} {v:Value} {d:DataW H} {p:List MemPlace}
    (hv:∃ A n c,v=.slice A n c) (h:DataW.Trod enc P W 0 sp held t v d p):∃ l:List α,zD (In W) k e v l W∧(∀ a ∈ l,ok a)∧((d=.nil∧l=[])∨∃ es sp,d=.slice es sp∧es.length=l.length):=by
  obtain ⟨fuel,hf⟩:=h
  obtain ⟨A,n,c,rfl⟩:=hv
  have hf':DataW.trod enc P W 0 sp held fuel t [.slice A n c]=some (d,p):=hf
  rcases Go.Deep.open_slice ht hf' with ⟨h0,hd0⟩ | ⟨a,len,cap,m,q,Dd,Pl,hcs,_,hl,hm,hmm,hdp,hi⟩
  · simp only [List.cons.injEq,Value.slice.injEq,and_true] at h0
    obtain ⟨rfl,rfl,rfl⟩:=h0
    simp only [Prod.mk.injEq] at hd0
    exact ⟨[],zD.zy _ _ _ _,by simp,.inl ⟨hd0.1,rfl⟩⟩
  · simp only [List.cons.injEq,Value.slice.injEq,and_true] at hcs
    obtain ⟨rfl,rfl,rfl⟩:=hcs
    have hlm:n≤m:=by rw [hmm]; split <;> omega
    have hex:∀ i,i < n→∃ x:α,ok x∧∀ (j:Nat) (u:Value),(e x)[j]?=some u→W.cell? ((a.add (i * k)).add j)=some u:=by
      intro i hin
      obtain ⟨cs',hc,ht'⟩:=hi i qO
      rw [hk] at hc
      obtain ⟨x,ex,ox⟩:=hr _ _ _ _ _ _ _ _ ht'
      obtain ⟨_,hcl,hat⟩:=World.cells?_some hc
      refine ⟨x,ox,fun j u hu=>?_⟩
      rw [ex] at hat
      have hj:j < k:=by rw [← he x]; exact (List.getElem?_eq_some_iff.1 hu).1
      exact (hat j hj).trans hu
    obtain ⟨l,hlen,hl'⟩:∃ l:List α,l.length=n∧∀ i x,l[i]?=some x→ok x∧∀ (j:Nat) (u:Value),(e x)[j]?=some u→W.cell? ((a.add (i * k)).add j)=some u:=by
      clear hi hf hf' hmm hm hl hlm hdp
      induction n with
      | zero=>exact ⟨[],rfl,by simp⟩
      | succ n ih =>
        obtain ⟨l,h1,h2⟩:=ih (fun i hin=>hex i qO)
        obtain ⟨x,hx⟩:=hex n qO
        refine ⟨l++[x],by simp [h1],fun i y hy=>?_⟩
        rw [List.getElem?_append] at hy
        split at hy
        · exact h2 i y hy
        · rename_i hge
          have hin:i=n:=by
            have:i - l.length < [x].length:=(List.getElem?_eq_some_iff.1 hy).1
            simp at this; omega
          subst hin
          simp [h1] at hy
          subst hy
          exact hx
    subst hlen
    simp only [Prod.mk.injEq] at hdp
    refine ⟨l,⟨some a,c,rfl,hl,hm,fun hne=>⟨a,rfl,?_,fun i x hx=>(hl' i x hx).2⟩⟩,fun y hy=>?_,.inr ⟨_,_,hdp.1,by simp⟩⟩
    · obtain ⟨y,hy⟩:=List.exists_mem_of_ne_nil l hne
      obtain ⟨i,hi',rfl⟩:=List.getElem_of_mem hy
      have h1:=(hl' i l[i] (List.getElem?_eq_getElem hi')).2 0 ((e l[i])[0]'(by rw [he]; exact hk0)) (List.getElem?_eq_getElem _)
      have:=block_lt_of_cell h1
      rwa [add_block,add_block] at this
    · obtain ⟨i,hi',rfl⟩:=List.getElem_of_mem hy
      exact (hl' i _ (List.getElem?_eq_getElem hi')).1
end Ex
end
section
open Go.ChangeShapes Go.WideShapes Go.ChangeAt Go.RowKit
namespace Ex
def LenX {H:Type} (d:DataW H) (n:Nat):Prop:=(d=.nil∧n=0)∨∃ es sp,d=.slice es sp∧es.length=n
def AllX {H:Type} {α:Type} (ok:α→DataW H→Prop) (d:DataW H) (l:List α):Prop:=∃ ds:List (DataW H),((d=.nil∧ds=[])∨∃ sp,d=.slice ds sp)∧ds.length=l.length∧∀ (i:Nat) (a:α) (e:DataW H),l[i]?=some a→ds[i]?=some e→ok a e
theorem AllX.len {H:Type} {α:Type} {ok:α→DataW H→Prop} {d:DataW H} {l:List α} (h:AllX ok d l):LenX d l.length:=by
  obtain ⟨ds,h1,h2,_⟩:=h
  rcases h1 with ⟨h1,rfl⟩ | ⟨sp,h1⟩
  · exact .inl ⟨h1,h2.symm⟩
  · exact .inr ⟨_,_,h1,h2⟩
theorem AllX.all {H:Type} {α:Type} {ok:α→DataW H→Prop} {d:DataW H} {l:List α} (h:AllX ok d l):∀ a ∈ l,∃ e,ok a e∧∃ ds sp,d=.slice ds sp∧e ∈ ds:=fun a ha=>by
  obtain ⟨ds,h1,h2,h3⟩:=h
  obtain ⟨i,hi⟩:=List.mem_iff_getElem?.1 ha
  have hlt:=(List.getElem?_eq_some_iff.1 hi).1
  have hd:ds[i]?=some (ds[i]'qO):=List.getElem?_eq_getElem _
  refine ⟨_,h3 i a _ hi hd,ds,?_⟩
  rcases h1 with ⟨_,rfl⟩ | ⟨sp,h1⟩
  · exfalso; have h2:0=l.length:=h2; omega
  · exact ⟨sp,h1,List.mem_of_getElem? hd⟩
def RdX (P:Program) (t:TypeId) {α:Type} (e:α→List Value) (ok:α→World→Prop):Prop :=
  ∀ {H:Type} (enc:TypeId × Value→H) (W:World) (sp:Nat→Bool) (held:Bool) (fuel:Nat) (cs:List Value) (x:DataW H × List MemPlace),DataW.trod enc P W 0 sp held fuel t cs=some x→∃ a,cs=e a∧ok a W
theorem RdF.x {P:Program} {t:TypeId} {α:Type} {e:α→List Value} {ok:α→Prop} (h:RdF P t e ok):RdX P t e (fun a _=>ok a):=fun enc W sp held fuel cs x hx=>h enc W 0 sp held fuel cs x hx
end Ex
end
end Go.Proofs.YtgojhpocpajmlaaGreatDoor
