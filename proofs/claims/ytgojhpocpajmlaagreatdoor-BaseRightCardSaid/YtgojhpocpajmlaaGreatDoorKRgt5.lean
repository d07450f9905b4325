/- Laws and walks for the proof of BaseRight, packed by program; each theorem bears its own conditions. -/
import Derived.Defers
import Derived.Recover
import Derived.Test.YtgojhpocpajmlaaGreatDoorRows
import Derived.Carry
import Derived.Deep.Slices
import Derived.Test.YtgojhpocpajmlaaGreatDoorKRgt4
namespace Go.Proofs.YtgojhpocpajmlaaGreatDoor
section
open _root_.Go.Proofs.Tryz
open Ex
attribute [local irreducible] WC WL WQ WE WS
set_option linter.unusedVariables false
set_option linter.unusedSimpArgs false
set_option maxHeartbeats 1000000 in
theorem c_window (p:Nat) (s:ByteArray) (i:Nat) (n:Int) (word:ByteArray) (Pb:Nat→Prop) (w:World) (hG:Mem w ⟨fpOf [Rb 114 p s i n,.pub zO],Pb⟩ [Rb 114 p s i n,.pub zO] w) (hi:i≤s.size) (hs:s.size≤2000) (hn:0≤n∧n≤100) (hwd:word.size≤12) :
    Calls prog 183 #[.pointer (some ⟨p,0,none⟩),.string word] w (RetX w [Rb 114 p s i n,.pub zO] Pb 111 (fun z:zB × Pz.St=>.agg (zy z.1).toArray) (fun z=>Pz.window s word ⟨i,n⟩=.ok (z.1.e,z.2)∧Pz.Good s ⟨i,n⟩ z.2) (fun z=>[Rb 114 p s z.2.at_ z.2.nd,.pub zO,okP zB.Ok z.1]) (fun f=>Pz.window s word ⟨i,n⟩=.no f)):=by
 refine zw (N:=46) func183 hG ?_
 refine (go 2) (yA fun b4=>?_)
 refine (go 5) ?_
 refine za (α:=Pz.St) (PT:=111) [Rb 114 p s i n,.pub zO] [.blk b4 Zx 59] (fun z:Pz.St=>.tuple #[]) (fun z1=>Pz.must s ⟨#[40]⟩ ⟨i,n⟩=.ok z1∧Pz.Good s ⟨i,n⟩ z1) (fun z1=>[Rb 114 p s z1.at_ z1.nd,.pub zO]) _ (fun f1=>Pz.must s ⟨#[40]⟩ ⟨i,n⟩=.no f1) (fun _=>rfl) (S9 [1,2,0]) (fun _=>rfl) wn rfl rfl call179 rfl (fun w1 Pb hG=>y6 p s i n ⟨#[40]⟩ Pb w1 hG qO qO qO ) ?_ fun z1 hz1=>?_
 ·intro f1 hf1
  refine zS (zW fun w1 hM=>?_)
  exact hM.zh f1 (by first | (simp only [Pz.then_ok,Pz.then_no,Pz.St.go,lgc,Pz.window,zB.e,zB.es,hf1]; done) | simp [Pz.then_ok,Pz.then_no,Pz.St.go,lgc,Pz.window,zB.e,zB.es,hf1])
 obtain ⟨j1,m1⟩:=z1
 have he1:Pz.must s ⟨#[40]⟩ ⟨i,n⟩=.ok ⟨j1,m1⟩:=hz1.1
 have ga1:j1≤s.size:=hz1.2.at_
 have gm1:n≤m1:=hz1.2.mono
 have gn1:m1≤100:=hz1.2.most (show n≤100 by omega)
 refine (go 5) ?_
 refine za (α:=Pz.St) (PT:=111) [Rb 114 p s j1 m1,.pub zO] [.blk b4 Zx 59] (fun z:Pz.St=>.tuple #[]) (fun z2=>Pz.must s ⟨#[123]⟩ ⟨j1,m1⟩=.ok z2∧Pz.Good s ⟨j1,m1⟩ z2) (fun z2=>[Rb 114 p s z2.at_ z2.nd,.pub zO]) _ (fun f2=>Pz.must s ⟨#[123]⟩ ⟨j1,m1⟩=.no f2) (fun _=>rfl) (S9 [0,1,2]) (fun _=>rfl) wn rfl rfl call179 rfl (fun w1 Pb hG=>y6 p s j1 m1 ⟨#[123]⟩ Pb w1 hG qO qO qO ) ?_ fun z2 hz2=>?_
 ·intro f2 hf2
  refine zS (zW fun w1 hM=>?_)
  exact hM.zh f2 (by first | (simp only [Pz.then_ok,Pz.then_no,Pz.St.go,lgc,Pz.window,zB.e,zB.es,he1,hf2]; done) | simp [Pz.then_ok,Pz.then_no,Pz.St.go,lgc,Pz.window,zB.e,zB.es,he1,hf2])
 obtain ⟨j2,m2⟩:=z2
 have he2:Pz.must s ⟨#[123]⟩ ⟨j1,m1⟩=.ok ⟨j2,m2⟩:=hz2.1
 have ga2:j2≤s.size:=hz2.2.at_
 have gm2:m1≤m2:=hz2.2.mono
 have gn2:m2≤100:=hz2.2.most (show m1≤100 by omega)
 refine (go 6) (yA fun b5=>?_)
 refine (go 5) ?_
 refine uq (fun _ h=>h.vM Match 179 3 yB) (ug (fun (ms:List Match) (k:Nat) (m:Int) (q:Nat) (rv:Value)=>[(0,.pointer (some ⟨p,0,none⟩)),(4,.pointer (some ⟨b4,0,none⟩)),(5,.pointer (some ⟨b5,0,none⟩))]) (fun (ms:List Match) (k:Nat) (m:Int) (q:Nat) (rv:Value)=>[Row rv 179 3 yB ms,.blk b5 [iV 2,iV 0,iV 0,.string word,rv,Zs,Zs] 59,Rb 114 p s k m,.pub zO,.blk b4 Zx 59]) (fun (ms:List Match) (k:Nat) (m:Int) (q:Nat) (rv:Value)=>Pz.winL s 6 [] ⟨j2,m2⟩=Pz.winL s (q + 1) ms ⟨k,m⟩∧ms.length + q=5∧k≤s.size∧m2≤m∧m≤100) (fun (ms:List Match) (k:Nat) (m:Int) (q:Nat) (rv:Value)=>q) [] j2 m2 5 (Zs) (sc rfl (sc rfl (sc rfl sn))) (fun _ h=>h) ?_ (fun ms k m q rv hI1=>?_))
 ·exact ⟨rfl,rfl,by omega,by omega,by omega⟩
 refine yW 0 (l:=ms) rfl fun A1 cp1 hv1 hc1 hm1 hA1=>?_
 subst hv1
 refine (go 4) ?_
 refine yQ (α:=(Bool × Nat)) [Rb 114 p s k m,.pub zO] [Row (.slice A1 ms.length cp1) 179 3 yB ms,.blk b5 [iV 2,iV 0,iV 0,.string word,.slice A1 ms.length cp1,Zs,Zs] 59,.blk b4 Zx 59] (fun z:Bool × Nat=>.bool z.1) (fun z3=>(Pz.eat s ⟨#[125]⟩ k=z3∧k≤z3.2∧z3.2≤s.size)) (fun z3=>[Rb 114 p s z3.2 m,.pub zO]) _ (fun _=>rfl) (S9 [2,3,0,1,4]) (fun _=>rfl) wn rfl rfl call98 rfl (fun w1 Pb hG=>vw p s k m ⟨#[125]⟩ Pb w1 hG qO qO) fun z3 hz3=>?_
 obtain ⟨bo1,j3⟩:=z3
 have he3:Pz.eat s ⟨#[125]⟩ k=(bo1,j3):=hz3.1
 have hz3a:k≤j3:=hz3.2.1
 have hz3b:j3≤s.size:=hz3.2.2
 refine vD (.bool bo1) (zb (yE rfl) ?_)
 refine (go 2) (yc (fun h1=>?_) fun h1=>?_)
 ·have g1:bo1=false:=by simpa using h1
  have hx1:=Pz.win_more hI1.1 (by rw [he3,g1])
  refine (go 12) (zY (fun h2=>?_) fun h2=>?_)
  ·refine (go 2) ?_
   refine za (α:=Pz.St) (PT:=111) [Rb 114 p s j3 m,.pub zO] [Row (.slice A1 ms.length cp1) 179 3 yB ms,.blk b5 [iV 2,iV 0,iV 0,.string word,.slice A1 ms.length cp1,Zs,Zs] 59,.blk b4 Zx 59] (fun z:Pz.St=>.tuple #[]) (fun z4=>Pz.must s ⟨#[44]⟩ ⟨j3,m⟩=.ok z4∧Pz.Good s ⟨j3,m⟩ z4) (fun z4=>[Rb 114 p s z4.at_ z4.nd,.pub zO]) _ (fun f3=>Pz.must s ⟨#[44]⟩ ⟨j3,m⟩=.no f3) (fun _=>rfl) (S9 [0,1,2,3,4]) (fun _=>rfl) wn rfl rfl call179 rfl (fun w1 Pb hG=>y6 p s j3 m ⟨#[44]⟩ Pb w1 hG qO qO qO ) ?_ fun z4 hz4=>?_
   ·intro f3 hf3
    refine zS (zz (yV (zz (zS (zW fun w1 hM=>?_)))))
    have hY:=hx1.trans (by rw [Pz.win_sep' h2 hf3,Pz.then_no])
    exact hM.zh f3 (by simp only [Pz.then_ok,Pz.then_no,Pz.St.go,lgc,Pz.window,zB.e,zB.es,he1,he2,he3,g1,hY])
   obtain ⟨j4,m3⟩:=z4
   have he4:Pz.must s ⟨#[44]⟩ ⟨j3,m⟩=.ok ⟨j4,m3⟩:=hz4.1
   have ga3:j4≤s.size:=hz4.2.at_
   have gm3:m≤m3:=hz4.2.mono
   have gn3:m3≤100:=hz4.2.most (show m≤100 by omega)
   refine (go 11) (zY (fun h3=>?_) fun h3=>?_)
   ·refine (go 2) ?_
    refine za (α:=Unit) (PT:=111) [Rb 114 p s j4 m3,.pub zO] [Row (.slice A1 ms.length cp1) 179 3 yB ms,.blk b5 [iV 2,iV 0,iV 0,.string word,.slice A1 ms.length cp1,Zs,Zs] 59,.blk b4 Zx 59] (fun _:Unit=>.tuple #[]) (fun z5=>False) (fun z5=>[Rb 114 p s j4 m3,.pub zO]) _ (fun f4=>f4=(5,(j4:Int))) (fun _=>rfl) (S9 [0,1,2,3,4]) (fun _=>rfl) wn rfl rfl call54 rfl (fun w1 Pb hG=>yj p s j4 m3 5 Pb w1 hG) ?_ fun z5 hz5=>?_
    ·intro f4 hf4
     refine zS (zz (yV (zz (zS (zW fun w1 hM=>?_)))))
     have hY:=Pz.win_many hx1 (Pz.win_sep' h2 he4) h3
     exact hM.zh f4 (by simp only [Pz.then_ok,Pz.then_no,Pz.St.go,lgc,Pz.window,zB.e,zB.es,he1,he2,he3,g1,he4,hY,hf4])
    exact hz5.elim
   refine (go 2) ?_
   refine yL (Mem w ⟨fpOf [Rb 114 p s i n,.pub zO],Pb⟩ [.pub zO,.blk b4 Zx 59]) mix (fun _ h=>h.drew) rfl (yF 6 [0,2] [1,4] rfl fun KS hKS=>?_)
   refine (go 2) ?_
   refine zj hKS (yS (f:=5) (i:=1) (j:=3) rfl (by kernel_rfl) ?_ ?_)
   ·refine zd (i:=1) rfl fun KN hKN hPN=>?_
    refine (go 2) ?_
    refine hKN _ _ (S9 [1,4]) (zg 4 3 (zd (i:=3) rfl fun KN hKN hPN=>za (α:=Match × Pz.St) (PT:=111) [Rb 114 p s j4 m3,.pub zO] [Row (.slice A1 ms.length cp1) 179 3 yB ms,.blk b5 [iV 2,iV 0,iV 0,.string word,.slice A1 ms.length cp1,Zs,Zs] 59,.blk b4 Zx 59] (fun z:Match × Pz.St=>.agg (yB z.1).toArray) (fun z6=>Pz.match_ s ⟨j4,m3⟩=.ok z6∧Pz.Good s ⟨j4,m3⟩ z6.2) (fun z6=>[Rb 114 p s z6.2.at_ z6.2.nd,.pub zO]) _ (fun f5=>Pz.match_ s ⟨j4,m3⟩=.no f5) (fun _=>rfl) (S9 [0,1,2,3,4]) (fun _=>rfl) wn rfl rfl call213 rfl (fun w1 Pb hG=>uR p s j4 m3  Pb w1 hG qO qO qO ) ?_ fun z6 hz6=>?_))
    ·intro f5 hf5
     refine yo hPN (zz (yV (zz (zS (zW fun w1 hM=>?_)))))
     have hY:=Pz.win_next hx1 (Pz.win_sep' h2 he4) h3 hf5
     rw [Pz.then_no] at hY
     exact hM.zh f5 (by simp only [Pz.then_ok,Pz.then_no,Pz.St.go,lgc,Pz.window,zB.e,zB.es,he1,he2,he3,g1,he4,hY])
    obtain ⟨mt1,j5,m4⟩:=z6
    have he5:Pz.match_ s ⟨j4,m3⟩=.ok (mt1,⟨j5,m4⟩):=hz6.1
    have ga4:j5≤s.size:=hz6.2.at_
    have gm4:m3≤m4:=hz6.2.mono
    have gn4:m4≤100:=hz6.2.most (show m3≤100 by omega)
    refine (go 1) ?_
    refine hKN _ _ (S9 [1,4]) (zg 3 4 (zd (i:=4) rfl fun KN hKN hPN=>zx yB ([mt1]:List Match) wn underlying55 inf179 rfl rfl rfl rfl qD qD rfl fun b31=>?_))
    refine (go 1) ?_
    refine hKN _ _ (S9 [2,5]) (zg 2 5 (zd (i:=5) rfl fun KN hKN hPN=>yC 3 ms ([mt1]:List Match) encMatch wn rfl rfl rfl (fun _ hM=>(RowSl encMatch hM 0 rfl)) underlying55 inf179 rfl rfl (by simp only [qL]; omega) rfl fun A2 cp2 hc2 hm2 hA2=>?_))
    refine (go 1) ?_
    refine hKN _ _ (S9 [2,5]) (yF 1 [6] [2,5] rfl fun KS hKS=>?_)
    refine (go 1) ?_
    refine zj hKS (zg 0 7 (zd (i:=7) rfl fun KN hKN hPN=>?_))
    refine (go 2) ?_
    refine hKN _ _ (S9 [2,5]) (zq (by kernel_rfl) (yG (ya (ms++([mt1]:List Match)) j5 m4 (q - 1) (.slice A2 ((ms++([mt1]:List Match)).length) cp2) (sc rfl (sc rfl (sc rfl sn))) (S9 [3,4,1,2,5]) ?_ ?_)))
    ·have hY:=Pz.win_next hx1 (Pz.win_sep' h2 he4) h3 he5
     rw [Pz.then_ok] at hY
     exact ⟨hY.trans (by rw [show q - 1 + 1=q by omega]),by simp only [qL]; omega,by omega,by omega,by omega⟩
    omega
   refine zd (i:=3) rfl fun KN hKN hPN=>za (α:=Match × Pz.St) (PT:=111) [Rb 114 p s j4 m3,.pub zO] [Row (.slice A1 ms.length cp1) 179 3 yB ms,.blk b5 [iV 2,iV 0,iV 0,.string word,.slice A1 ms.length cp1,Zs,Zs] 59,.blk b4 Zx 59] (fun z:Match × Pz.St=>.agg (yB z.1).toArray) (fun z7=>Pz.match_ s ⟨j4,m3⟩=.ok z7∧Pz.Good s ⟨j4,m3⟩ z7.2) (fun z7=>[Rb 114 p s z7.2.at_ z7.2.nd,.pub zO]) _ (fun f6=>Pz.match_ s ⟨j4,m3⟩=.no f6) (fun _=>rfl) (S9 [0,1,2,3,4]) (fun _=>rfl) wn rfl rfl call213 rfl (fun w1 Pb hG=>uR p s j4 m3  Pb w1 hG qO qO qO ) ?_ fun z7 hz7=>?_
   ·intro f6 hf6
    refine yo hPN (zz (yV (zz (zS (zW fun w1 hM=>?_)))))
    have hY:=Pz.win_next hx1 (Pz.win_sep' h2 he4) h3 hf6
    rw [Pz.then_no] at hY
    exact hM.zh f6 (by simp only [Pz.then_ok,Pz.then_no,Pz.St.go,lgc,Pz.window,zB.e,zB.es,he1,he2,he3,g1,he4,hY])
   obtain ⟨mt2,j6,m5⟩:=z7
   have he6:Pz.match_ s ⟨j4,m3⟩=.ok (mt2,⟨j6,m5⟩):=hz7.1
   have ga5:j6≤s.size:=hz7.2.at_
   have gm5:m3≤m5:=hz7.2.mono
   have gn5:m5≤100:=hz7.2.most (show m3≤100 by omega)
   refine (go 1) ?_
   refine hKN _ _ (S9 [1,4]) (yS (f:=4) (i:=1) (j:=4) rfl (by kernel_rfl) ?_ ?_)
   ·refine zd (i:=1) rfl fun KN hKN hPN=>?_
    refine (go 2) ?_
    refine hKN _ _ (S9 [1,4]) (zg 3 4 (zd (i:=4) rfl fun KN hKN hPN=>zx yB ([mt2]:List Match) wn underlying55 inf179 rfl rfl rfl rfl qD qD rfl fun b31=>?_))
    refine (go 1) ?_
    refine hKN _ _ (S9 [2,5]) (zg 2 5 (zd (i:=5) rfl fun KN hKN hPN=>yC 3 ms ([mt2]:List Match) encMatch wn rfl rfl rfl (fun _ hM=>(RowSl encMatch hM 0 rfl)) underlying55 inf179 rfl rfl (by simp only [qL]; omega) rfl fun A3 cp3 hc3 hm3 hA3=>?_))
    refine (go 1) ?_
    refine hKN _ _ (S9 [2,5]) (yF 1 [6] [2,5] rfl fun KS hKS=>?_)
    refine (go 1) ?_
    refine zj hKS (zg 0 7 (zd (i:=7) rfl fun KN hKN hPN=>?_))
    refine (go 2) ?_
    refine hKN _ _ (S9 [2,5]) (zq (by kernel_rfl) (yG (ya (ms++([mt2]:List Match)) j6 m5 (q - 1) (.slice A3 ((ms++([mt2]:List Match)).length) cp3) (sc rfl (sc rfl (sc rfl sn))) (S9 [3,4,1,2,5]) ?_ ?_)))
    ·have hY:=Pz.win_next hx1 (Pz.win_sep' h2 he4) h3 he6
     rw [Pz.then_ok] at hY
     exact ⟨hY.trans (by rw [show q - 1 + 1=q by omega]),by simp only [qL]; omega,by omega,by omega,by omega⟩
    omega
   refine zd (i:=4) rfl fun KN hKN hPN=>zx yB ([mt2]:List Match) wn underlying55 inf179 rfl rfl rfl rfl qD qD rfl fun b31=>?_
   refine (go 1) ?_
   refine hKN _ _ (S9 [2,5]) (zg 3 1 (zd (i:=1) rfl fun KN hKN hPN=>?_))
   refine (go 2) ?_
   refine hKN _ _ (S9 [2,5]) (zg 2 5 (zd (i:=5) rfl fun KN hKN hPN=>yC 3 ms ([mt2]:List Match) encMatch wn rfl rfl rfl (fun _ hM=>(RowSl encMatch hM 0 rfl)) underlying55 inf179 rfl rfl (by simp only [qL]; omega) rfl fun A4 cp4 hc4 hm4 hA4=>?_))
   refine (go 1) ?_
   refine hKN _ _ (S9 [2,5]) (yF 1 [6] [2,5] rfl fun KS hKS=>?_)
   refine (go 1) ?_
   refine zj hKS (zg 0 7 (zd (i:=7) rfl fun KN hKN hPN=>?_))
   refine (go 2) ?_
   refine hKN _ _ (S9 [2,5]) (zq (by kernel_rfl) (yG (ya (ms++([mt2]:List Match)) j6 m5 (q - 1) (.slice A4 ((ms++([mt2]:List Match)).length) cp4) (sc rfl (sc rfl (sc rfl sn))) (S9 [3,4,1,2,5]) ?_ ?_)))
   ·have hY:=Pz.win_next hx1 (Pz.win_sep' h2 he4) h3 he6
    rw [Pz.then_ok] at hY
    exact ⟨hY.trans (by rw [show q - 1 + 1=q by omega]),by simp only [qL]; omega,by omega,by omega,by omega⟩
   omega
  refine (go 11) (zY (fun h4=>?_) fun h4=>?_)
  ·refine (go 2) ?_
   refine za (α:=Unit) (PT:=111) [Rb 114 p s j3 m,.pub zO] [Row (.slice A1 ms.length cp1) 179 3 yB ms,.blk b5 [iV 2,iV 0,iV 0,.string word,.slice A1 ms.length cp1,Zs,Zs] 59,.blk b4 Zx 59] (fun _:Unit=>.tuple #[]) (fun z8=>False) (fun z8=>[Rb 114 p s j3 m,.pub zO]) _ (fun f7=>f7=(5,(j3:Int))) (fun _=>rfl) (S9 [0,1,2,3,4]) (fun _=>rfl) wn rfl rfl call54 rfl (fun w1 Pb hG=>yj p s j3 m 5 Pb w1 hG) ?_ fun z8 hz8=>?_
   ·intro f7 hf7
    refine zS (zz (yV (zz (zS (zW fun w1 hM=>?_)))))
    have hY:=Pz.win_many hx1 (Pz.win_sep h2) h4
    exact hM.zh f7 (by simp only [Pz.then_ok,Pz.then_no,Pz.St.go,lgc,Pz.window,zB.e,zB.es,he1,he2,he3,g1,hY,hf7])
   exact hz8.elim
  refine (go 2) ?_
  refine yL (Mem w ⟨fpOf [Rb 114 p s i n,.pub zO],Pb⟩ [.pub zO,.blk b4 Zx 59]) mix (fun _ h=>h.drew) rfl (yF 6 [0,2] [1,4] rfl fun KS hKS=>?_)
  refine (go 2) ?_
  refine zj hKS (yS (f:=5) (i:=1) (j:=3) rfl (by kernel_rfl) ?_ ?_)
  ·refine zd (i:=1) rfl fun KN hKN hPN=>?_
   refine (go 2) ?_
   refine hKN _ _ (S9 [1,4]) (zg 4 3 (zd (i:=3) rfl fun KN hKN hPN=>za (α:=Match × Pz.St) (PT:=111) [Rb 114 p s j3 m,.pub zO] [Row (.slice A1 ms.length cp1) 179 3 yB ms,.blk b5 [iV 2,iV 0,iV 0,.string word,.slice A1 ms.length cp1,Zs,Zs] 59,.blk b4 Zx 59] (fun z:Match × Pz.St=>.agg (yB z.1).toArray) (fun z9=>Pz.match_ s ⟨j3,m⟩=.ok z9∧Pz.Good s ⟨j3,m⟩ z9.2) (fun z9=>[Rb 114 p s z9.2.at_ z9.2.nd,.pub zO]) _ (fun f8=>Pz.match_ s ⟨j3,m⟩=.no f8) (fun _=>rfl) (S9 [0,1,2,3,4]) (fun _=>rfl) wn rfl rfl call213 rfl (fun w1 Pb hG=>uR p s j3 m  Pb w1 hG qO qO qO ) ?_ fun z9 hz9=>?_))
   ·intro f8 hf8
    refine yo hPN (zz (yV (zz (zS (zW fun w1 hM=>?_)))))
    have hY:=Pz.win_next hx1 (Pz.win_sep h2) h4 hf8
    rw [Pz.then_no] at hY
    exact hM.zh f8 (by simp only [Pz.then_ok,Pz.then_no,Pz.St.go,lgc,Pz.window,zB.e,zB.es,he1,he2,he3,g1,hY])
   obtain ⟨mt3,j7,m6⟩:=z9
   have he7:Pz.match_ s ⟨j3,m⟩=.ok (mt3,⟨j7,m6⟩):=hz9.1
   have ga6:j7≤s.size:=hz9.2.at_
   have gm6:m≤m6:=hz9.2.mono
   have gn6:m6≤100:=hz9.2.most (show m≤100 by omega)
   refine (go 1) ?_
   refine hKN _ _ (S9 [1,4]) (zg 3 4 (zd (i:=4) rfl fun KN hKN hPN=>zx yB ([mt3]:List Match) wn underlying55 inf179 rfl rfl rfl rfl qD qD rfl fun b31=>?_))
   refine (go 1) ?_
   refine hKN _ _ (S9 [2,5]) (zg 2 5 (zd (i:=5) rfl fun KN hKN hPN=>yC 3 ms ([mt3]:List Match) encMatch wn rfl rfl rfl (fun _ hM=>(RowSl encMatch hM 0 rfl)) underlying55 inf179 rfl rfl (by simp only [qL]; omega) rfl fun A5 cp5 hc5 hm5 hA5=>?_))
   refine (go 1) ?_
   refine hKN _ _ (S9 [2,5]) (yF 1 [6] [2,5] rfl fun KS hKS=>?_)
   refine (go 1) ?_
   refine zj hKS (zg 0 7 (zd (i:=7) rfl fun KN hKN hPN=>?_))
   refine (go 2) ?_
   refine hKN _ _ (S9 [2,5]) (zq (by kernel_rfl) (yG (ya (ms++([mt3]:List Match)) j7 m6 (q - 1) (.slice A5 ((ms++([mt3]:List Match)).length) cp5) (sc rfl (sc rfl (sc rfl sn))) (S9 [3,4,1,2,5]) ?_ ?_)))
   ·have hY:=Pz.win_next hx1 (Pz.win_sep h2) h4 he7
    rw [Pz.then_ok] at hY
    exact ⟨hY.trans (by rw [show q - 1 + 1=q by omega]),by simp only [qL]; omega,by omega,by omega,by omega⟩
   omega
  refine zd (i:=3) rfl fun KN hKN hPN=>za (α:=Match × Pz.St) (PT:=111) [Rb 114 p s j3 m,.pub zO] [Row (.slice A1 ms.length cp1) 179 3 yB ms,.blk b5 [iV 2,iV 0,iV 0,.string word,.slice A1 ms.length cp1,Zs,Zs] 59,.blk b4 Zx 59] (fun z:Match × Pz.St=>.agg (yB z.1).toArray) (fun z10=>Pz.match_ s ⟨j3,m⟩=.ok z10∧Pz.Good s ⟨j3,m⟩ z10.2) (fun z10=>[Rb 114 p s z10.2.at_ z10.2.nd,.pub zO]) _ (fun f9=>Pz.match_ s ⟨j3,m⟩=.no f9) (fun _=>rfl) (S9 [0,1,2,3,4]) (fun _=>rfl) wn rfl rfl call213 rfl (fun w1 Pb hG=>uR p s j3 m  Pb w1 hG qO qO qO ) ?_ fun z10 hz10=>?_
  ·intro f9 hf9
   refine yo hPN (zz (yV (zz (zS (zW fun w1 hM=>?_)))))
   have hY:=Pz.win_next hx1 (Pz.win_sep h2) h4 hf9
   rw [Pz.then_no] at hY
   exact hM.zh f9 (by simp only [Pz.then_ok,Pz.then_no,Pz.St.go,lgc,Pz.window,zB.e,zB.es,he1,he2,he3,g1,hY])
  obtain ⟨mt4,j8,m7⟩:=z10
  have he8:Pz.match_ s ⟨j3,m⟩=.ok (mt4,⟨j8,m7⟩):=hz10.1
  have ga7:j8≤s.size:=hz10.2.at_
  have gm7:m≤m7:=hz10.2.mono
  have gn7:m7≤100:=hz10.2.most (show m≤100 by omega)
  refine (go 1) ?_
  refine hKN _ _ (S9 [1,4]) (yS (f:=4) (i:=1) (j:=4) rfl (by kernel_rfl) ?_ ?_)
  ·refine zd (i:=1) rfl fun KN hKN hPN=>?_
   refine (go 2) ?_
   refine hKN _ _ (S9 [1,4]) (zg 3 4 (zd (i:=4) rfl fun KN hKN hPN=>zx yB ([mt4]:List Match) wn underlying55 inf179 rfl rfl rfl rfl qD qD rfl fun b31=>?_))
   refine (go 1) ?_
   refine hKN _ _ (S9 [2,5]) (zg 2 5 (zd (i:=5) rfl fun KN hKN hPN=>yC 3 ms ([mt4]:List Match) encMatch wn rfl rfl rfl (fun _ hM=>(RowSl encMatch hM 0 rfl)) underlying55 inf179 rfl rfl (by simp only [qL]; omega) rfl fun A6 cp6 hc6 hm6 hA6=>?_))
   refine (go 1) ?_
   refine hKN _ _ (S9 [2,5]) (yF 1 [6] [2,5] rfl fun KS hKS=>?_)
   refine (go 1) ?_
   refine zj hKS (zg 0 7 (zd (i:=7) rfl fun KN hKN hPN=>?_))
   refine (go 2) ?_
   refine hKN _ _ (S9 [2,5]) (zq (by kernel_rfl) (yG (ya (ms++([mt4]:List Match)) j8 m7 (q - 1) (.slice A6 ((ms++([mt4]:List Match)).length) cp6) (sc rfl (sc rfl (sc rfl sn))) (S9 [3,4,1,2,5]) ?_ ?_)))
   ·have hY:=Pz.win_next hx1 (Pz.win_sep h2) h4 he8
    rw [Pz.then_ok] at hY
    exact ⟨hY.trans (by rw [show q - 1 + 1=q by omega]),by simp only [qL]; omega,by omega,by omega,by omega⟩
   omega
  refine zd (i:=4) rfl fun KN hKN hPN=>zx yB ([mt4]:List Match) wn underlying55 inf179 rfl rfl rfl rfl qD qD rfl fun b31=>?_
  refine (go 1) ?_
  refine hKN _ _ (S9 [2,5]) (zg 3 1 (zd (i:=1) rfl fun KN hKN hPN=>?_))
  refine (go 2) ?_
  refine hKN _ _ (S9 [2,5]) (zg 2 5 (zd (i:=5) rfl fun KN hKN hPN=>yC 3 ms ([mt4]:List Match) encMatch wn rfl rfl rfl (fun _ hM=>(RowSl encMatch hM 0 rfl)) underlying55 inf179 rfl rfl (by simp only [qL]; omega) rfl fun A7 cp7 hc7 hm7 hA7=>?_))
  refine (go 1) ?_
  refine hKN _ _ (S9 [2,5]) (yF 1 [6] [2,5] rfl fun KS hKS=>?_)
  refine (go 1) ?_
  refine zj hKS (zg 0 7 (zd (i:=7) rfl fun KN hKN hPN=>?_))
  refine (go 2) ?_
  refine hKN _ _ (S9 [2,5]) (zq (by kernel_rfl) (yG (ya (ms++([mt4]:List Match)) j8 m7 (q - 1) (.slice A7 ((ms++([mt4]:List Match)).length) cp7) (sc rfl (sc rfl (sc rfl sn))) (S9 [3,4,1,2,5]) ?_ ?_)))
  ·have hY:=Pz.win_next hx1 (Pz.win_sep h2) h4 he8
   rw [Pz.then_ok] at hY
   exact ⟨hY.trans (by rw [show q - 1 + 1=q by omega]),by simp only [qL]; omega,by omega,by omega,by omega⟩
  omega
 have g2:bo1=true:=by simpa using h1
 have hx2:=Pz.win_done hI1.1 (by rw [he3,g2])
 refine (go 8) ?_
 refine za (α:=Pz.St) (PT:=111) [Rb 114 p s j3 m,.pub zO] [Row (.slice A1 ms.length cp1) 179 3 yB ms,.blk b5 [iV 2,iV 0,iV 0,.string word,.slice A1 ms.length cp1,Zs,Zs] 59,.blk b4 Zx 59] (fun z:Pz.St=>.tuple #[]) (fun z11=>Pz.must s ⟨#[91]⟩ ⟨j3,m⟩=.ok z11∧Pz.Good s ⟨j3,m⟩ z11) (fun z11=>[Rb 114 p s z11.at_ z11.nd,.pub zO]) _ (fun f10=>Pz.must s ⟨#[91]⟩ ⟨j3,m⟩=.no f10) (fun _=>rfl) (S9 [0,1,2,3,4]) (fun _=>rfl) wn rfl rfl call179 rfl (fun w1 Pb hG=>y6 p s j3 m ⟨#[91]⟩ Pb w1 hG qO qO qO ) ?_ fun z11 hz11=>?_
 ·intro f10 hf10
  refine zS (zW fun w1 hM=>?_)
  exact hM.zh f10 (by first | (simp only [Pz.then_ok,Pz.then_no,Pz.St.go,lgc,Pz.window,zB.e,zB.es,he1,he2,he3,g2,hx2,h1,hf10]; done) | simp [Pz.then_ok,Pz.then_no,Pz.St.go,lgc,Pz.window,zB.e,zB.es,he1,he2,he3,g2,hx2,h1,hf10])
 obtain ⟨j9,m8⟩:=z11
 have he9:Pz.must s ⟨#[91]⟩ ⟨j3,m⟩=.ok ⟨j9,m8⟩:=hz11.1
 have ga8:j9≤s.size:=hz11.2.at_
 have gm8:m≤m8:=hz11.2.mono
 have gn8:m8≤100:=hz11.2.most (show m≤100 by omega)
 refine (go 5) ?_
 refine za (α:=Int × Pz.St) (PT:=111) [Rb 114 p s j9 m8,.pub zO] [Row (.slice A1 ms.length cp1) 179 3 yB ms,.blk b5 [iV 2,iV 0,iV 0,.string word,.slice A1 ms.length cp1,Zs,Zs] 59,.blk b4 Zx 59] (fun z:Int × Pz.St=>iV z.1) (fun z12=>Pz.num s 1 100000 ⟨j9,m8⟩=.ok z12∧Pz.Good s ⟨j9,m8⟩ z12.2) (fun z12=>[Rb 114 p s z12.2.at_ z12.2.nd,.pub zO]) _ (fun f11=>Pz.num s 1 100000 ⟨j9,m8⟩=.no f11) (fun _=>rfl) (S9 [0,1,2,3,4]) (fun _=>rfl) wn rfl rfl call182 rfl (fun w1 Pb hG=>c_num p s j9 m8 1 100000 Pb w1 hG qO qO qO qO) ?_ fun z12 hz12=>?_
 ·intro f11 hf11
  refine zS (zW fun w1 hM=>?_)
  exact hM.zh f11 (by first | (simp only [Pz.then_ok,Pz.then_no,Pz.St.go,lgc,Pz.window,zB.e,zB.es,he1,he2,he3,g2,hx2,he9,h1,hf11]; done) | simp [Pz.then_ok,Pz.then_no,Pz.St.go,lgc,Pz.window,zB.e,zB.es,he1,he2,he3,g2,hx2,he9,h1,hf11])
 obtain ⟨v1,j10,m9⟩:=z12
 have he10:Pz.num s 1 100000 ⟨j9,m8⟩=.ok (v1,⟨j10,m9⟩):=hz12.1
 have ga9:j10≤s.size:=hz12.2.at_
 have gm9:m8≤m9:=hz12.2.mono
 have gn9:m9≤100:=hz12.2.most (show m8≤100 by omega)
 refine (go 7) ?_
 refine za (α:=Pz.St) (PT:=111) [Rb 114 p s j10 m9,.pub zO] [Row (.slice A1 ms.length cp1) 179 3 yB ms,.blk b5 [iV 2,iV 0,iV v1,.string word,.slice A1 ms.length cp1,Zs,Zs] 59,.blk b4 Zx 59] (fun z:Pz.St=>.tuple #[]) (fun z13=>Pz.must s ⟨#[93]⟩ ⟨j10,m9⟩=.ok z13∧Pz.Good s ⟨j10,m9⟩ z13) (fun z13=>[Rb 114 p s z13.at_ z13.nd,.pub zO]) _ (fun f12=>Pz.must s ⟨#[93]⟩ ⟨j10,m9⟩=.no f12) (fun _=>rfl) (S9 [0,1,2,3,4]) (fun _=>rfl) wn rfl rfl call179 rfl (fun w1 Pb hG=>y6 p s j10 m9 ⟨#[93]⟩ Pb w1 hG qO qO qO ) ?_ fun z13 hz13=>?_
 ·intro f12 hf12
  refine zS (zW fun w1 hM=>?_)
  exact hM.zh f12 (by first | (simp only [Pz.then_ok,Pz.then_no,Pz.St.go,lgc,Pz.window,zB.e,zB.es,he1,he2,he3,g2,hx2,he9,he10,h1,hf12]; done) | simp [Pz.then_ok,Pz.then_no,Pz.St.go,lgc,Pz.window,zB.e,zB.es,he1,he2,he3,g2,hx2,he9,he10,h1,hf12])
 obtain ⟨j11,m10⟩:=z13
 have he11:Pz.must s ⟨#[93]⟩ ⟨j10,m9⟩=.ok ⟨j11,m10⟩:=hz13.1
 have ga10:j11≤s.size:=hz13.2.at_
 have gm10:m9≤m10:=hz13.2.mono
 have gn10:m10≤100:=hz13.2.most (show m9≤100 by omega)
 refine (go 5) ?_
 refine za (α:=Pz.St) (PT:=111) [Rb 114 p s j11 m10,.pub zO] [Row (.slice A1 ms.length cp1) 179 3 yB ms,.blk b5 [iV 2,iV 0,iV v1,.string word,.slice A1 ms.length cp1,Zs,Zs] 59,.blk b4 Zx 59] (fun z:Pz.St=>.tuple #[]) (fun z14=>Pz.must s ⟨#[41]⟩ ⟨j11,m10⟩=.ok z14∧Pz.Good s ⟨j11,m10⟩ z14) (fun z14=>[Rb 114 p s z14.at_ z14.nd,.pub zO]) _ (fun f13=>Pz.must s ⟨#[41]⟩ ⟨j11,m10⟩=.no f13) (fun _=>rfl) (S9 [0,1,2,3,4]) (fun _=>rfl) wn rfl rfl call179 rfl (fun w1 Pb hG=>y6 p s j11 m10 ⟨#[41]⟩ Pb w1 hG qO qO qO ) ?_ fun z14 hz14=>?_
 ·intro f13 hf13
  refine zS (zW fun w1 hM=>?_)
  exact hM.zh f13 (by first | (simp only [Pz.then_ok,Pz.then_no,Pz.St.go,lgc,Pz.window,zB.e,zB.es,he1,he2,he3,g2,hx2,he9,he10,he11,h1,hf13]; done) | simp [Pz.then_ok,Pz.then_no,Pz.St.go,lgc,Pz.window,zB.e,zB.es,he1,he2,he3,g2,hx2,he9,he10,he11,h1,hf13])
 obtain ⟨j12,m11⟩:=z14
 have he12:Pz.must s ⟨#[41]⟩ ⟨j11,m10⟩=.ok ⟨j12,m11⟩:=hz14.1
 have ga11:j12≤s.size:=hz14.2.at_
 have gm11:m10≤m11:=hz14.2.mono
 have gn11:m11≤100:=hz14.2.most (show m10≤100 by omega)
 refine (go 6) ?_
 refine y9 2 0 encMatch rfl rfl (fp2) (vz (fun _ h=>h.exprG (k:=2) (n:=0) (r:=v1) (wd:=word) (ms:=⟨A1,cp1,ms⟩) (bs:=⟨none,0,[]⟩) (ks:=⟨none,0,[]⟩) (fun _ pp=>pp.sl 2 rfl) (fun _ _=>zD.zu _ _ _ _) (fun _ _=>zD.zu _ _ _ _) (fun _ _ x hx=>by cases hx) (by first | decide | omega) (fun x hx=>by have:=Pz.winL_size 6 (by show _≤s.size; omega) hx2 (fun _ h=>by cases h) x hx; omega) (fun x hx=>by cases hx)) (za (α:=Unit) (PT:=111) [Rb 114 p s j12 m11,.pub zO] [okP zB.Ok (zB.mk 2 0 v1 word ⟨A1,cp1,ms⟩ ⟨none,0,[]⟩ ⟨none,0,[]⟩),slP 3 yB (.slice A1 ms.length cp1) ms,.blk b5 [iV 2,iV 0,iV v1,.string word,.slice A1 ms.length cp1,Zs,Zs] 59,.blk b4 Zx 59] (fun _:Unit=>.agg (List.toArray [iV 2,iV 0,iV v1,.string word,.slice A1 ms.length cp1,Zs,Zs])) (fun z15=>m11 + 1≤100) (fun z15=>[Rb 114 p s j12 (m11 + 1),.pub zO]) _ (fun f14=>Pz.node ⟨j12,m11⟩=.no f14) (fun _=>rfl) (S9 [1,2,0,3,4,5]) (fun _=>rfl) wn rfl rfl call99 rfl (fun w1 Pb hG=>vp p s j12 m11 2 0 v1 word A1 ms.length cp1 none 0 0 none 0 0 Pb w1 hG qO qO qO) ?_ fun z15 hz15=>?_))
 ·intro f14 hf14
  refine zS (zW fun w1 hM=>?_)
  exact hM.zh f14 (by first | (simp only [Pz.then_ok,Pz.then_no,Pz.St.go,lgc,Pz.window,zB.e,zB.es,he1,he2,he3,g2,hx2,he9,he10,he11,he12,h1,hf14]; done) | simp [Pz.then_ok,Pz.then_no,Pz.St.go,lgc,Pz.window,zB.e,zB.es,he1,he2,he3,g2,hx2,he9,he10,he11,he12,h1,hf14])
 have he13:Pz.node ⟨j12,m11⟩=.ok ⟨j12,m11 + 1⟩:=Pz.node_yes hz15
 refine (go 4) (zZ results183 fun w1 hM=>?_)
 have h9:Pz.window s word ⟨i,n⟩=.ok ((zB.mk 2 0 v1 word ⟨A1,cp1,ms⟩ ⟨none,0,[]⟩ ⟨none,0,[]⟩).e,⟨j12,(m11 + 1)⟩):=by first | (simp only [Pz.then_ok,Pz.then_no,Pz.St.go,lgc,Pz.window,zB.e,zB.es,he1,he2,he3,g2,hx2,he9,he10,he11,he12,he13,h1]; done) | simp [Pz.then_ok,Pz.then_no,Pz.St.go,lgc,Pz.window,zB.e,zB.es,he1,he2,he3,g2,hx2,he9,he10,he11,he12,he13,h1]
 exact hM.ve (((zB.mk 2 0 v1 word ⟨A1,cp1,ms⟩ ⟨none,0,[]⟩ ⟨none,0,[]⟩),⟨j12,(m11 + 1)⟩):zB × Pz.St) rfl ⟨h9,(Pz.window_fine _ hi).ok_ h9⟩ (fun h=>h.sel [0,1,2] qD rfl)
def FacC (N:Nat):Prop:=∀ (p:Nat) (s:ByteArray) (i:Nat) (n d:Int) (Pb:Nat→Prop) (w:World) (hG:Mem w ⟨fpOf [Rb 114 p s i n,.pub zO],Pb⟩ [Rb 114 p s i n,.pub zO] w) (hi:i≤s.size) (hs:s.size≤2000) (hn:0≤n∧n≤100) (hd:d + (N:Int)=21) (hd1:1≤d),
    Calls prog 147 #[.pointer (some ⟨p,0,none⟩),iV d] w (RetX w [Rb 114 p s i n,.pub zO] Pb 111 (fun z:zB × Pz.St=>.agg (zy z.1).toArray) (fun z=>Pz.fac s N ⟨i,n⟩=.ok (z.1.e,z.2)∧Pz.Good s ⟨i,n⟩ z.2) (fun z=>[Rb 114 p s z.2.at_ z.2.nd,.pub zO,okP zB.Ok z.1]) (fun f=>Pz.fac s N ⟨i,n⟩=.no f))
def TrmC (N:Nat):Prop:=∀ (p:Nat) (s:ByteArray) (i:Nat) (n d:Int) (Pb:Nat→Prop) (w:World) (hG:Mem w ⟨fpOf [Rb 114 p s i n,.pub zO],Pb⟩ [Rb 114 p s i n,.pub zO] w) (hi:i≤s.size) (hs:s.size≤2000) (hn:0≤n∧n≤100) (hd:d + (N:Int)=21) (hd1:1≤d),
    Calls prog 97 #[.pointer (some ⟨p,0,none⟩),iV d] w (RetX w [Rb 114 p s i n,.pub zO] Pb 111 (fun z:zB × Pz.St=>.agg (zy z.1).toArray) (fun z=>Pz.trm s N ⟨i,n⟩=.ok (z.1.e,z.2)∧Pz.Good s ⟨i,n⟩ z.2) (fun z=>[Rb 114 p s z.2.at_ z.2.nd,.pub zO,okP zB.Ok z.1]) (fun f=>Pz.trm s N ⟨i,n⟩=.no f))
def XprC (N:Nat):Prop:=∀ (p:Nat) (s:ByteArray) (i:Nat) (n d:Int) (Pb:Nat→Prop) (w:World) (hG:Mem w ⟨fpOf [Rb 114 p s i n,.pub zO],Pb⟩ [Rb 114 p s i n,.pub zO] w) (hi:i≤s.size) (hs:s.size≤2000) (hn:0≤n∧n≤100) (hd:d + (N:Int)=21) (hd1:1≤d),
    Calls prog 52 #[.pointer (some ⟨p,0,none⟩),iV d] w (RetX w [Rb 114 p s i n,.pub zO] Pb 111 (fun z:zB × Pz.St=>.agg (zy z.1).toArray) (fun z=>Pz.xpr s N ⟨i,n⟩=.ok (z.1.e,z.2)∧Pz.Good s ⟨i,n⟩ z.2) (fun z=>[Rb 114 p s z.2.at_ z.2.nd,.pub zO,okP zB.Ok z.1]) (fun f=>Pz.xpr s N ⟨i,n⟩=.no f))
set_option maxHeartbeats 20000000 in
theorem c_all (p:Nat) (s:ByteArray) (i:Nat) (n:Int) (d:Int) (N:Nat) (Pb:Nat→Prop) (w:World) (hG:Mem w ⟨fpOf [Rb 114 p s i n,.pub zO],Pb⟩ [Rb 114 p s i n,.pub zO] w) (hi:i≤s.size) (hs:s.size≤2000) (hn:0≤n∧n≤100) (hd:d + 1 + (N:Int)=21) (hd1:1≤d) (ih:XprC N) :
    Calls prog 181 #[.pointer (some ⟨p,0,none⟩),iV d] w (RetX w [Rb 114 p s i n,.pub zO] Pb 111 (fun z:zB × Pz.St=>.agg (zy z.1).toArray) (fun z=>Pz.all s (Pz.xpr s N) ⟨i,n⟩=.ok (z.1.e,z.2)∧Pz.Good s ⟨i,n⟩ z.2) (fun z=>[Rb 114 p s z.2.at_ z.2.nd,.pub zO,okP zB.Ok z.1]) (fun f=>Pz.all s (Pz.xpr s N) ⟨i,n⟩=.no f)):=by
 refine zw (N:=85) func181 hG ?_
 refine (go 2) (yA fun b4=>?_)
 refine (go 5) ?_
 refine yQ (α:=Nat) [Rb 114 p s i n,.pub zO] [.blk b4 Zx 59] (fun _=>.tuple #[]) (fun j1=>(Pz.blank s i=j1∧i≤j1∧j1≤s.size)) (fun j1=>[Rb 114 p s j1 n,.pub zO]) _ (fun _=>rfl) (S9 [1,2,0]) (fun _=>rfl) wn rfl rfl call53 rfl (fun w1 Pb hG=>vo p s i n Pb w1 hG qO qO) fun j1 hz1=>?_
 obtain ⟨hz1e,hz1a,hz1b⟩:=hz1
 refine (go 14) ?_
 refine za (α:=ByteArray × Pz.St) (PT:=111) [Rb 114 p s j1 n,.pub zO] [.blk b4 Zx 59] (fun z:ByteArray × Pz.St=>.string z.1) (fun z1=>Pz.name s ⟨j1,n⟩=.ok z1∧Pz.Good s ⟨j1,n⟩ z1.2) (fun z1=>[Rb 114 p s z1.2.at_ z1.2.nd,.pub zO]) _ (fun f1=>Pz.name s ⟨j1,n⟩=.no f1) (fun _=>rfl) (S9 [0,1,2]) (fun _=>rfl) wn rfl rfl call211 rfl (fun w1 Pb hG=>vH p s j1 n  Pb w1 hG qO qO qO ) ?_ fun z1 hz2=>?_
 ·intro f1 hf1
  refine zS (zW fun w1 hM=>?_)
  exact hM.zh f1 (by first | (simp only [Pz.then_ok,Pz.then_no,Pz.St.go,lgc,Pz.all,Pz.bys,Pz.allTail,zB.e,zB.es,hz1e,hf1]; done) | simp [Pz.then_ok,Pz.then_no,Pz.St.go,lgc,Pz.all,Pz.bys,Pz.allTail,zB.e,zB.es,hz1e,hf1])
 obtain ⟨wd1,j2,m1⟩:=z1
 have he1:Pz.name s ⟨j1,n⟩=.ok (wd1,⟨j2,m1⟩):=hz2.1
 have ga1:j2≤s.size:=hz2.2.at_
 have gm1:n≤m1:=hz2.2.mono
 have gn1:m1≤100:=hz2.2.most (show n≤100 by omega)
 have wz1:wd1.size≤12:=Pz.name_size (t:=⟨j1,n⟩) (show j1≤_ by omega) he1
 refine vD (.string wd1) ?_
 refine (go 1) (yA fun b6=>?_)
 refine (go 5) ?_
 refine yL (Mem w ⟨fpOf [Rb 114 p s i n,.pub zO],Pb⟩ [.blk b6 [iV 3,iV 0,iV 0,.string wd1,Zs,Zs,Zs] 59,Rb 114 p s j2 m1,.pub zO,.blk b4 Zx 59]) mix (fun _ h=>h.drew) rfl (uH (f:=3) [1,2] rfl rfl (by kernel_rfl) (by kernel_rfl) (fun _ h=>h) fun KS hKS=>?_)
 refine (go 2) ?_
 refine zj hKS (zg 2 0 (zd (i:=0) rfl fun KN hKN hPN=>vZ Lg.totals wn rfl call151 rfl (fun w1 hM=>c_Totals  w1) fun A1 cp1 hc1 hm1 hA1=>?_))
 refine (go 1) ?_
 refine hKN _ _ (S9 [1,2,3,4]) (zg 1 3 (zd (i:=3) rfl fun KN hKN hPN=>yM call150 wn rfl (fun w1 hM=>vV _ Lg.totals wd1 w1 (RowSl encString hM 0 rfl)) ?_))
 refine (go 1) ?_
 refine hKN _ _ (S9 [1,2,3,4]) (yF 0 [4] [1,2,3,4] rfl fun KS hKS=>?_)
 refine (go 1) ?_
 refine zj hKS ?_
 refine zq (by kernel_rfl) ((go 1) (zY (fun h1=>?_) fun h1=>?_))
 ·refine (go 11) ?_
  refine za (α:=Unit) (PT:=111) [Rb 114 p s j1 m1,.pub zO] [Row (.slice A1 Lg.totals.length cp1) 9 1 strE Lg.totals,.blk b6 [iV 3,iV 0,iV 0,.string wd1,Zs,Zs,Zs] 59,.blk b4 Zx 59] (fun _:Unit=>.tuple #[]) (fun z2=>False) (fun z2=>[Rb 114 p s j1 m1,.pub zO]) _ (fun f2=>f2=(7,(j1:Int))) (fun _=>rfl) (S9 [2,3,0,1,4]) (fun _=>rfl) wn rfl rfl call54 rfl (fun w1 Pb hG=>yj p s j1 m1 7 Pb w1 hG) ?_ fun z2 hz3=>?_
  ·intro f2 hf2
   refine zS (zW fun w1 hM=>?_)
   exact hM.zh f2 (by first | (simp only [Pz.then_ok,Pz.then_no,Pz.St.go,lgc,Pz.all,Pz.bys,Pz.allTail,zB.e,zB.es,hz1e,he1,h1,hf2]; done) | simp [Pz.then_ok,Pz.then_no,Pz.St.go,lgc,Pz.all,Pz.bys,Pz.allTail,zB.e,zB.es,hz1e,he1,h1,hf2])
  exact hz3.elim
 refine (go 5) ?_
 refine yQ (α:=Nat) [Rb 114 p s j2 m1,.pub zO] [Row (.slice A1 Lg.totals.length cp1) 9 1 strE Lg.totals,.blk b6 [iV 3,iV 0,iV 0,.string wd1,Zs,Zs,Zs] 59,.blk b4 Zx 59] (fun _=>.tuple #[]) (fun j3=>(Pz.blank s j2=j3∧j2≤j3∧j3≤s.size)) (fun j3=>[Rb 114 p s j3 m1,.pub zO]) _ (fun _=>rfl) (S9 [2,3,0,1,4]) (fun _=>rfl) wn rfl rfl call53 rfl (fun w1 Pb hG=>vo p s j2 m1 Pb w1 hG qO qO) fun j3 hz4=>?_
 obtain ⟨hz4e,hz4a,hz4b⟩:=hz4
 refine (go 15) ?_
 refine za (α:=ByteArray × Pz.St) (PT:=111) [Rb 114 p s j3 m1,.pub zO] [Row (.slice A1 Lg.totals.length cp1) 9 1 strE Lg.totals,.blk b6 [iV 3,iV 0,iV 0,.string wd1,Zs,Zs,Zs] 59,.blk b4 Zx 59] (fun z:ByteArray × Pz.St=>.string z.1) (fun z3=>Pz.word s ⟨j3,m1⟩=.ok z3∧Pz.Good s ⟨j3,m1⟩ z3.2) (fun z3=>[Rb 114 p s z3.2.at_ z3.2.nd,.pub zO]) _ (fun f3=>Pz.word s ⟨j3,m1⟩=.no f3) (fun _=>rfl) (S9 [0,1,2,3,4]) (fun _=>rfl) wn rfl rfl call180 rfl (fun w1 Pb hG=>jS p s j3 m1  Pb w1 hG qO qO qO ) ?_ fun z3 hz5=>?_
 ·intro f3 hf3
  refine zS (zS (zW fun w1 hM=>?_))
  exact hM.zh f3 (by first | (simp only [Pz.then_ok,Pz.then_no,Pz.St.go,lgc,Pz.all,Pz.bys,Pz.allTail,zB.e,zB.es,hz1e,he1,hz4e,h1,hf3]; done) | simp [Pz.then_ok,Pz.then_no,Pz.St.go,lgc,Pz.all,Pz.bys,Pz.allTail,zB.e,zB.es,hz1e,he1,hz4e,h1,hf3])
 obtain ⟨wd2,j4,m2⟩:=z3
 have he2:Pz.word s ⟨j3,m1⟩=.ok (wd2,⟨j4,m2⟩):=hz5.1
 have ga2:j4≤s.size:=hz5.2.at_
 have gm2:m1≤m2:=hz5.2.mono
 have gn2:m2≤100:=hz5.2.most (show m1≤100 by omega)
 have wz2:wd2.size≤12:=Pz.word_size (t:=⟨j3,m1⟩) (show j3≤_ by omega) he2
 refine vD (.string wd2) ?_
 refine (go 8) (yR 38 (fun h2=>?_) fun h2=>?_)
 ·have g1:(wd2=⟨#[]⟩)=False:=eq_false h2
  refine (go 5) (zY (fun h3=>?_) fun h3=>?_)
  ·have g2:(wd2=⟨#[98,121]⟩)=False:=eq_false h3
   refine (go 11) ?_
   refine za (α:=Unit) (PT:=111) [Rb 114 p s j3 m2,.pub zO] [Row (.slice A1 Lg.totals.length cp1) 9 1 strE Lg.totals,.blk b6 [iV 3,iV 0,iV 0,.string wd1,Zs,Zs,Zs] 59,.blk b4 Zx 59] (fun _:Unit=>.tuple #[]) (fun z4=>False) (fun z4=>[Rb 114 p s j3 m2,.pub zO]) _ (fun f4=>f4=(2,(j3:Int))) (fun _=>rfl) (S9 [0,1,2,3,4]) (fun _=>rfl) wn rfl rfl call54 rfl (fun w1 Pb hG=>yj p s j3 m2 2 Pb w1 hG) ?_ fun z4 hz6=>?_
   ·intro f4 hf4
    refine zS (zW fun w1 hM=>?_)
    exact hM.zh f4 (by first | (simp only [Pz.then_ok,Pz.then_no,Pz.St.go,lgc,Pz.all,Pz.bys,Pz.allTail,zB.e,zB.es,hz1e,he1,hz4e,he2,g1,g2,h1,hf4]; done) | simp [Pz.then_ok,Pz.then_no,Pz.St.go,lgc,Pz.all,Pz.bys,Pz.allTail,zB.e,zB.es,hz1e,he1,hz4e,he2,g1,g2,h1,hf4])
   exact hz6.elim
  have g3:(wd2=⟨#[98,121]⟩)=True:=eq_true (Classical.not_not.1 h3)
  refine (go 6) ?_
  refine vF rfl (decide_eq_true (Classical.not_not.1 h3)) ?_
  refine (go 1) ?_
  refine yL (Mem w ⟨fpOf [Rb 114 p s i n,.pub zO],Pb⟩ [.pub zO,Row (.slice A1 Lg.totals.length cp1) 9 1 strE Lg.totals,.blk b4 Zx 59]) mix (fun _ h=>h.drew) rfl (yF 6 [0,2] [1,2,4] rfl fun KS hKS=>?_)
  refine (go 2) ?_
  refine zj hKS (yS (f:=5) (i:=1) (j:=3) rfl (by kernel_rfl) ?_ ?_)
  ·refine zd (i:=1) rfl fun KN hKN hPN=>?_
   refine (go 2) ?_
   refine hKN _ _ (S9 [1,2,4]) (zg 4 3 (zd (i:=3) rfl fun KN hKN hPN=>za (α:=ByteArray × Pz.St) (PT:=111) [Rb 114 p s j4 m2,.pub zO] [Row (.slice A1 Lg.totals.length cp1) 9 1 strE Lg.totals,.blk b6 [iV 3,iV 0,iV 0,.string wd1,Zs,Zs,Zs] 59,.blk b4 Zx 59] (fun z:ByteArray × Pz.St=>.string z.1) (fun z5=>Pz.name s ⟨j4,m2⟩=.ok z5∧Pz.Good s ⟨j4,m2⟩ z5.2) (fun z5=>[Rb 114 p s z5.2.at_ z5.2.nd,.pub zO]) _ (fun f5=>Pz.name s ⟨j4,m2⟩=.no f5) (fun _=>rfl) (S9 [0,1,2,3,4]) (fun _=>rfl) wn rfl rfl call211 rfl (fun w1 Pb hG=>vH p s j4 m2  Pb w1 hG qO qO qO ) ?_ fun z5 hz7=>?_))
   ·intro f5 hf5
    refine yo hPN (zS (zS (zW fun w1 hM=>?_)))
    exact hM.zh f5 (by first | (simp only [Pz.then_ok,Pz.then_no,Pz.St.go,lgc,Pz.all,Pz.bys,Pz.allTail,zB.e,zB.es,hz1e,he1,hz4e,he2,g1,g3,h1,hf5]; done) | simp [Pz.then_ok,Pz.then_no,Pz.St.go,lgc,Pz.all,Pz.bys,Pz.allTail,zB.e,zB.es,hz1e,he1,hz4e,he2,g1,g3,h1,hf5])
   obtain ⟨wd3,j5,m3⟩:=z5
   have he3:Pz.name s ⟨j4,m2⟩=.ok (wd3,⟨j5,m3⟩):=hz7.1
   have ga3:j5≤s.size:=hz7.2.at_
   have gm3:m2≤m3:=hz7.2.mono
   have gn3:m3≤100:=hz7.2.most (show m2≤100 by omega)
   have wz3:wd3.size≤12:=Pz.name_size (t:=⟨j4,m2⟩) (show j4≤_ by omega) he3
   refine vD (.string wd3) ?_
   refine (go 1) ?_
   refine hKN _ _ (S9 [1,2,4]) (zg 3 4 (zd (i:=4) rfl fun KN hKN hPN=>zx strE ([wd3]:List ByteArray) wn underlying56 inf9 rfl rfl rfl rfl qD qD rfl fun b54=>?_))
   refine (go 1) ?_
   refine hKN _ _ (S9 [2,3,5]) (zg 2 5 (zd (i:=5) rfl fun KN hKN hPN=>yI (strE:ByteArray→List Value) 9 1 (yC 0 ([]:List ByteArray) ([wd3]:List ByteArray) encString wn rfl rfl rfl (fun _ hM=>(RowSl encString hM 1 rfl)) underlying56 inf9 rfl rfl (by simp only [qL]; omega) rfl fun A2 cp2 hc2 hm2 hA2=>?_)))
   refine (go 1) ?_
   refine hKN _ _ (S9 [3,4,6]) (yF 1 [6] [3,4,6] rfl fun KS hKS=>?_)
   refine (go 1) ?_
   refine zj hKS (zg 0 7 (zd (i:=7) rfl fun KN hKN hPN=>?_))
   refine (go 2) ?_
   refine hKN _ _ (S9 [3,4,6]) ?_
   refine zq (by kernel_rfl) ((go 1) ?_)
   refine (go 1) ?_
   refine ug (fun (l:List ByteArray) (k:Nat) (m:Int) (q:Nat) (rv:Value)=>[(0,.pointer (some ⟨p,0,none⟩)),(1,iV d),(4,.pointer (some ⟨b4,0,none⟩)),(6,.pointer (some ⟨b6,0,none⟩))]) (fun (l:List ByteArray) (k:Nat) (m:Int) (q:Nat) (rv:Value)=>[Row rv 9 1 strE l,Row (.slice (some ⟨b54,0,none⟩) 1 1) 9 1 strE ([wd3]:List ByteArray),Rb 114 p s k m,.pub zO,Row (.slice A1 Lg.totals.length cp1) 9 1 strE Lg.totals,.blk b6 [iV 3,iV 0,iV 0,.string wd1,Zs,rv,Zs] 59,.blk b4 Zx 59]) (fun (l:List ByteArray) (k:Nat) (m:Int) (q:Nat) (rv:Value)=>Pz.byL s 5 [wd3] ⟨j5,m3⟩=Pz.byL s (q + 1) l ⟨k,m⟩∧l.length + q=5∧l.length≤4∧k≤s.size∧m3≤m∧m≤100) (fun (l:List ByteArray) (k:Nat) (m:Int) (q:Nat) (rv:Value)=>q) (([]:List ByteArray)++([wd3]:List ByteArray)) j5 m3 4 (.slice A2 ((([]:List ByteArray)++([wd3]:List ByteArray)).length) cp2) (sc rfl (sc rfl (sc rfl (sc rfl sn)))) (fun _ h=>h) ?_ (fun l k m q rv hI1=>?_)
   ·exact ⟨rfl,rfl,by simp,by omega,by omega,by omega⟩
   refine yW 0 (l:=l) rfl fun A3 cp3 hv1 hc3 hm3 hA3=>?_
   subst hv1
   refine (go 4) ?_
   refine yQ (α:=(Bool × Nat)) [Rb 114 p s k m,.pub zO] [Row (.slice A3 l.length cp3) 9 1 strE l,Row (.slice (some ⟨b54,0,none⟩) 1 1) 9 1 strE ([wd3]:List ByteArray),Row (.slice A1 Lg.totals.length cp1) 9 1 strE Lg.totals,.blk b6 [iV 3,iV 0,iV 0,.string wd1,Zs,.slice A3 l.length cp3,Zs] 59,.blk b4 Zx 59] (fun z:Bool × Nat=>.bool z.1) (fun z6=>(Pz.eat s ⟨#[44]⟩ k=z6∧k≤z6.2∧z6.2≤s.size)) (fun z6=>[Rb 114 p s z6.2 m,.pub zO]) _ (fun _=>rfl) (S9 [2,3,0,1,4,5,6]) (fun _=>rfl) wn rfl rfl call98 rfl (fun w1 Pb hG=>vw p s k m ⟨#[44]⟩ Pb w1 hG qO qO) fun z6 hz8=>?_
   obtain ⟨bo1,j6⟩:=z6
   have he4:Pz.eat s ⟨#[44]⟩ k=(bo1,j6):=hz8.1
   have hz8a:k≤j6:=hz8.2.1
   have hz8b:j6≤s.size:=hz8.2.2
   refine vD (.bool bo1) ?_
   refine (go 2) (yc (fun h4=>?_) fun h4=>?_)
   ·have hx1:=hI1.1
    refine (go 12) (zY (fun h5=>?_) fun h5=>?_)
    ·refine (go 2) ?_
     refine za (α:=Unit) (PT:=111) [Rb 114 p s j6 m,.pub zO] [Row (.slice A3 l.length cp3) 9 1 strE l,Row (.slice (some ⟨b54,0,none⟩) 1 1) 9 1 strE ([wd3]:List ByteArray),Row (.slice A1 Lg.totals.length cp1) 9 1 strE Lg.totals,.blk b6 [iV 3,iV 0,iV 0,.string wd1,Zs,.slice A3 l.length cp3,Zs] 59,.blk b4 Zx 59] (fun _:Unit=>.tuple #[]) (fun z7=>False) (fun z7=>[Rb 114 p s j6 m,.pub zO]) _ (fun f6=>f6=(5,(j6:Int))) (fun _=>rfl) (S9 [0,1,2,3,4,5,6]) (fun _=>rfl) wn rfl rfl call54 rfl (fun w1 Pb hG=>yj p s j6 m 5 Pb w1 hG) ?_ fun z7 hz9=>?_
     ·intro f6 hf6
      refine zS (zz (yV (zz (zS (zW fun w1 hM=>?_)))))
      have hY:=Pz.by_many hx1 (by rw [he4,h4]) h5
      exact hM.zh f6 (by simp only [Pz.then_ok,Pz.then_no,Pz.St.go,lgc,Pz.all,Pz.bys,Pz.allTail,zB.e,zB.es,hz1e,he1,hz4e,he2,g1,g3,he3,he4,h1,hY,hf6])
     exact hz9.elim
    refine (go 2) ?_
    refine yL (Mem w ⟨fpOf [Rb 114 p s i n,.pub zO],Pb⟩ [.pub zO,Row (.slice (some ⟨b54,0,none⟩) 1 1) 9 1 strE ([wd3]:List ByteArray),Row (.slice A1 Lg.totals.length cp1) 9 1 strE Lg.totals,.blk b4 Zx 59]) mix (fun _ h=>h.drew) rfl (yF 6 [0,2] [1,3,4,6] rfl fun KS hKS=>?_)
    refine (go 2) ?_
    refine zj hKS (yS (f:=5) (i:=1) (j:=3) rfl (by kernel_rfl) ?_ ?_)
    ·refine zd (i:=1) rfl fun KN hKN hPN=>?_
     refine (go 2) ?_
     refine hKN _ _ (S9 [1,3,4,6]) (zg 4 3 (zd (i:=3) rfl fun KN hKN hPN=>za (α:=ByteArray × Pz.St) (PT:=111) [Rb 114 p s j6 m,.pub zO] [Row (.slice A3 l.length cp3) 9 1 strE l,Row (.slice (some ⟨b54,0,none⟩) 1 1) 9 1 strE ([wd3]:List ByteArray),Row (.slice A1 Lg.totals.length cp1) 9 1 strE Lg.totals,.blk b6 [iV 3,iV 0,iV 0,.string wd1,Zs,.slice A3 l.length cp3,Zs] 59,.blk b4 Zx 59] (fun z:ByteArray × Pz.St=>.string z.1) (fun z8=>Pz.name s ⟨j6,m⟩=.ok z8∧Pz.Good s ⟨j6,m⟩ z8.2) (fun z8=>[Rb 114 p s z8.2.at_ z8.2.nd,.pub zO]) _ (fun f7=>Pz.name s ⟨j6,m⟩=.no f7) (fun _=>rfl) (S9 [0,1,2,3,4,5,6]) (fun _=>rfl) wn rfl rfl call211 rfl (fun w1 Pb hG=>vH p s j6 m  Pb w1 hG qO qO qO ) ?_ fun z8 hz10=>?_))
     ·intro f7 hf7
      refine yo hPN (zz (yV (zz (zS (zW fun w1 hM=>?_)))))
      have hY:=Pz.by_next hx1 (by rw [he4,h4]) h5 hf7
      rw [Pz.then_no] at hY
      exact hM.zh f7 (by simp only [Pz.then_ok,Pz.then_no,Pz.St.go,lgc,Pz.all,Pz.bys,Pz.allTail,zB.e,zB.es,hz1e,he1,hz4e,he2,g1,g3,he3,he4,h1,hY])
     obtain ⟨wd4,j7,m4⟩:=z8
     have he5:Pz.name s ⟨j6,m⟩=.ok (wd4,⟨j7,m4⟩):=hz10.1
     have ga4:j7≤s.size:=hz10.2.at_
     have gm4:m≤m4:=hz10.2.mono
     have gn4:m4≤100:=hz10.2.most (show m≤100 by omega)
     have wz4:wd4.size≤12:=Pz.name_size (t:=⟨j6,m⟩) (show j6≤_ by omega) he5
     refine vD (.string wd4) ?_
     refine (go 1) ?_
     refine hKN _ _ (S9 [1,3,4,6]) (zg 3 4 (zd (i:=4) rfl fun KN hKN hPN=>zx strE ([wd4]:List ByteArray) wn underlying56 inf9 rfl rfl rfl rfl qD qD rfl fun b69=>?_))
     refine (go 1) ?_
     refine hKN _ _ (S9 [2,4,5,7]) (zg 2 5 (zd (i:=5) rfl fun KN hKN hPN=>yC 3 l ([wd4]:List ByteArray) encString wn rfl rfl rfl (fun _ hM=>(RowSl encString hM 0 rfl)) underlying56 inf9 rfl rfl (by simp only [qL]; omega) rfl fun A4 cp4 hc4 hm4 hA4=>?_))
     refine (go 1) ?_
     refine hKN _ _ (S9 [2,4,5,7]) (yF 1 [6] [2,4,5,7] rfl fun KS hKS=>?_)
     refine (go 1) ?_
     refine zj hKS (zg 0 7 (zd (i:=7) rfl fun KN hKN hPN=>?_))
     refine (go 2) ?_
     refine hKN _ _ (S9 [2,4,5,7]) (zq (by kernel_rfl) (yG (ya (l++([wd4]:List ByteArray)) j7 m4 (q - 1) (.slice A4 ((l++([wd4]:List ByteArray)).length) cp4) (sc rfl (sc rfl (sc rfl (sc rfl sn)))) (S9 [3,4,1,2,5,6,7]) ?_ ?_)))
     ·have hY:=Pz.by_next hx1 (by rw [he4,h4]) h5 he5
      rw [Pz.then_ok] at hY
      exact ⟨hY.trans (by rw [show q - 1 + 1=q by omega]),by simp only [qL]; omega,by simp only [qL]; omega,by omega,by omega,by omega⟩
     omega
    refine zd (i:=3) rfl fun KN hKN hPN=>za (α:=ByteArray × Pz.St) (PT:=111) [Rb 114 p s j6 m,.pub zO] [Row (.slice A3 l.length cp3) 9 1 strE l,Row (.slice (some ⟨b54,0,none⟩) 1 1) 9 1 strE ([wd3]:List ByteArray),Row (.slice A1 Lg.totals.length cp1) 9 1 strE Lg.totals,.blk b6 [iV 3,iV 0,iV 0,.string wd1,Zs,.slice A3 l.length cp3,Zs] 59,.blk b4 Zx 59] (fun z:ByteArray × Pz.St=>.string z.1) (fun z9=>Pz.name s ⟨j6,m⟩=.ok z9∧Pz.Good s ⟨j6,m⟩ z9.2) (fun z9=>[Rb 114 p s z9.2.at_ z9.2.nd,.pub zO]) _ (fun f8=>Pz.name s ⟨j6,m⟩=.no f8) (fun _=>rfl) (S9 [0,1,2,3,4,5,6]) (fun _=>rfl) wn rfl rfl call211 rfl (fun w1 Pb hG=>vH p s j6 m  Pb w1 hG qO qO qO ) ?_ fun z9 hz11=>?_
    ·intro f8 hf8
     refine yo hPN (zz (yV (zz (zS (zW fun w1 hM=>?_)))))
     have hY:=Pz.by_next hx1 (by rw [he4,h4]) h5 hf8
     rw [Pz.then_no] at hY
     exact hM.zh f8 (by simp only [Pz.then_ok,Pz.then_no,Pz.St.go,lgc,Pz.all,Pz.bys,Pz.allTail,zB.e,zB.es,hz1e,he1,hz4e,he2,g1,g3,he3,he4,h1,hY])
    obtain ⟨wd5,j8,m5⟩:=z9
    have he6:Pz.name s ⟨j6,m⟩=.ok (wd5,⟨j8,m5⟩):=hz11.1
    have ga5:j8≤s.size:=hz11.2.at_
    have gm5:m≤m5:=hz11.2.mono
    have gn5:m5≤100:=hz11.2.most (show m≤100 by omega)
    have wz5:wd5.size≤12:=Pz.name_size (t:=⟨j6,m⟩) (show j6≤_ by omega) he6
    refine vD (.string wd5) ?_
    refine (go 1) ?_
    refine hKN _ _ (S9 [1,3,4,6]) (yS (f:=4) (i:=1) (j:=4) rfl (by kernel_rfl) ?_ ?_)
    ·refine zd (i:=1) rfl fun KN hKN hPN=>?_
     refine (go 2) ?_
     refine hKN _ _ (S9 [1,3,4,6]) (zg 3 4 (zd (i:=4) rfl fun KN hKN hPN=>zx strE ([wd5]:List ByteArray) wn underlying56 inf9 rfl rfl rfl rfl qD qD rfl fun b69=>?_))
     refine (go 1) ?_
     refine hKN _ _ (S9 [2,4,5,7]) (zg 2 5 (zd (i:=5) rfl fun KN hKN hPN=>yC 3 l ([wd5]:List ByteArray) encString wn rfl rfl rfl (fun _ hM=>(RowSl encString hM 0 rfl)) underlying56 inf9 rfl rfl (by simp only [qL]; omega) rfl fun A5 cp5 hc5 hm5 hA5=>?_))
     refine (go 1) ?_
     refine hKN _ _ (S9 [2,4,5,7]) (yF 1 [6] [2,4,5,7] rfl fun KS hKS=>?_)
     refine (go 1) ?_
     refine zj hKS (zg 0 7 (zd (i:=7) rfl fun KN hKN hPN=>?_))
     refine (go 2) ?_
     refine hKN _ _ (S9 [2,4,5,7]) (zq (by kernel_rfl) (yG (ya (l++([wd5]:List ByteArray)) j8 m5 (q - 1) (.slice A5 ((l++([wd5]:List ByteArray)).length) cp5) (sc rfl (sc rfl (sc rfl (sc rfl sn)))) (S9 [3,4,1,2,5,6,7]) ?_ ?_)))
     ·have hY:=Pz.by_next hx1 (by rw [he4,h4]) h5 he6
      rw [Pz.then_ok] at hY
      exact ⟨hY.trans (by rw [show q - 1 + 1=q by omega]),by simp only [qL]; omega,by simp only [qL]; omega,by omega,by omega,by omega⟩
     omega
    refine zd (i:=4) rfl fun KN hKN hPN=>zx strE ([wd5]:List ByteArray) wn underlying56 inf9 rfl rfl rfl rfl qD qD rfl fun b69=>?_
    refine (go 1) ?_
    refine hKN _ _ (S9 [2,4,5,7]) (zg 3 1 (zd (i:=1) rfl fun KN hKN hPN=>?_))
    refine (go 2) ?_
    refine hKN _ _ (S9 [2,4,5,7]) (zg 2 5 (zd (i:=5) rfl fun KN hKN hPN=>yC 3 l ([wd5]:List ByteArray) encString wn rfl rfl rfl (fun _ hM=>(RowSl encString hM 0 rfl)) underlying56 inf9 rfl rfl (by simp only [qL]; omega) rfl fun A6 cp6 hc6 hm6 hA6=>?_))
    refine (go 1) ?_
    refine hKN _ _ (S9 [2,4,5,7]) (yF 1 [6] [2,4,5,7] rfl fun KS hKS=>?_)
    refine (go 1) ?_
    refine zj hKS (zg 0 7 (zd (i:=7) rfl fun KN hKN hPN=>?_))
    refine (go 2) ?_
    refine hKN _ _ (S9 [2,4,5,7]) (zq (by kernel_rfl) (yG (ya (l++([wd5]:List ByteArray)) j8 m5 (q - 1) (.slice A6 ((l++([wd5]:List ByteArray)).length) cp6) (sc rfl (sc rfl (sc rfl (sc rfl sn)))) (S9 [3,4,1,2,5,6,7]) ?_ ?_)))
    ·have hY:=Pz.by_next hx1 (by rw [he4,h4]) h5 he6
     rw [Pz.then_ok] at hY
     exact ⟨hY.trans (by rw [show q - 1 + 1=q by omega]),by simp only [qL]; omega,by simp only [qL]; omega,by omega,by omega,by omega⟩
    omega
   have g4:bo1=false:=by simpa using h4
   have hx2:=Pz.by_done hI1.1 (by rw [he4,g4])
   refine (go 8) ?_
   refine za (α:=Pz.St) (PT:=111) [Rb 114 p s j6 m,.pub zO] [Row (.slice A3 l.length cp3) 9 1 strE l,Row (.slice (some ⟨b54,0,none⟩) 1 1) 9 1 strE ([wd3]:List ByteArray),Row (.slice A1 Lg.totals.length cp1) 9 1 strE Lg.totals,.blk b6 [iV 3,iV 0,iV 0,.string wd1,Zs,.slice A3 l.length cp3,Zs] 59,.blk b4 Zx 59] (fun z:Pz.St=>.tuple #[]) (fun z10=>Pz.must s ⟨#[40]⟩ ⟨j6,m⟩=.ok z10∧Pz.Good s ⟨j6,m⟩ z10) (fun z10=>[Rb 114 p s z10.at_ z10.nd,.pub zO]) _ (fun f9=>Pz.must s ⟨#[40]⟩ ⟨j6,m⟩=.no f9) (fun _=>rfl) (S9 [0,1,2,3,4,5,6]) (fun _=>rfl) wn rfl rfl call179 rfl (fun w1 Pb hG=>y6 p s j6 m ⟨#[40]⟩ Pb w1 hG qO qO qO ) ?_ fun z10 hz12=>?_
   ·intro f9 hf9
    refine zS (zW fun w1 hM=>?_)
    exact hM.zh f9 (by first | (simp only [Pz.then_ok,Pz.then_no,Pz.St.go,lgc,Pz.all,Pz.bys,Pz.allTail,zB.e,zB.es,hz1e,he1,hz4e,he2,g1,g3,he3,he4,g4,hx2,h1,h4,hf9]; done) | simp [Pz.then_ok,Pz.then_no,Pz.St.go,lgc,Pz.all,Pz.bys,Pz.allTail,zB.e,zB.es,hz1e,he1,hz4e,he2,g1,g3,he3,he4,g4,hx2,h1,h4,hf9])
   obtain ⟨j9,m6⟩:=z10
   have he7:Pz.must s ⟨#[40]⟩ ⟨j6,m⟩=.ok ⟨j9,m6⟩:=hz12.1
   have ga6:j9≤s.size:=hz12.2.at_
   have gm6:m≤m6:=hz12.2.mono
   have gn6:m6≤100:=hz12.2.most (show m≤100 by omega)
   refine (go 7) ?_
   refine za (α:=zB × Pz.St) (PT:=111) [Rb 114 p s j9 m6,.pub zO] [Row (.slice A3 l.length cp3) 9 1 strE l,Row (.slice (some ⟨b54,0,none⟩) 1 1) 9 1 strE ([wd3]:List ByteArray),Row (.slice A1 Lg.totals.length cp1) 9 1 strE Lg.totals,.blk b6 [iV 3,iV 0,iV 0,.string wd1,Zs,.slice A3 l.length cp3,Zs] 59,.blk b4 Zx 59] (fun z:zB × Pz.St=>.agg (zy z.1).toArray) (fun z11=>Pz.xpr s N ⟨j9,m6⟩=.ok (z11.1.e,z11.2)∧Pz.Good s ⟨j9,m6⟩ z11.2) (fun z11=>[Rb 114 p s z11.2.at_ z11.2.nd,.pub zO,okP zB.Ok z11.1]) _ (fun f10=>Pz.xpr s N ⟨j9,m6⟩=.no f10) (fun _=>rfl) (S9 [0,1,2,3,4,5,6]) (fun _=>rfl) wn rfl rfl call52 rfl (fun w1 Pb hG=>ih p s j9 m6 (d + 1) Pb w1 hG qO qO qO qO qO) ?_ fun z11 hz13=>?_
   ·intro f10 hf10
    refine zS (zW fun w1 hM=>?_)
    exact hM.zh f10 (by first | (simp only [Pz.then_ok,Pz.then_no,Pz.St.go,lgc,Pz.all,Pz.bys,Pz.allTail,zB.e,zB.es,hz1e,he1,hz4e,he2,g1,g3,he3,he4,g4,hx2,he7,h1,h4,hf10]; done) | simp [Pz.then_ok,Pz.then_no,Pz.St.go,lgc,Pz.all,Pz.bys,Pz.allTail,zB.e,zB.es,hz1e,he1,hz4e,he2,g1,g3,he3,he4,g4,hx2,he7,h1,h4,hf10])
   obtain ⟨x1,j10,m7⟩:=z11
   have he8:Pz.xpr s N ⟨j9,m6⟩=.ok (x1.e,⟨j10,m7⟩):=hz13.1
   have ga7:j10≤s.size:=hz13.2.at_
   have gm7:m6≤m7:=hz13.2.mono
   have gn7:m7≤100:=hz13.2.most (show m6≤100 by omega)
   refine zx zy ([x1]:List zB) wn underlying57 inf59 rfl rfl rfl rfl qD qD rfl fun b78=>?_
   refine (go 7) ?_
   refine za (α:=Pz.St) (PT:=111) [Rb 114 p s j10 m7,.pub zO] [Row (.slice (some ⟨b78,0,none⟩) 1 1) 59 7 zy ([x1]:List zB),okP zB.Ok x1,Row (.slice A3 l.length cp3) 9 1 strE l,Row (.slice (some ⟨b54,0,none⟩) 1 1) 9 1 strE ([wd3]:List ByteArray),Row (.slice A1 Lg.totals.length cp1) 9 1 strE Lg.totals,.blk b6 [iV 3,iV 0,iV 0,.string wd1,Zs,.slice A3 l.length cp3,.slice (some ⟨b78,0,none⟩) 1 1] 59,.blk b4 Zx 59] (fun z:Pz.St=>.tuple #[]) (fun z12=>Pz.must s ⟨#[41]⟩ ⟨j10,m7⟩=.ok z12∧Pz.Good s ⟨j10,m7⟩ z12) (fun z12=>[Rb 114 p s z12.at_ z12.nd,.pub zO]) _ (fun f11=>Pz.must s ⟨#[41]⟩ ⟨j10,m7⟩=.no f11) (fun _=>rfl) (S9 [1,2,0,3,4,5,6,7,8]) (fun _=>rfl) wn rfl rfl call179 rfl (fun w1 Pb hG=>y6 p s j10 m7 ⟨#[41]⟩ Pb w1 hG qO qO qO ) ?_ fun z12 hz14=>?_
   ·intro f11 hf11
    refine zS (zW fun w1 hM=>?_)
    exact hM.zh f11 (by first | (simp only [Pz.then_ok,Pz.then_no,Pz.St.go,lgc,Pz.all,Pz.bys,Pz.allTail,zB.e,zB.es,hz1e,he1,hz4e,he2,g1,g3,he3,he4,g4,hx2,he7,he8,h1,h4,hf11]; done) | simp [Pz.then_ok,Pz.then_no,Pz.St.go,lgc,Pz.all,Pz.bys,Pz.allTail,zB.e,zB.es,hz1e,he1,hz4e,he2,g1,g3,he3,he4,g4,hx2,he7,he8,h1,h4,hf11])
   obtain ⟨j11,m8⟩:=z12
   have he9:Pz.must s ⟨#[41]⟩ ⟨j10,m7⟩=.ok ⟨j11,m8⟩:=hz14.1
   have ga8:j11≤s.size:=hz14.2.at_
   have gm8:m7≤m8:=hz14.2.mono
   have gn8:m8≤100:=hz14.2.most (show m7≤100 by omega)
   refine (go 6) ?_
   refine y9 4 0 encString rfl rfl (fp2) (y9 2 0 encExprX rfl rfl (fp2) (vz (fun _ h=>h.exprG (k:=3) (n:=0) (r:=0) (wd:=wd1) (ms:=⟨none,0,[]⟩) (bs:=⟨A3,cp3,l⟩) (ks:=⟨(some ⟨b78,0,none⟩),1,([x1]:List zB)⟩) (fun _ _=>zD.zu _ _ _ _) (fun _ pp=>pp.sl 4 rfl) (fun _ pp=>pp.sl 2 rfl) (fun _ pp x hx=>by simp only [List.mem_cons,List.not_mem_nil,or_false] at hx; rcases hx with rfl <;> first | exact pp.at_ 3 _ rfl) (by first | decide | omega) (fun x hx=>by cases hx) (fun x hx=>by have:=Pz.byL_size 5 (by show _≤s.size; omega) hx2 (fun y hy=>by rw [List.mem_singleton.1 hy]; omega) x hx; omega)) (za (α:=Unit) (PT:=111) [Rb 114 p s j11 m8,.pub zO] [okP zB.Ok (zB.mk 3 0 0 wd1 ⟨none,0,[]⟩ ⟨A3,cp3,l⟩ ⟨(some ⟨b78,0,none⟩),1,([x1]:List zB)⟩),slP 7 zy (.slice (some ⟨b78,0,none⟩) 1 1) ([x1]:List zB),okP zB.Ok x1,slP 1 strE (.slice A3 l.length cp3) l,Row (.slice (some ⟨b54,0,none⟩) 1 1) 9 1 strE ([wd3]:List ByteArray),Row (.slice A1 Lg.totals.length cp1) 9 1 strE Lg.totals,.blk b6 [iV 3,iV 0,iV 0,.string wd1,Zs,.slice A3 l.length cp3,.slice (some ⟨b78,0,none⟩) 1 1] 59,.blk b4 Zx 59] (fun _:Unit=>.agg (List.toArray [iV 3,iV 0,iV 0,.string wd1,Zs,.slice A3 l.length cp3,.slice (some ⟨b78,0,none⟩) 1 1])) (fun z13=>m8 + 1≤100) (fun z13=>[Rb 114 p s j11 (m8 + 1),.pub zO]) _ (fun f12=>Pz.node ⟨j11,m8⟩=.no f12) (fun _=>rfl) (S9 [1,2,0,3,4,5,6,7,8,9]) (fun _=>rfl) wn rfl rfl call99 rfl (fun w1 Pb hG=>vp p s j11 m8 3 0 0 wd1 none 0 0 A3 l.length cp3 (some ⟨b78,0,none⟩) 1 1 Pb w1 hG qO qO qO) ?_ fun z13 hz15=>?_)))
   ·intro f12 hf12
    refine zS (zW fun w1 hM=>?_)
    exact hM.zh f12 (by first | (simp only [Pz.then_ok,Pz.then_no,Pz.St.go,lgc,Pz.all,Pz.bys,Pz.allTail,zB.e,zB.es,hz1e,he1,hz4e,he2,g1,g3,he3,he4,g4,hx2,he7,he8,he9,h1,h4,hf12]; done) | simp [Pz.then_ok,Pz.then_no,Pz.St.go,lgc,Pz.all,Pz.bys,Pz.allTail,zB.e,zB.es,hz1e,he1,hz4e,he2,g1,g3,he3,he4,g4,hx2,he7,he8,he9,h1,h4,hf12])
   have he10:Pz.node ⟨j11,m8⟩=.ok ⟨j11,m8 + 1⟩:=Pz.node_yes hz15
   refine (go 4) (zZ results181 fun w1 hM=>?_)
   have h9:Pz.all s (Pz.xpr s N) ⟨i,n⟩=.ok ((zB.mk 3 0 0 wd1 ⟨none,0,[]⟩ ⟨A3,cp3,l⟩ ⟨(some ⟨b78,0,none⟩),1,([x1]:List zB)⟩).e,⟨j11,(m8 + 1)⟩):=by first | (simp only [Pz.then_ok,Pz.then_no,Pz.St.go,lgc,Pz.all,Pz.bys,Pz.allTail,zB.e,zB.es,hz1e,he1,hz4e,he2,g1,g3,he3,he4,g4,hx2,he7,he8,he9,he10,h1,h4]; done) | simp [Pz.then_ok,Pz.then_no,Pz.St.go,lgc,Pz.all,Pz.bys,Pz.allTail,zB.e,zB.es,hz1e,he1,hz4e,he2,g1,g3,he3,he4,g4,hx2,he7,he8,he9,he10,h1,h4]
   exact hM.ve (((zB.mk 3 0 0 wd1 ⟨none,0,[]⟩ ⟨A3,cp3,l⟩ ⟨(some ⟨b78,0,none⟩),1,([x1]:List zB)⟩),⟨j11,(m8 + 1)⟩):zB × Pz.St) rfl ⟨h9,(Pz.all_fine (Pz.xpr_fine s N) hi).ok_ h9⟩ (fun h=>h.sel [0,1,2] qD rfl)
  refine zd (i:=3) rfl fun KN hKN hPN=>za (α:=ByteArray × Pz.St) (PT:=111) [Rb 114 p s j4 m2,.pub zO] [Row (.slice A1 Lg.totals.length cp1) 9 1 strE Lg.totals,.blk b6 [iV 3,iV 0,iV 0,.string wd1,Zs,Zs,Zs] 59,.blk b4 Zx 59] (fun z:ByteArray × Pz.St=>.string z.1) (fun z14=>Pz.name s ⟨j4,m2⟩=.ok z14∧Pz.Good s ⟨j4,m2⟩ z14.2) (fun z14=>[Rb 114 p s z14.2.at_ z14.2.nd,.pub zO]) _ (fun f13=>Pz.name s ⟨j4,m2⟩=.no f13) (fun _=>rfl) (S9 [0,1,2,3,4]) (fun _=>rfl) wn rfl rfl call211 rfl (fun w1 Pb hG=>vH p s j4 m2  Pb w1 hG qO qO qO ) ?_ fun z14 hz16=>?_
  ·intro f13 hf13
   refine yo hPN (zS (zS (zW fun w1 hM=>?_)))
   exact hM.zh f13 (by first | (simp only [Pz.then_ok,Pz.then_no,Pz.St.go,lgc,Pz.all,Pz.bys,Pz.allTail,zB.e,zB.es,hz1e,he1,hz4e,he2,g1,g3,h1,hf13]; done) | simp [Pz.then_ok,Pz.then_no,Pz.St.go,lgc,Pz.all,Pz.bys,Pz.allTail,zB.e,zB.es,hz1e,he1,hz4e,he2,g1,g3,h1,hf13])
  obtain ⟨wd6,j12,m9⟩:=z14
  have he11:Pz.name s ⟨j4,m2⟩=.ok (wd6,⟨j12,m9⟩):=hz16.1
  have ga9:j12≤s.size:=hz16.2.at_
  have gm9:m2≤m9:=hz16.2.mono
  have gn9:m9≤100:=hz16.2.most (show m2≤100 by omega)
  have wz6:wd6.size≤12:=Pz.name_size (t:=⟨j4,m2⟩) (show j4≤_ by omega) he11
  refine vD (.string wd6) ?_
  refine (go 1) ?_
  refine hKN _ _ (S9 [1,2,4]) (yS (f:=4) (i:=1) (j:=4) rfl (by kernel_rfl) ?_ ?_)
  ·refine zd (i:=1) rfl fun KN hKN hPN=>?_
   refine (go 2) ?_
   refine hKN _ _ (S9 [1,2,4]) (zg 3 4 (zd (i:=4) rfl fun KN hKN hPN=>zx strE ([wd6]:List ByteArray) wn underlying56 inf9 rfl rfl rfl rfl qD qD rfl fun b54=>?_))
   refine (go 1) ?_
   refine hKN _ _ (S9 [2,3,5]) (zg 2 5 (zd (i:=5) rfl fun KN hKN hPN=>yI (strE:ByteArray→List Value) 9 1 (yC 0 ([]:List ByteArray) ([wd6]:List ByteArray) encString wn rfl rfl rfl (fun _ hM=>(RowSl encString hM 1 rfl)) underlying56 inf9 rfl rfl (by simp only [qL]; omega) rfl fun A7 cp7 hc7 hm7 hA7=>?_)))
   refine (go 1) ?_
   refine hKN _ _ (S9 [3,4,6]) (yF 1 [6] [3,4,6] rfl fun KS hKS=>?_)
   refine (go 1) ?_
   refine zj hKS (zg 0 7 (zd (i:=7) rfl fun KN hKN hPN=>?_))
   refine (go 2) ?_
   refine hKN _ _ (S9 [3,4,6]) ?_
   refine zq (by kernel_rfl) ((go 1) ?_)
   refine (go 1) ?_
   refine ug (fun (l:List ByteArray) (k:Nat) (m:Int) (q:Nat) (rv:Value)=>[(0,.pointer (some ⟨p,0,none⟩)),(1,iV d),(4,.pointer (some ⟨b4,0,none⟩)),(6,.pointer (some ⟨b6,0,none⟩))]) (fun (l:List ByteArray) (k:Nat) (m:Int) (q:Nat) (rv:Value)=>[Row rv 9 1 strE l,Row (.slice (some ⟨b54,0,none⟩) 1 1) 9 1 strE ([wd6]:List ByteArray),Rb 114 p s k m,.pub zO,Row (.slice A1 Lg.totals.length cp1) 9 1 strE Lg.totals,.blk b6 [iV 3,iV 0,iV 0,.string wd1,Zs,rv,Zs] 59,.blk b4 Zx 59]) (fun (l:List ByteArray) (k:Nat) (m:Int) (q:Nat) (rv:Value)=>Pz.byL s 5 [wd6] ⟨j12,m9⟩=Pz.byL s (q + 1) l ⟨k,m⟩∧l.length + q=5∧l.length≤4∧k≤s.size∧m9≤m∧m≤100) (fun (l:List ByteArray) (k:Nat) (m:Int) (q:Nat) (rv:Value)=>q) (([]:List ByteArray)++([wd6]:List ByteArray)) j12 m9 4 (.slice A7 ((([]:List ByteArray)++([wd6]:List ByteArray)).length) cp7) (sc rfl (sc rfl (sc rfl (sc rfl sn)))) (fun _ h=>h) ?_ (fun l k m q rv hI2=>?_)
   ·exact ⟨rfl,rfl,by simp,by omega,by omega,by omega⟩
   refine yW 0 (l:=l) rfl fun A8 cp8 hv2 hc8 hm8 hA8=>?_
   subst hv2
   refine (go 4) ?_
   refine yQ (α:=(Bool × Nat)) [Rb 114 p s k m,.pub zO] [Row (.slice A8 l.length cp8) 9 1 strE l,Row (.slice (some ⟨b54,0,none⟩) 1 1) 9 1 strE ([wd6]:List ByteArray),Row (.slice A1 Lg.totals.length cp1) 9 1 strE Lg.totals,.blk b6 [iV 3,iV 0,iV 0,.string wd1,Zs,.slice A8 l.length cp8,Zs] 59,.blk b4 Zx 59] (fun z:Bool × Nat=>.bool z.1) (fun z15=>(Pz.eat s ⟨#[44]⟩ k=z15∧k≤z15.2∧z15.2≤s.size)) (fun z15=>[Rb 114 p s z15.2 m,.pub zO]) _ (fun _=>rfl) (S9 [2,3,0,1,4,5,6]) (fun _=>rfl) wn rfl rfl call98 rfl (fun w1 Pb hG=>vw p s k m ⟨#[44]⟩ Pb w1 hG qO qO) fun z15 hz17=>?_
   obtain ⟨bo2,j13⟩:=z15
   have he12:Pz.eat s ⟨#[44]⟩ k=(bo2,j13):=hz17.1
   have hz17a:k≤j13:=hz17.2.1
   have hz17b:j13≤s.size:=hz17.2.2
   refine vD (.bool bo2) ?_
   refine (go 2) (yc (fun h6=>?_) fun h6=>?_)
   ·have hx3:=hI2.1
    refine (go 12) (zY (fun h7=>?_) fun h7=>?_)
    ·refine (go 2) ?_
     refine za (α:=Unit) (PT:=111) [Rb 114 p s j13 m,.pub zO] [Row (.slice A8 l.length cp8) 9 1 strE l,Row (.slice (some ⟨b54,0,none⟩) 1 1) 9 1 strE ([wd6]:List ByteArray),Row (.slice A1 Lg.totals.length cp1) 9 1 strE Lg.totals,.blk b6 [iV 3,iV 0,iV 0,.string wd1,Zs,.slice A8 l.length cp8,Zs] 59,.blk b4 Zx 59] (fun _:Unit=>.tuple #[]) (fun z16=>False) (fun z16=>[Rb 114 p s j13 m,.pub zO]) _ (fun f14=>f14=(5,(j13:Int))) (fun _=>rfl) (S9 [0,1,2,3,4,5,6]) (fun _=>rfl) wn rfl rfl call54 rfl (fun w1 Pb hG=>yj p s j13 m 5 Pb w1 hG) ?_ fun z16 hz18=>?_
     ·intro f14 hf14
      refine zS (zz (yV (zz (zS (zW fun w1 hM=>?_)))))
      have hY:=Pz.by_many hx3 (by rw [he12,h6]) h7
      exact hM.zh f14 (by simp only [Pz.then_ok,Pz.then_no,Pz.St.go,lgc,Pz.all,Pz.bys,Pz.allTail,zB.e,zB.es,hz1e,he1,hz4e,he2,g1,g3,he11,he12,h1,hY,hf14])
     exact hz18.elim
    refine (go 2) ?_
    refine yL (Mem w ⟨fpOf [Rb 114 p s i n,.pub zO],Pb⟩ [.pub zO,Row (.slice (some ⟨b54,0,none⟩) 1 1) 9 1 strE ([wd6]:List ByteArray),Row (.slice A1 Lg.totals.length cp1) 9 1 strE Lg.totals,.blk b4 Zx 59]) mix (fun _ h=>h.drew) rfl (yF 6 [0,2] [1,3,4,6] rfl fun KS hKS=>?_)
    refine (go 2) ?_
    refine zj hKS (yS (f:=5) (i:=1) (j:=3) rfl (by kernel_rfl) ?_ ?_)
    ·refine zd (i:=1) rfl fun KN hKN hPN=>?_
     refine (go 2) ?_
     refine hKN _ _ (S9 [1,3,4,6]) (zg 4 3 (zd (i:=3) rfl fun KN hKN hPN=>za (α:=ByteArray × Pz.St) (PT:=111) [Rb 114 p s j13 m,.pub zO] [Row (.slice A8 l.length cp8) 9 1 strE l,Row (.slice (some ⟨b54,0,none⟩) 1 1) 9 1 strE ([wd6]:List ByteArray),Row (.slice A1 Lg.totals.length cp1) 9 1 strE Lg.totals,.blk b6 [iV 3,iV 0,iV 0,.string wd1,Zs,.slice A8 l.length cp8,Zs] 59,.blk b4 Zx 59] (fun z:ByteArray × Pz.St=>.string z.1) (fun z17=>Pz.name s ⟨j13,m⟩=.ok z17∧Pz.Good s ⟨j13,m⟩ z17.2) (fun z17=>[Rb 114 p s z17.2.at_ z17.2.nd,.pub zO]) _ (fun f15=>Pz.name s ⟨j13,m⟩=.no f15) (fun _=>rfl) (S9 [0,1,2,3,4,5,6]) (fun _=>rfl) wn rfl rfl call211 rfl (fun w1 Pb hG=>vH p s j13 m  Pb w1 hG qO qO qO ) ?_ fun z17 hz19=>?_))
     ·intro f15 hf15
      refine yo hPN (zz (yV (zz (zS (zW fun w1 hM=>?_)))))
      have hY:=Pz.by_next hx3 (by rw [he12,h6]) h7 hf15
      rw [Pz.then_no] at hY
      exact hM.zh f15 (by simp only [Pz.then_ok,Pz.then_no,Pz.St.go,lgc,Pz.all,Pz.bys,Pz.allTail,zB.e,zB.es,hz1e,he1,hz4e,he2,g1,g3,he11,he12,h1,hY])
     obtain ⟨wd7,j14,m10⟩:=z17
     have he13:Pz.name s ⟨j13,m⟩=.ok (wd7,⟨j14,m10⟩):=hz19.1
     have ga10:j14≤s.size:=hz19.2.at_
     have gm10:m≤m10:=hz19.2.mono
     have gn10:m10≤100:=hz19.2.most (show m≤100 by omega)
     have wz7:wd7.size≤12:=Pz.name_size (t:=⟨j13,m⟩) (show j13≤_ by omega) he13
     refine vD (.string wd7) ?_
     refine (go 1) ?_
     refine hKN _ _ (S9 [1,3,4,6]) (zg 3 4 (zd (i:=4) rfl fun KN hKN hPN=>zx strE ([wd7]:List ByteArray) wn underlying56 inf9 rfl rfl rfl rfl qD qD rfl fun b69=>?_))
     refine (go 1) ?_
     refine hKN _ _ (S9 [2,4,5,7]) (zg 2 5 (zd (i:=5) rfl fun KN hKN hPN=>yC 3 l ([wd7]:List ByteArray) encString wn rfl rfl rfl (fun _ hM=>(RowSl encString hM 0 rfl)) underlying56 inf9 rfl rfl (by simp only [qL]; omega) rfl fun A9 cp9 hc9 hm9 hA9=>?_))
     refine (go 1) ?_
     refine hKN _ _ (S9 [2,4,5,7]) (yF 1 [6] [2,4,5,7] rfl fun KS hKS=>?_)
     refine (go 1) ?_
     refine zj hKS (zg 0 7 (zd (i:=7) rfl fun KN hKN hPN=>?_))
     refine (go 2) ?_
     refine hKN _ _ (S9 [2,4,5,7]) (zq (by kernel_rfl) (yG (ya (l++([wd7]:List ByteArray)) j14 m10 (q - 1) (.slice A9 ((l++([wd7]:List ByteArray)).length) cp9) (sc rfl (sc rfl (sc rfl (sc rfl sn)))) (S9 [3,4,1,2,5,6,7]) ?_ ?_)))
     ·have hY:=Pz.by_next hx3 (by rw [he12,h6]) h7 he13
      rw [Pz.then_ok] at hY
      exact ⟨hY.trans (by rw [show q - 1 + 1=q by omega]),by simp only [qL]; omega,by simp only [qL]; omega,by omega,by omega,by omega⟩
     omega
    refine zd (i:=3) rfl fun KN hKN hPN=>za (α:=ByteArray × Pz.St) (PT:=111) [Rb 114 p s j13 m,.pub zO] [Row (.slice A8 l.length cp8) 9 1 strE l,Row (.slice (some ⟨b54,0,none⟩) 1 1) 9 1 strE ([wd6]:List ByteArray),Row (.slice A1 Lg.totals.length cp1) 9 1 strE Lg.totals,.blk b6 [iV 3,iV 0,iV 0,.string wd1,Zs,.slice A8 l.length cp8,Zs] 59,.blk b4 Zx 59] (fun z:ByteArray × Pz.St=>.string z.1) (fun z18=>Pz.name s ⟨j13,m⟩=.ok z18∧Pz.Good s ⟨j13,m⟩ z18.2) (fun z18=>[Rb 114 p s z18.2.at_ z18.2.nd,.pub zO]) _ (fun f16=>Pz.name s ⟨j13,m⟩=.no f16) (fun _=>rfl) (S9 [0,1,2,3,4,5,6]) (fun _=>rfl) wn rfl rfl call211 rfl (fun w1 Pb hG=>vH p s j13 m  Pb w1 hG qO qO qO ) ?_ fun z18 hz20=>?_
    ·intro f16 hf16
     refine yo hPN (zz (yV (zz (zS (zW fun w1 hM=>?_)))))
     have hY:=Pz.by_next hx3 (by rw [he12,h6]) h7 hf16
     rw [Pz.then_no] at hY
     exact hM.zh f16 (by simp only [Pz.then_ok,Pz.then_no,Pz.St.go,lgc,Pz.all,Pz.bys,Pz.allTail,zB.e,zB.es,hz1e,he1,hz4e,he2,g1,g3,he11,he12,h1,hY])
    obtain ⟨wd8,j15,m11⟩:=z18
    have he14:Pz.name s ⟨j13,m⟩=.ok (wd8,⟨j15,m11⟩):=hz20.1
    have ga11:j15≤s.size:=hz20.2.at_
    have gm11:m≤m11:=hz20.2.mono
    have gn11:m11≤100:=hz20.2.most (show m≤100 by omega)
    have wz8:wd8.size≤12:=Pz.name_size (t:=⟨j13,m⟩) (show j13≤_ by omega) he14
    refine vD (.string wd8) ?_
    refine (go 1) ?_
    refine hKN _ _ (S9 [1,3,4,6]) (yS (f:=4) (i:=1) (j:=4) rfl (by kernel_rfl) ?_ ?_)
    ·refine zd (i:=1) rfl fun KN hKN hPN=>?_
     refine (go 2) ?_
     refine hKN _ _ (S9 [1,3,4,6]) (zg 3 4 (zd (i:=4) rfl fun KN hKN hPN=>zx strE ([wd8]:List ByteArray) wn underlying56 inf9 rfl rfl rfl rfl qD qD rfl fun b69=>?_))
     refine (go 1) ?_
     refine hKN _ _ (S9 [2,4,5,7]) (zg 2 5 (zd (i:=5) rfl fun KN hKN hPN=>yC 3 l ([wd8]:List ByteArray) encString wn rfl rfl rfl (fun _ hM=>(RowSl encString hM 0 rfl)) underlying56 inf9 rfl rfl (by simp only [qL]; omega) rfl fun A10 cp10 hc10 hm10 hA10=>?_))
     refine (go 1) ?_
     refine hKN _ _ (S9 [2,4,5,7]) (yF 1 [6] [2,4,5,7] rfl fun KS hKS=>?_)
     refine (go 1) ?_
     refine zj hKS (zg 0 7 (zd (i:=7) rfl fun KN hKN hPN=>?_))
     refine (go 2) ?_
     refine hKN _ _ (S9 [2,4,5,7]) (zq (by kernel_rfl) (yG (ya (l++([wd8]:List ByteArray)) j15 m11 (q - 1) (.slice A10 ((l++([wd8]:List ByteArray)).length) cp10) (sc rfl (sc rfl (sc rfl (sc rfl sn)))) (S9 [3,4,1,2,5,6,7]) ?_ ?_)))
     ·have hY:=Pz.by_next hx3 (by rw [he12,h6]) h7 he14
      rw [Pz.then_ok] at hY
      exact ⟨hY.trans (by rw [show q - 1 + 1=q by omega]),by simp only [qL]; omega,by simp only [qL]; omega,by omega,by omega,by omega⟩
     omega
    refine zd (i:=4) rfl fun KN hKN hPN=>zx strE ([wd8]:List ByteArray) wn underlying56 inf9 rfl rfl rfl rfl qD qD rfl fun b69=>?_
    refine (go 1) ?_
    refine hKN _ _ (S9 [2,4,5,7]) (zg 3 1 (zd (i:=1) rfl fun KN hKN hPN=>?_))
    refine (go 2) ?_
    refine hKN _ _ (S9 [2,4,5,7]) (zg 2 5 (zd (i:=5) rfl fun KN hKN hPN=>yC 3 l ([wd8]:List ByteArray) encString wn rfl rfl rfl (fun _ hM=>(RowSl encString hM 0 rfl)) underlying56 inf9 rfl rfl (by simp only [qL]; omega) rfl fun A11 cp11 hc11 hm11 hA11=>?_))
    refine (go 1) ?_
    refine hKN _ _ (S9 [2,4,5,7]) (yF 1 [6] [2,4,5,7] rfl fun KS hKS=>?_)
    refine (go 1) ?_
    refine zj hKS (zg 0 7 (zd (i:=7) rfl fun KN hKN hPN=>?_))
    refine (go 2) ?_
    refine hKN _ _ (S9 [2,4,5,7]) (zq (by kernel_rfl) (yG (ya (l++([wd8]:List ByteArray)) j15 m11 (q - 1) (.slice A11 ((l++([wd8]:List ByteArray)).length) cp11) (sc rfl (sc rfl (sc rfl (sc rfl sn)))) (S9 [3,4,1,2,5,6,7]) ?_ ?_)))
    ·have hY:=Pz.by_next hx3 (by rw [he12,h6]) h7 he14
     rw [Pz.then_ok] at hY
     exact ⟨hY.trans (by rw [show q - 1 + 1=q by omega]),by simp only [qL]; omega,by simp only [qL]; omega,by omega,by omega,by omega⟩
    omega
   have g5:bo2=false:=by simpa using h6
   have hx4:=Pz.by_done hI2.1 (by rw [he12,g5])
   refine (go 8) ?_
   refine za (α:=Pz.St) (PT:=111) [Rb 114 p s j13 m,.pub zO] [Row (.slice A8 l.length cp8) 9 1 strE l,Row (.slice (some ⟨b54,0,none⟩) 1 1) 9 1 strE ([wd6]:List ByteArray),Row (.slice A1 Lg.totals.length cp1) 9 1 strE Lg.totals,.blk b6 [iV 3,iV 0,iV 0,.string wd1,Zs,.slice A8 l.length cp8,Zs] 59,.blk b4 Zx 59] (fun z:Pz.St=>.tuple #[]) (fun z19=>Pz.must s ⟨#[40]⟩ ⟨j13,m⟩=.ok z19∧Pz.Good s ⟨j13,m⟩ z19) (fun z19=>[Rb 114 p s z19.at_ z19.nd,.pub zO]) _ (fun f17=>Pz.must s ⟨#[40]⟩ ⟨j13,m⟩=.no f17) (fun _=>rfl) (S9 [0,1,2,3,4,5,6]) (fun _=>rfl) wn rfl rfl call179 rfl (fun w1 Pb hG=>y6 p s j13 m ⟨#[40]⟩ Pb w1 hG qO qO qO ) ?_ fun z19 hz21=>?_
   ·intro f17 hf17
    refine zS (zW fun w1 hM=>?_)
    exact hM.zh f17 (by first | (simp only [Pz.then_ok,Pz.then_no,Pz.St.go,lgc,Pz.all,Pz.bys,Pz.allTail,zB.e,zB.es,hz1e,he1,hz4e,he2,g1,g3,he11,he12,g5,hx4,h1,h6,hf17]; done) | simp [Pz.then_ok,Pz.then_no,Pz.St.go,lgc,Pz.all,Pz.bys,Pz.allTail,zB.e,zB.es,hz1e,he1,hz4e,he2,g1,g3,he11,he12,g5,hx4,h1,h6,hf17])
   obtain ⟨j16,m12⟩:=z19
   have he15:Pz.must s ⟨#[40]⟩ ⟨j13,m⟩=.ok ⟨j16,m12⟩:=hz21.1
   have ga12:j16≤s.size:=hz21.2.at_
   have gm12:m≤m12:=hz21.2.mono
   have gn12:m12≤100:=hz21.2.most (show m≤100 by omega)
   refine (go 7) ?_
   refine za (α:=zB × Pz.St) (PT:=111) [Rb 114 p s j16 m12,.pub zO] [Row (.slice A8 l.length cp8) 9 1 strE l,Row (.slice (some ⟨b54,0,none⟩) 1 1) 9 1 strE ([wd6]:List ByteArray),Row (.slice A1 Lg.totals.length cp1) 9 1 strE Lg.totals,.blk b6 [iV 3,iV 0,iV 0,.string wd1,Zs,.slice A8 l.length cp8,Zs] 59,.blk b4 Zx 59] (fun z:zB × Pz.St=>.agg (zy z.1).toArray) (fun z20=>Pz.xpr s N ⟨j16,m12⟩=.ok (z20.1.e,z20.2)∧Pz.Good s ⟨j16,m12⟩ z20.2) (fun z20=>[Rb 114 p s z20.2.at_ z20.2.nd,.pub zO,okP zB.Ok z20.1]) _ (fun f18=>Pz.xpr s N ⟨j16,m12⟩=.no f18) (fun _=>rfl) (S9 [0,1,2,3,4,5,6]) (fun _=>rfl) wn rfl rfl call52 rfl (fun w1 Pb hG=>ih p s j16 m12 (d + 1) Pb w1 hG qO qO qO qO qO) ?_ fun z20 hz22=>?_
   ·intro f18 hf18
    refine zS (zW fun w1 hM=>?_)
    exact hM.zh f18 (by first | (simp only [Pz.then_ok,Pz.then_no,Pz.St.go,lgc,Pz.all,Pz.bys,Pz.allTail,zB.e,zB.es,hz1e,he1,hz4e,he2,g1,g3,he11,he12,g5,hx4,he15,h1,h6,hf18]; done) | simp [Pz.then_ok,Pz.then_no,Pz.St.go,lgc,Pz.all,Pz.bys,Pz.allTail,zB.e,zB.es,hz1e,he1,hz4e,he2,g1,g3,he11,he12,g5,hx4,he15,h1,h6,hf18])
   obtain ⟨x2,j17,m13⟩:=z20
   have he16:Pz.xpr s N ⟨j16,m12⟩=.ok (x2.e,⟨j17,m13⟩):=hz22.1
   have ga13:j17≤s.size:=hz22.2.at_
   have gm13:m12≤m13:=hz22.2.mono
   have gn13:m13≤100:=hz22.2.most (show m12≤100 by omega)
   refine zx zy ([x2]:List zB) wn underlying57 inf59 rfl rfl rfl rfl qD qD rfl fun b78=>?_
   refine (go 7) ?_
   refine za (α:=Pz.St) (PT:=111) [Rb 114 p s j17 m13,.pub zO] [Row (.slice (some ⟨b78,0,none⟩) 1 1) 59 7 zy ([x2]:List zB),okP zB.Ok x2,Row (.slice A8 l.length cp8) 9 1 strE l,Row (.slice (some ⟨b54,0,none⟩) 1 1) 9 1 strE ([wd6]:List ByteArray),Row (.slice A1 Lg.totals.length cp1) 9 1 strE Lg.totals,.blk b6 [iV 3,iV 0,iV 0,.string wd1,Zs,.slice A8 l.length cp8,.slice (some ⟨b78,0,none⟩) 1 1] 59,.blk b4 Zx 59] (fun z:Pz.St=>.tuple #[]) (fun z21=>Pz.must s ⟨#[41]⟩ ⟨j17,m13⟩=.ok z21∧Pz.Good s ⟨j17,m13⟩ z21) (fun z21=>[Rb 114 p s z21.at_ z21.nd,.pub zO]) _ (fun f19=>Pz.must s ⟨#[41]⟩ ⟨j17,m13⟩=.no f19) (fun _=>rfl) (S9 [1,2,0,3,4,5,6,7,8]) (fun _=>rfl) wn rfl rfl call179 rfl (fun w1 Pb hG=>y6 p s j17 m13 ⟨#[41]⟩ Pb w1 hG qO qO qO ) ?_ fun z21 hz23=>?_
   ·intro f19 hf19
    refine zS (zW fun w1 hM=>?_)
    exact hM.zh f19 (by first | (simp only [Pz.then_ok,Pz.then_no,Pz.St.go,lgc,Pz.all,Pz.bys,Pz.allTail,zB.e,zB.es,hz1e,he1,hz4e,he2,g1,g3,he11,he12,g5,hx4,he15,he16,h1,h6,hf19]; done) | simp [Pz.then_ok,Pz.then_no,Pz.St.go,lgc,Pz.all,Pz.bys,Pz.allTail,zB.e,zB.es,hz1e,he1,hz4e,he2,g1,g3,he11,he12,g5,hx4,he15,he16,h1,h6,hf19])
   obtain ⟨j18,m14⟩:=z21
   have he17:Pz.must s ⟨#[41]⟩ ⟨j17,m13⟩=.ok ⟨j18,m14⟩:=hz23.1
   have ga14:j18≤s.size:=hz23.2.at_
   have gm14:m13≤m14:=hz23.2.mono
   have gn14:m14≤100:=hz23.2.most (show m13≤100 by omega)
   refine (go 6) ?_
   refine y9 4 0 encString rfl rfl (fp2) (y9 2 0 encExprX rfl rfl (fp2) (vz (fun _ h=>h.exprG (k:=3) (n:=0) (r:=0) (wd:=wd1) (ms:=⟨none,0,[]⟩) (bs:=⟨A8,cp8,l⟩) (ks:=⟨(some ⟨b78,0,none⟩),1,([x2]:List zB)⟩) (fun _ _=>zD.zu _ _ _ _) (fun _ pp=>pp.sl 4 rfl) (fun _ pp=>pp.sl 2 rfl) (fun _ pp x hx=>by simp only [List.mem_cons,List.not_mem_nil,or_false] at hx; rcases hx with rfl <;> first | exact pp.at_ 3 _ rfl) (by first | decide | omega) (fun x hx=>by cases hx) (fun x hx=>by have:=Pz.byL_size 5 (by show _≤s.size; omega) hx4 (fun y hy=>by rw [List.mem_singleton.1 hy]; omega) x hx; omega)) (za (α:=Unit) (PT:=111) [Rb 114 p s j18 m14,.pub zO] [okP zB.Ok (zB.mk 3 0 0 wd1 ⟨none,0,[]⟩ ⟨A8,cp8,l⟩ ⟨(some ⟨b78,0,none⟩),1,([x2]:List zB)⟩),slP 7 zy (.slice (some ⟨b78,0,none⟩) 1 1) ([x2]:List zB),okP zB.Ok x2,slP 1 strE (.slice A8 l.length cp8) l,Row (.slice (some ⟨b54,0,none⟩) 1 1) 9 1 strE ([wd6]:List ByteArray),Row (.slice A1 Lg.totals.length cp1) 9 1 strE Lg.totals,.blk b6 [iV 3,iV 0,iV 0,.string wd1,Zs,.slice A8 l.length cp8,.slice (some ⟨b78,0,none⟩) 1 1] 59,.blk b4 Zx 59] (fun _:Unit=>.agg (List.toArray [iV 3,iV 0,iV 0,.string wd1,Zs,.slice A8 l.length cp8,.slice (some ⟨b78,0,none⟩) 1 1])) (fun z22=>m14 + 1≤100) (fun z22=>[Rb 114 p s j18 (m14 + 1),.pub zO]) _ (fun f20=>Pz.node ⟨j18,m14⟩=.no f20) (fun _=>rfl) (S9 [1,2,0,3,4,5,6,7,8,9]) (fun _=>rfl) wn rfl rfl call99 rfl (fun w1 Pb hG=>vp p s j18 m14 3 0 0 wd1 none 0 0 A8 l.length cp8 (some ⟨b78,0,none⟩) 1 1 Pb w1 hG qO qO qO) ?_ fun z22 hz24=>?_)))
   ·intro f20 hf20
    refine zS (zW fun w1 hM=>?_)
    exact hM.zh f20 (by first | (simp only [Pz.then_ok,Pz.then_no,Pz.St.go,lgc,Pz.all,Pz.bys,Pz.allTail,zB.e,zB.es,hz1e,he1,hz4e,he2,g1,g3,he11,he12,g5,hx4,he15,he16,he17,h1,h6,hf20]; done) | simp [Pz.then_ok,Pz.then_no,Pz.St.go,lgc,Pz.all,Pz.bys,Pz.allTail,zB.e,zB.es,hz1e,he1,hz4e,he2,g1,g3,he11,he12,g5,hx4,he15,he16,he17,h1,h6,hf20])
   have he18:Pz.node ⟨j18,m14⟩=.ok ⟨j18,m14 + 1⟩:=Pz.node_yes hz24
   refine (go 4) (zZ results181 fun w1 hM=>?_)
   have h9:Pz.all s (Pz.xpr s N) ⟨i,n⟩=.ok ((zB.mk 3 0 0 wd1 ⟨none,0,[]⟩ ⟨A8,cp8,l⟩ ⟨(some ⟨b78,0,none⟩),1,([x2]:List zB)⟩).e,⟨j18,(m14 + 1)⟩):=by first | (simp only [Pz.then_ok,Pz.then_no,Pz.St.go,lgc,Pz.all,Pz.bys,Pz.allTail,zB.e,zB.es,hz1e,he1,hz4e,he2,g1,g3,he11,he12,g5,hx4,he15,he16,he17,he18,h1,h6]; done) | simp [Pz.then_ok,Pz.then_no,Pz.St.go,lgc,Pz.all,Pz.bys,Pz.allTail,zB.e,zB.es,hz1e,he1,hz4e,he2,g1,g3,he11,he12,g5,hx4,he15,he16,he17,he18,h1,h6]
   exact hM.ve (((zB.mk 3 0 0 wd1 ⟨none,0,[]⟩ ⟨A8,cp8,l⟩ ⟨(some ⟨b78,0,none⟩),1,([x2]:List zB)⟩),⟨j18,(m14 + 1)⟩):zB × Pz.St) rfl ⟨h9,(Pz.all_fine (Pz.xpr_fine s N) hi).ok_ h9⟩ (fun h=>h.sel [0,1,2] qD rfl)
  refine zd (i:=4) rfl fun KN hKN hPN=>zx strE ([wd6]:List ByteArray) wn underlying56 inf9 rfl rfl rfl rfl qD qD rfl fun b54=>?_
  refine (go 1) ?_
  refine hKN _ _ (S9 [2,3,5]) (zg 3 1 (zd (i:=1) rfl fun KN hKN hPN=>?_))
  refine (go 2) ?_
  refine hKN _ _ (S9 [2,3,5]) (zg 2 5 (zd (i:=5) rfl fun KN hKN hPN=>yI (strE:ByteArray→List Value) 9 1 (yC 0 ([]:List ByteArray) ([wd6]:List ByteArray) encString wn rfl rfl rfl (fun _ hM=>(RowSl encString hM 1 rfl)) underlying56 inf9 rfl rfl (by simp only [qL]; omega) rfl fun A12 cp12 hc12 hm12 hA12=>?_)))
  refine (go 1) ?_
  refine hKN _ _ (S9 [3,4,6]) (yF 1 [6] [3,4,6] rfl fun KS hKS=>?_)
  refine (go 1) ?_
  refine zj hKS (zg 0 7 (zd (i:=7) rfl fun KN hKN hPN=>?_))
  refine (go 2) ?_
  refine hKN _ _ (S9 [3,4,6]) ?_
  refine zq (by kernel_rfl) ((go 1) ?_)
  refine (go 1) ?_
  refine ug (fun (l:List ByteArray) (k:Nat) (m:Int) (q:Nat) (rv:Value)=>[(0,.pointer (some ⟨p,0,none⟩)),(1,iV d),(4,.pointer (some ⟨b4,0,none⟩)),(6,.pointer (some ⟨b6,0,none⟩))]) (fun (l:List ByteArray) (k:Nat) (m:Int) (q:Nat) (rv:Value)=>[Row rv 9 1 strE l,Row (.slice (some ⟨b54,0,none⟩) 1 1) 9 1 strE ([wd6]:List ByteArray),Rb 114 p s k m,.pub zO,Row (.slice A1 Lg.totals.length cp1) 9 1 strE Lg.totals,.blk b6 [iV 3,iV 0,iV 0,.string wd1,Zs,rv,Zs] 59,.blk b4 Zx 59]) (fun (l:List ByteArray) (k:Nat) (m:Int) (q:Nat) (rv:Value)=>Pz.byL s 5 [wd6] ⟨j12,m9⟩=Pz.byL s (q + 1) l ⟨k,m⟩∧l.length + q=5∧l.length≤4∧k≤s.size∧m9≤m∧m≤100) (fun (l:List ByteArray) (k:Nat) (m:Int) (q:Nat) (rv:Value)=>q) (([]:List ByteArray)++([wd6]:List ByteArray)) j12 m9 4 (.slice A12 ((([]:List ByteArray)++([wd6]:List ByteArray)).length) cp12) (sc rfl (sc rfl (sc rfl (sc rfl sn)))) (fun _ h=>h) ?_ (fun l k m q rv hI3=>?_)
  ·exact ⟨rfl,rfl,by simp,by omega,by omega,by omega⟩
  refine yW 0 (l:=l) rfl fun A13 cp13 hv3 hc13 hm13 hA13=>?_
  subst hv3
  refine (go 4) ?_
  refine yQ (α:=(Bool × Nat)) [Rb 114 p s k m,.pub zO] [Row (.slice A13 l.length cp13) 9 1 strE l,Row (.slice (some ⟨b54,0,none⟩) 1 1) 9 1 strE ([wd6]:List ByteArray),Row (.slice A1 Lg.totals.length cp1) 9 1 strE Lg.totals,.blk b6 [iV 3,iV 0,iV 0,.string wd1,Zs,.slice A13 l.length cp13,Zs] 59,.blk b4 Zx 59] (fun z:Bool × Nat=>.bool z.1) (fun z23=>(Pz.eat s ⟨#[44]⟩ k=z23∧k≤z23.2∧z23.2≤s.size)) (fun z23=>[Rb 114 p s z23.2 m,.pub zO]) _ (fun _=>rfl) (S9 [2,3,0,1,4,5,6]) (fun _=>rfl) wn rfl rfl call98 rfl (fun w1 Pb hG=>vw p s k m ⟨#[44]⟩ Pb w1 hG qO qO) fun z23 hz25=>?_
  obtain ⟨bo3,j19⟩:=z23
  have he19:Pz.eat s ⟨#[44]⟩ k=(bo3,j19):=hz25.1
  have hz25a:k≤j19:=hz25.2.1
  have hz25b:j19≤s.size:=hz25.2.2
  refine vD (.bool bo3) ?_
  refine (go 2) (yc (fun h8=>?_) fun h8=>?_)
  ·have hx5:=hI3.1
   refine (go 12) (zY (fun h9=>?_) fun h9=>?_)
   ·refine (go 2) ?_
    refine za (α:=Unit) (PT:=111) [Rb 114 p s j19 m,.pub zO] [Row (.slice A13 l.length cp13) 9 1 strE l,Row (.slice (some ⟨b54,0,none⟩) 1 1) 9 1 strE ([wd6]:List ByteArray),Row (.slice A1 Lg.totals.length cp1) 9 1 strE Lg.totals,.blk b6 [iV 3,iV 0,iV 0,.string wd1,Zs,.slice A13 l.length cp13,Zs] 59,.blk b4 Zx 59] (fun _:Unit=>.tuple #[]) (fun z24=>False) (fun z24=>[Rb 114 p s j19 m,.pub zO]) _ (fun f21=>f21=(5,(j19:Int))) (fun _=>rfl) (S9 [0,1,2,3,4,5,6]) (fun _=>rfl) wn rfl rfl call54 rfl (fun w1 Pb hG=>yj p s j19 m 5 Pb w1 hG) ?_ fun z24 hz26=>?_
    ·intro f21 hf21
     refine zS (zz (yV (zz (zS (zW fun w1 hM=>?_)))))
     have hY:=Pz.by_many hx5 (by rw [he19,h8]) h9
     exact hM.zh f21 (by simp only [Pz.then_ok,Pz.then_no,Pz.St.go,lgc,Pz.all,Pz.bys,Pz.allTail,zB.e,zB.es,hz1e,he1,hz4e,he2,g1,g3,he11,he19,h1,hY,hf21])
    exact hz26.elim
   refine (go 2) ?_
   refine yL (Mem w ⟨fpOf [Rb 114 p s i n,.pub zO],Pb⟩ [.pub zO,Row (.slice (some ⟨b54,0,none⟩) 1 1) 9 1 strE ([wd6]:List ByteArray),Row (.slice A1 Lg.totals.length cp1) 9 1 strE Lg.totals,.blk b4 Zx 59]) mix (fun _ h=>h.drew) rfl (yF 6 [0,2] [1,3,4,6] rfl fun KS hKS=>?_)
   refine (go 2) ?_
   refine zj hKS (yS (f:=5) (i:=1) (j:=3) rfl (by kernel_rfl) ?_ ?_)
   ·refine zd (i:=1) rfl fun KN hKN hPN=>?_
    refine (go 2) ?_
    refine hKN _ _ (S9 [1,3,4,6]) (zg 4 3 (zd (i:=3) rfl fun KN hKN hPN=>za (α:=ByteArray × Pz.St) (PT:=111) [Rb 114 p s j19 m,.pub zO] [Row (.slice A13 l.length cp13) 9 1 strE l,Row (.slice (some ⟨b54,0,none⟩) 1 1) 9 1 strE ([wd6]:List ByteArray),Row (.slice A1 Lg.totals.length cp1) 9 1 strE Lg.totals,.blk b6 [iV 3,iV 0,iV 0,.string wd1,Zs,.slice A13 l.length cp13,Zs] 59,.blk b4 Zx 59] (fun z:ByteArray × Pz.St=>.string z.1) (fun z25=>Pz.name s ⟨j19,m⟩=.ok z25∧Pz.Good s ⟨j19,m⟩ z25.2) (fun z25=>[Rb 114 p s z25.2.at_ z25.2.nd,.pub zO]) _ (fun f22=>Pz.name s ⟨j19,m⟩=.no f22) (fun _=>rfl) (S9 [0,1,2,3,4,5,6]) (fun _=>rfl) wn rfl rfl call211 rfl (fun w1 Pb hG=>vH p s j19 m  Pb w1 hG qO qO qO ) ?_ fun z25 hz27=>?_))
    ·intro f22 hf22
     refine yo hPN (zz (yV (zz (zS (zW fun w1 hM=>?_)))))
     have hY:=Pz.by_next hx5 (by rw [he19,h8]) h9 hf22
     rw [Pz.then_no] at hY
     exact hM.zh f22 (by simp only [Pz.then_ok,Pz.then_no,Pz.St.go,lgc,Pz.all,Pz.bys,Pz.allTail,zB.e,zB.es,hz1e,he1,hz4e,he2,g1,g3,he11,he19,h1,hY])
    obtain ⟨wd9,j20,m15⟩:=z25
    have he20:Pz.name s ⟨j19,m⟩=.ok (wd9,⟨j20,m15⟩):=hz27.1
    have ga15:j20≤s.size:=hz27.2.at_
    have gm15:m≤m15:=hz27.2.mono
    have gn15:m15≤100:=hz27.2.most (show m≤100 by omega)
    have wz9:wd9.size≤12:=Pz.name_size (t:=⟨j19,m⟩) (show j19≤_ by omega) he20
    refine vD (.string wd9) ?_
    refine (go 1) ?_
    refine hKN _ _ (S9 [1,3,4,6]) (zg 3 4 (zd (i:=4) rfl fun KN hKN hPN=>zx strE ([wd9]:List ByteArray) wn underlying56 inf9 rfl rfl rfl rfl qD qD rfl fun b69=>?_))
    refine (go 1) ?_
    refine hKN _ _ (S9 [2,4,5,7]) (zg 2 5 (zd (i:=5) rfl fun KN hKN hPN=>yC 3 l ([wd9]:List ByteArray) encString wn rfl rfl rfl (fun _ hM=>(RowSl encString hM 0 rfl)) underlying56 inf9 rfl rfl (by simp only [qL]; omega) rfl fun A14 cp14 hc14 hm14 hA14=>?_))
    refine (go 1) ?_
    refine hKN _ _ (S9 [2,4,5,7]) (yF 1 [6] [2,4,5,7] rfl fun KS hKS=>?_)
    refine (go 1) ?_
    refine zj hKS (zg 0 7 (zd (i:=7) rfl fun KN hKN hPN=>?_))
    refine (go 2) ?_
    refine hKN _ _ (S9 [2,4,5,7]) (zq (by kernel_rfl) (yG (ya (l++([wd9]:List ByteArray)) j20 m15 (q - 1) (.slice A14 ((l++([wd9]:List ByteArray)).length) cp14) (sc rfl (sc rfl (sc rfl (sc rfl sn)))) (S9 [3,4,1,2,5,6,7]) ?_ ?_)))
    ·have hY:=Pz.by_next hx5 (by rw [he19,h8]) h9 he20
     rw [Pz.then_ok] at hY
     exact ⟨hY.trans (by rw [show q - 1 + 1=q by omega]),by simp only [qL]; omega,by simp only [qL]; omega,by omega,by omega,by omega⟩
    omega
   refine zd (i:=3) rfl fun KN hKN hPN=>za (α:=ByteArray × Pz.St) (PT:=111) [Rb 114 p s j19 m,.pub zO] [Row (.slice A13 l.length cp13) 9 1 strE l,Row (.slice (some ⟨b54,0,none⟩) 1 1) 9 1 strE ([wd6]:List ByteArray),Row (.slice A1 Lg.totals.length cp1) 9 1 strE Lg.totals,.blk b6 [iV 3,iV 0,iV 0,.string wd1,Zs,.slice A13 l.length cp13,Zs] 59,.blk b4 Zx 59] (fun z:ByteArray × Pz.St=>.string z.1) (fun z26=>Pz.name s ⟨j19,m⟩=.ok z26∧Pz.Good s ⟨j19,m⟩ z26.2) (fun z26=>[Rb 114 p s z26.2.at_ z26.2.nd,.pub zO]) _ (fun f23=>Pz.name s ⟨j19,m⟩=.no f23) (fun _=>rfl) (S9 [0,1,2,3,4,5,6]) (fun _=>rfl) wn rfl rfl call211 rfl (fun w1 Pb hG=>vH p s j19 m  Pb w1 hG qO qO qO ) ?_ fun z26 hz28=>?_
   ·intro f23 hf23
    refine yo hPN (zz (yV (zz (zS (zW fun w1 hM=>?_)))))
    have hY:=Pz.by_next hx5 (by rw [he19,h8]) h9 hf23
    rw [Pz.then_no] at hY
    exact hM.zh f23 (by simp only [Pz.then_ok,Pz.then_no,Pz.St.go,lgc,Pz.all,Pz.bys,Pz.allTail,zB.e,zB.es,hz1e,he1,hz4e,he2,g1,g3,he11,he19,h1,hY])
   obtain ⟨wd10,j21,m16⟩:=z26
   have he21:Pz.name s ⟨j19,m⟩=.ok (wd10,⟨j21,m16⟩):=hz28.1
   have ga16:j21≤s.size:=hz28.2.at_
   have gm16:m≤m16:=hz28.2.mono
   have gn16:m16≤100:=hz28.2.most (show m≤100 by omega)
   have wz10:wd10.size≤12:=Pz.name_size (t:=⟨j19,m⟩) (show j19≤_ by omega) he21
   refine vD (.string wd10) ?_
   refine (go 1) ?_
   refine hKN _ _ (S9 [1,3,4,6]) (yS (f:=4) (i:=1) (j:=4) rfl (by kernel_rfl) ?_ ?_)
   ·refine zd (i:=1) rfl fun KN hKN hPN=>?_
    refine (go 2) ?_
    refine hKN _ _ (S9 [1,3,4,6]) (zg 3 4 (zd (i:=4) rfl fun KN hKN hPN=>zx strE ([wd10]:List ByteArray) wn underlying56 inf9 rfl rfl rfl rfl qD qD rfl fun b69=>?_))
    refine (go 1) ?_
    refine hKN _ _ (S9 [2,4,5,7]) (zg 2 5 (zd (i:=5) rfl fun KN hKN hPN=>yC 3 l ([wd10]:List ByteArray) encString wn rfl rfl rfl (fun _ hM=>(RowSl encString hM 0 rfl)) underlying56 inf9 rfl rfl (by simp only [qL]; omega) rfl fun A15 cp15 hc15 hm15 hA15=>?_))
    refine (go 1) ?_
    refine hKN _ _ (S9 [2,4,5,7]) (yF 1 [6] [2,4,5,7] rfl fun KS hKS=>?_)
    refine (go 1) ?_
    refine zj hKS (zg 0 7 (zd (i:=7) rfl fun KN hKN hPN=>?_))
    refine (go 2) ?_
    refine hKN _ _ (S9 [2,4,5,7]) (zq (by kernel_rfl) (yG (ya (l++([wd10]:List ByteArray)) j21 m16 (q - 1) (.slice A15 ((l++([wd10]:List ByteArray)).length) cp15) (sc rfl (sc rfl (sc rfl (sc rfl sn)))) (S9 [3,4,1,2,5,6,7]) ?_ ?_)))
    ·have hY:=Pz.by_next hx5 (by rw [he19,h8]) h9 he21
     rw [Pz.then_ok] at hY
     exact ⟨hY.trans (by rw [show q - 1 + 1=q by omega]),by simp only [qL]; omega,by simp only [qL]; omega,by omega,by omega,by omega⟩
    omega
   refine zd (i:=4) rfl fun KN hKN hPN=>zx strE ([wd10]:List ByteArray) wn underlying56 inf9 rfl rfl rfl rfl qD qD rfl fun b69=>?_
   refine (go 1) ?_
   refine hKN _ _ (S9 [2,4,5,7]) (zg 3 1 (zd (i:=1) rfl fun KN hKN hPN=>?_))
   refine (go 2) ?_
   refine hKN _ _ (S9 [2,4,5,7]) (zg 2 5 (zd (i:=5) rfl fun KN hKN hPN=>yC 3 l ([wd10]:List ByteArray) encString wn rfl rfl rfl (fun _ hM=>(RowSl encString hM 0 rfl)) underlying56 inf9 rfl rfl (by simp only [qL]; omega) rfl fun A16 cp16 hc16 hm16 hA16=>?_))
   refine (go 1) ?_
   refine hKN _ _ (S9 [2,4,5,7]) (yF 1 [6] [2,4,5,7] rfl fun KS hKS=>?_)
   refine (go 1) ?_
   refine zj hKS (zg 0 7 (zd (i:=7) rfl fun KN hKN hPN=>?_))
   refine (go 2) ?_
   refine hKN _ _ (S9 [2,4,5,7]) (zq (by kernel_rfl) (yG (ya (l++([wd10]:List ByteArray)) j21 m16 (q - 1) (.slice A16 ((l++([wd10]:List ByteArray)).length) cp16) (sc rfl (sc rfl (sc rfl (sc rfl sn)))) (S9 [3,4,1,2,5,6,7]) ?_ ?_)))
   ·have hY:=Pz.by_next hx5 (by rw [he19,h8]) h9 he21
    rw [Pz.then_ok] at hY
    exact ⟨hY.trans (by rw [show q - 1 + 1=q by omega]),by simp only [qL]; omega,by simp only [qL]; omega,by omega,by omega,by omega⟩
   omega
  have g6:bo3=false:=by simpa using h8
  have hx6:=Pz.by_done hI3.1 (by rw [he19,g6])
  refine (go 8) ?_
  refine za (α:=Pz.St) (PT:=111) [Rb 114 p s j19 m,.pub zO] [Row (.slice A13 l.length cp13) 9 1 strE l,Row (.slice (some ⟨b54,0,none⟩) 1 1) 9 1 strE ([wd6]:List ByteArray),Row (.slice A1 Lg.totals.length cp1) 9 1 strE Lg.totals,.blk b6 [iV 3,iV 0,iV 0,.string wd1,Zs,.slice A13 l.length cp13,Zs] 59,.blk b4 Zx 59] (fun z:Pz.St=>.tuple #[]) (fun z27=>Pz.must s ⟨#[40]⟩ ⟨j19,m⟩=.ok z27∧Pz.Good s ⟨j19,m⟩ z27) (fun z27=>[Rb 114 p s z27.at_ z27.nd,.pub zO]) _ (fun f24=>Pz.must s ⟨#[40]⟩ ⟨j19,m⟩=.no f24) (fun _=>rfl) (S9 [0,1,2,3,4,5,6]) (fun _=>rfl) wn rfl rfl call179 rfl (fun w1 Pb hG=>y6 p s j19 m ⟨#[40]⟩ Pb w1 hG qO qO qO ) ?_ fun z27 hz29=>?_
  ·intro f24 hf24
   refine zS (zW fun w1 hM=>?_)
   exact hM.zh f24 (by first | (simp only [Pz.then_ok,Pz.then_no,Pz.St.go,lgc,Pz.all,Pz.bys,Pz.allTail,zB.e,zB.es,hz1e,he1,hz4e,he2,g1,g3,he11,he19,g6,hx6,h1,h8,hf24]; done) | simp [Pz.then_ok,Pz.then_no,Pz.St.go,lgc,Pz.all,Pz.bys,Pz.allTail,zB.e,zB.es,hz1e,he1,hz4e,he2,g1,g3,he11,he19,g6,hx6,h1,h8,hf24])
  obtain ⟨j22,m17⟩:=z27
  have he22:Pz.must s ⟨#[40]⟩ ⟨j19,m⟩=.ok ⟨j22,m17⟩:=hz29.1
  have ga17:j22≤s.size:=hz29.2.at_
  have gm17:m≤m17:=hz29.2.mono
  have gn17:m17≤100:=hz29.2.most (show m≤100 by omega)
  refine (go 7) ?_
  refine za (α:=zB × Pz.St) (PT:=111) [Rb 114 p s j22 m17,.pub zO] [Row (.slice A13 l.length cp13) 9 1 strE l,Row (.slice (some ⟨b54,0,none⟩) 1 1) 9 1 strE ([wd6]:List ByteArray),Row (.slice A1 Lg.totals.length cp1) 9 1 strE Lg.totals,.blk b6 [iV 3,iV 0,iV 0,.string wd1,Zs,.slice A13 l.length cp13,Zs] 59,.blk b4 Zx 59] (fun z:zB × Pz.St=>.agg (zy z.1).toArray) (fun z28=>Pz.xpr s N ⟨j22,m17⟩=.ok (z28.1.e,z28.2)∧Pz.Good s ⟨j22,m17⟩ z28.2) (fun z28=>[Rb 114 p s z28.2.at_ z28.2.nd,.pub zO,okP zB.Ok z28.1]) _ (fun f25=>Pz.xpr s N ⟨j22,m17⟩=.no f25) (fun _=>rfl) (S9 [0,1,2,3,4,5,6]) (fun _=>rfl) wn rfl rfl call52 rfl (fun w1 Pb hG=>ih p s j22 m17 (d + 1) Pb w1 hG qO qO qO qO qO) ?_ fun z28 hz30=>?_
  ·intro f25 hf25
   refine zS (zW fun w1 hM=>?_)
   exact hM.zh f25 (by first | (simp only [Pz.then_ok,Pz.then_no,Pz.St.go,lgc,Pz.all,Pz.bys,Pz.allTail,zB.e,zB.es,hz1e,he1,hz4e,he2,g1,g3,he11,he19,g6,hx6,he22,h1,h8,hf25]; done) | simp [Pz.then_ok,Pz.then_no,Pz.St.go,lgc,Pz.all,Pz.bys,Pz.allTail,zB.e,zB.es,hz1e,he1,hz4e,he2,g1,g3,he11,he19,g6,hx6,he22,h1,h8,hf25])
  obtain ⟨x3,j23,m18⟩:=z28
  have he23:Pz.xpr s N ⟨j22,m17⟩=.ok (x3.e,⟨j23,m18⟩):=hz30.1
  have ga18:j23≤s.size:=hz30.2.at_
  have gm18:m17≤m18:=hz30.2.mono
  have gn18:m18≤100:=hz30.2.most (show m17≤100 by omega)
  refine zx zy ([x3]:List zB) wn underlying57 inf59 rfl rfl rfl rfl qD qD rfl fun b78=>?_
  refine (go 7) ?_
  refine za (α:=Pz.St) (PT:=111) [Rb 114 p s j23 m18,.pub zO] [Row (.slice (some ⟨b78,0,none⟩) 1 1) 59 7 zy ([x3]:List zB),okP zB.Ok x3,Row (.slice A13 l.length cp13) 9 1 strE l,Row (.slice (some ⟨b54,0,none⟩) 1 1) 9 1 strE ([wd6]:List ByteArray),Row (.slice A1 Lg.totals.length cp1) 9 1 strE Lg.totals,.blk b6 [iV 3,iV 0,iV 0,.string wd1,Zs,.slice A13 l.length cp13,.slice (some ⟨b78,0,none⟩) 1 1] 59,.blk b4 Zx 59] (fun z:Pz.St=>.tuple #[]) (fun z29=>Pz.must s ⟨#[41]⟩ ⟨j23,m18⟩=.ok z29∧Pz.Good s ⟨j23,m18⟩ z29) (fun z29=>[Rb 114 p s z29.at_ z29.nd,.pub zO]) _ (fun f26=>Pz.must s ⟨#[41]⟩ ⟨j23,m18⟩=.no f26) (fun _=>rfl) (S9 [1,2,0,3,4,5,6,7,8]) (fun _=>rfl) wn rfl rfl call179 rfl (fun w1 Pb hG=>y6 p s j23 m18 ⟨#[41]⟩ Pb w1 hG qO qO qO ) ?_ fun z29 hz31=>?_
  ·intro f26 hf26
   refine zS (zW fun w1 hM=>?_)
   exact hM.zh f26 (by first | (simp only [Pz.then_ok,Pz.then_no,Pz.St.go,lgc,Pz.all,Pz.bys,Pz.allTail,zB.e,zB.es,hz1e,he1,hz4e,he2,g1,g3,he11,he19,g6,hx6,he22,he23,h1,h8,hf26]; done) | simp [Pz.then_ok,Pz.then_no,Pz.St.go,lgc,Pz.all,Pz.bys,Pz.allTail,zB.e,zB.es,hz1e,he1,hz4e,he2,g1,g3,he11,he19,g6,hx6,he22,he23,h1,h8,hf26])
  obtain ⟨j24,m19⟩:=z29
  have he24:Pz.must s ⟨#[41]⟩ ⟨j23,m18⟩=.ok ⟨j24,m19⟩:=hz31.1
  have ga19:j24≤s.size:=hz31.2.at_
  have gm19:m18≤m19:=hz31.2.mono
  have gn19:m19≤100:=hz31.2.most (show m18≤100 by omega)
  refine (go 6) ?_
  refine y9 4 0 encString rfl rfl (fp2) (y9 2 0 encExprX rfl rfl (fp2) (vz (fun _ h=>h.exprG (k:=3) (n:=0) (r:=0) (wd:=wd1) (ms:=⟨none,0,[]⟩) (bs:=⟨A13,cp13,l⟩) (ks:=⟨(some ⟨b78,0,none⟩),1,([x3]:List zB)⟩) (fun _ _=>zD.zu _ _ _ _) (fun _ pp=>pp.sl 4 rfl) (fun _ pp=>pp.sl 2 rfl) (fun _ pp x hx=>by simp only [List.mem_cons,List.not_mem_nil,or_false] at hx; rcases hx with rfl <;> first | exact pp.at_ 3 _ rfl) (by first | decide | omega) (fun x hx=>by cases hx) (fun x hx=>by have:=Pz.byL_size 5 (by show _≤s.size; omega) hx6 (fun y hy=>by rw [List.mem_singleton.1 hy]; omega) x hx; omega)) (za (α:=Unit) (PT:=111) [Rb 114 p s j24 m19,.pub zO] [okP zB.Ok (zB.mk 3 0 0 wd1 ⟨none,0,[]⟩ ⟨A13,cp13,l⟩ ⟨(some ⟨b78,0,none⟩),1,([x3]:List zB)⟩),slP 7 zy (.slice (some ⟨b78,0,none⟩) 1 1) ([x3]:List zB),okP zB.Ok x3,slP 1 strE (.slice A13 l.length cp13) l,Row (.slice (some ⟨b54,0,none⟩) 1 1) 9 1 strE ([wd6]:List ByteArray),Row (.slice A1 Lg.totals.length cp1) 9 1 strE Lg.totals,.blk b6 [iV 3,iV 0,iV 0,.string wd1,Zs,.slice A13 l.length cp13,.slice (some ⟨b78,0,none⟩) 1 1] 59,.blk b4 Zx 59] (fun _:Unit=>.agg (List.toArray [iV 3,iV 0,iV 0,.string wd1,Zs,.slice A13 l.length cp13,.slice (some ⟨b78,0,none⟩) 1 1])) (fun z30=>m19 + 1≤100) (fun z30=>[Rb 114 p s j24 (m19 + 1),.pub zO]) _ (fun f27=>Pz.node ⟨j24,m19⟩=.no f27) (fun _=>rfl) (S9 [1,2,0,3,4,5,6,7,8,9]) (fun _=>rfl) wn rfl rfl call99 rfl (fun w1 Pb hG=>vp p s j24 m19 3 0 0 wd1 none 0 0 A13 l.length cp13 (some ⟨b78,0,none⟩) 1 1 Pb w1 hG qO qO qO) ?_ fun z30 hz32=>?_)))
  ·intro f27 hf27
   refine zS (zW fun w1 hM=>?_)
   exact hM.zh f27 (by first | (simp only [Pz.then_ok,Pz.then_no,Pz.St.go,lgc,Pz.all,Pz.bys,Pz.allTail,zB.e,zB.es,hz1e,he1,hz4e,he2,g1,g3,he11,he19,g6,hx6,he22,he23,he24,h1,h8,hf27]; done) | simp [Pz.then_ok,Pz.then_no,Pz.St.go,lgc,Pz.all,Pz.bys,Pz.allTail,zB.e,zB.es,hz1e,he1,hz4e,he2,g1,g3,he11,he19,g6,hx6,he22,he23,he24,h1,h8,hf27])
  have he25:Pz.node ⟨j24,m19⟩=.ok ⟨j24,m19 + 1⟩:=Pz.node_yes hz32
  refine (go 4) (zZ results181 fun w1 hM=>?_)
  have h9:Pz.all s (Pz.xpr s N) ⟨i,n⟩=.ok ((zB.mk 3 0 0 wd1 ⟨none,0,[]⟩ ⟨A13,cp13,l⟩ ⟨(some ⟨b78,0,none⟩),1,([x3]:List zB)⟩).e,⟨j24,(m19 + 1)⟩):=by first | (simp only [Pz.then_ok,Pz.then_no,Pz.St.go,lgc,Pz.all,Pz.bys,Pz.allTail,zB.e,zB.es,hz1e,he1,hz4e,he2,g1,g3,he11,he19,g6,hx6,he22,he23,he24,he25,h1,h8]; done) | simp [Pz.then_ok,Pz.then_no,Pz.St.go,lgc,Pz.all,Pz.bys,Pz.allTail,zB.e,zB.es,hz1e,he1,hz4e,he2,g1,g3,he11,he19,g6,hx6,he22,he23,he24,he25,h1,h8]
  exact hM.ve (((zB.mk 3 0 0 wd1 ⟨none,0,[]⟩ ⟨A13,cp13,l⟩ ⟨(some ⟨b78,0,none⟩),1,([x3]:List zB)⟩),⟨j24,(m19 + 1)⟩):zB × Pz.St) rfl ⟨h9,(Pz.all_fine (Pz.xpr_fine s N) hi).ok_ h9⟩ (fun h=>h.sel [0,1,2] qD rfl)
 have g7:(wd2=⟨#[]⟩)=True:=eq_true (Classical.not_not.1 h2)
 refine (go 12) ?_
 refine yd rfl (decide_eq_false (by rw [Classical.not_not.1 h2]; decide)) ?_
 refine (go 4) ?_
 have g8:(wd2=⟨#[98,121]⟩)=False:=eq_false (by rw [Classical.not_not.1 h2]; decide)
 refine (go 1) ?_
 refine za (α:=Pz.St) (PT:=111) [Rb 114 p s j4 m2,.pub zO] [Row (.slice A1 Lg.totals.length cp1) 9 1 strE Lg.totals,.blk b6 [iV 3,iV 0,iV 0,.string wd1,Zs,Zs,Zs] 59,.blk b4 Zx 59] (fun z:Pz.St=>.tuple #[]) (fun z31=>Pz.must s ⟨#[40]⟩ ⟨j4,m2⟩=.ok z31∧Pz.Good s ⟨j4,m2⟩ z31) (fun z31=>[Rb 114 p s z31.at_ z31.nd,.pub zO]) _ (fun f28=>Pz.must s ⟨#[40]⟩ ⟨j4,m2⟩=.no f28) (fun _=>rfl) (S9 [0,1,2,3,4]) (fun _=>rfl) wn rfl rfl call179 rfl (fun w1 Pb hG=>y6 p s j4 m2 ⟨#[40]⟩ Pb w1 hG qO qO qO ) ?_ fun z31 hz33=>?_
 ·intro f28 hf28
  refine zS (zW fun w1 hM=>?_)
  exact hM.zh f28 (by first | (simp only [Pz.then_ok,Pz.then_no,Pz.St.go,lgc,Pz.all,Pz.bys,Pz.allTail,zB.e,zB.es,hz1e,he1,hz4e,he2,g7,g8,h1,hf28]; done) | simp [Pz.then_ok,Pz.then_no,Pz.St.go,lgc,Pz.all,Pz.bys,Pz.allTail,zB.e,zB.es,hz1e,he1,hz4e,he2,g7,g8,h1,hf28])
 obtain ⟨j25,m20⟩:=z31
 have he26:Pz.must s ⟨#[40]⟩ ⟨j4,m2⟩=.ok ⟨j25,m20⟩:=hz33.1
 have ga20:j25≤s.size:=hz33.2.at_
 have gm20:m2≤m20:=hz33.2.mono
 have gn20:m20≤100:=hz33.2.most (show m2≤100 by omega)
 refine (go 7) ?_
 refine za (α:=zB × Pz.St) (PT:=111) [Rb 114 p s j25 m20,.pub zO] [Row (.slice A1 Lg.totals.length cp1) 9 1 strE Lg.totals,.blk b6 [iV 3,iV 0,iV 0,.string wd1,Zs,Zs,Zs] 59,.blk b4 Zx 59] (fun z:zB × Pz.St=>.agg (zy z.1).toArray) (fun z32=>Pz.xpr s N ⟨j25,m20⟩=.ok (z32.1.e,z32.2)∧Pz.Good s ⟨j25,m20⟩ z32.2) (fun z32=>[Rb 114 p s z32.2.at_ z32.2.nd,.pub zO,okP zB.Ok z32.1]) _ (fun f29=>Pz.xpr s N ⟨j25,m20⟩=.no f29) (fun _=>rfl) (S9 [0,1,2,3,4]) (fun _=>rfl) wn rfl rfl call52 rfl (fun w1 Pb hG=>ih p s j25 m20 (d + 1) Pb w1 hG qO qO qO qO qO) ?_ fun z32 hz34=>?_
 ·intro f29 hf29
  refine zS (zW fun w1 hM=>?_)
  exact hM.zh f29 (by first | (simp only [Pz.then_ok,Pz.then_no,Pz.St.go,lgc,Pz.all,Pz.bys,Pz.allTail,zB.e,zB.es,hz1e,he1,hz4e,he2,g7,g8,he26,h1,hf29]; done) | simp [Pz.then_ok,Pz.then_no,Pz.St.go,lgc,Pz.all,Pz.bys,Pz.allTail,zB.e,zB.es,hz1e,he1,hz4e,he2,g7,g8,he26,h1,hf29])
 obtain ⟨x4,j26,m21⟩:=z32
 have he27:Pz.xpr s N ⟨j25,m20⟩=.ok (x4.e,⟨j26,m21⟩):=hz34.1
 have ga21:j26≤s.size:=hz34.2.at_
 have gm21:m20≤m21:=hz34.2.mono
 have gn21:m21≤100:=hz34.2.most (show m20≤100 by omega)
 refine zx zy ([x4]:List zB) wn underlying57 inf59 rfl rfl rfl rfl qD qD rfl fun b78=>?_
 refine (go 7) ?_
 refine za (α:=Pz.St) (PT:=111) [Rb 114 p s j26 m21,.pub zO] [Row (.slice (some ⟨b78,0,none⟩) 1 1) 59 7 zy ([x4]:List zB),okP zB.Ok x4,Row (.slice A1 Lg.totals.length cp1) 9 1 strE Lg.totals,.blk b6 [iV 3,iV 0,iV 0,.string wd1,Zs,Zs,.slice (some ⟨b78,0,none⟩) 1 1] 59,.blk b4 Zx 59] (fun z:Pz.St=>.tuple #[]) (fun z33=>Pz.must s ⟨#[41]⟩ ⟨j26,m21⟩=.ok z33∧Pz.Good s ⟨j26,m21⟩ z33) (fun z33=>[Rb 114 p s z33.at_ z33.nd,.pub zO]) _ (fun f30=>Pz.must s ⟨#[41]⟩ ⟨j26,m21⟩=.no f30) (fun _=>rfl) (S9 [1,2,0,3,4,5,6]) (fun _=>rfl) wn rfl rfl call179 rfl (fun w1 Pb hG=>y6 p s j26 m21 ⟨#[41]⟩ Pb w1 hG qO qO qO ) ?_ fun z33 hz35=>?_
 ·intro f30 hf30
  refine zS (zW fun w1 hM=>?_)
  exact hM.zh f30 (by first | (simp only [Pz.then_ok,Pz.then_no,Pz.St.go,lgc,Pz.all,Pz.bys,Pz.allTail,zB.e,zB.es,hz1e,he1,hz4e,he2,g7,g8,he26,he27,h1,hf30]; done) | simp [Pz.then_ok,Pz.then_no,Pz.St.go,lgc,Pz.all,Pz.bys,Pz.allTail,zB.e,zB.es,hz1e,he1,hz4e,he2,g7,g8,he26,he27,h1,hf30])
 obtain ⟨j27,m22⟩:=z33
 have he28:Pz.must s ⟨#[41]⟩ ⟨j26,m21⟩=.ok ⟨j27,m22⟩:=hz35.1
 have ga22:j27≤s.size:=hz35.2.at_
 have gm22:m21≤m22:=hz35.2.mono
 have gn22:m22≤100:=hz35.2.most (show m21≤100 by omega)
 refine (go 6) ?_
 refine y9 2 0 encExprX rfl rfl (fp2) (vz (fun _ h=>h.exprG (k:=3) (n:=0) (r:=0) (wd:=wd1) (ms:=⟨none,0,[]⟩) (bs:=⟨none,0,[]⟩) (ks:=⟨(some ⟨b78,0,none⟩),1,([x4]:List zB)⟩) (fun _ _=>zD.zu _ _ _ _) (fun _ _=>zD.zu _ _ _ _) (fun _ pp=>pp.sl 2 rfl) (fun _ pp x hx=>by simp only [List.mem_cons,List.not_mem_nil,or_false] at hx; rcases hx with rfl <;> first | exact pp.at_ 3 _ rfl) (by first | decide | omega) (fun x hx=>by cases hx) (fun x hx=>by cases hx)) (za (α:=Unit) (PT:=111) [Rb 114 p s j27 m22,.pub zO] [okP zB.Ok (zB.mk 3 0 0 wd1 ⟨none,0,[]⟩ ⟨none,0,[]⟩ ⟨(some ⟨b78,0,none⟩),1,([x4]:List zB)⟩),slP 7 zy (.slice (some ⟨b78,0,none⟩) 1 1) ([x4]:List zB),okP zB.Ok x4,Row (.slice A1 Lg.totals.length cp1) 9 1 strE Lg.totals,.blk b6 [iV 3,iV 0,iV 0,.string wd1,Zs,Zs,.slice (some ⟨b78,0,none⟩) 1 1] 59,.blk b4 Zx 59] (fun _:Unit=>.agg (List.toArray [iV 3,iV 0,iV 0,.string wd1,Zs,Zs,.slice (some ⟨b78,0,none⟩) 1 1])) (fun z34=>m22 + 1≤100) (fun z34=>[Rb 114 p s j27 (m22 + 1),.pub zO]) _ (fun f31=>Pz.node ⟨j27,m22⟩=.no f31) (fun _=>rfl) (S9 [1,2,0,3,4,5,6,7]) (fun _=>rfl) wn rfl rfl call99 rfl (fun w1 Pb hG=>vp p s j27 m22 3 0 0 wd1 none 0 0 none 0 0 (some ⟨b78,0,none⟩) 1 1 Pb w1 hG qO qO qO) ?_ fun z34 hz36=>?_))
 ·intro f31 hf31
  refine zS (zW fun w1 hM=>?_)
  exact hM.zh f31 (by first | (simp only [Pz.then_ok,Pz.then_no,Pz.St.go,lgc,Pz.all,Pz.bys,Pz.allTail,zB.e,zB.es,hz1e,he1,hz4e,he2,g7,g8,he26,he27,he28,h1,hf31]; done) | simp [Pz.then_ok,Pz.then_no,Pz.St.go,lgc,Pz.all,Pz.bys,Pz.allTail,zB.e,zB.es,hz1e,he1,hz4e,he2,g7,g8,he26,he27,he28,h1,hf31])
 have he29:Pz.node ⟨j27,m22⟩=.ok ⟨j27,m22 + 1⟩:=Pz.node_yes hz36
 refine (go 4) (zZ results181 fun w1 hM=>?_)
 have h9:Pz.all s (Pz.xpr s N) ⟨i,n⟩=.ok ((zB.mk 3 0 0 wd1 ⟨none,0,[]⟩ ⟨none,0,[]⟩ ⟨(some ⟨b78,0,none⟩),1,([x4]:List zB)⟩).e,⟨j27,(m22 + 1)⟩):=by first | (simp only [Pz.then_ok,Pz.then_no,Pz.St.go,lgc,Pz.all,Pz.bys,Pz.allTail,zB.e,zB.es,hz1e,he1,hz4e,he2,g7,g8,he26,he27,he28,he29,h1]; done) | simp [Pz.then_ok,Pz.then_no,Pz.St.go,lgc,Pz.all,Pz.bys,Pz.allTail,zB.e,zB.es,hz1e,he1,hz4e,he2,g7,g8,he26,he27,he28,he29,h1]
 exact hM.ve (((zB.mk 3 0 0 wd1 ⟨none,0,[]⟩ ⟨none,0,[]⟩ ⟨(some ⟨b78,0,none⟩),1,([x4]:List zB)⟩),⟨j27,(m22 + 1)⟩):zB × Pz.St) rfl ⟨h9,(Pz.all_fine (Pz.xpr_fine s N) hi).ok_ h9⟩ (fun h=>h.sel [0,1,2] qD rfl)
set_option maxHeartbeats 2000000 in
theorem c_factor (p:Nat) (s:ByteArray) (i:Nat) (n:Int) (d:Int) (N:Nat) (Pb:Nat→Prop) (w:World) (hG:Mem w ⟨fpOf [Rb 114 p s i n,.pub zO],Pb⟩ [Rb 114 p s i n,.pub zO] w) (hi:i≤s.size) (hs:s.size≤2000) (hn:0≤n∧n≤100) (hd:d + (N:Int)=21) (hd1:1≤d) (ih:∀ M,N=M + 1→XprC M) :
    Calls prog 147 #[.pointer (some ⟨p,0,none⟩),iV d] w (RetX w [Rb 114 p s i n,.pub zO] Pb 111 (fun z:zB × Pz.St=>.agg (zy z.1).toArray) (fun z=>Pz.fac s N ⟨i,n⟩=.ok (z.1.e,z.2)∧Pz.Good s ⟨i,n⟩ z.2) (fun z=>[Rb 114 p s z.2.at_ z.2.nd,.pub zO,okP zB.Ok z.1]) (fun f=>Pz.fac s N ⟨i,n⟩=.no f)):=by
 refine zw (N:=57) func147 hG ?_
 refine (go 2) (yA fun b4=>?_)
 refine (go 9) (zY (fun h1=>?_) fun h1=>?_)
 ·refine (go 2) ?_
  refine za (α:=Unit) (PT:=111) [Rb 114 p s i n,.pub zO] [.blk b4 Zx 59] (fun _:Unit=>.tuple #[]) (fun z1=>False) (fun z1=>[Rb 114 p s i n,.pub zO]) _ (fun f1=>f1=(4,(i:Int))) (fun _=>rfl) (S9 [1,2,0]) (fun _=>rfl) wn rfl rfl call54 rfl (fun w1 Pb hG=>yj p s i n 4 Pb w1 hG) ?_ fun z1 hz1=>?_
  ·intro f1 hf1
   refine zS (zW fun w1 hM=>?_)
   exact hM.zh f1 (by rw [show N=0 by omega,hf1]; rfl)
  exact hz1.elim
 obtain ⟨M,rfl⟩:∃ M,N=M + 1:=⟨N - 1,by omega⟩
 refine (go 6) ?_
 refine yQ (α:=(Bool × Nat)) [Rb 114 p s i n,.pub zO] [.blk b4 Zx 59] (fun z:Bool × Nat=>.bool z.1) (fun z2=>(Pz.eat s ⟨#[40]⟩ i=z2∧i≤z2.2∧z2.2≤s.size)) (fun z2=>[Rb 114 p s z2.2 n,.pub zO]) _ (fun _=>rfl) (S9 [1,2,0]) (fun _=>rfl) wn rfl rfl call98 rfl (fun w1 Pb hG=>vw p s i n ⟨#[40]⟩ Pb w1 hG qO qO) fun z2 hz2=>?_
 obtain ⟨bo1,j1⟩:=z2
 have he1:Pz.eat s ⟨#[40]⟩ i=(bo1,j1):=hz2.1
 have hz2a:i≤j1:=hz2.2.1
 have hz2b:j1≤s.size:=hz2.2.2
 refine vD (.bool bo1) ?_
 refine (go 2) (yc (fun h2=>?_) fun h2=>?_)
 ·refine (go 5) ?_
  refine za (α:=zB × Pz.St) (PT:=111) [Rb 114 p s j1 n,.pub zO] [.blk b4 Zx 59] (fun z:zB × Pz.St=>.agg (zy z.1).toArray) (fun z3=>Pz.xpr s M ⟨j1,n⟩=.ok (z3.1.e,z3.2)∧Pz.Good s ⟨j1,n⟩ z3.2) (fun z3=>[Rb 114 p s z3.2.at_ z3.2.nd,.pub zO,okP zB.Ok z3.1]) _ (fun f2=>Pz.xpr s M ⟨j1,n⟩=.no f2) (fun _=>rfl) (S9 [0,1,2]) (fun _=>rfl) wn rfl rfl call52 rfl (fun w1 Pb hG=>(ih M rfl) p s j1 n (d + 1) Pb w1 hG qO qO qO qO qO) ?_ fun z3 hz3=>?_
  ·intro f2 hf2
   refine zS (zS (zW fun w1 hM=>?_))
   exact hM.zh f2 (by first | (simp only [Pz.then_ok,Pz.then_no,Pz.St.go,lgc,Pz.fac_succ,Pz.factor,zB.e,zB.es,he1,h1,h2,hf2]; done) | simp [Pz.then_ok,Pz.then_no,Pz.St.go,lgc,Pz.fac_succ,Pz.factor,zB.e,zB.es,he1,h1,h2,hf2])
  obtain ⟨x1,j2,m1⟩:=z3
  have he2:Pz.xpr s M ⟨j1,n⟩=.ok (x1.e,⟨j2,m1⟩):=hz3.1
  have ga1:j2≤s.size:=hz3.2.at_
  have gm1:n≤m1:=hz3.2.mono
  have gn1:m1≤100:=hz3.2.most (show n≤100 by omega)
  refine yA fun b5=>?_
  refine (go 6) ?_
  refine za (α:=Pz.St) (PT:=111) [Rb 114 p s j2 m1,.pub zO] [.blk b5 [iV x1.kind,iV x1.n,iV x1.range,.string x1.word,.slice x1.ms.A x1.ms.l.length x1.ms.c,.slice x1.by_.A x1.by_.l.length x1.by_.c,.slice x1.kids.A x1.kids.l.length x1.kids.c] 59,okP zB.Ok x1,.blk b4 Zx 59] (fun z:Pz.St=>.tuple #[]) (fun z4=>Pz.must s ⟨#[41]⟩ ⟨j2,m1⟩=.ok z4∧Pz.Good s ⟨j2,m1⟩ z4) (fun z4=>[Rb 114 p s z4.at_ z4.nd,.pub zO]) _ (fun f3=>Pz.must s ⟨#[41]⟩ ⟨j2,m1⟩=.no f3) (fun _=>rfl) (S9 [1,2,0,3,4]) (fun _=>rfl) wn rfl rfl call179 rfl (fun w1 Pb hG=>y6 p s j2 m1 ⟨#[41]⟩ Pb w1 hG qO qO qO ) ?_ fun z4 hz4=>?_
  ·intro f3 hf3
   refine zS (zS (zW fun w1 hM=>?_))
   exact hM.zh f3 (by first | (simp only [Pz.then_ok,Pz.then_no,Pz.St.go,lgc,Pz.fac_succ,Pz.factor,zB.e,zB.es,he1,he2,h1,h2,hf3]; done) | simp [Pz.then_ok,Pz.then_no,Pz.St.go,lgc,Pz.fac_succ,Pz.factor,zB.e,zB.es,he1,he2,h1,h2,hf3])
  obtain ⟨j3,m2⟩:=z4
  have he3:Pz.must s ⟨#[41]⟩ ⟨j2,m1⟩=.ok ⟨j3,m2⟩:=hz4.1
  have ga2:j3≤s.size:=hz4.2.at_
  have gm2:m1≤m2:=hz4.2.mono
  have gn2:m2≤100:=hz4.2.most (show m1≤100 by omega)
  refine (go 10) (zZ results147 fun w1 hM=>?_)
  have h9:Pz.fac s (M + 1) ⟨i,n⟩=.ok (x1.e,⟨j3,m2⟩):=by first | (simp only [Pz.then_ok,Pz.then_no,Pz.St.go,lgc,Pz.fac_succ,Pz.factor,zB.e,zB.es,he1,he2,he3,h1,h2]; done) | simp [Pz.then_ok,Pz.then_no,Pz.St.go,lgc,Pz.fac_succ,Pz.factor,zB.e,zB.es,he1,he2,he3,h1,h2]
  exact hM.ve ((x1,⟨j3,m2⟩):zB × Pz.St) rfl ⟨h9,(Pz.fac_fine s (M + 1) _ hi).ok_ h9⟩ (fun h=>h.sel [0,1,3] qD rfl)
 have g1:bo1=false:=by simpa using h2
 refine (go 5) ?_
 refine yQ (α:=Nat) [Rb 114 p s j1 n,.pub zO] [.blk b4 Zx 59] (fun _=>.tuple #[]) (fun j4=>(Pz.blank s j1=j4∧j1≤j4∧j4≤s.size)) (fun j4=>[Rb 114 p s j4 n,.pub zO]) _ (fun _=>rfl) (S9 [0,1,2]) (fun _=>rfl) wn rfl rfl call53 rfl (fun w1 Pb hG=>vo p s j1 n Pb w1 hG qO qO) fun j4 hz5=>?_
 obtain ⟨hz5e,hz5a,hz5b⟩:=hz5
 refine (go 14) ?_
 refine za (α:=ByteArray × Pz.St) (PT:=111) [Rb 114 p s j4 n,.pub zO] [.blk b4 Zx 59] (fun z:ByteArray × Pz.St=>.string z.1) (fun z5=>Pz.word s ⟨j4,n⟩=.ok z5∧Pz.Good s ⟨j4,n⟩ z5.2) (fun z5=>[Rb 114 p s z5.2.at_ z5.2.nd,.pub zO]) _ (fun f4=>Pz.word s ⟨j4,n⟩=.no f4) (fun _=>rfl) (S9 [0,1,2]) (fun _=>rfl) wn rfl rfl call180 rfl (fun w1 Pb hG=>jS p s j4 n  Pb w1 hG qO qO qO ) ?_ fun z5 hz6=>?_
 ·intro f4 hf4
  refine zS (zW fun w1 hM=>?_)
  exact hM.zh f4 (by first | (simp only [Pz.then_ok,Pz.then_no,Pz.St.go,lgc,Pz.fac_succ,Pz.factor,zB.e,zB.es,he1,g1,hz5e,h1,h2,hf4]; done) | simp [Pz.then_ok,Pz.then_no,Pz.St.go,lgc,Pz.fac_succ,Pz.factor,zB.e,zB.es,he1,g1,hz5e,h1,h2,hf4])
 obtain ⟨wd1,j5,m3⟩:=z5
 have he4:Pz.word s ⟨j4,n⟩=.ok (wd1,⟨j5,m3⟩):=hz6.1
 have ga3:j5≤s.size:=hz6.2.at_
 have gm3:n≤m3:=hz6.2.mono
 have gn3:m3≤100:=hz6.2.most (show n≤100 by omega)
 have wz1:wd1.size≤12:=Pz.word_size (t:=⟨j4,n⟩) (show j4≤_ by omega) he4
 refine vD (.string wd1) ?_
 refine (go 12) (zY (fun h3=>?_) fun h3=>?_)
 ·have g2:(wd1=⟨#[97,108,108]⟩)=True:=eq_true h3
  refine (go 4) ?_
  refine za (α:=zB × Pz.St) (PT:=111) [Rb 114 p s j5 m3,.pub zO] [.blk b4 Zx 59] (fun z:zB × Pz.St=>.agg (zy z.1).toArray) (fun z6=>Pz.all s (Pz.xpr s M) ⟨j5,m3⟩=.ok (z6.1.e,z6.2)∧Pz.Good s ⟨j5,m3⟩ z6.2) (fun z6=>[Rb 114 p s z6.2.at_ z6.2.nd,.pub zO,okP zB.Ok z6.1]) _ (fun f5=>Pz.all s (Pz.xpr s M) ⟨j5,m3⟩=.no f5) (fun _=>rfl) (S9 [0,1,2]) (fun _=>rfl) wn rfl rfl call181 rfl (fun w1 Pb hG=>c_all p s j5 m3 d M Pb w1 hG qO qO qO qO qO (ih M rfl)) ?_ fun z6 hz7=>?_
  ·intro f5 hf5
   refine zS (zz (zS (zW fun w1 hM=>?_)))
   exact hM.zh f5 (by first | (simp only [Pz.then_ok,Pz.then_no,Pz.St.go,lgc,Pz.fac_succ,Pz.factor,zB.e,zB.es,he1,g1,hz5e,he4,g2,h1,h2,hf5]; done) | simp [Pz.then_ok,Pz.then_no,Pz.St.go,lgc,Pz.fac_succ,Pz.factor,zB.e,zB.es,he1,g1,hz5e,he4,g2,h1,h2,hf5])
  obtain ⟨x2,j6,m4⟩:=z6
  have he5:Pz.all s (Pz.xpr s M) ⟨j5,m3⟩=.ok (x2.e,⟨j6,m4⟩):=hz7.1
  have ga4:j6≤s.size:=hz7.2.at_
  have gm4:m3≤m4:=hz7.2.mono
  have gn4:m4≤100:=hz7.2.most (show m3≤100 by omega)
  refine (go 6) (zZ results147 fun w1 hM=>?_)
  have h9:Pz.fac s (M + 1) ⟨i,n⟩=.ok (x2.e,⟨j6,m4⟩):=by first | (simp only [Pz.then_ok,Pz.then_no,Pz.St.go,lgc,Pz.fac_succ,Pz.factor,zB.e,zB.es,he1,g1,hz5e,he4,g2,he5,h1,h2]; done) | simp [Pz.then_ok,Pz.then_no,Pz.St.go,lgc,Pz.fac_succ,Pz.factor,zB.e,zB.es,he1,g1,hz5e,he4,g2,he5,h1,h2]
  exact hM.ve ((x2,⟨j6,m4⟩):zB × Pz.St) rfl ⟨h9,(Pz.fac_fine s (M + 1) _ hi).ok_ h9⟩ (fun h=>h.sel [0,1,2] qD rfl)
 have g3:(wd1=⟨#[97,108,108]⟩)=False:=eq_false h3
 refine (go 7) (zY (fun h4=>?_) fun h4=>?_)
 ·have g4:(wd1=⟨#[]⟩)=True:=eq_true h4
  refine (go 4) ?_
  refine za (α:=Int × Pz.St) (PT:=111) [Rb 114 p s j5 m3,.pub zO] [.blk b4 Zx 59] (fun z:Int × Pz.St=>iV z.1) (fun z7=>Pz.num s 0 1000000 ⟨j5,m3⟩=.ok z7∧Pz.Good s ⟨j5,m3⟩ z7.2) (fun z7=>[Rb 114 p s z7.2.at_ z7.2.nd,.pub zO]) _ (fun f6=>Pz.num s 0 1000000 ⟨j5,m3⟩=.no f6) (fun _=>rfl) (S9 [0,1,2]) (fun _=>rfl) wn rfl rfl call182 rfl (fun w1 Pb hG=>c_num p s j5 m3 0 1000000 Pb w1 hG qO qO qO qO) ?_ fun z7 hz8=>?_
  ·intro f6 hf6
   refine zS (zz (zS (zW fun w1 hM=>?_)))
   exact hM.zh f6 (by first | (simp only [Pz.then_ok,Pz.then_no,Pz.St.go,lgc,Pz.fac_succ,Pz.factor,zB.e,zB.es,he1,g1,hz5e,he4,g3,g4,h1,h2,hf6]; done) | simp [Pz.then_ok,Pz.then_no,Pz.St.go,lgc,Pz.fac_succ,Pz.factor,zB.e,zB.es,he1,g1,hz5e,he4,g3,g4,h1,h2,hf6])
  obtain ⟨v1,j7,m5⟩:=z7
  have he6:Pz.num s 0 1000000 ⟨j5,m3⟩=.ok (v1,⟨j7,m5⟩):=hz8.1
  have ga5:j7≤s.size:=hz8.2.at_
  have gm5:m3≤m5:=hz8.2.mono
  have gn5:m5≤100:=hz8.2.most (show m3≤100 by omega)
  refine (go 1) ?_
  refine vz (fun _ h=>h.exprG (k:=1) (n:=v1) (r:=0) (wd:=⟨#[]⟩) (ms:=⟨none,0,[]⟩) (bs:=⟨none,0,[]⟩) (ks:=⟨none,0,[]⟩) (fun _ _=>zD.zu _ _ _ _) (fun _ _=>zD.zu _ _ _ _) (fun _ _=>zD.zu _ _ _ _) (fun _ _ x hx=>by cases hx) (by first | decide | omega) (fun x hx=>by cases hx) (fun x hx=>by cases hx)) (za (α:=Unit) (PT:=111) [Rb 114 p s j7 m5,.pub zO] [okP zB.Ok (zB.mk 1 v1 0 ⟨#[]⟩ ⟨none,0,[]⟩ ⟨none,0,[]⟩ ⟨none,0,[]⟩),.blk b4 Zx 59] (fun _:Unit=>.agg (List.toArray [iV 1,iV v1,iV 0,.string ⟨#[]⟩,Zs,Zs,Zs])) (fun z8=>m5 + 1≤100) (fun z8=>[Rb 114 p s j7 (m5 + 1),.pub zO]) _ (fun f7=>Pz.node ⟨j7,m5⟩=.no f7) (fun _=>rfl) (S9 [1,2,0,3]) (fun _=>rfl) wn rfl rfl call99 rfl (fun w1 Pb hG=>vp p s j7 m5 1 v1 0 ⟨#[]⟩ none 0 0 none 0 0 none 0 0 Pb w1 hG qO qO qO) ?_ fun z8 hz9=>?_)
  ·intro f7 hf7
   refine zS (zz (zS (zW fun w1 hM=>?_)))
   exact hM.zh f7 (by first | (simp only [Pz.then_ok,Pz.then_no,Pz.St.go,lgc,Pz.fac_succ,Pz.factor,zB.e,zB.es,he1,g1,hz5e,he4,g3,g4,he6,h1,h2,hf7]; done) | simp [Pz.then_ok,Pz.then_no,Pz.St.go,lgc,Pz.fac_succ,Pz.factor,zB.e,zB.es,he1,g1,hz5e,he4,g3,g4,he6,h1,h2,hf7])
  have he7:Pz.node ⟨j7,m5⟩=.ok ⟨j7,m5 + 1⟩:=Pz.node_yes hz9
  refine (go 6) (zZ results147 fun w1 hM=>?_)
  have h9:Pz.fac s (M + 1) ⟨i,n⟩=.ok ((zB.mk 1 v1 0 ⟨#[]⟩ ⟨none,0,[]⟩ ⟨none,0,[]⟩ ⟨none,0,[]⟩).e,⟨j7,(m5 + 1)⟩):=by first | (simp only [Pz.then_ok,Pz.then_no,Pz.St.go,lgc,Pz.fac_succ,Pz.factor,zB.e,zB.es,he1,g1,hz5e,he4,g3,g4,he6,he7,h1,h2]; done) | simp [Pz.then_ok,Pz.then_no,Pz.St.go,lgc,Pz.fac_succ,Pz.factor,zB.e,zB.es,he1,g1,hz5e,he4,g3,g4,he6,he7,h1,h2]
  exact hM.ve (((zB.mk 1 v1 0 ⟨#[]⟩ ⟨none,0,[]⟩ ⟨none,0,[]⟩ ⟨none,0,[]⟩),⟨j7,(m5 + 1)⟩):zB × Pz.St) rfl ⟨h9,(Pz.fac_fine s (M + 1) _ hi).ok_ h9⟩ (fun h=>h.sel [0,1,2] qD rfl)
 have g5:(wd1=⟨#[]⟩)=False:=eq_false h4
 refine (go 2) ?_
 refine vZ Agg.words wn rfl call33 rfl (fun w1 hM=>c_Words  w1) fun A1 cp1 hc1 hm1 hA1=>?_
 refine (go 1) ?_
 refine yM call150 wn rfl (fun w1 hM=>vV _ Agg.words wd1 w1 (RowSl encString hM 0 rfl)) ?_
 refine (go 4) (zY (fun h5=>?_) fun h5=>?_)
 ·refine (go 11) ?_
  refine za (α:=Unit) (PT:=111) [Rb 114 p s j4 m3,.pub zO] [Row (.slice A1 Agg.words.length cp1) 9 1 strE Agg.words,.blk b4 Zx 59] (fun _:Unit=>.tuple #[]) (fun z9=>False) (fun z9=>[Rb 114 p s j4 m3,.pub zO]) _ (fun f8=>f8=(7,(j4:Int))) (fun _=>rfl) (S9 [1,2,0,3]) (fun _=>rfl) wn rfl rfl call54 rfl (fun w1 Pb hG=>yj p s j4 m3 7 Pb w1 hG) ?_ fun z9 hz10=>?_
  ·intro f8 hf8
   refine zz (zS (zW fun w1 hM=>?_))
   exact hM.zh f8 (by first | (simp only [Pz.then_ok,Pz.then_no,Pz.St.go,lgc,Pz.fac_succ,Pz.factor,zB.e,zB.es,he1,g1,hz5e,he4,g3,g5,h1,h2,h5,hf8]; done) | simp [Pz.then_ok,Pz.then_no,Pz.St.go,lgc,Pz.fac_succ,Pz.factor,zB.e,zB.es,he1,g1,hz5e,he4,g3,g5,h1,h2,h5,hf8])
  exact hz10.elim
 refine (go 7) ?_
 refine za (α:=zB × Pz.St) (PT:=111) [Rb 114 p s j5 m3,.pub zO] [Row (.slice A1 Agg.words.length cp1) 9 1 strE Agg.words,.blk b4 Zx 59] (fun z:zB × Pz.St=>.agg (zy z.1).toArray) (fun z10=>Pz.window s wd1 ⟨j5,m3⟩=.ok (z10.1.e,z10.2)∧Pz.Good s ⟨j5,m3⟩ z10.2) (fun z10=>[Rb 114 p s z10.2.at_ z10.2.nd,.pub zO,okP zB.Ok z10.1]) _ (fun f9=>Pz.window s wd1 ⟨j5,m3⟩=.no f9) (fun _=>rfl) (S9 [1,2,0,3]) (fun _=>rfl) wn rfl rfl call183 rfl (fun w1 Pb hG=>c_window p s j5 m3 wd1 Pb w1 hG qO qO qO qO) ?_ fun z10 hz11=>?_
 ·intro f9 hf9
  refine zS (zW fun w1 hM=>?_)
  exact hM.zh f9 (by first | (simp only [Pz.then_ok,Pz.then_no,Pz.St.go,lgc,Pz.fac_succ,Pz.factor,zB.e,zB.es,he1,g1,hz5e,he4,g3,g5,h1,h2,h5,hf9]; done) | simp [Pz.then_ok,Pz.then_no,Pz.St.go,lgc,Pz.fac_succ,Pz.factor,zB.e,zB.es,he1,g1,hz5e,he4,g3,g5,h1,h2,h5,hf9])
 obtain ⟨x3,j8,m6⟩:=z10
 have he8:Pz.window s wd1 ⟨j5,m3⟩=.ok (x3.e,⟨j8,m6⟩):=hz11.1
 have ga6:j8≤s.size:=hz11.2.at_
 have gm6:m3≤m6:=hz11.2.mono
 have gn6:m6≤100:=hz11.2.most (show m3≤100 by omega)
 refine (go 4) (zZ results147 fun w1 hM=>?_)
 have h9:Pz.fac s (M + 1) ⟨i,n⟩=.ok (x3.e,⟨j8,m6⟩):=by first | (simp only [Pz.then_ok,Pz.then_no,Pz.St.go,lgc,Pz.fac_succ,Pz.factor,zB.e,zB.es,he1,g1,hz5e,he4,g3,g5,he8,h1,h2,h5]; done) | simp [Pz.then_ok,Pz.then_no,Pz.St.go,lgc,Pz.fac_succ,Pz.factor,zB.e,zB.es,he1,g1,hz5e,he4,g3,g5,he8,h1,h2,h5]
 exact hM.ve ((x3,⟨j8,m6⟩):zB × Pz.St) rfl ⟨h9,(Pz.fac_fine s (M + 1) _ hi).ok_ h9⟩ (fun h=>h.sel [0,1,2] qD rfl)
set_option maxHeartbeats 2000000 in
theorem c_term (p:Nat) (s:ByteArray) (i:Nat) (n:Int) (d:Int) (N:Nat) (Pb:Nat→Prop) (w:World) (hG:Mem w ⟨fpOf [Rb 114 p s i n,.pub zO],Pb⟩ [Rb 114 p s i n,.pub zO] w) (hi:i≤s.size) (hs:s.size≤2000) (hn:0≤n∧n≤100) (hd:d + (N:Int)=21) (hd1:1≤d) (ih:FacC N) :
    Calls prog 97 #[.pointer (some ⟨p,0,none⟩),iV d] w (RetX w [Rb 114 p s i n,.pub zO] Pb 111 (fun z:zB × Pz.St=>.agg (zy z.1).toArray) (fun z=>Pz.trm s N ⟨i,n⟩=.ok (z.1.e,z.2)∧Pz.Good s ⟨i,n⟩ z.2) (fun z=>[Rb 114 p s z.2.at_ z.2.nd,.pub zO,okP zB.Ok z.1]) (fun f=>Pz.trm s N ⟨i,n⟩=.no f)):=by
 refine zw (N:=22) func97 hG ?_
 refine (go 2) (yA fun b4=>?_)
 refine (go 6) ?_
 refine za (α:=zB × Pz.St) (PT:=111) [Rb 114 p s i n,.pub zO] [.blk b4 Zx 59] (fun z:zB × Pz.St=>.agg (zy z.1).toArray) (fun z1=>Pz.fac s N ⟨i,n⟩=.ok (z1.1.e,z1.2)∧Pz.Good s ⟨i,n⟩ z1.2) (fun z1=>[Rb 114 p s z1.2.at_ z1.2.nd,.pub zO,okP zB.Ok z1.1]) _ (fun f1=>Pz.fac s N ⟨i,n⟩=.no f1) (fun _=>rfl) (S9 [1,2,0]) (fun _=>rfl) wn rfl rfl call147 rfl (fun w1 Pb hG=>ih p s i n d Pb w1 hG qO qO qO qO qO) ?_ fun z1 hz1=>?_
 ·intro f1 hf1
  refine zS (zW fun w1 hM=>?_)
  exact hM.zh f1 (by first | (simp only [Pz.then_ok,Pz.then_no,Pz.St.go,lgc,Pz.trm,Pz.sumOf,hf1]; done) | simp [Pz.then_ok,Pz.then_no,Pz.St.go,lgc,Pz.trm,Pz.sumOf,hf1])
 obtain ⟨x1,j1,m1⟩:=z1
 have he1:Pz.fac s N ⟨i,n⟩=.ok (x1.e,⟨j1,m1⟩):=hz1.1
 have ga1:j1≤s.size:=hz1.2.at_
 have gm1:n≤m1:=hz1.2.mono
 have gn1:m1≤100:=hz1.2.most (show n≤100 by omega)
 refine yA fun b5=>?_
 refine (go 5) ?_
 refine vO (fun (x:zB) (k:Nat) (m:Int) (q:Nat)=>[(0,.pointer (some ⟨p,0,none⟩)),(1,iV d),(4,.pointer (some ⟨b4,0,none⟩)),(5,.pointer (some ⟨b5,0,none⟩))]) (fun (x:zB) (k:Nat) (m:Int) (q:Nat)=>[.blk b5 [iV x.kind,iV x.n,iV x.range,.string x.word,.slice x.ms.A x.ms.l.length x.ms.c,.slice x.by_.A x.by_.l.length x.by_.c,.slice x.kids.A x.kids.l.length x.kids.c] 59,Rb 114 p s k m,.pub zO,okP zB.Ok x,.blk b4 Zx 59]) (fun (x:zB) (k:Nat) (m:Int) (q:Nat)=>Pz.binL s (Pz.fac s N) Pz.star 101 x1.e ⟨j1,m1⟩=Pz.binL s (Pz.fac s N) Pz.star (q + 1) x.e ⟨k,m⟩∧k≤s.size∧0≤m∧m≤100∧(100:Int)≤(q:Int) + m) (fun (x:zB) (k:Nat) (m:Int) (q:Nat)=>q) x1 j1 m1 100 (sc rfl (sc rfl (sc rfl (sc rfl sn)))) (fun _ h=>h) ?_ (fun x k m q hI1=>?_)
 ·exact ⟨rfl,by omega,by omega,by omega,by omega⟩
 refine (go 4) ?_
 refine yQ (α:=(Bool × Nat)) [Rb 114 p s k m,.pub zO] [.blk b5 [iV x.kind,iV x.n,iV x.range,.string x.word,.slice x.ms.A x.ms.l.length x.ms.c,.slice x.by_.A x.by_.l.length x.by_.c,.slice x.kids.A x.kids.l.length x.kids.c] 59,okP zB.Ok x,.blk b4 Zx 59] (fun z:Bool × Nat=>.bool z.1) (fun z2=>(Pz.eat s ⟨#[42]⟩ k=z2∧k≤z2.2∧z2.2≤s.size)) (fun z2=>[Rb 114 p s z2.2 m,.pub zO]) _ (fun _=>rfl) (S9 [1,2,0,3,4]) (fun _=>rfl) wn rfl rfl call98 rfl (fun w1 Pb hG=>vw p s k m ⟨#[42]⟩ Pb w1 hG qO qO) fun z2 hz2=>?_
 obtain ⟨bo1,j2⟩:=z2
 have he2:Pz.eat s ⟨#[42]⟩ k=(bo1,j2):=hz2.1
 have hz2a:k≤j2:=hz2.2.1
 have hz2b:j2≤s.size:=hz2.2.2
 refine vD (.bool bo1) ?_
 refine (go 2) (yc (fun h1=>?_) fun h1=>?_)
 ·refine (go 7) ?_
  refine za (α:=zB × Pz.St) (PT:=111) [Rb 114 p s j2 m,.pub zO] [.blk b5 [iV x.kind,iV x.n,iV x.range,.string x.word,.slice x.ms.A x.ms.l.length x.ms.c,.slice x.by_.A x.by_.l.length x.by_.c,.slice x.kids.A x.kids.l.length x.kids.c] 59,okP zB.Ok x,.blk b4 Zx 59] (fun z:zB × Pz.St=>.agg (zy z.1).toArray) (fun z3=>Pz.fac s N ⟨j2,m⟩=.ok (z3.1.e,z3.2)∧Pz.Good s ⟨j2,m⟩ z3.2) (fun z3=>[Rb 114 p s z3.2.at_ z3.2.nd,.pub zO,okP zB.Ok z3.1]) _ (fun f2=>Pz.fac s N ⟨j2,m⟩=.no f2) (fun _=>rfl) (S9 [0,1,2,3,4]) (fun _=>rfl) wn rfl rfl call147 rfl (fun w1 Pb hG=>ih p s j2 m d Pb w1 hG qO qO qO qO qO) ?_ fun z3 hz3=>?_
  ·intro f2 hf2
   refine zS (zz (vS (zz (zS (zW fun w1 hM=>?_)))))
   have hY:=Pz.bin_next hI1.1 (Pz.star1 (by rw [he2,h1])) qD hf2
   rw [Pz.then_no] at hY
   exact hM.zh f2 (by simp only [Pz.then_ok,Pz.then_no,Pz.St.go,lgc,Pz.trm,Pz.sumOf,he1,hY])
  obtain ⟨x2,j3,m2⟩:=z3
  have he3:Pz.fac s N ⟨j2,m⟩=.ok (x2.e,⟨j3,m2⟩):=hz3.1
  have ga2:j3≤s.size:=hz3.2.at_
  have gm2:m≤m2:=hz3.2.mono
  have gn2:m2≤100:=hz3.2.most (show m≤100 by omega)
  refine yA fun b6=>?_
  refine (go 7) ?_
  refine zx zy ([x,x2]:List zB) wn underlying57 inf59 rfl rfl rfl rfl qD qD rfl fun b18=>?_
  refine (go 1) ?_
  refine y9 0 2 encExprX rfl rfl (fp2) (vz (fun _ h=>h.exprG (k:=4) (n:=0) (r:=0) (wd:=⟨#[42]⟩) (ms:=⟨none,0,[]⟩) (bs:=⟨none,0,[]⟩) (ks:=⟨(some ⟨b18,0,none⟩),2,([x,x2]:List zB)⟩) (fun _ _=>zD.zu _ _ _ _) (fun _ _=>zD.zu _ _ _ _) (fun _ pp=>pp.sl 0 rfl) (fun _ pp x hx=>by simp only [List.mem_cons,List.not_mem_nil,or_false] at hx; rcases hx with rfl | rfl <;> first | exact pp.at_ 6 _ rfl | exact pp.at_ 4 _ rfl) (by first | decide | omega) (fun x hx=>by cases hx) (fun x hx=>by cases hx)) (za (α:=Unit) (PT:=111) [Rb 114 p s j3 m2,.pub zO] [okP zB.Ok (zB.mk 4 0 0 ⟨#[42]⟩ ⟨none,0,[]⟩ ⟨none,0,[]⟩ ⟨(some ⟨b18,0,none⟩),2,([x,x2]:List zB)⟩),slP 7 zy (.slice (some ⟨b18,0,none⟩) 2 2) ([x,x2]:List zB),.blk b6 [iV x2.kind,iV x2.n,iV x2.range,.string x2.word,.slice x2.ms.A x2.ms.l.length x2.ms.c,.slice x2.by_.A x2.by_.l.length x2.by_.c,.slice x2.kids.A x2.kids.l.length x2.kids.c] 59,okP zB.Ok x2,.blk b5 [iV x.kind,iV x.n,iV x.range,.string x.word,.slice x.ms.A x.ms.l.length x.ms.c,.slice x.by_.A x.by_.l.length x.by_.c,.slice x.kids.A x.kids.l.length x.kids.c] 59,okP zB.Ok x,.blk b4 Zx 59] (fun _:Unit=>.agg (List.toArray [iV 4,iV 0,iV 0,.string ⟨#[42]⟩,Zs,Zs,.slice (some ⟨b18,0,none⟩) 2 2])) (fun z4=>m2 + 1≤100) (fun z4=>[Rb 114 p s j3 (m2 + 1),.pub zO]) _ (fun f3=>Pz.node ⟨j3,m2⟩=.no f3) (fun _=>rfl) (S9 [3,4,0,1,2,5,6,7,8]) (fun _=>rfl) wn rfl rfl call99 rfl (fun w1 Pb hG=>vp p s j3 m2 4 0 0 ⟨#[42]⟩ none 0 0 none 0 0 (some ⟨b18,0,none⟩) 2 2 Pb w1 hG qO qO qO) ?_ fun z4 hz4=>?_))
  ·intro f3 hf3
   refine zz (vS (zz (zS (zW fun w1 hM=>?_))))
   have hY:=Pz.bin_next hI1.1 (Pz.star1 (by rw [he2,h1])) qD he3
   simp only [Pz.then_ok,hf3,Pz.then_no] at hY
   exact hM.zh f3 (by simp only [Pz.then_ok,Pz.then_no,Pz.St.go,lgc,Pz.trm,Pz.sumOf,he1,hY])
  have he4:Pz.node ⟨j3,m2⟩=.ok ⟨j3,m2 + 1⟩:=Pz.node_yes hz4
  refine (go 1) ?_
  refine zT (yG (yY (zB.mk 4 0 0 ⟨#[42]⟩ ⟨none,0,[]⟩ ⟨none,0,[]⟩ ⟨(some ⟨b18,0,none⟩),2,([x,x2]:List zB)⟩) j3 (m2 + 1) (q - 1) (sc rfl (sc rfl (sc rfl (sc rfl sn)))) (S9 [6,0,1,2,8]) ?_ ?_))
  ·have hY:=Pz.bin_next hI1.1 (Pz.star1 (by rw [he2,h1])) qD he3
   simp only [Pz.then_ok,he4] at hY
   exact ⟨hY.trans (by rw [show q - 1 + 1=q by omega]; rfl),by omega,by omega,by omega,by omega⟩
  omega
 have g1:bo1=false:=by simpa using h1
 refine (go 12) (zZ results97 fun w1 hM=>?_)
 have h9:Pz.trm s N ⟨i,n⟩=.ok (x.e,⟨j2,m⟩):=by simp only [Pz.then_ok,Pz.then_no,Pz.St.go,lgc,Pz.trm,Pz.sumOf,he1,Pz.bin_done hI1.1 (Pz.star0 (by rw [he2,g1]))]
 exact hM.ve ((x,⟨j2,m⟩):zB × Pz.St) rfl ⟨h9,(Pz.trm_fine s N _ hi).ok_ h9⟩ (fun h=>h.sel [0,1,3] qD rfl)
set_option maxHeartbeats 2000000 in
theorem c_expr (p:Nat) (s:ByteArray) (i:Nat) (n:Int) (d:Int) (N:Nat) (Pb:Nat→Prop) (w:World) (hG:Mem w ⟨fpOf [Rb 114 p s i n,.pub zO],Pb⟩ [Rb 114 p s i n,.pub zO] w) (hi:i≤s.size) (hs:s.size≤2000) (hn:0≤n∧n≤100) (hd:d + (N:Int)=21) (hd1:1≤d) (ih:TrmC N) :
    Calls prog 52 #[.pointer (some ⟨p,0,none⟩),iV d] w (RetX w [Rb 114 p s i n,.pub zO] Pb 111 (fun z:zB × Pz.St=>.agg (zy z.1).toArray) (fun z=>Pz.xpr s N ⟨i,n⟩=.ok (z.1.e,z.2)∧Pz.Good s ⟨i,n⟩ z.2) (fun z=>[Rb 114 p s z.2.at_ z.2.nd,.pub zO,okP zB.Ok z.1]) (fun f=>Pz.xpr s N ⟨i,n⟩=.no f)):=by
 refine zw (N:=28) func52 hG ?_
 refine (go 2) (yA fun b4=>?_)
 refine (go 6) ?_
 refine za (α:=zB × Pz.St) (PT:=111) [Rb 114 p s i n,.pub zO] [.blk b4 Zx 59] (fun z:zB × Pz.St=>.agg (zy z.1).toArray) (fun z1=>Pz.trm s N ⟨i,n⟩=.ok (z1.1.e,z1.2)∧Pz.Good s ⟨i,n⟩ z1.2) (fun z1=>[Rb 114 p s z1.2.at_ z1.2.nd,.pub zO,okP zB.Ok z1.1]) _ (fun f1=>Pz.trm s N ⟨i,n⟩=.no f1) (fun _=>rfl) (S9 [1,2,0]) (fun _=>rfl) wn rfl rfl call97 rfl (fun w1 Pb hG=>ih p s i n d Pb w1 hG qO qO qO qO qO) ?_ fun z1 hz1=>?_
 ·intro f1 hf1
  refine zS (zW fun w1 hM=>?_)
  exact hM.zh f1 (by first | (simp only [Pz.then_ok,Pz.then_no,Pz.St.go,lgc,Pz.xpr,Pz.sumOf,hf1]; done) | simp [Pz.then_ok,Pz.then_no,Pz.St.go,lgc,Pz.xpr,Pz.sumOf,hf1])
 obtain ⟨x1,j1,m1⟩:=z1
 have he1:Pz.trm s N ⟨i,n⟩=.ok (x1.e,⟨j1,m1⟩):=hz1.1
 have ga1:j1≤s.size:=hz1.2.at_
 have gm1:n≤m1:=hz1.2.mono
 have gn1:m1≤100:=hz1.2.most (show n≤100 by omega)
 refine yA fun b5=>?_
 refine (go 4) ?_
 refine vO (fun (x:zB) (k:Nat) (m:Int) (q:Nat)=>[(0,.pointer (some ⟨p,0,none⟩)),(1,iV d),(4,.pointer (some ⟨b4,0,none⟩)),(5,.pointer (some ⟨b5,0,none⟩))]) (fun (x:zB) (k:Nat) (m:Int) (q:Nat)=>[.blk b5 [iV x.kind,iV x.n,iV x.range,.string x.word,.slice x.ms.A x.ms.l.length x.ms.c,.slice x.by_.A x.by_.l.length x.by_.c,.slice x.kids.A x.kids.l.length x.kids.c] 59,Rb 114 p s k m,.pub zO,okP zB.Ok x,.blk b4 Zx 59]) (fun (x:zB) (k:Nat) (m:Int) (q:Nat)=>Pz.binL s (Pz.trm s N) Pz.plus 101 x1.e ⟨j1,m1⟩=Pz.binL s (Pz.trm s N) Pz.plus (q + 1) x.e ⟨k,m⟩∧k≤s.size∧0≤m∧m≤100∧(100:Int)≤(q:Int) + m) (fun (x:zB) (k:Nat) (m:Int) (q:Nat)=>q) x1 j1 m1 100 (sc rfl (sc rfl (sc rfl (sc rfl sn)))) (fun _ h=>h) ?_ (fun x k m q hI1=>?_)
 ·exact ⟨rfl,by omega,by omega,by omega,by omega⟩
 refine (go 11) ?_
 refine yQ (α:=(Bool × Nat)) [Rb 114 p s k m,.pub zO] [.blk b5 [iV x.kind,iV x.n,iV x.range,.string x.word,.slice x.ms.A x.ms.l.length x.ms.c,.slice x.by_.A x.by_.l.length x.by_.c,.slice x.kids.A x.kids.l.length x.kids.c] 59,okP zB.Ok x,.blk b4 Zx 59] (fun z:Bool × Nat=>.bool z.1) (fun z2=>(Pz.eat s ⟨#[43]⟩ k=z2∧k≤z2.2∧z2.2≤s.size)) (fun z2=>[Rb 114 p s z2.2 m,.pub zO]) _ (fun _=>rfl) (S9 [1,2,0,3,4]) (fun _=>rfl) wn rfl rfl call98 rfl (fun w1 Pb hG=>vw p s k m ⟨#[43]⟩ Pb w1 hG qO qO) fun z2 hz2=>?_
 obtain ⟨bo1,j2⟩:=z2
 have he2:Pz.eat s ⟨#[43]⟩ k=(bo1,j2):=hz2.1
 have hz2a:k≤j2:=hz2.2.1
 have hz2b:j2≤s.size:=hz2.2.2
 refine vD (.bool bo1) ?_
 refine (go 3) (yc (fun h1=>?_) fun h1=>?_)
 ·refine (go 9) ?_
  refine za (α:=zB × Pz.St) (PT:=111) [Rb 114 p s j2 m,.pub zO] [.blk b5 [iV x.kind,iV x.n,iV x.range,.string x.word,.slice x.ms.A x.ms.l.length x.ms.c,.slice x.by_.A x.by_.l.length x.by_.c,.slice x.kids.A x.kids.l.length x.kids.c] 59,okP zB.Ok x,.blk b4 Zx 59] (fun z:zB × Pz.St=>.agg (zy z.1).toArray) (fun z3=>Pz.trm s N ⟨j2,m⟩=.ok (z3.1.e,z3.2)∧Pz.Good s ⟨j2,m⟩ z3.2) (fun z3=>[Rb 114 p s z3.2.at_ z3.2.nd,.pub zO,okP zB.Ok z3.1]) _ (fun f2=>Pz.trm s N ⟨j2,m⟩=.no f2) (fun _=>rfl) (S9 [0,1,2,3,4]) (fun _=>rfl) wn rfl rfl call97 rfl (fun w1 Pb hG=>ih p s j2 m d Pb w1 hG qO qO qO qO qO) ?_ fun z3 hz3=>?_
  ·intro f2 hf2
   refine zS (zz (vS (zz (zW fun w1 hM=>?_))))
   have hY:=Pz.bin_next hI1.1 (Pz.plus1 (by rw [he2,h1])) qD hf2
   rw [Pz.then_no] at hY
   exact hM.zh f2 (by simp only [Pz.then_ok,Pz.then_no,Pz.St.go,lgc,Pz.xpr,Pz.sumOf,he1,hY])
  obtain ⟨x2,j3,m2⟩:=z3
  have he3:Pz.trm s N ⟨j2,m⟩=.ok (x2.e,⟨j3,m2⟩):=hz3.1
  have ga2:j3≤s.size:=hz3.2.at_
  have gm2:m≤m2:=hz3.2.mono
  have gn2:m2≤100:=hz3.2.most (show m≤100 by omega)
  refine yA fun b7=>?_
  refine (go 8) ?_
  refine zx zy ([x,x2]:List zB) wn underlying57 inf59 rfl rfl rfl rfl qD qD rfl fun b25=>?_
  refine (go 1) ?_
  refine y9 0 2 encExprX rfl rfl (fp2) (vz (fun _ h=>h.exprG (k:=4) (n:=0) (r:=0) (wd:=⟨#[43]⟩) (ms:=⟨none,0,[]⟩) (bs:=⟨none,0,[]⟩) (ks:=⟨(some ⟨b25,0,none⟩),2,([x,x2]:List zB)⟩) (fun _ _=>zD.zu _ _ _ _) (fun _ _=>zD.zu _ _ _ _) (fun _ pp=>pp.sl 0 rfl) (fun _ pp x hx=>by simp only [List.mem_cons,List.not_mem_nil,or_false] at hx; rcases hx with rfl | rfl <;> first | exact pp.at_ 6 _ rfl | exact pp.at_ 4 _ rfl) (by first | decide | omega) (fun x hx=>by cases hx) (fun x hx=>by cases hx)) (za (α:=Unit) (PT:=111) [Rb 114 p s j3 m2,.pub zO] [okP zB.Ok (zB.mk 4 0 0 ⟨#[43]⟩ ⟨none,0,[]⟩ ⟨none,0,[]⟩ ⟨(some ⟨b25,0,none⟩),2,([x,x2]:List zB)⟩),slP 7 zy (.slice (some ⟨b25,0,none⟩) 2 2) ([x,x2]:List zB),.blk b7 [iV x2.kind,iV x2.n,iV x2.range,.string x2.word,.slice x2.ms.A x2.ms.l.length x2.ms.c,.slice x2.by_.A x2.by_.l.length x2.by_.c,.slice x2.kids.A x2.kids.l.length x2.kids.c] 59,okP zB.Ok x2,.blk b5 [iV x.kind,iV x.n,iV x.range,.string x.word,.slice x.ms.A x.ms.l.length x.ms.c,.slice x.by_.A x.by_.l.length x.by_.c,.slice x.kids.A x.kids.l.length x.kids.c] 59,okP zB.Ok x,.blk b4 Zx 59] (fun _:Unit=>.agg (List.toArray [iV 4,iV 0,iV 0,.string ⟨#[43]⟩,Zs,Zs,.slice (some ⟨b25,0,none⟩) 2 2])) (fun z4=>m2 + 1≤100) (fun z4=>[Rb 114 p s j3 (m2 + 1),.pub zO]) _ (fun f3=>Pz.node ⟨j3,m2⟩=.no f3) (fun _=>rfl) (S9 [3,4,0,1,2,5,6,7,8]) (fun _=>rfl) wn rfl rfl call99 rfl (fun w1 Pb hG=>vp p s j3 m2 4 0 0 ⟨#[43]⟩ none 0 0 none 0 0 (some ⟨b25,0,none⟩) 2 2 Pb w1 hG qO qO qO) ?_ fun z4 hz4=>?_))
  ·intro f3 hf3
   refine zz (vS (zz (zW fun w1 hM=>?_)))
   have hY:=Pz.bin_next hI1.1 (Pz.plus1 (by rw [he2,h1])) qD he3
   simp only [Pz.then_ok,hf3,Pz.then_no] at hY
   exact hM.zh f3 (by simp only [Pz.then_ok,Pz.then_no,Pz.St.go,lgc,Pz.xpr,Pz.sumOf,he1,hY])
  have he4:Pz.node ⟨j3,m2⟩=.ok ⟨j3,m2 + 1⟩:=Pz.node_yes hz4
  refine (go 1) ?_
  refine zT (yG (yY (zB.mk 4 0 0 ⟨#[43]⟩ ⟨none,0,[]⟩ ⟨none,0,[]⟩ ⟨(some ⟨b25,0,none⟩),2,([x,x2]:List zB)⟩) j3 (m2 + 1) (q - 1) (sc rfl (sc rfl (sc rfl (sc rfl sn)))) (S9 [6,0,1,2,8]) ?_ ?_))
  ·have hY:=Pz.bin_next hI1.1 (Pz.plus1 (by rw [he2,h1])) qD he3
   simp only [Pz.then_ok,he4] at hY
   exact ⟨hY.trans (by rw [show q - 1 + 1=q by omega]; rfl),by omega,by omega,by omega,by omega⟩
  omega
 have g1:bo1=false:=by simpa using h1
 refine (go 3) ?_
 refine yQ (α:=(Bool × Nat)) [Rb 114 p s j2 m,.pub zO] [.blk b5 [iV x.kind,iV x.n,iV x.range,.string x.word,.slice x.ms.A x.ms.l.length x.ms.c,.slice x.by_.A x.by_.l.length x.by_.c,.slice x.kids.A x.kids.l.length x.kids.c] 59,okP zB.Ok x,.blk b4 Zx 59] (fun z:Bool × Nat=>.bool z.1) (fun z5=>(Pz.eat s ⟨#[45]⟩ j2=z5∧j2≤z5.2∧z5.2≤s.size)) (fun z5=>[Rb 114 p s z5.2 m,.pub zO]) _ (fun _=>rfl) (S9 [0,1,2,3,4]) (fun _=>rfl) wn rfl rfl call98 rfl (fun w1 Pb hG=>vw p s j2 m ⟨#[45]⟩ Pb w1 hG qO qO) fun z5 hz5=>?_
 obtain ⟨bo2,j4⟩:=z5
 have he5:Pz.eat s ⟨#[45]⟩ j2=(bo2,j4):=hz5.1
 have hz5a:j2≤j4:=hz5.2.1
 have hz5b:j4≤s.size:=hz5.2.2
 refine vD (.bool bo2) ?_
 refine (go 3) (yc (fun h2=>?_) fun h2=>?_)
 ·refine (go 9) ?_
  refine za (α:=zB × Pz.St) (PT:=111) [Rb 114 p s j4 m,.pub zO] [.blk b5 [iV x.kind,iV x.n,iV x.range,.string x.word,.slice x.ms.A x.ms.l.length x.ms.c,.slice x.by_.A x.by_.l.length x.by_.c,.slice x.kids.A x.kids.l.length x.kids.c] 59,okP zB.Ok x,.blk b4 Zx 59] (fun z:zB × Pz.St=>.agg (zy z.1).toArray) (fun z6=>Pz.trm s N ⟨j4,m⟩=.ok (z6.1.e,z6.2)∧Pz.Good s ⟨j4,m⟩ z6.2) (fun z6=>[Rb 114 p s z6.2.at_ z6.2.nd,.pub zO,okP zB.Ok z6.1]) _ (fun f4=>Pz.trm s N ⟨j4,m⟩=.no f4) (fun _=>rfl) (S9 [0,1,2,3,4]) (fun _=>rfl) wn rfl rfl call97 rfl (fun w1 Pb hG=>ih p s j4 m d Pb w1 hG qO qO qO qO qO) ?_ fun z6 hz6=>?_
  ·intro f4 hf4
   refine zS (zz (vS (zz (zW fun w1 hM=>?_))))
   have hY:=Pz.bin_next hI1.1 (Pz.minus1 (by rw [he2,g1]) (by rw [he5,h2])) qD hf4
   rw [Pz.then_no] at hY
   exact hM.zh f4 (by simp only [Pz.then_ok,Pz.then_no,Pz.St.go,lgc,Pz.xpr,Pz.sumOf,he1,hY])
  obtain ⟨x3,j5,m3⟩:=z6
  have he6:Pz.trm s N ⟨j4,m⟩=.ok (x3.e,⟨j5,m3⟩):=hz6.1
  have ga3:j5≤s.size:=hz6.2.at_
  have gm3:m≤m3:=hz6.2.mono
  have gn3:m3≤100:=hz6.2.most (show m≤100 by omega)
  refine yA fun b7=>?_
  refine (go 8) ?_
  refine zx zy ([x,x3]:List zB) wn underlying57 inf59 rfl rfl rfl rfl qD qD rfl fun b25=>?_
  refine (go 1) ?_
  refine y9 0 2 encExprX rfl rfl (fp2) (vz (fun _ h=>h.exprG (k:=4) (n:=0) (r:=0) (wd:=⟨#[45]⟩) (ms:=⟨none,0,[]⟩) (bs:=⟨none,0,[]⟩) (ks:=⟨(some ⟨b25,0,none⟩),2,([x,x3]:List zB)⟩) (fun _ _=>zD.zu _ _ _ _) (fun _ _=>zD.zu _ _ _ _) (fun _ pp=>pp.sl 0 rfl) (fun _ pp x hx=>by simp only [List.mem_cons,List.not_mem_nil,or_false] at hx; rcases hx with rfl | rfl <;> first | exact pp.at_ 6 _ rfl | exact pp.at_ 4 _ rfl) (by first | decide | omega) (fun x hx=>by cases hx) (fun x hx=>by cases hx)) (za (α:=Unit) (PT:=111) [Rb 114 p s j5 m3,.pub zO] [okP zB.Ok (zB.mk 4 0 0 ⟨#[45]⟩ ⟨none,0,[]⟩ ⟨none,0,[]⟩ ⟨(some ⟨b25,0,none⟩),2,([x,x3]:List zB)⟩),slP 7 zy (.slice (some ⟨b25,0,none⟩) 2 2) ([x,x3]:List zB),.blk b7 [iV x3.kind,iV x3.n,iV x3.range,.string x3.word,.slice x3.ms.A x3.ms.l.length x3.ms.c,.slice x3.by_.A x3.by_.l.length x3.by_.c,.slice x3.kids.A x3.kids.l.length x3.kids.c] 59,okP zB.Ok x3,.blk b5 [iV x.kind,iV x.n,iV x.range,.string x.word,.slice x.ms.A x.ms.l.length x.ms.c,.slice x.by_.A x.by_.l.length x.by_.c,.slice x.kids.A x.kids.l.length x.kids.c] 59,okP zB.Ok x,.blk b4 Zx 59] (fun _:Unit=>.agg (List.toArray [iV 4,iV 0,iV 0,.string ⟨#[45]⟩,Zs,Zs,.slice (some ⟨b25,0,none⟩) 2 2])) (fun z7=>m3 + 1≤100) (fun z7=>[Rb 114 p s j5 (m3 + 1),.pub zO]) _ (fun f5=>Pz.node ⟨j5,m3⟩=.no f5) (fun _=>rfl) (S9 [3,4,0,1,2,5,6,7,8]) (fun _=>rfl) wn rfl rfl call99 rfl (fun w1 Pb hG=>vp p s j5 m3 4 0 0 ⟨#[45]⟩ none 0 0 none 0 0 (some ⟨b25,0,none⟩) 2 2 Pb w1 hG qO qO qO) ?_ fun z7 hz7=>?_))
  ·intro f5 hf5
   refine zz (vS (zz (zW fun w1 hM=>?_)))
   have hY:=Pz.bin_next hI1.1 (Pz.minus1 (by rw [he2,g1]) (by rw [he5,h2])) qD he6
   simp only [Pz.then_ok,hf5,Pz.then_no] at hY
   exact hM.zh f5 (by simp only [Pz.then_ok,Pz.then_no,Pz.St.go,lgc,Pz.xpr,Pz.sumOf,he1,hY])
  have he7:Pz.node ⟨j5,m3⟩=.ok ⟨j5,m3 + 1⟩:=Pz.node_yes hz7
  refine (go 1) ?_
  refine zT (yG (yY (zB.mk 4 0 0 ⟨#[45]⟩ ⟨none,0,[]⟩ ⟨none,0,[]⟩ ⟨(some ⟨b25,0,none⟩),2,([x,x3]:List zB)⟩) j5 (m3 + 1) (q - 1) (sc rfl (sc rfl (sc rfl (sc rfl sn)))) (S9 [6,0,1,2,8]) ?_ ?_))
  ·have hY:=Pz.bin_next hI1.1 (Pz.minus1 (by rw [he2,g1]) (by rw [he5,h2])) qD he6
   simp only [Pz.then_ok,he7] at hY
   exact ⟨hY.trans (by rw [show q - 1 + 1=q by omega]; rfl),by omega,by omega,by omega,by omega⟩
  omega
 have g2:bo2=false:=by simpa using h2
 refine (go 12) (zZ results52 fun w1 hM=>?_)
 have h9:Pz.xpr s N ⟨i,n⟩=.ok (x.e,⟨j4,m⟩):=by simp only [Pz.then_ok,Pz.then_no,Pz.St.go,lgc,Pz.xpr,Pz.sumOf,he1,Pz.bin_done hI1.1 (Pz.plus0 (by rw [he2,g1]) (by rw [he5,g2]))]
 exact hM.ve ((x,⟨j4,m⟩):zB × Pz.St) rfl ⟨h9,(Pz.xpr_fine s N _ hi).ok_ h9⟩ (fun h=>h.sel [0,1,3] qD rfl)
theorem trm_of {N:Nat} (ih:FacC N):TrmC N:=fun p s i n d Pb w hG hi hs hn hd hd1=>c_term p s i n d N Pb w hG hi hs hn hd hd1 ih
theorem xpr_of {N:Nat} (ih:TrmC N):XprC N:=fun p s i n d Pb w hG hi hs hn hd hd1=>c_expr p s i n d N Pb w hG hi hs hn hd hd1 ih
theorem fac_all:∀ N,FacC N
  | 0=>fun p s i n d Pb w hG hi hs hn hd hd1=>c_factor p s i n d 0 Pb w hG hi hs hn hd hd1 (fun M h=>by omega)
  | N + 1=>fun p s i n d Pb w hG hi hs hn hd hd1=>c_factor p s i n d (N + 1) Pb w hG hi hs hn hd hd1 (fun M h=>by obtain rfl:N=M:=qO; exact xpr_of (trm_of (fac_all N)))
theorem xpr_all (N:Nat):XprC N:=xpr_of (trm_of (fac_all N))
end
section
namespace Ex
set_option linter.unusedVariables false
@[reducible] def dfr (f:Nat) (cap:List Value):Deferred:={ target:=.fn (.func f) cap.toArray,args:=#[] }
section
variable {P:Program} {N:Nat} {D:List Deferred} {E E':Env} {S S':World→Prop} {Q:Exit→Act→World→Prop} {K:Act→World→Prop} {w0 w w':World} {M:Fp} {L A A' R L':List Own} {Pb:Nat→Prop}
  {ops:Array Oper} {rest:List Oper} {d:Nat} {ty T PT:TypeId} {pos:String} {aft:Array Edge} {g:Option (Nat × Bool)} {v u:Value} {x y:Operand}
theorem fstartD {f:Nat} {fn:Func} {c:Code} {vals:List Value} {w:World} {R:Ending→World→Prop} (hf:P.funcs[f]?=some fn) (hb:fn.body=some c) (hn:fn.ntmps=N) (hl:Nat.ble vals.length N=true)
    (hS:S w) (h:WC P N [] c (bodyPostD P fn R) (envOf 0 vals) S):Calls P f vals.toArray w R:=by
  refine calls_of_wp_defers hf hb (h w hS _ ⟨rfl,?_,fun t v hv=>?_⟩)
  · have:=Nat.le_of_ble_eq_true hl
    simp [hn]; omega
  · rw [look_envOf,if_neg qO] at hv
    simp only [Nat.sub_zero] at hv
    have hlt:t < vals.length:=(List.getElem?_eq_some_iff.1 hv).1
    rw [Array.getElem?_append_left (by simpa using hlt)]
    simpa using hv
theorem c_seqD {x y:Code} (h:∀ K:Act→World→Prop,(∀ D' E S,WC P N D' y Q E S→∀ w,S w→∀ a,Has N D' a E→K a w)→WC P N D x (Exit.then K Q) E S):WC P N D (.seq x y) Q E S :=
  fun w hw a ha=>wp_seq (h (fun a w=>y.wp P Q a w) (fun _ _ _ h' w' hw' a' ha'=>h' w' hw' a' ha') w hw a ha)
theorem l_defer {f:Nat} {cap:List Value} (hw:Want N D ops E g true) (hx:ev E x=some (.func (.func f) #[] cap.toArray)) (h:WL P N (dfr f cap::D) ops Q rest E S):WL P N D ops Q (⟨none,.defer { callee:=.value x,args:=#[],argTypes:=#[] },ty,pos,aft,g⟩::rest) E S:=fun w hS a ha=>by
  unfold wpList
  rw [if_pos (hw _ rfl a ha)]
  left
  unfold Oper.wp
  rw [show (execOp a.eval ⟨none,.defer { callee:=.value x,args:=#[],argTypes:=#[] },ty,pos,aft,g⟩).run P w=.ok (.defer (dfr f cap)) w from by unfold execOp; simp [ha.eval hx,resolve,Deferred.ofValue,dfr],Oper.upon_defer]
  exact h w hS _ ⟨by show _::a.defers=_; rw [ha.d],ha.n,ha.h⟩
section
variable {fn:Func} {R:Ending→World→Prop} {f:Nat} {cap:List Value} {r1 r2:ResultVar} {v1 v2:Value} {chain chain':List PanicEntry}
theorem res2 {a:Act} {w:World} (hr:fn.results=#[r1,r2]) (hv1:ResV P N D E S r1 v1) (hv2:ResV P N D E S r2 v2) (hS:S w) (ha:Has N D a E):(results fn a.tmps).run P w=.ok (.tuple #[v1,v2]) w:=by
  rw [results_eq,hr]; simp [hv1 w hS a ha,hv2 w hS a ha]
theorem e_retD0 {e:Exit} (he:e=.ret∨e=.normal) (hr:fn.results=#[r1,r2]) (hv1:ResV P N [] E S r1 v1) (hv2:ResV P N [] E S r2 v2) (hR:∀ w,S w→R (.returned (.tuple #[v1,v2])) w):WE N [] (bodyPostD P fn R) e E S:=fun w hS a ha=>by
  have h1:Leaves P fn a.tmps R a.defers .returning w:=by rw [ha.d]; exact ⟨_,res2 hr hv1 hv2 hS ha,hR w hS⟩
  rcases he with rfl | rfl <;> exact h1
theorem leave1 {a:Act} {w:World} {u u':FrameMode} (hu:u≠.run) (hcall:∀ vs w,(callFunc f vs).run P w=.ok (.enter f vs) w) (hu':settle u'=.returning)
    (hc:CallsD P f cap.toArray u w (fun e u2 w'=>u2=u'∧(∃ v,e=.returned v)∧S' w')) (hr:fn.results=#[r1,r2]) (hv1:ResV P N D E S' r1 v1) (hv2:ResV P N D E S' r2 v2) (hR:∀ w,S' w→R (.returned (.tuple #[v1,v2])) w) (ha:Has N D a E) (hD:D=[dfr f cap]):Leaves P fn a.tmps R a.defers u w:=by
  have hd:=ha.d
  rw [hd,hD]
  refine leaves_cons hu (f:=f) (args:=cap.toArray) (by simp [invoke,hcall]) (hc.mono ?_)
  rintro e u2 w2 ⟨rfl,⟨v,rfl⟩,hS2⟩
  show Leaves P fn a.tmps R [] (settle _) w2
  rw [hu']
  exact ⟨_,res2 hr hv1 hv2 hS2 ha,hR w2 hS2⟩
theorem e_retD {e:Exit} (he:e=.ret∨e=.normal) (hcall:∀ vs w,(callFunc f vs).run P w=.ok (.enter f vs) w) (hc:∀ w,S w→CallsD P f cap.toArray .returning w (fun e u' w'=>u'=.returning∧(∃ v,e=.returned v)∧S' w'))
    (hr:fn.results=#[r1,r2]) (hv1:ResV P N [dfr f cap] E S' r1 v1) (hv2:ResV P N [dfr f cap] E S' r2 v2) (hR:∀ w,S' w→R (.returned (.tuple #[v1,v2])) w):WE N [dfr f cap] (bodyPostD P fn R) e E S:=fun w hS a ha=>by
  have h1:=leave1 (u:=.returning) qS hcall (u':=.returning) rfl (hc w hS) hr hv1 hv2 hR ha rfl
  rcases he with rfl | rfl <;> exact h1
theorem jT (hcall:∀ vs w,(callFunc f vs).run P w=.ok (.enter f vs) w) (hc:∀ w,S w→CallsD P f cap.toArray (.panicking chain) w (fun e u' w'=>u'=.panicking chain'∧(∃ v,e=.returned v)∧S' w')) (hu:settle (.panicking chain')=.returning)
    (hr:fn.results=#[r1,r2]) (hv1:ResV P N [dfr f cap] E S' r1 v1) (hv2:ResV P N [dfr f cap] E S' r2 v2) (hR:∀ w,S' w→R (.returned (.tuple #[v1,v2])) w):WE N [dfr f cap] (bodyPostD P fn R) (.panic chain) E S:=fun w hS a ha =>
  leave1 (u:=.panicking chain) qS hcall hu (hc w hS) hr hv1 hv2 hR ha rfl
end
theorem dgive {α:Type} {f:Nat} {cap:List Value} {u u2:FrameMode} (A R:List Own) (mk:α→Value) (A' L':List Own) (hL':A'++R=L') (hA:∀ w,Mem w0 M L w→Mem w0 M (A++R) w) (hq:A'.all (fun o=>o.mut || o.isPub)=true)
    (hc:∀ w Pb,Mem w ⟨fpOf A,Pb⟩ A w→CallsD P f cap.toArray u w (fun e u' w'=>u'=u2∧RetA w A Pb mk (fun _=>True) (fun _=>A') e w')):∀ w,Mem w0 M L w→CallsD P f cap.toArray u w (fun e u' w'=>u'=u2∧(∃ v,e=.returned v)∧Mem w0 M L' w'):=fun w hS=>by
  have hS':=hA w hS
  obtain ⟨Pb,pp⟩:=hS'.pb
  refine (hc w Pb (hS'.give pp)).mono ?_
  rintro e u' w' ⟨hu,z,rfl,_,hk⟩
  exact ⟨hu,⟨_,rfl⟩,by rw [← hL']; exact hS'.take pp hk hq⟩
theorem didle {f:Nat} {cap:List Value} (hc:∀ w,Mem w0 M L w→CallsD P f cap.toArray .returning w (fun e u' w'=>u'=.returning∧RetA w [] (fun _=>False) (fun _:Unit=>.tuple #[]) (fun _=>True) (fun _=>[]) e w')):∀ w,Mem w0 M L w→CallsD P f cap.toArray .returning w (fun e u' w'=>u'=.returning∧(∃ v,e=.returned v)∧Mem w0 M L w'):=fun w hS=>by
  refine (hc w hS).mono ?_
  rintro e u' w' ⟨hu,z,rfl,_,hk⟩
  exact ⟨hu,⟨_,rfl⟩,hS.keep (hk.fr.mono fun b hb hm=>by obtain ⟨o,ho,_⟩:=hm; cases ho)⟩
theorem memNil (w:World):Mem w ⟨fpOf [],fun _=>False⟩ [] w:=Mem.start w _
theorem dstart {f:Nat} {fn:Func} {id:Nat} {c:Code} {vals:List Value} {w:World} {R:Ending→World→Prop} {u u':FrameMode} {rv:Value} (hf:P.funcs[f]?=some fn) (hb:fn.body=some (.seq (.region id #[⟨some d,.call { callee:=.builtin .recover,args:=#[],argTypes:=#[] },ty,pos,aft,none⟩] false) c)) (hn:fn.ntmps=N) (hl:Nat.ble vals.length N=true) (hd:Nat.blt d N=true)
    (hu:(u=.returning∧u'=.returning∧rv=.nilIface)∨∃ older,u=.panicking ({ v:=rv,recovered:=false }::older)∧u'=.panicking ({ v:=rv,recovered:=true }::older))
    (hS:S w) (h:WC P N [] c (bodyPost P fn R) ((d,rv)::envOf 0 vals) S):CallsD P f vals.toArray u w (fun e u2 w'=>u2=u'∧R e w'):=by
  refine callsD_of_wpS hf hb fun c₀ cs hcu=>?_
  have ha:Has N [] ({ tmps:=vals.toArray++Array.replicate (fn.ntmps - vals.toArray.size) undef,defers:=[] }:Act) (envOf 0 vals):=by
    refine ⟨rfl,?_,fun t v hv=>?_⟩
    · have:=Nat.le_of_ble_eq_true hl
      simp [hn]; omega
    · rw [look_envOf,if_neg qO] at hv
      simp only [Nat.sub_zero] at hv
      have hlt:t < vals.length:=(List.getElem?_eq_some_iff.1 hv).1
      rw [Array.getElem?_append_left (by simpa using hlt)]
      simpa using hv
  refine wpS_seq (wpS_region ?_)
  have hrest:∀ cs':List Frame,cs'={ c₀ with mode:=u' }::cs→∀ (a:Act),Has N [] a ((d,rv)::envOf 0 vals)→c.wpS P (bodyPostS P fn c₀ cs fun e u2 w'=>u2=u'∧R e w') a cs' w:=fun cs' hcs a ha=>by
    refine wpS_of_wp (Code.wp_mono ?_ (h w hS a ha))
    intro e a' w' hq
    cases e with
    | normal=>obtain ⟨h1,v,h2,h3⟩:=hq; exact ⟨h1,u',hcs,v,h2,rfl,h3⟩
    | ret=>obtain ⟨h1,v,h2,h3⟩:=hq; exact ⟨h1,u',hcs,v,h2,rfl,h3⟩
    | panic ch=>obtain ⟨h1,h2⟩:=hq; exact ⟨h1,u',hcs,rfl,h2⟩
    | outgrown=>exact ⟨u',rfl,hq⟩
    | exit i=>exact hq
    | goto i=>exact hq
  have hrun:∀ a:Act,(execOp a.eval ⟨some d,.call { callee:=.builtin .recover,args:=#[],argTypes:=#[] },ty,pos,aft,none⟩).run P w=.ok .recover w:=fun a=>by
    unfold execOp; simp [resolve,invoke,builtin]
  rw [show List.range (#[(⟨some d,.call { callee:=.builtin .recover,args:=#[],argTypes:=#[] },ty,pos,aft,none⟩:Oper)]).size=[0] from rfl]
  simp only [wpOpsS,List.getElem?_toArray,List.getElem?_cons_zero,Region.wanted,if_true,hrun]
  rcases hu with ⟨rfl,rfl,rfl⟩ | ⟨older,rfl,rfl⟩
  · have hr:recoverD (c₀::cs)=none:=by simp [recoverD,hcu]
    simp only [hr]
    exact hrest _ (by rw [← hcu]) _ (ha.put _ hd)
  · have hr:recoverD (c₀::cs)=some (rv,{ c₀ with mode:=.panicking ({ v:=rv,recovered:=true }::older) }::cs):=by simp [recoverD,hcu]
    simp only [hr]
    exact hrest _ rfl _ (ha.put _ hd)
end
end Ex
end
section
open _root_.Go.Proofs.Tryz
open Ex
attribute [local irreducible] WC WL WQ WE WS
set_option linter.unusedVariables false
set_option linter.unusedSimpArgs false
theorem jF (b2 b3:Nat) (v0 v1 v2 v3 v4 v5 v6 u0 u1:Value) (er at_:Int) (Pb:Nat→Prop) (w:World) (hG:Mem w ⟨fpOf [.blk b2 [v0,v1,v2,v3,v4,v5,v6] 59,.blk b3 [u0,u1] 61],Pb⟩ [.blk b2 [v0,v1,v2,v3,v4,v5,v6] 59,.blk b3 [u0,u1] 61] w)  :
    CallsD prog 51 #[.pointer (some ⟨b2,0,none⟩),.pointer (some ⟨b3,0,none⟩)] (.panicking [{ v:=.iface 111 (.agg (List.toArray [iV er,iV at_])),recovered:=false }]) w (fun e u2 w2=>u2=.panicking [{ v:=.iface 111 (.agg (List.toArray [iV er,iV at_])),recovered:=true }]∧(RetA w [.blk b2 [v0,v1,v2,v3,v4,v5,v6] 59,.blk b3 [u0,u1] 61] Pb (fun _:Unit=>.tuple #[]) (fun _=>True) (fun _=>[.blk b2 [iV 0,iV 0,iV 0,.string (⟨#[]⟩:ByteArray),Zs,Zs,Zs] 59,.blk b3 [iV er,iV at_] 61])) e w2):=by
 refine dstart (N:=14) (vals:=[.pointer (some ⟨b2,0,none⟩),.pointer (some ⟨b3,0,none⟩)]) (S:=Mem w ⟨fpOf [.blk b2 [v0,v1,v2,v3,v4,v5,v6] 59,.blk b3 [u0,u1] 61],Pb⟩ [.blk b2 [v0,v1,v2,v3,v4,v5,v6] 59,.blk b3 [u0,u1] 61]) func51 rfl rfl rfl rfl (.inr ⟨[],rfl,rfl⟩) hG (vX (jy fun _ hK1=>zb (r_ieq rfl (.inr ⟨_,_,rfl⟩) underlying20) (yw hK1 (yd rfl rfl (jy fun _ hK2=>zb (r_tassert rfl underlying111) (zb (uT rfl rfl) (zb (uT rfl rfl) (yw hK2 (vF rfl rfl ?_)))))))))
 refine jy fun _ hK3=>u9 wn inf111 rfl fun b3_1=>uz 0 wn rfl rfl rfl inf111 rfl rfl rfl (yw hK3 (yL (Mem w ⟨fpOf [.blk b2 [v0,v1,v2,v3,v4,v5,v6] 59,.blk b3 [u0,u1] 61],Pb⟩ [.blk b3_1 [iV er,iV at_] 111]) mix (fun _ h=>h.drew) rfl (yF 2 [0,1,2] [0] rfl fun KS hKS=>uW (u7 Zx pl59 inf59 rfl rfl) (uW (uf rfl fld111_0) (uW (ja 0 [iV er,iV at_] rfl rfl rfl rfl agg61 inf61) (zj hKS (zg 1 3 (zc (i:=3) rfl fun KN hKN=>?_))))))))
 refine uz 1 wn rfl rfl rfl inf59 rfl rfl rfl (l_hk hKN [0] (zg 0 4 (zc (i:=4) rfl fun KN hKN=>uz 2 wn rfl rfl rfl inf61 rfl rfl rfl (l_hk hKN [0] (zq (by kernel_rfl) (yG (un (.inr rfl) results51  fun w1 hM=>?_)))))))
 exact hM.yX () rfl trivial (fun h=>h.sel [1,2] qD rfl)
theorem c_idle (b2 b3:Nat) (Pb:Nat→Prop) (w:World) (hG:Mem w ⟨fpOf [],Pb⟩ [] w)  :
    CallsD prog 51 #[.pointer (some ⟨b2,0,none⟩),.pointer (some ⟨b3,0,none⟩)] .returning w (fun e u2 w2=>u2=.returning∧(RetA w [] Pb (fun _:Unit=>.tuple #[]) (fun _=>True) (fun _=>[])) e w2):=by
 refine dstart (N:=14) (vals:=[.pointer (some ⟨b2,0,none⟩),.pointer (some ⟨b3,0,none⟩)]) (S:=Mem w ⟨fpOf [],Pb⟩ []) func51 rfl rfl rfl rfl (.inl ⟨rfl,rfl,rfl⟩) hG (vX (jy fun _ hK1=>zb (r_ieq rfl (.inl rfl) underlying20) (yw hK1 (vF rfl rfl (zo (vd rfl (zT (yG (un (.inr rfl) results51  fun w1 hM=>?_)))))))))
 exact hM.yX () rfl trivial (fun h=>h.sel [] qD rfl)
theorem c_shapeB (x:zB) {w0 w:World} {M:Fp} {L:List Own} {hp b TB i j k:Nat} (hM:Mem w0 M L w) (hi:L[i]?=some (.blk hp [iV 0] 119)) (hj:L[j]?=some (.blk b (zy x) TB)) (hij:Nat.beq i j=false) (hk:L[k]?=some (okP zB.Ok x)) :
    Calls prog 55 #[.pointer (some ⟨hp,0,none⟩),.pointer (some ⟨b,0,none⟩),iV 1] w (RetM w hp 119 (iV (Lg.shape x.e 1 0).1) [iV (Lg.shape x.e 1 0).2]):=by
 obtain ⟨Pb,pp⟩:=hM.pb
 have hb:=(hM.ok j _ hj).2.1 b rfl
 have hne:b≠hp:=fun e=>hM.dj i j _ _ hi hj (Nat.ne_of_beq_eq_false hij) (.inl rfl) hp rfl (show hp=b from e.symm)
 refine c_shape x hp 0 ⟨b,0,none⟩ 1 (fun q=>q < w.heap.size∧q≠hp) w (hM.blk hi) (fun q hq=>hq) ⟨⟨hb,hne⟩,fun u v hv=>?_⟩ (zB.Ok.loc x Pb _ w w (fun q hq=>⟨pp.lt q hq,fun e=>pp.dj i _ hi rfl q hq e⟩) (fun _ _=>rfl) (pp.at_ k _ hk)) qO qO qO
 rw [add_lit]
 have:=hM.cell (j:=0 + u) hj
 rw [this]; simpa using hv
set_option maxHeartbeats 1000000 in
theorem c_parse (s:ByteArray) (P0:Nat→Prop) (w:World) (hP0:∀ b,P0 b→b < w.heap.size) (hE:zO P0 w)  :
    Calls prog 23 #[.string s] w (RetE w P0 (fun z:zB × Pz.F=>.tuple #[.agg (zy z.1).toArray,.agg #[iV z.2.1,iV z.2.2]]) (fun z=>Pz.parse s=(z.1.e,z.2)) (fun z S=>zB.Ok S z.1)):=by
 refine fstartD (N:=35) (vals:=[.string s]) (S:=Mem w ⟨no,P0⟩ [.pub zO]) func23 rfl rfl rfl (Mem.ofDatsP hP0 (dc (dp zO.loc hE) dn)) ?_
 refine (go 2) (yA fun b2=>yA fun b3=>?_)
 refine (go 10) (zY (fun h1=>?_) fun h1=>?_)
 ·refine (go 2) ?_
  refine zb (u7 Zx pl59 inf59 rfl rfl) ?_
  refine (go 7) ?_
  refine e_retD0 (.inl rfl) results23 (y8 1 rfl rfl agg59 inf59 rfl) (y8 0 rfl rfl agg61 inf61 rfl) fun w1 hM=>?_
  exact hM.vU ((zB.mk 0 0 0 ⟨#[]⟩ ⟨none,0,[]⟩ ⟨none,0,[]⟩ ⟨none,0,[]⟩),(4,0)) rfl (Pz.parse_big h1) fun Pb pp=>Pz.okZero Pb w1
 refine (go 2) ?_
 refine c_seqD fun _ hK5=>?_
 refine (go 1) ?_
 refine zb (yg rfl rfl) (l_defer wn rfl ?_)
 refine (go 1) ?_
 refine u5 (hK5 _) ?_
 refine (go 4) (yv fun b13=>?_)
 refine (go 6) ?_
 refine za (α:=zB × Pz.St) (PT:=111) [.blk b13 [.string s,iV 0,iV 0] 114,.pub zO] [.blk b3 [iV 0,iV 0] 61,.blk b2 Zx 59] (fun z:zB × Pz.St=>.agg (zy z.1).toArray) (fun z1=>Pz.xpr s 20 ⟨0,0⟩=.ok (z1.1.e,z1.2)∧Pz.Good s ⟨0,0⟩ z1.2) (fun z1=>[Rb 114 b13 s z1.2.at_ z1.2.nd,.pub zO,okP zB.Ok z1.1]) _ (fun f1=>Pz.xpr s 20 ⟨0,0⟩=.no f1) (fun _=>rfl) (S9 [0,3,1,2]) (fun _=>rfl) wn rfl rfl call52 rfl (fun w1 Pb hG=>(xpr_all 20) b13 s 0 0 1 Pb w1 hG qO qO qO qO qO) ?_ fun z1 hz1=>?_
 ·intro f1 hf1
  refine zS (jT call51 (dgive [.blk b2 Zx 59,.blk b3 [iV 0,iV 0] 61] [] (fun _:Unit=>.tuple #[]) [.blk b2 [iV 0,iV 0,iV 0,.string (⟨#[]⟩:ByteArray),Zs,Zs,Zs] 59,.blk b3 [iV f1.1,iV f1.2] 61] [.blk b2 [iV 0,iV 0,iV 0,.string (⟨#[]⟩:ByteArray),Zs,Zs,Zs] 59,.blk b3 [iV f1.1,iV f1.2] 61] rfl (S9 [1,0]) rfl (fun w1 Pb hG=>jF b2 b3 (iV 0) (iV 0) (iV 0) (.string ⟨#[]⟩) (Zs) (Zs) (Zs) (iV 0) (iV 0) f1.1 f1.2 Pb w1 hG)) rfl results23 (y8 0 rfl rfl agg59 inf59 rfl) (y8 1 rfl rfl agg61 inf61 rfl) fun w1 hM=>?_)
  exact hM.vU ((zB.mk 0 0 0 ⟨#[]⟩ ⟨none,0,[]⟩ ⟨none,0,[]⟩ ⟨none,0,[]⟩),f1) rfl (Pz.parse_no h1 hf1) fun Pb pp=>Pz.okZero Pb w1
 obtain ⟨x1,j1,m1⟩:=z1
 have he1:Pz.xpr s 20 ⟨0,0⟩=.ok (x1.e,⟨j1,m1⟩):=hz1.1
 have ga1:j1≤s.size:=hz1.2.at_
 have gm1:0≤m1:=hz1.2.mono
 have gn1:m1≤100:=hz1.2.most (show 0≤100 by omega)
 refine (go 6) ?_
 refine yQ (α:=Nat) [Rb 114 b13 s j1 m1,.pub zO] [okP zB.Ok x1,.blk b3 [iV 0,iV 0] 61,.blk b2 [iV x1.kind,iV x1.n,iV x1.range,.string x1.word,.slice x1.ms.A x1.ms.l.length x1.ms.c,.slice x1.by_.A x1.by_.l.length x1.by_.c,.slice x1.kids.A x1.kids.l.length x1.kids.c] 59] (fun _=>.tuple #[]) (fun j2=>(Pz.blank s j1=j2∧j1≤j2∧j2≤s.size)) (fun j2=>[Rb 114 b13 s j2 m1,.pub zO]) _ (fun _=>rfl) (S9 [0,1,2,3,4]) (fun _=>rfl) wn rfl rfl call53 rfl (fun w1 Pb hG=>vo b13 s j1 m1 Pb w1 hG qO qO) fun j2 hz2=>?_
 obtain ⟨hz2e,hz2a,hz2b⟩:=hz2
 refine (go 14) (zY (fun h2=>?_) fun h2=>?_)
 ·refine (go 2) ?_
  refine za (α:=Unit) (PT:=111) [Rb 114 b13 s j2 m1,.pub zO] [okP zB.Ok x1,.blk b3 [iV 0,iV 0] 61,.blk b2 [iV x1.kind,iV x1.n,iV x1.range,.string x1.word,.slice x1.ms.A x1.ms.l.length x1.ms.c,.slice x1.by_.A x1.by_.l.length x1.by_.c,.slice x1.kids.A x1.kids.l.length x1.kids.c] 59] (fun _:Unit=>.tuple #[]) (fun z2=>False) (fun z2=>[Rb 114 b13 s j2 m1,.pub zO]) _ (fun f2=>f2=(2,(j2:Int))) (fun _=>rfl) (S9 [0,1,2,3,4]) (fun _=>rfl) wn rfl rfl call54 rfl (fun w1 Pb hG=>yj b13 s j2 m1 2 Pb w1 hG) ?_ fun z2 hz3=>?_
  ·intro f2 hf2
   refine zS (jT call51 (dgive [.blk b2 [iV x1.kind,iV x1.n,iV x1.range,.string x1.word,.slice x1.ms.A x1.ms.l.length x1.ms.c,.slice x1.by_.A x1.by_.l.length x1.by_.c,.slice x1.kids.A x1.kids.l.length x1.kids.c] 59,.blk b3 [iV 0,iV 0] 61] [okP zB.Ok x1] (fun _:Unit=>.tuple #[]) [.blk b2 [iV 0,iV 0,iV 0,.string (⟨#[]⟩:ByteArray),Zs,Zs,Zs] 59,.blk b3 [iV f2.1,iV f2.2] 61] [.blk b2 [iV 0,iV 0,iV 0,.string (⟨#[]⟩:ByteArray),Zs,Zs,Zs] 59,.blk b3 [iV f2.1,iV f2.2] 61,okP zB.Ok x1] rfl (S9 [2,1,0]) rfl (fun w1 Pb hG=>jF b2 b3 (iV x1.kind) (iV x1.n) (iV x1.range) (.string x1.word) (.slice x1.ms.A x1.ms.l.length x1.ms.c) (.slice x1.by_.A x1.by_.l.length x1.by_.c) (.slice x1.kids.A x1.kids.l.length x1.kids.c) (iV 0) (iV 0) f2.1 f2.2 Pb w1 hG)) rfl results23 (y8 0 rfl rfl agg59 inf59 rfl) (y8 1 rfl rfl agg61 inf61 rfl) fun w1 hM=>?_)
   exact hM.vU ((zB.mk 0 0 0 ⟨#[]⟩ ⟨none,0,[]⟩ ⟨none,0,[]⟩ ⟨none,0,[]⟩),f2) rfl (by rw [hf2]; exact Pz.parse_form h1 he1 hz2e qO) fun Pb pp=>Pz.okZero Pb w1
  exact hz3.elim
 refine (go 6) (yv fun b28=>?_)
 refine jC 0 (v:=iV (Lg.shape x1.e 1 0).1) (cs':=[iV (Lg.shape x1.e 1 0).2]) wn rfl rfl call55 rfl (fun w1 Pb hM pp=>c_shapeB x1 (TB:=59) hM (i:=0) rfl (j:=5) rfl rfl (k:=3) rfl) ?_
 refine (go 3) (zY (fun h3=>?_) fun h3=>?_)
 ·refine (go 2) ?_
  refine za (α:=Unit) (PT:=111) [Rb 114 b13 s j2 m1,.pub zO] [.blk b28 [iV ((Lg.shape x1.e 1 0).2)] 119,okP zB.Ok x1,.blk b3 [iV 0,iV 0] 61,.blk b2 [iV x1.kind,iV x1.n,iV x1.range,.string x1.word,.slice x1.ms.A x1.ms.l.length x1.ms.c,.slice x1.by_.A x1.by_.l.length x1.by_.c,.slice x1.kids.A x1.kids.l.length x1.kids.c] 59] (fun _:Unit=>.tuple #[]) (fun z3=>False) (fun z3=>[Rb 114 b13 s j2 m1,.pub zO]) _ (fun f3=>f3=(4,(j2:Int))) (fun _=>rfl) (S9 [1,2,0,3,4,5]) (fun _=>rfl) wn rfl rfl call54 rfl (fun w1 Pb hG=>yj b13 s j2 m1 4 Pb w1 hG) ?_ fun z3 hz4=>?_
  ·intro f3 hf3
   refine zS (jT call51 (dgive [.blk b2 [iV x1.kind,iV x1.n,iV x1.range,.string x1.word,.slice x1.ms.A x1.ms.l.length x1.ms.c,.slice x1.by_.A x1.by_.l.length x1.by_.c,.slice x1.kids.A x1.kids.l.length x1.kids.c] 59,.blk b3 [iV 0,iV 0] 61] [.blk b28 [iV ((Lg.shape x1.e 1 0).2)] 119,okP zB.Ok x1] (fun _:Unit=>.tuple #[]) [.blk b2 [iV 0,iV 0,iV 0,.string (⟨#[]⟩:ByteArray),Zs,Zs,Zs] 59,.blk b3 [iV f3.1,iV f3.2] 61] [.blk b2 [iV 0,iV 0,iV 0,.string (⟨#[]⟩:ByteArray),Zs,Zs,Zs] 59,.blk b3 [iV f3.1,iV f3.2] 61,.blk b28 [iV ((Lg.shape x1.e 1 0).2)] 119,okP zB.Ok x1] rfl (S9 [3,2,0,1]) rfl (fun w1 Pb hG=>jF b2 b3 (iV x1.kind) (iV x1.n) (iV x1.range) (.string x1.word) (.slice x1.ms.A x1.ms.l.length x1.ms.c) (.slice x1.by_.A x1.by_.l.length x1.by_.c) (.slice x1.kids.A x1.kids.l.length x1.kids.c) (iV 0) (iV 0) f3.1 f3.2 Pb w1 hG)) rfl results23 (y8 0 rfl rfl agg59 inf59 rfl) (y8 1 rfl rfl agg61 inf61 rfl) fun w1 hM=>?_)
   exact hM.vU ((zB.mk 0 0 0 ⟨#[]⟩ ⟨none,0,[]⟩ ⟨none,0,[]⟩ ⟨none,0,[]⟩),f3) rfl (by rw [hf3]; exact Pz.parse_much h1 he1 hz2e qO h3) fun Pb pp=>Pz.okZero Pb w1
  exact hz4.elim
 refine (go 3) ?_
 refine yL (Mem w ⟨no,P0⟩ [.blk b28 [iV ((Lg.shape x1.e 1 0).2)] 119,Rb 114 b13 s j2 m1,.pub zO,okP zB.Ok x1,.blk b3 [iV 0,iV 0] 61,.blk b2 [iV x1.kind,iV x1.n,iV x1.range,.string x1.word,.slice x1.ms.A x1.ms.l.length x1.ms.c,.slice x1.by_.A x1.by_.l.length x1.by_.c,.slice x1.kids.A x1.kids.l.length x1.kids.c] 59]) mix (fun _ h=>h.drew) rfl (uH (f:=2) [0,1] rfl rfl (by kernel_rfl) (by kernel_rfl) (fun _ h=>h) fun KS hKS=>?_)
 refine (go 2) ?_
 refine zj hKS (zg 1 2 (zd (i:=2) rfl fun KN hKN hPN=>?_))
 refine (go 2) ?_
 refine hKN _ _ (fun _ h=>h) (zg 0 3 (zd (i:=3) rfl fun KN hKN hPN=>?_))
 refine (go 2) ?_
 refine hKN _ _ (fun _ h=>h) ?_
 refine zq (by kernel_rfl) ((go 1) ?_)
 refine (go 1) ?_
 refine e_retD (.inl rfl) call51 (didle fun w1 hM=>c_idle b2 b3 (fun _=>False) w1 (memNil w1)) results23 (y8 5 rfl rfl agg59 inf59 rfl) (y8 4 rfl rfl agg61 inf61 rfl) fun w1 hM=>?_
 exact hM.vU (x1,(0,0)) rfl (Pz.parse_ok h1 he1 hz2e qO h3) fun Pb pp=>pp.at_ 3 _ rfl
end
section
open _root_.Go.Proofs.Tryz
open Ex
attribute [local irreducible] WC WL WQ WE WS
set_option linter.unusedVariables false
set_option linter.unusedSimpArgs false
theorem winG_ask {x:zr} (hok:∀ s ∈ x.zA.l,s.sr.l.length≤1048576) (hlen:x.zA.l.length≤8) (S:Nat→Prop) (box bp cost:Nat):WinG prog 116 #[.pointer (some ⟨box,0,none⟩),.pointer (some ⟨cost,0,none⟩)] (fun n=>.blk cost [iV n] 3) S (Lent 91 93 S box bp x) (Bs.look (x.zA.l.map zC.e)) (Bs.cost (x.zA.l.map zC.e)) :=
  ⟨call116,fun n=>.inl rfl,fun n m b h=>h,fun ms a b n w Pb hG ha hb=>by simpa using c_bask1 box bp cost x S ms a b n Pb w hG hok hlen⟩
set_option maxHeartbeats 1000000 in
theorem c_bask (bp:Nat) (x:zr) (dad:Addr) (d:zn) (Pb:Nat→Prop) (w:World) (hG:Mem w ⟨fpOf [.blk bp [.slice x.zA.A x.zA.l.length x.zA.c,iV x.zN] 93,Row (.slice x.zA.A x.zA.l.length x.zA.c) 50 9 zX x.zA.l,allP zC.Ok x.zA.l,celP dad [iV d.kind,iV d.tier,iV d.to,.slice d.sr.A d.sr.l.length d.sr.c,iV d.zJ.time,iV d.zJ.value,.string d.text],okP zn.Ok d,.pub zO],Pb⟩ [.blk bp [.slice x.zA.A x.zA.l.length x.zA.c,iV x.zN] 93,Row (.slice x.zA.A x.zA.l.length x.zA.c) 50 9 zX x.zA.l,allP zC.Ok x.zA.l,celP dad [iV d.kind,iV d.tier,iV d.to,.slice d.sr.A d.sr.l.length d.sr.c,iV d.zJ.time,iV d.zJ.value,.string d.text],okP zn.Ok d,.pub zO] w) (hi:Bs.Inv x.e 120) :
    Calls prog 69 #[.pointer (some ⟨bp,0,none⟩),.pointer (some ((Addr.add dad 0).add 0))] w (RetA w [.blk bp [.slice x.zA.A x.zA.l.length x.zA.c,iV x.zN] 93,Row (.slice x.zA.A x.zA.l.length x.zA.c) 50 9 zX x.zA.l,allP zC.Ok x.zA.l,celP dad [iV d.kind,iV d.tier,iV d.to,.slice d.sr.A d.sr.l.length d.sr.c,iV d.zJ.time,iV d.zJ.value,.string d.text],okP zn.Ok d,.pub zO] Pb (fun z:zr × zi=>.agg (yl z.2).toArray) (fun z=>(z.1.e,z.2.e)=(x.e,Bs.ask x.e d.e)) (fun z=>[okP zi.Ok z.2,.blk bp [.slice z.1.zA.A z.1.zA.l.length z.1.zA.c,iV z.1.zN] 93,Row (.slice z.1.zA.A z.1.zA.l.length z.1.zA.c) 50 9 zX z.1.zA.l,allP zC.Ok z.1.zA.l,celP dad (vB d),okP zn.Ok d,.pub zO])):=by
 have hwf:∀ y ∈ x.zA.l,zC.Wf y:=fun y hy=>((hG.yT (i:=2) rfl) y hy).wf
 have hwd:=(hG.yT (i:=4) rfl).wf
 obtain ⟨hsc,hsm,hsA⟩:=row_wf (hG.row (i:=1) rfl)
 have hlen:=len_k hi
 refine zw (N:=54) (vals:=[.pointer (some ⟨bp,0,none⟩),.pointer (some ((Addr.add dad 0).add 0))]) func69 hG ?_
 refine (go 2) (jm fun b2=>yA fun b4=>?_)
 refine (go 8) ?_
 refine yi (β:=zB × Pz.F) (fun z=>.tuple #[.agg (zy z.1).toArray,.agg #[iV z.2.1,iV z.2.2]]) (fun z=>Pz.parse d.text=(z.1.e,z.2)) (fun z S=>zB.Ok S z.1) (fun z=>zB.Ok.loc z.1) wn rfl call23 rfl (fun w1 Pb hM pp=>c_parse d.text Pb w1 pp.lt (pp.at_ 7 _ rfl)) fun z1 hz1=>?_
 obtain ⟨x1,er1,at1⟩:=z1
 have hq1:Pz.parse d.text=(x1.e,(er1,at1)):=hz1
 refine yh 0 rfl (fun S w h=>zB.Ok.wf h) fun hw1=>?_
 refine (go 3) (yA fun b5=>yA fun b6=>?_)
 refine (go 12) (zY (fun h1=>?_) fun h1=>?_)
 ·refine (go 12) (zZ results69 fun w1 hM=>?_)
  have hM:=hM.yU (zi.Ok.loc (⟨er1,at1,⟨none,0,[]⟩,0⟩:zi)) fun Pb pp=>⟨zD.zu _ _ _ _,fun c hc=>(by cases hc)⟩
  exact hM.yX (x,⟨er1,at1,⟨none,0,[]⟩,0⟩) rfl (ask_1 hq1 h1) (fun h=>h.sel [0,6,7,8,9,10,11] qD rfl)
 refine (go 10) ?_
 refine yO wn rfl call57 rfl (fun w1 hM=>c_check x1 d.to (In w1) w1 (fun _ h=>h) (hM.yT (i:=2) rfl)) ?_
 refine (go 9) (zY (fun h2=>?_) fun h2=>?_)
 ·refine (go 9) (zZ results69 fun w1 hM=>?_)
  have hM:=hM.yU (zi.Ok.loc (noX (Mn.check x1.e d.to):zi)) fun Pb pp=>noX_ok _ _ _
  exact hM.yX (x,noX (Mn.check x1.e d.to)) rfl (ask_2 hq1 h1 h2) (fun h=>h.sel [0,6,7,8,9,10,11] qD rfl)
 have hck:=Mn.check_right (Classical.not_not.1 h2)
 refine (go 4) (l_aO fun b8=>?_)
 refine (go 4) ?_
 refine yL (Mem w ⟨fpOf [.blk bp [.slice x.zA.A x.zA.l.length x.zA.c,iV x.zN] 93,Row (.slice x.zA.A x.zA.l.length x.zA.c) 50 9 zX x.zA.l,allP zC.Ok x.zA.l,celP dad [iV d.kind,iV d.tier,iV d.to,.slice d.sr.A d.sr.l.length d.sr.c,iV d.zJ.time,iV d.zJ.value,.string d.text],okP zn.Ok d,.pub zO],Pb⟩ [.blk b6 [iV er1,iV at1] 61,.blk b5 [iV x1.kind,iV x1.n,iV x1.range,.string x1.word,.slice x1.ms.A x1.ms.l.length x1.ms.c,.slice x1.by_.A x1.by_.l.length x1.by_.c,.slice x1.kids.A x1.kids.l.length x1.kids.c] 59,okP zB.Ok x1,.blk b4 [iV 0,iV 0,Zs,iV 0] 34,.blk b2 [.pointer (some ⟨bp,0,none⟩)] 91,.blk bp [.slice x.zA.A x.zA.l.length x.zA.c,iV x.zN] 93,Row (.slice x.zA.A x.zA.l.length x.zA.c) 50 9 zX x.zA.l,allP zC.Ok x.zA.l,celP dad [iV d.kind,iV d.tier,iV d.to,.slice d.sr.A d.sr.l.length d.sr.c,iV d.zJ.time,iV d.zJ.value,.string d.text],okP zn.Ok d,.pub zO]) mix (fun _ h=>h.drew) rfl (yF 6 [0,1,2,3,4,5] [1,2,3,4,5,6,7,8,9,10,11] rfl fun KS hKS=>?_)
 refine (go 5) ?_
 refine uW (yg rfl rfl) (zj hKS (zg 5 6 (zc (i:=6) rfl fun KN hKN=>l_lend (e:=x1) (n:=0) (n':=(Mn.evalN (Bs.look (x.zA.l.map zC.e)) (Bs.cost (x.zA.l.map zC.e)) d.to x1.e 0)) (T1:=91) (T2:=93) (T3:=50) (TI:=3) [.blk b6 [iV er1,iV at1] 61,.blk b5 [iV x1.kind,iV x1.n,iV x1.range,.string x1.word,.slice x1.ms.A x1.ms.l.length x1.ms.c,.slice x1.by_.A x1.by_.l.length x1.by_.c,.slice x1.kids.A x1.kids.l.length x1.kids.c] 59,.blk b4 [iV 0,iV 0,Zs,iV 0] 34,celP dad [iV d.kind,iV d.tier,iV d.to,.slice d.sr.A d.sr.l.length d.sr.c,iV d.zJ.time,iV d.zJ.value,.string d.text],okP zn.Ok d,.pub zO] (celsV (Mn.out (Mn.eval (Bs.look (x.zA.l.map zC.e)) d.to x1.e)).2) (fun z=>z.l.map zF.e=(Mn.out (Mn.eval (Bs.look (x.zA.l.map zC.e)) d.to x1.e)).1) CelsX.Ok (S9 [0,3,5,6,7,8,1,2,4,9,10,11]) wn rfl rfl call58 rfl (fun S w1 Pb hG=>c_geval _ _ _ _ _ _ _ _ _ x1 Pb w1 hG (winG_ask (shelf_lens hi) hlen _ _ _ _) (Bs.good_look hi) hck.2 hck.1) fun z2 hz2=>yh 0 rfl (fun S w h=>CelsX.Ok.wf h) fun hw2=>zf (fun _ h=>h.celsY 0 rfl) ?_)))
 obtain ⟨hc1,hm1,hA1⟩:=hw2.cells
 refine (go 1) ?_
 refine hKN _ _ (S9 [9,10,4,11,5,6,7,8,12,13,14]) (yF 0 [7,8,9,10,11] [9,10,4,11,5,6,7,8,12,13,14] rfl fun KS hKS=>?_)
 refine (go 5) ?_
 refine zj hKS ?_
 refine zq (by kernel_rfl) ((go 1) ?_)
 refine (go 7) (zY (fun h3=>?_) fun h3=>?_)
 ·refine (go 9) (zZ results69 fun w1 hM=>?_)
  have hM:=hM.yU (zi.Ok.loc (noX ((Mn.out (Mn.eval (Bs.look (x.zA.l.map zC.e)) d.to x1.e)).2):zi)) fun Pb pp=>noX_ok _ _ _
  exact hM.yX (x,noX ((Mn.out (Mn.eval (Bs.look (x.zA.l.map zC.e)) d.to x1.e)).2)) rfl (ask_3 hq1 h1 h2 h3) (fun h=>h.sel [0,7,8,9,13,14,15] qD rfl)
 refine (go 11) (zZ results69 fun w1 hM=>?_)
 have hM:=hM.yU (zi.Ok.loc (⟨0,0,z2,(Mn.evalN (Bs.look (x.zA.l.map zC.e)) (Bs.cost (x.zA.l.map zC.e)) d.to x1.e 0)⟩:zi)) fun Pb pp=>⟨pp.sl 0 rfl,pp.at_ 1 _ rfl⟩
 exact hM.yX (x,⟨0,0,z2,(Mn.evalN (Bs.look (x.zA.l.map zC.e)) (Bs.cost (x.zA.l.map zC.e)) d.to x1.e 0)⟩) rfl (ask_4 hq1 h1 h2 h3 hz2) (fun h=>h.sel [0,7,8,9,13,14,15] qD rfl)
end
section
open _root_.Go.Proofs.Tryz
open Ex
attribute [local irreducible] WC WL WQ WE WS
set_option linter.unusedVariables false
set_option linter.unusedSimpArgs false
theorem do1_fn (ba dad:Addr) (d:zn):ShFn prog 71 #[.pointer (some ba)] (DoAt ba dad d) (fun s=>Sh.forget s d.tier d.to) :=
  ⟨call71,DoAt.loc _ _ _,fun s w Pb hP hs hC=>by simpa using c_do1 s ba dad d Pb w hP hs hC.box hC.cel hC.ok⟩
theorem do2_fn (ba dad:Addr) (d:zn):ShFn prog 73 #[.pointer (some ba)] (DoAt ba dad d) (fun s=>Sh.roll s d.to) :=
  ⟨call73,DoAt.loc _ _ _,fun s w Pb hP hs hC=>by simpa using c_do2 s ba dad d Pb w hP hs hC.box hC.cel hC.ok⟩
set_option maxHeartbeats 1000000 in
theorem c_bdo (bp:Nat) (x:zr) (dad:Addr) (d:zn) (Pb:Nat→Prop) (w:World) (hG:Mem w ⟨fpOf [.blk bp [.slice x.zA.A x.zA.l.length x.zA.c,iV x.zN] 93,Row (.slice x.zA.A x.zA.l.length x.zA.c) 50 9 zX x.zA.l,allP zC.Ok x.zA.l,celP dad [iV d.kind,iV d.tier,iV d.to,.slice d.sr.A d.sr.l.length d.sr.c,iV d.zJ.time,iV d.zJ.value,.string d.text],okP zn.Ok d,.pub zO],Pb⟩ [.blk bp [.slice x.zA.A x.zA.l.length x.zA.c,iV x.zN] 93,Row (.slice x.zA.A x.zA.l.length x.zA.c) 50 9 zX x.zA.l,allP zC.Ok x.zA.l,celP dad [iV d.kind,iV d.tier,iV d.to,.slice d.sr.A d.sr.l.length d.sr.c,iV d.zJ.time,iV d.zJ.value,.string d.text],okP zn.Ok d,.pub zO] w) (hi:Bs.Inv x.e 120) :
    Calls prog 37 #[.pointer (some ⟨bp,0,none⟩),.pointer (some ((Addr.add dad 0).add 0))] w (RetA w [.blk bp [.slice x.zA.A x.zA.l.length x.zA.c,iV x.zN] 93,Row (.slice x.zA.A x.zA.l.length x.zA.c) 50 9 zX x.zA.l,allP zC.Ok x.zA.l,celP dad [iV d.kind,iV d.tier,iV d.to,.slice d.sr.A d.sr.l.length d.sr.c,iV d.zJ.time,iV d.zJ.value,.string d.text],okP zn.Ok d,.pub zO] Pb (fun z:zr × zi=>.agg (yl z.2).toArray) (fun z=>(z.1.e,z.2.e)=Bs.one x.e d.e) (fun z=>[okP zi.Ok z.2,.blk bp [.slice z.1.zA.A z.1.zA.l.length z.1.zA.c,iV z.1.zN] 93,Row (.slice z.1.zA.A z.1.zA.l.length z.1.zA.c) 50 9 zX z.1.zA.l,allP zC.Ok z.1.zA.l,celP dad (vB d),okP zn.Ok d,.pub zO])):=by
 have hwf:∀ y ∈ x.zA.l,zC.Wf y:=fun y hy=>((hG.yT (i:=2) rfl) y hy).wf
 have hwd:=(hG.yT (i:=4) rfl).wf
 obtain ⟨hsc,hsm,hsA⟩:=row_wf (hG.row (i:=1) rfl)
 have hlen:=len_k hi
 have hh0:=hi.hor
 have hh1:x.e.zN=x.zN:=rfl
 refine zw (N:=86) (vals:=[.pointer (some ⟨bp,0,none⟩),.pointer (some ((Addr.add dad 0).add 0))]) func37 hG ?_
 refine (go 2) (jm fun b3=>yA fun b4=>?_)
 refine (go 18) (zY (fun h1=>?_) fun h1=>?_)
 ·refine (go 4) ?_
  refine yQ (α:=zr × zi) [.blk bp [.slice x.zA.A x.zA.l.length x.zA.c,iV x.zN] 93,Row (.slice x.zA.A x.zA.l.length x.zA.c) 50 9 zX x.zA.l,allP zC.Ok x.zA.l,celP dad [iV d.kind,iV d.tier,iV d.to,.slice d.sr.A d.sr.l.length d.sr.c,iV d.zJ.time,iV d.zJ.value,.string d.text],okP zn.Ok d] [.blk b4 [iV 0,iV 0,Zs,iV 0] 34,.blk b3 [.pointer (some ((Addr.add dad 0).add 0))] 95,.pub zO] (fun z:zr × zi=>.agg (yl z.2).toArray) (fun z1=>(z1.1.e,z1.2.e)=Bs.add x.e d.e) (fun z1=>[okP zi.Ok z1.2,.blk bp [.slice z1.1.zA.A z1.1.zA.l.length z1.1.zA.c,iV z1.1.zN] 93,Row (.slice z1.1.zA.A z1.1.zA.l.length z1.1.zA.c) 50 9 zX z1.1.zA.l,allP zC.Ok z1.1.zA.l,celP dad [iV d.kind,iV d.tier,iV d.to,.slice d.sr.A d.sr.l.length d.sr.c,iV d.zJ.time,iV d.zJ.value,.string d.text],okP zn.Ok d]) _ (fun _=>rfl) (S9 [2,3,4,5,6,0,1,7]) (fun _=>rfl) wn rfl rfl call68 rfl (fun w1 Pb hG=>c_badd bp x dad d Pb w1 hG hi) fun z1 hz1=>?_
  refine (go 6) (zZ results37 fun w1 hM=>?_)
  exact hM.yX z1 rfl (one_1 h1 hz1) (fun h=>h.sel [0,1,2,3,4,5,8] qD rfl)
 refine (go 6) (zY (fun h2=>?_) fun h2=>?_)
 ·refine (go 4) ?_
  refine yQ (α:=zr × zi) [.blk bp [.slice x.zA.A x.zA.l.length x.zA.c,iV x.zN] 93,Row (.slice x.zA.A x.zA.l.length x.zA.c) 50 9 zX x.zA.l,allP zC.Ok x.zA.l,celP dad [iV d.kind,iV d.tier,iV d.to,.slice d.sr.A d.sr.l.length d.sr.c,iV d.zJ.time,iV d.zJ.value,.string d.text],okP zn.Ok d,.pub zO] [.blk b4 [iV 0,iV 0,Zs,iV 0] 34,.blk b3 [.pointer (some ((Addr.add dad 0).add 0))] 95] (fun z:zr × zi=>.agg (yl z.2).toArray) (fun z2=>(z2.1.e,z2.2.e)=(x.e,Bs.ask x.e d.e)) (fun z2=>[okP zi.Ok z2.2,.blk bp [.slice z2.1.zA.A z2.1.zA.l.length z2.1.zA.c,iV z2.1.zN] 93,Row (.slice z2.1.zA.A z2.1.zA.l.length z2.1.zA.c) 50 9 zX z2.1.zA.l,allP zC.Ok z2.1.zA.l,celP dad [iV d.kind,iV d.tier,iV d.to,.slice d.sr.A d.sr.l.length d.sr.c,iV d.zJ.time,iV d.zJ.value,.string d.text],okP zn.Ok d,.pub zO]) _ (fun _=>rfl) (S9 [2,3,4,5,6,7,0,1]) (fun _=>rfl) wn rfl rfl call69 rfl (fun w1 Pb hG=>c_bask bp x dad d Pb w1 hG hi) fun z2 hz2=>?_
  refine (go 6) (zZ results37 fun w1 hM=>?_)
  exact hM.yX z2 rfl (one_2 h1 h2 hz2) (fun h=>h.sel [0,1,2,3,4,5,6] qD rfl)
 refine (go 7) (zY (fun h3=>?_) fun h3=>?_)
 ·refine (go 2) ?_
  refine vF rfl (decide_eq_true h3) ?_
  refine (go 12) (yR 29 (fun h4=>?_) fun h4=>?_)
  ·refine (go 17) (zZ results37 fun w1 hM=>?_)
   have hM:=hM.yU (zi.Ok.loc (noX 3)) fun Pb pp=>noX_ok _ _ _
   exact hM.yX (x,noX 3) rfl (one_4 h1 h2 (.inl h3) qO) (fun h=>h.sel [0,3,4,5,6,7,8] qD rfl)
  refine (go 8) (zY (fun h5=>?_) fun h5=>?_)
  ·refine (go 8) (zZ results37 fun w1 hM=>?_)
   have hM:=hM.yU (zi.Ok.loc (noX 3)) fun Pb pp=>noX_ok _ _ _
   exact hM.yX (x,noX 3) rfl (one_4 h1 h2 (.inl h3) qO) (fun h=>h.sel [0,3,4,5,6,7,8] qD rfl)
  refine (go 12) ?_
  refine yd rfl (decide_eq_false qO) ?_
  refine (go 5) ?_
  refine zb (yg rfl rfl) (l_sealB2 1 2 3 rfl rfl rfl rfl rfl onlyB (zf (fun _ h=>h.yU (DoAt.loc ⟨b3,0,none⟩ dad d) fun Pb pp=>⟨pp.at_ 1 _ rfl,pp.at_ 5 _ rfl,pp.at_ 6 _ rfl⟩) (yQ (α:=zr) [.blk bp [.slice x.zA.A x.zA.l.length x.zA.c,iV x.zN] 93,Row (.slice x.zA.A x.zA.l.length x.zA.c) 50 9 zX x.zA.l,allP zC.Ok x.zA.l,.pub (DoAt ⟨b3,0,none⟩ dad d)] [.blk b4 [iV 0,iV 0,Zs,iV 0] 34,celP ⟨b3,0,none⟩ [.pointer (some ((Addr.add dad 0).add 0))],celP dad [iV d.kind,iV d.tier,iV d.to,.slice d.sr.A d.sr.l.length d.sr.c,iV d.zJ.time,iV d.zJ.value,.string d.text],okP zn.Ok d,.pub zO] (fun _=>iV (Bs.each (fun s=>Sh.roll s d.to) x.e.zA).2) (fun z3=>z3.e=if (Bs.each (fun s=>Sh.roll s d.to) x.e.zA).2≠0 then x.e else ⟨(Bs.each (fun s=>Sh.roll s d.to) x.e.zA).1,x.zN⟩) (fun z3=>[.blk bp [.slice z3.zA.A z3.zA.l.length z3.zA.c,iV z3.zN] 93,Row (.slice z3.zA.A z3.zA.l.length z3.zA.c) 50 9 zX z3.zA.l,allP zC.Ok z3.zA.l,.pub (DoAt ⟨b3,0,none⟩ dad d)]) _ (fun _=>rfl) (S9 [3,4,5,0,1,2,6,7,8]) (fun _=>rfl) wn rfl rfl call70 rfl (fun w1 Pb hG=>c_each bp x 73 #[.pointer (some ⟨b3,0,none⟩)] (DoAt ⟨b3,0,none⟩ dad d) (fun s=>Sh.roll s d.to) Pb w1 hG (do2_fn _ _ _) hlen) fun z3 hz3=>?_)))
  have hh1:=hor_of hz3
  refine (go 10) (zY (fun h6=>?_) fun h6=>?_)
  ·refine uK 20 ?_
   refine (go 16) ?_
   refine yn (jK (show _=(Sh.mx z3.zN (d.to - (d.to % 10))) from rfl) (uc rfl rfl)) ?_
   refine (go 15) (zZ results37 fun w1 hM=>?_)
   have hM:=hM.yU (zi.Ok.loc (noX ((Bs.each (fun s=>Sh.roll s d.to) x.e.zA).2))) fun Pb pp=>noX_ok _ _ _
   exact hM.yX (⟨z3.zA,Sh.mx z3.zN (d.to - d.to % 10)⟩,noX ((Bs.each (fun s=>Sh.roll s d.to) x.e.zA).2)) rfl (one_8 h1 h2 h3 qO h6 hz3) (fun h=>h.sel [0,1,2,3,7,8,9] qD rfl)
  refine (go 10) (zZ results37 fun w1 hM=>?_)
  have hM:=hM.yU (zi.Ok.loc (noX ((Bs.each (fun s=>Sh.roll s d.to) x.e.zA).2))) fun Pb pp=>noX_ok _ _ _
  exact hM.yX (z3,noX ((Bs.each (fun s=>Sh.roll s d.to) x.e.zA).2)) rfl (one_7 h1 h2 h3 qO h6 hz3) (fun h=>h.sel [0,1,2,3,7,8,9] qD rfl)
 refine (go 5) (zY (fun h7=>?_) fun h7=>?_)
 ·refine (go 12) (yR 29 (fun h8=>?_) fun h8=>?_)
  ·refine (go 17) (zZ results37 fun w1 hM=>?_)
   have hM:=hM.yU (zi.Ok.loc (noX 3)) fun Pb pp=>noX_ok _ _ _
   exact hM.yX (x,noX 3) rfl (one_4 h1 h2 (.inr h7) qO) (fun h=>h.sel [0,3,4,5,6,7,8] qD rfl)
  refine (go 8) (zY (fun h9=>?_) fun h9=>?_)
  ·refine (go 8) (zZ results37 fun w1 hM=>?_)
   have hM:=hM.yU (zi.Ok.loc (noX 3)) fun Pb pp=>noX_ok _ _ _
   exact hM.yX (x,noX 3) rfl (one_4 h1 h2 (.inr h7) qO) (fun h=>h.sel [0,3,4,5,6,7,8] qD rfl)
  refine (go 12) ?_
  refine vF rfl (decide_eq_true h7) ?_
  refine (go 9) (yR 47 (fun h10=>?_) fun h10=>?_)
  ·refine (go 18) (zZ results37 fun w1 hM=>?_)
   have hM:=hM.yU (zi.Ok.loc (noX 1)) fun Pb pp=>noX_ok _ _ _
   exact hM.yX (x,noX 1) rfl (one_5 h1 h2 h7 qO qO) (fun h=>h.sel [0,3,4,5,6,7,8] qD rfl)
  refine (go 8) (zY (fun h11=>?_) fun h11=>?_)
  ·refine (go 9) (zZ results37 fun w1 hM=>?_)
   have hM:=hM.yU (zi.Ok.loc (noX 1)) fun Pb pp=>noX_ok _ _ _
   exact hM.yX (x,noX 1) rfl (one_5 h1 h2 h7 qO qO) (fun h=>h.sel [0,3,4,5,6,7,8] qD rfl)
  refine (go 5) ?_
  refine zb (yg rfl rfl) (l_sealB2 1 2 3 rfl rfl rfl rfl rfl onlyB (zf (fun _ h=>h.yU (DoAt.loc ⟨b3,0,none⟩ dad d) fun Pb pp=>⟨pp.at_ 1 _ rfl,pp.at_ 5 _ rfl,pp.at_ 6 _ rfl⟩) (yQ (α:=zr) [.blk bp [.slice x.zA.A x.zA.l.length x.zA.c,iV x.zN] 93,Row (.slice x.zA.A x.zA.l.length x.zA.c) 50 9 zX x.zA.l,allP zC.Ok x.zA.l,.pub (DoAt ⟨b3,0,none⟩ dad d)] [.blk b4 [iV 0,iV 0,Zs,iV 0] 34,celP ⟨b3,0,none⟩ [.pointer (some ((Addr.add dad 0).add 0))],celP dad [iV d.kind,iV d.tier,iV d.to,.slice d.sr.A d.sr.l.length d.sr.c,iV d.zJ.time,iV d.zJ.value,.string d.text],okP zn.Ok d,.pub zO] (fun _=>iV (Bs.each (fun s=>Sh.forget s d.tier d.to) x.e.zA).2) (fun z4=>z4.e=if (Bs.each (fun s=>Sh.forget s d.tier d.to) x.e.zA).2≠0 then x.e else ⟨(Bs.each (fun s=>Sh.forget s d.tier d.to) x.e.zA).1,x.zN⟩) (fun z4=>[.blk bp [.slice z4.zA.A z4.zA.l.length z4.zA.c,iV z4.zN] 93,Row (.slice z4.zA.A z4.zA.l.length z4.zA.c) 50 9 zX z4.zA.l,allP zC.Ok z4.zA.l,.pub (DoAt ⟨b3,0,none⟩ dad d)]) _ (fun _=>rfl) (S9 [3,4,5,0,1,2,6,7,8]) (fun _=>rfl) wn rfl rfl call70 rfl (fun w1 Pb hG=>c_each bp x 71 #[.pointer (some ⟨b3,0,none⟩)] (DoAt ⟨b3,0,none⟩ dad d) (fun s=>Sh.forget s d.tier d.to) Pb w1 hG (do1_fn _ _ _) hlen) fun z4 hz4=>?_)))
  have hh2:=hor_of hz4
  refine (go 6) (zZ results37 fun w1 hM=>?_)
  have hM:=hM.yU (zi.Ok.loc (noX ((Bs.each (fun s=>Sh.forget s d.tier d.to) x.e.zA).2))) fun Pb pp=>noX_ok _ _ _
  exact hM.yX (z4,noX ((Bs.each (fun s=>Sh.forget s d.tier d.to) x.e.zA).2)) rfl (one_6 h1 h2 h7 qO qO hz4) (fun h=>h.sel [0,1,2,3,7,8,9] qD rfl)
 refine (go 9) (zZ results37 fun w1 hM=>?_)
 have hM:=hM.yU (zi.Ok.loc (noX 1)) fun Pb pp=>noX_ok _ _ _
 exact hM.yX (x,noX 1) rfl (one_3 h1 h2 qO) (fun h=>h.sel [0,3,4,5,6,7,8] qD rfl)
end
section
open _root_.Go.Proofs.Tryz
open Ex
attribute [local irreducible] WC WL WQ WE WS
set_option linter.unusedVariables false
set_option linter.unusedSimpArgs false
set_option maxHeartbeats 1000000 in
theorem c_play (lv:Value) (l:List zn) (P0:Nat→Prop) (w:World) (hP0:∀ b,P0 b→b < w.heap.size) (hl:zD P0 7 vB lv l w) (hla:∀ x ∈ l,zn.Ok P0 x w) (hE:zO P0 w)  :
    Calls prog 14 #[lv] w (RetE w P0 (fun z:zr × SlX zi=>.tuple #[.agg (jU z.1).toArray,.slice z.2.A z.2.l.length z.2.c,iV (Bs.play (l.map zn.e)).2.2]) (fun z=>(z.1.e,z.2.l.map zi.e)=((Bs.play (l.map zn.e)).1,(Bs.play (l.map zn.e)).2.1)) (fun z S w=>zr.Ok S z.1 w∧AnssX.Ok S z.2 w)):=by
 have hwl:∀ x ∈ l,zn.Wf x:=fun x hx=>(hla x hx).wf
 obtain ⟨lA,lc,rfl,hlc,hlm,hlA⟩:=hl.form
 refine zw (N:=33) func14 (Mem.ofDatsP hP0 (dc (dlp hl) (dc (dp (all_loc zn.Ok.loc _) hla) (dc (dp zO.loc hE) dn)))) ?_
 refine (go 2) (yA fun b2=>?_)
 refine (go 12) (zY (fun h1=>?_) fun h1=>?_)
 ·refine (go 10) (jD results14 fun w1 hM=>?_)
  have hb9:=play_many h1
  exact hM.vU ((⟨⟨none,0,[]⟩,0⟩,⟨none,0,[]⟩):zr × SlX zi) (by rw [hb9]; rfl) (by rw [hb9]; rfl) fun Pb pp=>⟨⟨zD.zu _ _ _ _,fun c hc=>(by cases hc)⟩,⟨zD.zu _ _ _ _,fun c hc=>(by cases hc)⟩⟩
 refine (go 5) (yv fun b13=>?_)
 refine (go 5) ?_
 refine yI (yl:zi→List Value) 34 4 (zf (fun _ h=>h.all0 zi.Ok.loc) ?_)
 refine (go 12) ?_
 refine uq (fun _ h=>h.vM zC 50 9 zX) (u4 (fun _ h=>h.all0 zC.Ok.loc) (vO (fun (k:Nat) (x:zr) (zs:List zi) (ov:Value)=>[(0,.slice lA l.length lc),(2,.pointer (some ⟨b2,0,none⟩)),(5,.pointer (some ⟨b13,0,none⟩)),(6,ov),(15,iV l.length),(16,iV k)]) (fun (k:Nat) (x:zr) (zs:List zi) (ov:Value)=>[allP zC.Ok x.zA.l,Row (.slice x.zA.A x.zA.l.length x.zA.c) 50 9 zX x.zA.l,allP zi.Ok zs,Row ov 34 4 yl zs,.blk b13 [.slice x.zA.A x.zA.l.length x.zA.c,iV x.zN] 93,.blk b2 [Zs,iV 0] 25,slP 7 vB (.slice lA l.length lc) l,allP zn.Ok l,.pub zO]) (fun (k:Nat) (x:zr) (zs:List zi) (ov:Value)=>k≤l.length∧(∀ y ∈ zs,zi.Wf y)∧Bs.run Bs.zero ((l.take k).map zn.e)=(x.e,zs.map zi.e)∧zs.length=k) (fun (k:Nat) (x:zr) (zs:List zi) (ov:Value)=>l.length - k) 0 (⟨⟨none,0,[]⟩,0⟩:zr) [] (Zs) (sc rfl (sc rfl (sc rfl (sc rfl (sc rfl (sc (ji qO) sn)))))) (fun _ h=>h) ?_ (fun k x zs ov hI1=>?_)))
 ·exact ⟨Nat.zero_le _,fun x hx=>(by cases hx),rfl,rfl⟩
 have hwz:=hI1.2.1
 have hzl:=hI1.2.2.2
 refine yW 3 (l:=zs) rfl fun A1 cp1 hv1 hc1 hm1 hA1=>?_
 subst hv1
 refine (go 6) (zY (fun h2=>?_) fun h2=>?_)
 ·refine (go 15) ?_
  obtain ⟨ad1,s1,hd1,hs1⟩:=elx hlA k
  refine (go 1) ?_
  have hiv1:Bs.Inv x.e 120:=inv_at hI1.2.2.1 qO
  refine zf (fun _ h=>h.celAt 6 rfl hd1 hs1) ?_
  have hw1:=hwl _ (List.mem_of_getElem? hs1)
  refine zf (fun _ h=>h.one 8 zn.Ok.loc rfl hs1) (zf (fun _ h=>h.dup 10 rfl rfl) (yQ (α:=zr × zi) [.blk b13 [.slice x.zA.A x.zA.l.length x.zA.c,iV x.zN] 93,Row (.slice x.zA.A x.zA.l.length x.zA.c) 50 9 zX x.zA.l,allP zC.Ok x.zA.l,celP (Addr.add ad1 (k * 7)) [iV s1.kind,iV s1.tier,iV s1.to,.slice s1.sr.A s1.sr.l.length s1.sr.c,iV s1.zJ.time,iV s1.zJ.value,.string s1.text],okP zn.Ok s1,.pub zO] [allP zi.Ok zs,Row (.slice A1 zs.length cp1) 34 4 yl zs,.blk b2 [Zs,iV 0] 25,slP 7 vB (.slice lA l.length lc) l,allP zn.Ok l,.pub zO] (fun z:zr × zi=>.agg (yl z.2).toArray) (fun z1=>(z1.1.e,z1.2.e)=Bs.one x.e s1.e) (fun z1=>[okP zi.Ok z1.2,.blk b13 [.slice z1.1.zA.A z1.1.zA.l.length z1.1.zA.c,iV z1.1.zN] 93,Row (.slice z1.1.zA.A z1.1.zA.l.length z1.1.zA.c) 50 9 zX z1.1.zA.l,allP zC.Ok z1.1.zA.l,celP (Addr.add ad1 (k * 7)) [iV s1.kind,iV s1.tier,iV s1.to,.slice s1.sr.A s1.sr.l.length s1.sr.c,iV s1.zJ.time,iV s1.zJ.value,.string s1.text],okP zn.Ok s1,.pub zO]) _ (fun _=>rfl) (S9 [7,4,3,2,1,0,5,6,8,9,10,11]) (fun _=>rfl) wn rfl rfl call37 rfl (fun w1 Pb hG=>c_bdo b13 x (Addr.add ad1 (k * 7)) s1 Pb w1 hG hiv1) fun z1 hz1=>yh 0 rfl (fun S w h=>zi.Ok.wf h) fun hw2=>zx yl ([z1.2]:List zi) wn underlying26 inf34 rfl rfl rfl rfl qD qD rfl fun b25=>yC 9 zs ([z1.2]:List zi) encAnsX wn rfl rfl rfl (fun _ hM=>(RowSl encAnsX hM 0 rfl)) underlying26 inf34 rfl rfl (by simp only [qL]; omega) rfl fun A2 cp2 hc2 hm2 hA2=>zf (fun _ h=>h.allSnoc 8 1 zi.Ok.loc rfl rfl) ?_))
  have hw3:∀ x ∈ (zs++([z1.2]:List zi)),zi.Wf x:=fun x hx=>(List.mem_append.1 hx).elim (hwz x) fun h=>by rw [List.mem_singleton.1 h]; exact hw2
  refine (go 7) ?_
  refine zT (yY (k + 1) z1.1 (zs++([z1.2]:List zi)) (.slice A2 ((zs++([z1.2]:List zi)).length) cp2) (sc rfl (sc rfl (sc rfl (sc rfl (sc rfl (sc (ji qO) sn)))))) (S9 [5,4,0,10,3,11,12,13,8]) ?_ ?_)
  ·exact ⟨by omega,hw3,play_next hs1 hI1.2.2.1 hz1,by rw [List.length_append,List.length_singleton]; omega⟩
  omega
 refine (go 18) (jD results14 fun w1 hM=>?_)
 have hb9:=play_end hI1.2.2.1 qO qO
 have hM:=hM.zk encShelfX (i:=1) rfl rfl
 have hM:=hM.zk encAnsX (i:=3) rfl rfl
 exact hM.vU ((x,⟨A1,cp1,zs⟩):zr × SlX zi) (by rw [hb9]; first | done | rfl) (by rw [hb9]) fun Pb pp=>⟨⟨pp.sl 1 rfl,pp.at_ 0 _ rfl⟩,⟨pp.sl 3 rfl,pp.at_ 2 _ rfl⟩⟩
end
section
namespace Ex
structure LinesX.Ok (S:Nat→Prop) (z:SlX zV) (w:World):Prop where
  sl:zD S 2 yz (.slice z.A z.l.length z.c) z.l w
  all:∀ c ∈ z.l,zV.Ok S c w
theorem LinesX.Ok.loc (x:SlX zV):Loc (fun S=>LinesX.Ok S x):=fun S S' u u' hs hk h=>⟨zD.loc _ _ _ _ S S' u u' hs hk h.sl,fun c hc=>zV.Ok.loc c S S' u u' hs hk (h.all c hc)⟩
structure LinesX.Wf (z:SlX zV):Prop where
  sl:Ex.Wf z
  all:∀ c ∈ z.l,zV.Wf c
theorem LinesX.Ok.wf {S:Nat→Prop} {x:SlX zV} {w:World} (h:LinesX.Ok S x w):LinesX.Wf x:=⟨zD.wf h.sl,fun c hc=>(h.all c hc).wf⟩
section
variable {w0 w w':World} {M:Fp} {L L':List Own} {α:Type} {ok:(Nat→Prop)→α→World→Prop}
theorem Mem.linesX (h:Mem w0 M L w) (q:Nat) {e:SlX zV} (hi:L[q]?=some (okP LinesX.Ok e)):Mem w0 M (slP 2 yz (.slice e.A e.l.length e.c) e.l::allP zV.Ok e.l::L) w:=by
  have h1:=h.imp q hi (all_loc zV.Ok.loc e.l) fun _ hF=>LinesX.Ok.all hF
  exact h1.imp (q + 1) hi (zD.loc 2 yz _ e.l) fun _ hF=>LinesX.Ok.sl hF
end
end Ex
end
section
namespace Bs
open Ex Sh
set_option linter.unusedVariables false
def lkey (x:Line):Cell:=⟨x.sr,0⟩
def tell (out:List Line) (t:List Label) (x:Sample):List Line :=
  if Mn.has (out.map lkey) t=true then (match out[Mn.pos (out.map lkey) t]? with
    | none=>out
    | some y=>out.set (Mn.pos (out.map lkey) t) ⟨y.sr,y.sm++[x]⟩)
  else out.take (Mn.pos (out.map lkey) t)++⟨t,[x]⟩::out.drop (Mn.pos (out.map lkey) t)
def tolds:List Line→List Do→List Ans→List Line
  | out,d::r,a::s=>tolds (if d.kind=1∧a.err=0 then tell out d.sr d.zJ else out) r s
  | out,_,_=>out
def Kept (n:Nat) (x:Line) (s:Shelf):Prop:=x.sr=s.zL∧Keep s x.sm∧x.sm.length≤n
def tells (n:Nat):List Line→List Shelf→Prop
  | [],[]=>True
  | x::r,s::r'=>Kept n x s∧tells n r r'
  | _,_=>False
section
variable {n:Nat} {x:Line} {s z:Shelf}
theorem Kept.up {m:Nat} (h:Kept n x s) (hm:n≤m):Kept m x s:=⟨h.1,h.2.1,by have:=h.2.2; omega⟩
theorem tells_up {m:Nat} (hm:n≤m):∀ {l:List Line} {r:List Shelf},tells n l r→tells m l r
  | [],[],_=>trivial
  | [],_::_,h=>h.elim
  | _::_,[],h=>h.elim
  | _::_,_::_,h=>⟨h.1.up hm,tells_up hm h.2⟩
theorem tells_key:∀ {l:List Line} {r:List Shelf},tells n l r→l.map lkey=r.map key
  | [],[],_=>rfl
  | [],_::_,h=>h.elim
  | _::_,[],h=>h.elim
  | x :: l, s :: r, h => by
    rw [List.map_cons,List.map_cons,tells_key h.2]
    have:lkey x=key s:=by unfold lkey key; rw [h.1.1]
    rw [this]
theorem tells_len {l:List Line} {r:List Shelf} (h:tells n l r):l.length=r.length:=by
  have:=congrArg List.length (tells_key h); simpa using this
theorem tells_get:∀ {l:List Line} {r:List Shelf} {i:Nat} {s:Shelf},tells n l r→r[i]?=some s→∃ x,l[i]?=some x∧Kept n x s
  | [],[],i,s,_,h=>by simp at h
  | [],_::_,_,_,h,_=>h.elim
  | _::_,[],_,_,h,_=>h.elim
  | x :: l, y :: r, 0, s, h, hs => by
    obtain rfl:y=s:=by simpa using hs
    exact ⟨x,rfl,h.1⟩
  | x :: l, y :: r, i + 1, s, h, hs => by
    obtain ⟨u,h1,h2⟩:=tells_get (i:=i) h.2 (by simpa using hs)
    exact ⟨u,by simpa using h1,h2⟩
theorem tells_set (hz:Kept n x z):∀ {l:List Line} {r:List Shelf} (i:Nat),tells n l r→tells n (l.set i x) (r.set i z)
  | [],[],i,_=>trivial
  | [],_::_,_,h=>h.elim
  | _::_,[],_,h=>h.elim
  | _::_,_::_,0,h=>⟨hz,h.2⟩
  | _::_,_::_,i + 1,h=>⟨h.1,tells_set hz i h.2⟩
theorem tells_ins (hz:Kept n x z):∀ {l:List Line} {r:List Shelf} (i:Nat),tells n l r→tells n (l.take i++x::l.drop i) (r.take i++z::r.drop i)
  | [],[],i,_=>by simp only [List.take_nil,List.drop_nil,List.nil_append]; exact ⟨hz,trivial⟩
  | [],_::_,_,h=>h.elim
  | _::_,[],_,h=>h.elim
  | _::_,_::_,0,h=>⟨hz,h⟩
  | _::_,_::_,i + 1,h=>⟨h.1,tells_ins hz i h.2⟩
theorem tells_map {f:Shelf→Shelf}:∀ {l:List Line} {r:List Shelf},tells n l r→(∀ x s,s ∈ r→Kept n x s→Kept n x (f s))→tells n l (r.map f)
  | [],[],_,_=>trivial
  | [],_::_,h,_=>h.elim
  | _::_,[],h,_=>h.elim
  | x::l,s::r,h,hf=>⟨hf x s List.mem_cons_self h.1,tells_map h.2 fun x s hs=>hf x s (List.mem_cons_of_mem _ hs)⟩
end
theorem tells_add {n:Nat} {b:Base} {out:List Line} {d:Do} (h:tells n out b.zA) (hi:Inv b n):tells (n + 1) (if (add b d).2.err=0 then tell out d.sr d.zJ else out) (add b d).1.zA:=by
  have hu:=tells_up (show n≤n + 1 by omega) h
  have hk:=tells_key h
  have bad:∀ e:Int,e≠0→add b d=(b,no e)→tells (n + 1) (if (add b d).2.err=0 then tell out d.sr d.zJ else out) (add b d).1.zA:=fun e he ha=>by
    rw [ha,if_neg (show ¬ (b,no e).2.err=0 from he)]; exact hu
  have good:∀ z:Base,add b d=(z,no 0)→tells (n + 1) (tell out d.sr d.zJ) z.zA→tells (n + 1) (if (add b d).2.err=0 then tell out d.sr d.zJ else out) (add b d).1.zA:=fun z ha hz=>by
    rw [ha,if_pos (show (z,no 0).2.err=0 from rfl)]; exact hz
  by_cases h1:zH.wrong d.sr≠0
  · exact bad _ h1 (by unfold add; rw [if_pos h1])
  by_cases h2:(Codec.wrong [d.zJ]).err≠0
  · exact bad _ h2 (by unfold add; rw [if_neg h1,if_pos h2])
  by_cases h3:d.zJ.time < b.zN
  · exact bad 9 qD (by unfold add; rw [if_neg h1,if_neg h2,if_pos h3])
  have ht:Mn.has (out.map lkey) d.sr=there b.zA d.sr:=by rw [hk]; rfl
  have hp:Mn.pos (out.map lkey) d.sr=place b.zA d.sr:=by rw [hk]; rfl
  by_cases h4:there b.zA d.sr=true
  · obtain ⟨s,hs,hser⟩:=has_at hi.asc h4
    obtain ⟨x,hx,hkx⟩:=tells_get h hs
    have ea:add b d=if (append s d.zJ).2≠0 then (b,no (append s d.zJ).2) else (⟨b.zA.set (place b.zA d.sr) (append s d.zJ).1,b.zN⟩,no 0):=by
      unfold add; rw [if_neg h1,if_neg h2,if_neg h3,if_pos h4,hs]
    by_cases h5:(append s d.zJ).2≠0
    · exact bad _ h5 (by rw [ea,if_pos h5])
    · have h6:=Classical.not_not.1 h5
      have et:tell out d.sr d.zJ=out.set (place b.zA d.sr) ⟨x.sr,x.sm++[d.zJ]⟩:=by rw [tell,ht,if_pos h4,hp,hx]
      obtain ⟨e1,e2⟩:=append_same h6
      refine good _ (by rw [ea,if_neg h5]) ?_
      rw [et]
      exact tells_set ⟨by rw [e1]; exact hkx.1,hkx.2.1.append h6,by have:=hkx.2.2; rw [List.length_append,List.length_singleton]; omega⟩ _ hu
  by_cases h5:b.zA.length=8
  · exact bad 5 qD (by unfold add; rw [if_neg h1,if_neg h2,if_neg h3,if_neg h4,if_pos h5])
  by_cases h6:(append (fresh d.sr b.zN) d.zJ).2≠0
  · exact bad _ h6 (by unfold add; rw [if_neg h1,if_neg h2,if_neg h3,if_neg h4,if_neg h5,if_pos h6])
  · have h7:=Classical.not_not.1 h6
    refine good ⟨b.zA.take (place b.zA d.sr)++(append (fresh d.sr b.zN) d.zJ).1::b.zA.drop (place b.zA d.sr),b.zN⟩ (by unfold add; rw [if_neg h1,if_neg h2,if_neg h3,if_neg h4,if_neg h5,if_neg h6]) ?_
    have et:tell out d.sr d.zJ=out.take (place b.zA d.sr)++⟨d.sr,[d.zJ]⟩::out.drop (place b.zA d.sr):=by rw [tell,ht,if_neg h4,hp]
    rw [et]
    obtain ⟨f1,f2,f3,f4⟩:=fresh_keep (Classical.not_not.1 h1) hi.hor.1 hi.hor.2.1
    obtain ⟨e1,e2⟩:=append_same h7
    exact tells_ins ⟨by rw [e1,f3],f1.append h7,by simp⟩ _ hu
theorem tells_one {n:Nat} {b:Base} {out:List Line} {d:Do} (h:tells n out b.zA) (hi:Inv b n):tells (n + 1) (if d.kind=1∧(one b d).2.err=0 then tell out d.sr d.zJ else out) (one b d).1.zA:=by
  have hu:=tells_up (show n≤n + 1 by omega) h
  by_cases h1:d.kind=1
  · have e:one b d=add b d:=by unfold one; rw [if_pos h1]
    have:=tells_add (d:=d) h hi
    rw [e]
    by_cases h0:(add b d).2.err=0
    · rw [if_pos h0] at this; rw [if_pos ⟨h1,h0⟩]; exact this
    · rw [if_neg h0] at this; rw [if_neg (fun g=>h0 g.2)]; exact this
  rw [if_neg (fun g=>h1 g.1)]
  unfold one
  rw [if_neg h1]
  by_cases h2:d.kind=4
  · rw [if_pos h2]; exact hu
  rw [if_neg h2]
  by_cases h3:¬ (d.kind=2∨d.kind=3)
  · rw [if_pos h3]; exact hu
  rw [if_neg h3]
  by_cases h4:d.to < 0∨1000000 < d.to
  · rw [if_pos h4]; exact hu
  rw [if_neg h4]
  by_cases h5:d.kind=3
  · rw [if_pos h5]
    by_cases h6:d.tier < 0∨2 < d.tier
    · rw [if_pos h6]; exact hu
    rw [if_neg h6,forgetAll]
    by_cases h7:(each (fun s=>forget s d.tier d.to) b.zA).2≠0
    · rw [if_pos h7]; exact hu
    rw [if_neg h7]
    obtain ⟨e1,e2⟩:=each_ok (Classical.not_not.1 h7)
    show tells (n + 1) out (each (fun s=>forget s d.tier d.to) b.zA).1
    rw [e1]
    exact tells_map hu fun x s hs hk=>⟨by rw [(forget_same (e2 s hs)).1]; exact hk.1,hk.2.1.forget (e2 s hs),hk.2.2⟩
  · rw [if_neg h5,rollAll]
    by_cases h7:(each (fun s=>roll s d.to) b.zA).2≠0
    · rw [if_pos h7]; exact hu
    rw [if_neg h7]
    obtain ⟨e1,e2⟩:=each_ok (Classical.not_not.1 h7)
    show tells (n + 1) out (each (fun s=>roll s d.to) b.zA).1
    rw [e1]
    exact tells_map hu fun x s hs hk=>⟨by rw [(roll_same (e2 s hs)).1]; exact hk.1,hk.2.1.roll (e2 s hs),hk.2.2⟩
theorem tells_run:∀ (l:List Do) {b:Base} {out:List Line} {n:Nat},tells n out b.zA→Inv b n→tells (n + l.length) (tolds out l (run b l).2) (run b l).1.zA
  | [],_,_,_,h,_=>h
  | d :: r, b, out, n, h, hi => by
    rw [run,tolds,List.length_cons]
    have:=tells_run r (tells_one (d:=d) h hi) (inv_one (d:=d) hi)
    rwa [show n + (r.length + 1)=n + 1 + r.length by omega]
theorem tells_play (l:List Do) (hl:l.length≤120):tells 120 (tolds [] l (run zero l).2) (run zero l).1.zA:=tells_up qO (tells_run l (show tells 0 [] zero.zA from trivial) inv_zero)
end Bs
end
section
namespace Ex
set_option linter.unusedVariables false
@[reducible] def smRow (e:TypeId) (x:zV):Own:=Row (.slice x.sm.A x.sm.l.length x.sm.c) e 2 zQ x.sm.l
@[reducible] def fam (e:TypeId) (l:List zV):List Own:=l.map (smRow e)
structure LineS.Ok (S:Nat→Prop) (x:zV) (w:World):Prop where
  sr:zD S 2 zP (.slice x.sr.A x.sr.l.length x.sr.c) x.sr.l w
theorem LineS.Ok.loc (x:zV):Loc (fun S=>LineS.Ok S x):=fun S S' u u' hs hk h=>⟨zD.loc _ _ _ _ S S' u u' hs hk h.sr⟩
structure LineS.Wf (x:zV):Prop where
  sr:Ex.Wf x.sr
theorem LineS.Ok.wf {S:Nat→Prop} {x:zV} {w:World} (h:LineS.Ok S x w):LineS.Wf x:=⟨zD.wf h.sr⟩
structure LineM.Ok (S:Nat→Prop) (x:zV) (w:World):Prop where
  sm:zD S 2 zQ (.slice x.sm.A x.sm.l.length x.sm.c) x.sm.l w
theorem LineM.Ok.loc (x:zV):Loc (fun S=>LineM.Ok S x):=fun S S' u u' hs hk h=>⟨zD.loc _ _ _ _ S S' u u' hs hk h.sm⟩
section
variable {P:Program} {N:Nat} {D:List Deferred} {E:Env} {Q:Exit→Act→World→Prop} {w0 w w':World} {M:Fp} {L L':List Own}
  {ops:Array Oper} {rest:List Oper} {e:TypeId} {ls:List zV} {k n:Nat} {x:zV}
theorem Mem.lineS (h:Mem w0 M L w) (q:Nat) {e:zV} (hi:L[q]?=some (okP LineS.Ok e)):Mem w0 M (slP 2 zP (.slice e.sr.A e.sr.l.length e.sr.c) e.sr.l::L) w :=
  h.imp q hi (zD.loc 2 zP _ e.sr.l) fun _ hF=>LineS.Ok.sr hF
theorem Mem.ux (h:Mem w0 M L w) (n n':Nat) (is:List Nat) (hn:is.Nodup) (hl:is.all (fun i=>Nat.blt i n)=true) (he:(L'.take n').map some=is.map (fun i=>L[i]?)) (hT:L'.drop n'=L.drop n) (hlen:Nat.beq is.length n'=true):Mem w0 M L' w:=by
  have hlen:=Nat.eq_of_beq_eq_true hlen
  have hlt:∀ j i,is[j]?=some i→i < n:=fun j i hj=>by
    have:=List.all_eq_true.1 hl i (List.mem_of_getElem? hj)
    simpa using this
  have hinj:∀ a b i,is[a]?=some i→is[b]?=some i→a=b:=fun a b i ha hb=>by
    obtain ⟨ha1,ha2⟩:=List.getElem?_eq_some_iff.1 ha
    obtain ⟨hb1,hb2⟩:=List.getElem?_eq_some_iff.1 hb
    rcases Nat.lt_trichotomy a b with hlt | rfl | hlt
    · exact absurd (ha2.trans hb2.symm) (List.pairwise_iff_getElem.1 hn a b ha1 hb1 hlt)
    · rfl
    · exact absurd (hb2.trans ha2.symm) (List.pairwise_iff_getElem.1 hn b a hb1 ha1 hlt)
  refine h.emb (fun j=>if j < n' then (is[j]?).getD 0 else j - n' + n) (fun a b hab=>?_) fun j o hj=>?_
  · have hab:(if a < n' then (is[a]?).getD 0 else a - n' + n)=(if b < n' then (is[b]?).getD 0 else b - n' + n):=hab
    by_cases ha:a < n'
    · obtain ⟨i,hi⟩:∃ i,is[a]?=some i:=⟨_,List.getElem?_eq_getElem qO⟩
      rw [if_pos ha,hi] at hab
      by_cases hb:b < n'
      · obtain ⟨i',hi'⟩:∃ i,is[b]?=some i:=⟨_,List.getElem?_eq_getElem qO⟩
        rw [if_pos hb,hi'] at hab
        simp only [Option.getD_some] at hab
        subst hab
        exact hinj _ _ _ hi hi'
      · rw [if_neg hb] at hab
        have:=hlt _ _ hi
        simp only [Option.getD_some] at hab; omega
    · rw [if_neg ha] at hab
      by_cases hb:b < n'
      · obtain ⟨i',hi'⟩:∃ i,is[b]?=some i:=⟨_,List.getElem?_eq_getElem qO⟩
        rw [if_pos hb,hi'] at hab
        have:=hlt _ _ hi'
        simp only [Option.getD_some] at hab; omega
      · rw [if_neg hb] at hab; omega
  · by_cases hjn:j < n'
    · simp only [if_pos hjn]
      have h1:((L'.take n').map some)[j]?=some (some o):=by rw [List.getElem?_map,List.getElem?_take,if_pos hjn,hj]; rfl
      rw [he,List.getElem?_map] at h1
      obtain ⟨i,hi⟩:∃ i,is[j]?=some i:=⟨_,List.getElem?_eq_getElem qO⟩
      rw [hi] at h1 ⊢
      simpa using h1
    · simp only [if_neg hjn]
      have h1:(L'.drop n')[j - n']?=some o:=by rw [List.getElem?_drop,show n' + (j - n')=j by omega]; exact hj
      rw [hT,List.getElem?_drop] at h1
      rw [Nat.add_comm]; exact h1
theorem erase_perm {α:Type} {l:List α} {k:Nat} {x:α} (hx:l[k]?=some x):l.Perm (x::l.eraseIdx k):=by
  induction l generalizing k with
  | nil=>simp at hx
  | cons a l ih =>
    cases k with
    | zero => obtain rfl : a = x := by simpa using hx
              exact List.Perm.refl _
    | succ k =>
      have:=ih (k:=k) (by simpa using hx)
      rw [List.eraseIdx_cons_succ]
      exact (List.Perm.cons a this).trans (List.Perm.swap x a _)
theorem ins_perm {α:Type} (l:List α) (k:Nat) (x:α):(x::l).Perm (l.take k++x::l.drop k):=by
  have h:=List.perm_middle (a:=x) (l₁:=l.take k) (l₂:=l.drop k)
  rw [List.take_append_drop] at h
  exact h.symm
theorem Mem.perm0 (h:Mem w0 M L w) (hp:L.Perm L'):Mem w0 M L' w:=Mem.perm hp [] h
theorem Mem.famOut (h:Mem w0 M L w) (n:Nat) (hF:L.drop n=fam e ls) (hx:ls[k]?=some x):Mem w0 M (smRow e x::(L.take n++fam e (ls.eraseIdx k))) w:=by
  have e1:L=L.take n++fam e ls:=by rw [← hF,List.take_append_drop]
  rw [e1] at h
  have h2:=Mem.perm ((erase_perm hx).map (smRow e)) (L.take n) h
  exact h2.perm0 List.perm_middle
theorem Mem.famIn (h:Mem w0 M (smRow e x::L) w) (n k:Nat) (hF:L.drop n=fam e ls):Mem w0 M (L.take n++fam e (ls.take k++x::ls.drop k)) w:=by
  have e1:L=L.take n++fam e ls:=by rw [← hF,List.take_append_drop]
  rw [e1] at h
  have h2:Mem w0 M (L.take n++smRow e x::fam e ls) w:=h.perm0 List.perm_middle.symm
  exact Mem.perm ((ins_perm ls k x).map (smRow e)) (L.take n) h2
theorem put_set {α:Type} {l:List α} {k:Nat} {x y:α} (hx:l[k]?=some x):(l.eraseIdx k).take k++y::(l.eraseIdx k).drop k=l.set k y:=by
  induction l generalizing k with
  | nil=>simp at hx
  | cons a l ih =>
    cases k with
    | zero=>simp
    | succ k=>simpa using ih (k:=k) (by simpa using hx)
theorem Mem.famSet {y:zV} (h:Mem w0 M (smRow e y::L) w) (n:Nat) (hF:L.drop n=fam e (ls.eraseIdx k)) (hx:ls[k]?=some x):Mem w0 M (L.take n++fam e (ls.set k y)) w:=by
  have:=h.famIn n k hF
  rwa [put_set hx] at this
theorem Mem.famNil (h:Mem w0 M L w) (n k:Nat) (hF:L.drop n=fam e ls) (sr:SlX Label):Mem w0 M (L.take n++fam e (ls.take k++⟨sr,⟨none,0,[]⟩⟩::ls.drop k)) w :=
  Mem.famIn (x:=⟨sr,⟨none,0,[]⟩⟩) (h.vM Sample e 2 zQ) n k hF
theorem ins_l {α:Type} (l:List α) (k:Nat) (z:α):(([]++l.take k)++[z])++l.drop k=l.take k++z::l.drop k:=qS
theorem Mem.famNew (h:Mem w0 M L w) (n k:Nat) (hF:L.drop n=fam e ls) (sr:SlX Label):Mem w0 M (L.take n++fam e ((([]++ls.take k)++[⟨sr,⟨none,0,[]⟩⟩])++ls.drop k)) w:=by
  rw [ins_l]; exact h.famNil n k hF sr
theorem Mem.famSeal (hM:M.m=no) (ls:List zV):∀ {L:List Own} {w:World},Mem w0 M (L++fam e ls) w→Mem w0 M (allP LineM.Ok ls::L) w:=by
  induction ls with
  | nil=>intro L w h; rw [show fam e []=[] from rfl,List.append_nil] at h; exact h.yU (all_loc LineM.Ok.loc []) fun _ _ x hx=>by cases hx
  | cons x ls ih =>
    intro L w h
    have h1:Mem w0 M (smRow e x::(L++fam e ls)) w:=h.perm0 (by rw [show fam e (x::ls)=smRow e x::fam e ls from rfl]; exact List.perm_middle)
    have h2:Mem w0 M (slP 2 zQ (.slice x.sm.A x.sm.l.length x.sm.c) x.sm.l::(L++fam e ls)) w:=h1.zk encSample (i:=0) rfl hM
    have h3:Mem w0 M (allP LineM.Ok ls::slP 2 zQ (.slice x.sm.A x.sm.l.length x.sm.c) x.sm.l::L) w:=ih (L:=_::L) h2
    have h4:Mem w0 M (allP LineM.Ok (x::ls)::allP LineM.Ok ls::slP 2 zQ (.slice x.sm.A x.sm.l.length x.sm.c) x.sm.l::L) w:=h3.yU (all_loc LineM.Ok.loc _) fun Pb pp y hy=>by
      rcases List.mem_cons.1 hy with rfl | hy
      · exact ⟨pp.at_ 1 _ rfl⟩
      · exact pp.at_ 0 _ rfl y hy
    exact h4.emb (fun i=>if i=0 then 0 else i + 2) (fun i j e=>by split at e <;> split at e <;> omega) fun j o hj=>by
      cases j with
      | zero=>simpa using hj
      | succ j=>rw [if_neg qO]; simpa using hj
theorem Mem.famSeal' (h:Mem w0 M L w) (n:Nat) (hF:L.drop n=fam e ls) (hM:M.m=no):Mem w0 M (allP LineM.Ok ls::L.take n) w:=by
  refine Mem.famSeal hM ls (e:=e) ?_
  rw [← hF,List.take_append_drop]; exact h
theorem Mem.serIns {l:List zV} {sA:Option Addr} {sc:Nat} {sl:List Label} {m:SlX Sample} (h:Mem w0 M L w) (q q2 k:Nat) (hi:L[q]?=some (allP LineS.Ok l)) (hi2:L[q2]?=some (slP 2 zP (.slice sA sl.length sc) sl)):Mem w0 M (allP LineS.Ok (l.take k++⟨⟨sA,sc,sl⟩,m⟩::l.drop k)::L) w :=
  h.yU (all_loc LineS.Ok.loc _) fun Pb pp y hy=>by
    rcases List.mem_append.1 hy with hy | hy
    · exact pp.at_ q _ hi y (List.mem_of_mem_take hy)
    · rcases List.mem_cons.1 hy with rfl | hy
      · exact ⟨pp.at_ q2 _ hi2⟩
      · exact pp.at_ q _ hi y (List.mem_of_mem_drop hy)
theorem Mem.serNew {l:List zV} {sA:Option Addr} {sc:Nat} {sl:List Label} {m:SlX Sample} (h:Mem w0 M L w) (q q2 k:Nat) (hi:L[q]?=some (allP LineS.Ok l)) (hi2:L[q2]?=some (slP 2 zP (.slice sA sl.length sc) sl)):Mem w0 M (allP LineS.Ok ((([]++l.take k)++[⟨⟨sA,sc,sl⟩,m⟩])++l.drop k)::L) w:=by
  rw [ins_l]; exact h.serIns q q2 k hi hi2
theorem Mem.serSet {l:List zV} {y:zV} (h:Mem w0 M L w) (q k:Nat) (hi:L[q]?=some (allP LineS.Ok l)) (hx:l[k]?=some x) (he:y.sr=x.sr):Mem w0 M (allP LineS.Ok (l.set k y)::L) w :=
  h.yU (all_loc LineS.Ok.loc _) fun Pb pp z hz=>by
    rcases List.mem_or_eq_of_mem_set hz with hz | rfl
    · exact pp.at_ q _ hi z hz
    · exact ⟨by rw [he]; exact (pp.at_ q _ hi x (List.mem_of_getElem? hx)).sr⟩
end
end Ex
end
section
namespace Bs
open Ex Sh
set_option linter.unusedVariables false
theorem tolds_snoc (d:Do) (a:Ans):∀ (l:List Do) (s:List Ans) (out:List Line),l.length=s.length→tolds out (l++[d]) (s++[a])=if d.kind=1∧a.err=0 then tell (tolds out l s) d.sr d.zJ else tolds out l s
  | [],[],out,_=>rfl
  | [],_::_,_,h=>by simp at h
  | _::_,[],_,h=>by simp at h
  | x :: l, y :: s, out, h => by
    rw [List.cons_append,List.cons_append,tolds,tolds_snoc d a l s _ (by simpa using h),tolds]
theorem tolds_more:∀ (l:List Do) (s s':List Ans) (out:List Line),l.length≤s.length→tolds out l (s++s')=tolds out l s
  | [],s,s',out,_=>by cases s <;> cases s' <;> rfl
  | _::_,[],_,_,h=>by simp at h
  | x::l,y::s,s',out,h=>by rw [List.cons_append,tolds,tolds_more l s s' _ (by simpa using h),tolds]
theorem tolds_cut (l:List Do) (s:List Ans) (out:List Line) (k:Nat) (h:l.length≤k):tolds out l s=tolds out l (s.take k):=by
  by_cases hk:k≤s.length
  · have:=tolds_more l (s.take k) (s.drop k) out (by rw [List.length_take]; omega)
    rwa [List.take_append_drop] at this
  · rw [List.take_of_length_le qO]
theorem tell_asc {out:List Line} {t:List Label} {x:Sample} (h:Mn.Asc (out.map lkey)):Mn.Asc ((tell out t x).map lkey):=by
  unfold tell
  by_cases h1:Mn.has (out.map lkey) t=true
  · rw [if_pos h1]
    cases hy:out[Mn.pos (out.map lkey) t]? with
    | none=>exact h
    | some y =>
      simp only
      have:(out.set (Mn.pos (out.map lkey) t) ⟨y.sr,y.sm++[x]⟩).map lkey=out.map lkey:=by
        rw [List.map_set]
        refine List.ext_getElem? fun i=>?_
        rw [List.getElem?_set]
        split
        · rename_i h2
          subst h2
          have hk:=(List.getElem?_eq_some_iff.1 hy).1
          rw [if_pos (by simpa using hk),List.getElem?_map,hy]; rfl
        · rfl
      rw [this]; exact h
  · rw [if_neg h1]
    have h2:=Mn.put_asc (w:=⟨#[]⟩) (s:=t) (x:=0) h
    rw [Mn.put_ins ⟨#[]⟩ 0 (by simpa using h1)] at h2
    rw [List.map_append,List.map_cons,List.map_take,List.map_drop]; exact h2
theorem tolds_asc:∀ (l:List Do) (s:List Ans) (out:List Line),Mn.Asc (out.map lkey)→Mn.Asc ((tolds out l s).map lkey)
  | [],s,out,h=>by cases s <;> exact h
  | _::_,[],_,h=>h
  | d :: l, a :: s, out, h => by
    rw [tolds]
    refine tolds_asc l s _ ?_
    split
    · exact tell_asc h
    · exact h
section
variable {ls:List zV} {k:Nat} {t:List Label} {x:Sample} {y:zV} {l:List zn} {a:List zi} {d:zn} {r:zi}
theorem asc_of {l:List Do} {s:List Ans} (h:ls.map zV.e=tolds [] l s):Mn.Asc ((ls.map zV.e).map lkey):=by rw [h]; exact tolds_asc l s [] List.Pairwise.nil
theorem key_at (q:Nat) (c:Cell) (hc:((ls.map zV.e).map lkey)[q]?=some c):∃ y,ls[q]?=some y∧c.sr=y.sr.l:=by
  rw [List.getElem?_map,List.getElem?_map] at hc
  cases hy:ls[q]? with
  | none=>rw [hy] at hc; cases hc
  | some y=>rw [hy] at hc; obtain rfl:=Option.some.inj hc; exact ⟨y,rfl,rfl⟩
theorem at_key {q:Nat} (hy:ls[q]?=some y):((ls.map zV.e).map lkey)[q]?=some ⟨y.sr.l,0⟩:=by rw [List.getElem?_map,List.getElem?_map,hy]; rfl
def Less (ls:List zV) (t:List Label) (k:Nat):Prop:=∀ (q:Nat) (y:zV),ls[q]?=some y→q < k→zH.compare y.sr.l t < 0
theorem less_0:Less ls t 0:=fun q y _ h=>absurd h (Nat.not_lt_zero _)
theorem less_next (h:Less ls t k) (hy:ls[k]?=some y) (hc:zH.compare y.sr.l t < 0):Less ls t (k + 1):=fun q z hz hq=>by
  by_cases hqk:q=k
  · subst hqk; rw [hy] at hz; obtain rfl:=Option.some.inj hz; exact hc
  · exact h q z hz qO
theorem less_key (h:Less ls t k):∀ (q:Nat) (c:Cell),((ls.map zV.e).map lkey)[q]?=some c→q < k→zH.compare c.sr t < 0:=fun q c hc hq=>by
  obtain ⟨z,hz,e⟩:=key_at q c hc
  rw [e]; exact h q z hz hq
theorem pos_is (ha:Mn.Asc ((ls.map zV.e).map lkey)) (hk:k≤ls.length) (h:Less ls t k) (h2:∀ z,ls[k]?=some z→¬ zH.compare z.sr.l t < 0):Mn.pos ((ls.map zV.e).map lkey) t=k:=by
  refine Mn.pos_eq (by simpa using hk) (less_key h) fun q c hc hq=>?_
  have hlt:k < ls.length:=by have:=(List.getElem?_eq_some_iff.1 hc).1; simp at this; omega
  have hz:ls[k]?=some ls[k]:=List.getElem?_eq_getElem hlt
  exact Mn.asc_ge ha (at_key hz) (h2 _ hz) q c hc hq
theorem tell_new (ha:Mn.Asc ((ls.map zV.e).map lkey)) (hk:k≤ls.length) (h:Less ls t k) (h2:∀ z,ls[k]?=some z→¬ zH.compare z.sr.l t < 0∧zH.compare z.sr.l t≠0) (z:zV) (hz:z.e=⟨t,[x]⟩) (z0:zV) :
    ((ls.take k++z0::ls.drop k).set k z).map zV.e=tell (ls.map zV.e) t x:=by
  have hp:=pos_is ha hk h fun z hz=>(h2 z hz).1
  have hh:Mn.has ((ls.map zV.e).map lkey) t=false:=by
    by_cases hlt:k < ls.length
    · have hy:ls[k]?=some ls[k]:=List.getElem?_eq_getElem hlt
      rw [Mn.bs_has ha (at_key hy) (less_key h) (h2 _ hy).1]
      exact decide_eq_false (h2 _ hy).2
    · exact Mn.bs_no (i:=k) (by simp; omega) (less_key h)
  have e:(ls.take k++z0::ls.drop k).set k z=ls.take k++z::ls.drop k:=by
    have hl:(ls.take k).length=k:=by rw [List.length_take]; omega
    rw [List.set_append,if_neg qO,hl,Nat.sub_self]; rfl
  rw [e,tell,if_neg (by rw [hh]; decide),hp,List.map_append,List.map_cons,List.map_take,List.map_drop,hz]
theorem tell_old (ha:Mn.Asc ((ls.map zV.e).map lkey)) (h:Less ls t k) (hy:ls[k]?=some y) (hc:zH.compare y.sr.l t=0) (z:zV) (hz:z.e=⟨y.sr.l,y.sm.l++[x]⟩):(ls.set k z).map zV.e=tell (ls.map zV.e) t x:=by
  have hk:=(List.getElem?_eq_some_iff.1 hy).1
  have hp:=pos_is (k:=k) ha qO h fun z hz=>by rw [hy] at hz; obtain rfl:=Option.some.inj hz; omega
  have hh:Mn.has ((ls.map zV.e).map lkey) t=true:=by
    rw [Mn.bs_has ha (at_key hy) (less_key h) (by show ¬ zH.compare y.sr.l t < 0; omega)]
    exact decide_eq_true hc
  rw [tell,if_pos hh,hp,List.getElem?_map,hy]
  show _=(ls.map zV.e).set k ⟨y.sr.l,y.sm.l++[x]⟩
  rw [List.map_set,hz]
def Fit (n:Nat) (x:zV):Prop:=okLabels x.sr.l∧x.sm.l.length≤n
theorem fit_ins {n:Nat} {z0:zV} (h:∀ x ∈ ls,Fit n x) (hy:Fit n z0):∀ x ∈ (([]++ls.take k)++[z0])++ls.drop k,Fit n x:=fun x hx=>by
  rw [ins_l] at hx
  rcases List.mem_append.1 hx with hx | hx
  · exact h x (List.mem_of_mem_take hx)
  · rcases List.mem_cons.1 hx with rfl | hx
    · exact hy
    · exact h x (List.mem_of_mem_drop hx)
theorem fit_set {n:Nat} {A:Option Addr} {c:Nat} (h:∀ x ∈ ls,Fit n x) (hy:ls[k]?=some y):∀ z ∈ ls.set k ⟨y.sr,⟨A,c,y.sm.l++[x]⟩⟩,Fit (n + 1) z:=fun z hz=>by
  rcases List.mem_or_eq_of_mem_set hz with hz | rfl
  · exact ⟨(h z hz).1,Nat.le_succ_of_le (h z hz).2⟩
  · have:=h y (List.mem_of_getElem? hy)
    exact ⟨this.1,by show (y.sm.l++[x]).length≤n + 1; rw [List.length_append,List.length_singleton]; have:=this.2; omega⟩
theorem fit_up {n:Nat} (h:∀ x ∈ ls,Fit n x):∀ x ∈ ls,Fit (n + 1) x:=fun x hx=>⟨(h x hx).1,Nat.le_succ_of_le (h x hx).2⟩
theorem ins_at {z0:zV} (hk:k≤ls.length):((([]++ls.take k)++[z0])++ls.drop k)[k]?=some z0:=by
  rw [ins_l,List.getElem?_append_right (by rw [List.length_take]; omega),List.length_take,Nat.min_eq_left hk,Nat.sub_self]; rfl
theorem ins_len {z0:zV} (hk:k≤ls.length):((([]++ls.take k)++[z0])++ls.drop k).length=ls.length + 1:=by
  rw [ins_l,List.length_append,List.length_cons,List.length_take,List.length_drop]; omega
def Told (os ls:List zV) (k:Nat) (z:zV) (t:List Label) (x:Sample):Prop:=∀ A c,(os.set k ⟨z.sr,⟨A,c,z.sm.l++[x]⟩⟩).map zV.e=tell (ls.map zV.e) t x
theorem told_new (ha:Mn.Asc ((ls.map zV.e).map lkey)) (hk:k≤ls.length) (h:Less ls t k) (h2:∀ z,ls[k]?=some z→¬ zH.compare z.sr.l t < 0∧zH.compare z.sr.l t≠0) {A:Option Addr} {c:Nat}:Told ((([]++ls.take k)++[⟨⟨A,c,t⟩,⟨none,0,[]⟩⟩])++ls.drop k) ls k ⟨⟨A,c,t⟩,⟨none,0,[]⟩⟩ t x:=fun B n=>by
  rw [ins_l]; exact tell_new ha hk h h2 _ rfl _
theorem told_old (ha:Mn.Asc ((ls.map zV.e).map lkey)) (h:Less ls t k) (hy:ls[k]?=some y) (hc:zH.compare y.sr.l t=0):Told ls ls k y t x:=fun B n=>tell_old ha h hy hc _ rfl
theorem told_skip (hd:l[k]?=some d) (hr:a[k]?=some r) (h:ls.map zV.e=tolds [] ((l.take k).map zn.e) ((a.take k).map zi.e)) (hn:¬ (d.kind=1∧r.err=0)):ls.map zV.e=tolds [] ((l.take (k + 1)).map zn.e) ((a.take (k + 1)).map zi.e):=by
  have h1:=(List.getElem?_eq_some_iff.1 hd).1; have h2:=(List.getElem?_eq_some_iff.1 hr).1
  rw [List.take_add_one,List.take_add_one,hd,hr,Option.toList_some,Option.toList_some,List.map_append,List.map_append,List.map_cons,List.map_nil,List.map_cons,List.map_nil,tolds_snoc _ _ _ _ _ (by simp; omega),if_neg (show ¬ (d.e.kind=1∧r.e.err=0) from hn),h]
theorem told_more {ls':List zV} (hd:l[k]?=some d) (hr:a[k]?=some r) (h:ls.map zV.e=tolds [] ((l.take k).map zn.e) ((a.take k).map zi.e)) (h1:d.kind=1) (h2:r.err=0) (he:ls'.map zV.e=tell (ls.map zV.e) d.sr.l d.zJ) :
    ls'.map zV.e=tolds [] ((l.take (k + 1)).map zn.e) ((a.take (k + 1)).map zi.e):=by
  have g1:=(List.getElem?_eq_some_iff.1 hd).1; have g2:=(List.getElem?_eq_some_iff.1 hr).1
  rw [List.take_add_one,List.take_add_one,hd,hr,Option.toList_some,Option.toList_some,List.map_append,List.map_append,List.map_cons,List.map_nil,List.map_cons,List.map_nil,tolds_snoc _ _ _ _ _ (by simp; omega),if_pos (show d.e.kind=1∧r.e.err=0 from ⟨h1,h2⟩),he,h]; rfl
theorem told_all (h:ls.map zV.e=tolds [] ((l.take k).map zn.e) ((a.take k).map zi.e)) (hk:l.length≤k):ls.map zV.e=tolds [] (l.map zn.e) (a.map zi.e):=by
  rw [h,List.take_of_length_le hk,tolds_cut (l.map zn.e) (a.map zi.e) [] k (by simpa using hk),List.map_take]
end
theorem run_at:∀ {l:List Do} {b:Base} {i:Nat} {d:Do} {x:Ans},l[i]?=some d→(run b l).2[i]?=some x→x=(one (run b (l.take i)).1 d).2
  | [],_,_,_,_,h,_=>by simp at h
  | y :: l, b, 0, d, x, h, hx => by
    obtain rfl:y=d:=by simpa using h
    rw [run] at hx
    exact (by simpa using hx:(one b y).2=x).symm
  | y :: l, b, i + 1, d, x, h, hx => by
    rw [run] at hx
    have:=run_at (b:=(one b y).1) (by simpa using h) (by simpa using hx)
    rw [this,List.take_succ_cons,run]
theorem add_named {b:Base} {d:Do} (h:(add b d).2.err=0):zH.wrong d.sr=0:=by
  rcases Classical.em (zH.wrong d.sr=0) with h1 | h1
  · exact h1
  · unfold add at h
    rw [if_pos h1] at h
    exact h
theorem told_named {l:List Do} {b:Base} {i:Nat} {d:Do} {x:Ans} (hd:l[i]?=some d) (hx:(run b l).2[i]?=some x) (h1:d.kind=1) (h2:x.err=0):zH.wrong d.sr=0:=by
  have:=run_at hd hx
  rw [this] at h2
  unfold one at h2
  rw [if_pos h1] at h2
  exact add_named h2
theorem wrong_labels:∀ {l:List Label} {p:Option Label},zH.wrongFrom p l=0→okLabels l
  | [],_,_=>fun x hx=>by cases hx
  | y :: l, p, h => fun x hx => by
    unfold zH.wrongFrom at h
    split at h
    · cases h
    · rename_i h1
      split at h
      · cases h
      · rcases List.mem_cons.1 hx with rfl | hx
        · have hk:=Lg9 (zH.named x.key) (zH.named x.val) h1
          exact ⟨by have:=named_len hk.1; omega,by have:=named_len hk.2; omega⟩
        · exact wrong_labels h x hx
where
  Lg9 (a b:Bool) (h:¬ ((!a)=true∨(!b)=true)):a=true∧b=true:=by cases a <;> cases b <;> simp at h ⊢
  named_len {s:ByteArray} (h:zH.named s=true):s.size≤12:=by
    unfold zH.named at h
    simp only [Bool.and_eq_true,decide_eq_true_eq] at h
    omega
theorem labels_ok {l:List Label} (h:zH.wrong l=0):okLabels l:=by
  unfold zH.wrong at h
  split at h
  · cases h
  · exact wrong_labels h
end Bs
end
section
open _root_.Go.Proofs.Tryz
open Ex
attribute [local irreducible] WC WL WQ WE WS
set_option linter.unusedVariables false
set_option linter.unusedSimpArgs false
set_option maxHeartbeats 2000000 in
theorem c_told9 (lv:Value) (l:List zn) (av:Value) (a:List zi) (P0:Nat→Prop) (w:World) (hP0:∀ b,P0 b→b < w.heap.size) (hl:zD P0 7 vB lv l w) (hla:∀ x ∈ l,zn.Ok P0 x w) (ha:zD P0 4 yl av a w) (haa:∀ x ∈ a,zi.Ok P0 x w) (hle9:l.length≤a.length) (hl9:l.length≤120) (hgd:∀ (i:Nat) (d:zn) (x:zi),l[i]?=some d→a[i]?=some x→d.kind=1→x.err=0→zH.wrong d.sr.l=0) :
    Calls prog 20 #[lv,av] w (RetE w P0 (fun z:SlX zV=>.slice z.A z.l.length z.c) (fun z=>z.l.map zV.e=Bs.tolds [] (l.map zn.e) (a.map zi.e)) (fun z S=>LinesX.Ok S z)):=by
 have hwl:∀ x ∈ l,zn.Wf x:=fun x hx=>(hla x hx).wf
 obtain ⟨lA,lc,rfl,hlc,hlm,hlA⟩:=hl.form
 have hwa:∀ x ∈ a,zi.Wf x:=fun x hx=>(haa x hx).wf
 obtain ⟨aA,ac,rfl,hac,ham,haA⟩:=ha.form
 refine zw (N:=88) func20 (Mem.ofDatsP hP0 (dc (dlp hl) (dc (dp (all_loc zn.Ok.loc _) hla) (dc (dlp ha) (dc (dp (all_loc zi.Ok.loc _) haa) dn))))) ?_
 refine (go 7) ?_
 refine yI (yz:zV→List Value) 54 2 (zf (fun _ h=>h.all0 LineS.Ok.loc) ?_)
 refine (go 12) ?_
 refine uB (fun (k:Nat) (ls:List zV) (ov:Value)=>[(1,.slice aA a.length ac),(5,ov),(9,.slice lA l.length lc),(10,iV l.length),(11,iV k)]) (fun (k:Nat) (ls:List zV) (ov:Value)=>(allP LineS.Ok ls::Row ov 54 2 yz ls::slP 7 vB (.slice lA l.length lc) l::allP zn.Ok l::slP 4 yl (.slice aA a.length ac) a::allP zi.Ok a::fam 41 ls)) (fun (k:Nat) (ls:List zV) (ov:Value)=>k≤l.length∧(∀ x ∈ ls,LineS.Wf x)∧ls.map zV.e=Bs.tolds [] ((l.take k).map zn.e) ((a.take k).map zi.e)∧(∀ x ∈ ls,Bs.Fit k x)∧ls.length≤k) (fun (k:Nat) (ls:List zV) (ov:Value)=>l.length - k) 0 [] (Zs) (sc rfl (sc rfl (sc rfl (sc rfl (sc (ji qO) sn))))) (fun _ h=>h) ?_ (fun k ls ov hI1=>?_)
 ·exact ⟨Nat.zero_le _,fun x hx=>(by cases hx),rfl,fun x hx=>(by cases hx),Nat.le_refl _⟩
 have hwf:=hI1.2.1
 have hll:=hI1.2.2.2.2
 have hasc:=Bs.asc_of hI1.2.2.1
 refine yW 1 (l:=ls) rfl fun A1 cp1 hv1 hc1 hm1 hA1=>?_
 subst hv1
 refine (go 6) (zY (fun h1=>?_) fun h1=>?_)
 ·refine (go 7) ?_
  obtain ⟨ad1,s1,hd1,hs1⟩:=elx hlA k
  refine (go 2) (yA fun b7=>?_)
  refine (go 11) (yR 19 (fun h2=>?_) fun h2=>?_)
  ·refine (go 17) ?_
   refine zT (yH (k + 1) ls (.slice A1 ls.length cp1) (sc rfl (sc rfl (sc rfl (sc rfl (sc (ji qO) sn))))) (fun _ h=>(h.ux 7 6 [1,2,3,4,5,6] qD rfl rfl rfl rfl)) ?_ ?_)
   ·exact ⟨by omega,hwf,Bs.told_skip hs1 (List.getElem?_eq_getElem (l:=a) (i:=k) qO) hI1.2.2.1 (fun g=>h2 g.1),Bs.fit_up hI1.2.2.2.1,by omega⟩
   omega
  refine (go 2) ?_
  obtain ⟨ad2,s2,hd2,hs2⟩:=elx haA k
  refine (go 7) (zY (fun h3=>?_) fun h3=>?_)
  ·refine (go 7) ?_
   refine zT (yH (k + 1) ls (.slice A1 ls.length cp1) (sc rfl (sc rfl (sc rfl (sc rfl (sc (ji qO) sn))))) (fun _ h=>(h.ux 7 6 [1,2,3,4,5,6] qD rfl rfl rfl rfl)) ?_ ?_)
   ·exact ⟨by omega,hwf,Bs.told_skip hs1 hs2 hI1.2.2.1 (fun g=>h3 g.2),Bs.fit_up hI1.2.2.2.1,by omega⟩
   omega
  refine (go 4) ?_
  have hw1:=hwl _ (List.mem_of_getElem? hs1)
  refine zf (fun _ h=>h.one 4 zn.Ok.loc rfl hs1) (zf (fun _ h=>h.doX 0 rfl) ?_)
  obtain ⟨hc2,hm2,hA2⟩:=hw1.sr
  refine (go 3) ?_
  refine yP fun PK1 hPK1=>?_
  have hR1:∀ (jW:Nat) (hjW:jW≤ls.length) (hlW:Bs.Less ls s1.sr.l jW) (hgW:∀ z,ls[jW]?=some z→¬ zH.compare z.sr.l s1.sr.l < 0),∀ w9,Mem w ⟨no,P0⟩ (slP 2 zP (.slice s1.sr.A s1.sr.l.length s1.sr.c) s1.sr.l::okP zn.Ok s1::.blk b7 [iV s1.kind,iV s1.tier,iV s1.to,.slice s1.sr.A s1.sr.l.length s1.sr.c,iV s1.zJ.time,iV s1.zJ.value,.string s1.text] 43::allP LineS.Ok ls::Row (.slice A1 ls.length cp1) 54 2 yz ls::slP 7 vB (.slice lA l.length lc) l::allP zn.Ok l::slP 4 yl (.slice aA a.length ac) a::allP zi.Ok a::fam 41 ls) w9→∀ a9,Has 88 [] a9 [(1,.slice aA a.length ac),(5,.slice A1 ls.length cp1),(7,.pointer (some ⟨b7,0,none⟩)),(8,iV jW),(9,.slice lA l.length lc),(10,iV l.length),(11,iV k)]→PK1 a9 w9:=by
   intro jW hjW hlW hgW
   refine hPK1 [(1,.slice aA a.length ac),(5,.slice A1 ls.length cp1),(7,.pointer (some ⟨b7,0,none⟩)),(8,iV jW),(9,.slice lA l.length lc),(10,iV l.length),(11,iV k)] (Mem w ⟨no,P0⟩ (slP 2 zP (.slice s1.sr.A s1.sr.l.length s1.sr.c) s1.sr.l::okP zn.Ok s1::.blk b7 [iV s1.kind,iV s1.tier,iV s1.to,.slice s1.sr.A s1.sr.l.length s1.sr.c,iV s1.zJ.time,iV s1.zJ.value,.string s1.text] 43::allP LineS.Ok ls::Row (.slice A1 ls.length cp1) 54 2 yz ls::slP 7 vB (.slice lA l.length lc) l::allP zn.Ok l::slP 4 yl (.slice aA a.length ac) a::allP zi.Ok a::fam 41 ls)) (yP fun PK2 hPK2=>?_)
   have hR2:∀ (jV:Nat) (os:List zV) (ov2:Value) (z9:zV) (hoz9:os[jV]?=some z9) (hot9:Bs.Told os ls jV z9 s1.sr.l s1.zJ) (hok9:∀ x ∈ os,Bs.Fit k x) (hon9:os.length≤k + 1) (hwo9:∀ x ∈ os,LineS.Wf x),∀ w9,Mem w ⟨no,P0⟩ (slP 2 zP (.slice s1.sr.A s1.sr.l.length s1.sr.c) s1.sr.l::okP zn.Ok s1::.blk b7 [iV s1.kind,iV s1.tier,iV s1.to,.slice s1.sr.A s1.sr.l.length s1.sr.c,iV s1.zJ.time,iV s1.zJ.value,.string s1.text] 43::allP LineS.Ok os::Row ov2 54 2 yz os::slP 7 vB (.slice lA l.length lc) l::allP zn.Ok l::slP 4 yl (.slice aA a.length ac) a::allP zi.Ok a::fam 41 os) w9→∀ a9,Has 88 [] a9 [(1,.slice aA a.length ac),(5,ov2),(7,.pointer (some ⟨b7,0,none⟩)),(8,iV jV),(9,.slice lA l.length lc),(10,iV l.length),(11,iV k)]→PK2 a9 w9:=by
    intro jV os ov2 z9 hoz9 hot9 hok9 hon9 hwo9
    refine hPK2 [(1,.slice aA a.length ac),(5,ov2),(7,.pointer (some ⟨b7,0,none⟩)),(8,iV jV),(9,.slice lA l.length lc),(10,iV l.length),(11,iV k)] (Mem w ⟨no,P0⟩ (slP 2 zP (.slice s1.sr.A s1.sr.l.length s1.sr.c) s1.sr.l::okP zn.Ok s1::.blk b7 [iV s1.kind,iV s1.tier,iV s1.to,.slice s1.sr.A s1.sr.l.length s1.sr.c,iV s1.zJ.time,iV s1.zJ.value,.string s1.text] 43::allP LineS.Ok os::Row ov2 54 2 yz os::slP 7 vB (.slice lA l.length lc) l::allP zn.Ok l::slP 4 yl (.slice aA a.length ac) a::allP zi.Ok a::fam 41 os)) ?_
    have hjl9:=(List.getElem?_eq_some_iff.1 hoz9).1
    have hzl9:=(hok9 _ (List.mem_of_getElem? hoz9)).2
    refine yW 4 (l:=os) rfl fun A2 cp2 hv2 hc3 hm3 hA3=>?_
    subst hv2
    refine yL (Mem w ⟨no,P0⟩ [slP 2 zP (.slice s1.sr.A s1.sr.l.length s1.sr.c) s1.sr.l,okP zn.Ok s1,.blk b7 [iV s1.kind,iV s1.tier,iV s1.to,.slice s1.sr.A s1.sr.l.length s1.sr.c,iV s1.zJ.time,iV s1.zJ.value,.string s1.text] 43,slP 7 vB (.slice lA l.length lc) l,allP zn.Ok l,slP 4 yl (.slice aA a.length ac) a,allP zi.Ok a]) mix (fun _ h=>h.drew) rfl (yF 8 [0,1,2,3,7,8] [0,1,2,5,6,7,8] rfl fun KS hKS=>?_)
    refine (go 6) ?_
    refine zj hKS (yS (f:=7) (i:=4) (j:=9) rfl (by kernel_rfl) ?_ ?_)
    ·
     refine zc (i:=4) rfl fun KN hKN=>?_
     obtain ⟨ad3,hd3⟩:=hA3 (ne_nil (i:=jV) qI)
     refine (go 2) ?_
     refine hKN _ _ (S9 [0,1,2,5,6,7,8]) (yF 6 [5] [0,1,2,5,6,7,8] rfl fun KS hKS=>?_)
     refine (go 1) ?_
     refine zj hKS (yS (f:=5) (i:=6) (j:=9) rfl (by kernel_rfl) ?_ ?_)
     ·
      refine zc (i:=6) rfl fun KN hKN=>zb (vg 4 encLineX rfl rfl hd3 hoz9 rfl flat47) ?_
      refine (go 1) ?_
      refine hKN _ _ (S9 [0,1,2,5,6,7,8]) (zg 4 9 (zc (i:=9) rfl fun KN hKN=>zx zQ ([s1.zJ]:List Sample) wn underlying47 inf41 rfl rfl rfl rfl qD qD rfl fun b82=>?_))
      refine (go 1) ?_
      refine hKN _ _ (S9 [1,2,3,6,7,8,9]) (zg 3 10 (zc (i:=10) rfl fun KN hKN=>zf (fun _ h=>h.famOut 10 rfl hoz9) (yC 0 z9.sm.l ([s1.zJ]:List Sample) encSample wn rfl rfl rfl (fun _ hM=>(RowSl encSample hM 1 rfl)) underlying47 inf41 rfl rfl (by simp only [qL,List.length_take,List.length_drop]; omega) rfl fun A3 cp3 hc4 hm4 hA4=>zf (fun _ h=>h.famSet (y:=(zV.mk z9.sr ⟨A3,cp3,(z9.sm.l++([s1.zJ]:List Sample))⟩)) 10 rfl hoz9) ?_)))
      refine (go 1) ?_
      refine hKN _ _ (S9 [1,2,3,6,7,8,9]) (zg 2 11 (zc (i:=11) rfl fun KN hKN=>?_))
      refine (go 2) ?_
      refine hKN _ _ (S9 [1,2,3,6,7,8,9]) (yF 1 [12] [1,2,3,6,7,8,9] rfl fun KS hKS=>?_)
      refine (go 1) ?_
      refine zj hKS (zg 0 13 (zc (i:=13) rfl fun KN hKN=>vh 5 (vs:=[.slice A3 ((z9.sm.l++([s1.zJ]:List Sample)).length) cp3]) (zV.mk z9.sr ⟨A3,cp3,(z9.sm.l++([s1.zJ]:List Sample))⟩) encLineX wn rfl rfl rfl rfl hd3 hoz9 inf47 rfl rfl rfl rfl (zf (fun _ h=>h.serSet (y:=(zV.mk z9.sr ⟨A3,cp3,(z9.sm.l++([s1.zJ]:List Sample))⟩)) 4 jV rfl hoz9 rfl) (yh 0 rfl (fun S w h x hx=>LineS.Ok.wf (h x hx)) fun hw2=>?_))))
      refine (go 1) ?_
      refine hKN _ _ (S9 [2,3,4,7,8,9,10]) ?_
      refine zq (by kernel_rfl) ((go 2) ?_)
      refine (go 3) ?_
      refine zT (yH (k + 1) (os.set jV (zV.mk z9.sr ⟨A3,cp3,(z9.sm.l++([s1.zJ]:List Sample))⟩)) (.slice A2 os.length cp2) (sc rfl (sc rfl (sc rfl (sc rfl (sc (ji qO) sn))))) (fun _ h=>(h.ux 11 6 [0,6,7,8,9,10] qD rfl rfl rfl rfl)) ?_ ?_)
      ·exact ⟨by omega,hw2,Bs.told_more hs1 hs2 hI1.2.2.1 (Classical.not_not.1 h2) (Classical.not_not.1 h3) (hot9 _ _),Bs.fit_set hok9 hoz9,by rw [List.length_set]; omega⟩
      ·omega
     ·
      refine zc (i:=9) rfl fun KN hKN=>zx zQ ([s1.zJ]:List Sample) wn underlying47 inf41 rfl rfl rfl rfl qD qD rfl fun b82=>?_
      refine (go 1) ?_
      refine hKN _ _ (S9 [1,2,3,6,7,8,9]) (zg 4 6 (zc (i:=6) rfl fun KN hKN=>zb (vg 5 encLineX rfl rfl hd3 hoz9 rfl flat47) ?_))
      refine (go 1) ?_
      refine hKN _ _ (S9 [1,2,3,6,7,8,9]) (zg 3 10 (zc (i:=10) rfl fun KN hKN=>zf (fun _ h=>h.famOut 10 rfl hoz9) (yC 0 z9.sm.l ([s1.zJ]:List Sample) encSample wn rfl rfl rfl (fun _ hM=>(RowSl encSample hM 1 rfl)) underlying47 inf41 rfl rfl (by simp only [qL,List.length_take,List.length_drop]; omega) rfl fun A4 cp4 hc5 hm5 hA5=>zf (fun _ h=>h.famSet (y:=(zV.mk z9.sr ⟨A4,cp4,(z9.sm.l++([s1.zJ]:List Sample))⟩)) 10 rfl hoz9) ?_)))
      refine (go 1) ?_
      refine hKN _ _ (S9 [1,2,3,6,7,8,9]) (zg 2 11 (zc (i:=11) rfl fun KN hKN=>?_))
      refine (go 2) ?_
      refine hKN _ _ (S9 [1,2,3,6,7,8,9]) (yF 1 [12] [1,2,3,6,7,8,9] rfl fun KS hKS=>?_)
      refine (go 1) ?_
      refine zj hKS (zg 0 13 (zc (i:=13) rfl fun KN hKN=>vh 5 (vs:=[.slice A4 ((z9.sm.l++([s1.zJ]:List Sample)).length) cp4]) (zV.mk z9.sr ⟨A4,cp4,(z9.sm.l++([s1.zJ]:List Sample))⟩) encLineX wn rfl rfl rfl rfl hd3 hoz9 inf47 rfl rfl rfl rfl (zf (fun _ h=>h.serSet (y:=(zV.mk z9.sr ⟨A4,cp4,(z9.sm.l++([s1.zJ]:List Sample))⟩)) 4 jV rfl hoz9 rfl) (yh 0 rfl (fun S w h x hx=>LineS.Ok.wf (h x hx)) fun hw3=>?_))))
      refine (go 1) ?_
      refine hKN _ _ (S9 [2,3,4,7,8,9,10]) ?_
      refine zq (by kernel_rfl) ((go 2) ?_)
      refine (go 3) ?_
      refine zT (yH (k + 1) (os.set jV (zV.mk z9.sr ⟨A4,cp4,(z9.sm.l++([s1.zJ]:List Sample))⟩)) (.slice A2 os.length cp2) (sc rfl (sc rfl (sc rfl (sc rfl (sc (ji qO) sn))))) (fun _ h=>(h.ux 11 6 [0,6,7,8,9,10] qD rfl rfl rfl rfl)) ?_ ?_)
      ·exact ⟨by omega,hw3,Bs.told_more hs1 hs2 hI1.2.2.1 (Classical.not_not.1 h2) (Classical.not_not.1 h3) (hot9 _ _),Bs.fit_set hok9 hoz9,by rw [List.length_set]; omega⟩
      ·omega
    ·
     refine zc (i:=9) rfl fun KN hKN=>zx zQ ([s1.zJ]:List Sample) wn underlying47 inf41 rfl rfl rfl rfl qD qD rfl fun b82=>?_
     refine (go 1) ?_
     refine hKN _ _ (S9 [1,2,3,6,7,8,9]) (zg 6 4 (zc (i:=4) rfl fun KN hKN=>?_))
     obtain ⟨ad4,hd4⟩:=hA3 (ne_nil (i:=jV) qI)
     refine (go 2) ?_
     refine hKN _ _ (S9 [1,2,3,6,7,8,9]) (yF 5 [5] [1,2,3,6,7,8,9] rfl fun KS hKS=>?_)
     refine (go 1) ?_
     refine zj hKS (zg 4 6 (zc (i:=6) rfl fun KN hKN=>zb (vg 5 encLineX rfl rfl hd4 hoz9 rfl flat47) ?_))
     refine (go 1) ?_
     refine hKN _ _ (S9 [1,2,3,6,7,8,9]) (zg 3 10 (zc (i:=10) rfl fun KN hKN=>zf (fun _ h=>h.famOut 10 rfl hoz9) (yC 0 z9.sm.l ([s1.zJ]:List Sample) encSample wn rfl rfl rfl (fun _ hM=>(RowSl encSample hM 1 rfl)) underlying47 inf41 rfl rfl (by simp only [qL,List.length_take,List.length_drop]; omega) rfl fun A5 cp5 hc6 hm6 hA6=>zf (fun _ h=>h.famSet (y:=(zV.mk z9.sr ⟨A5,cp5,(z9.sm.l++([s1.zJ]:List Sample))⟩)) 10 rfl hoz9) ?_)))
     refine (go 1) ?_
     refine hKN _ _ (S9 [1,2,3,6,7,8,9]) (zg 2 11 (zc (i:=11) rfl fun KN hKN=>?_))
     refine (go 2) ?_
     refine hKN _ _ (S9 [1,2,3,6,7,8,9]) (yF 1 [12] [1,2,3,6,7,8,9] rfl fun KS hKS=>?_)
     refine (go 1) ?_
     refine zj hKS (zg 0 13 (zc (i:=13) rfl fun KN hKN=>vh 5 (vs:=[.slice A5 ((z9.sm.l++([s1.zJ]:List Sample)).length) cp5]) (zV.mk z9.sr ⟨A5,cp5,(z9.sm.l++([s1.zJ]:List Sample))⟩) encLineX wn rfl rfl rfl rfl hd4 hoz9 inf47 rfl rfl rfl rfl (zf (fun _ h=>h.serSet (y:=(zV.mk z9.sr ⟨A5,cp5,(z9.sm.l++([s1.zJ]:List Sample))⟩)) 4 jV rfl hoz9 rfl) (yh 0 rfl (fun S w h x hx=>LineS.Ok.wf (h x hx)) fun hw4=>?_))))
     refine (go 1) ?_
     refine hKN _ _ (S9 [2,3,4,7,8,9,10]) ?_
     refine zq (by kernel_rfl) ((go 2) ?_)
     refine (go 3) ?_
     refine zT (yH (k + 1) (os.set jV (zV.mk z9.sr ⟨A5,cp5,(z9.sm.l++([s1.zJ]:List Sample))⟩)) (.slice A2 os.length cp2) (sc rfl (sc rfl (sc rfl (sc rfl (sc (ji qO) sn))))) (fun _ h=>(h.ux 11 6 [0,6,7,8,9,10] qD rfl rfl rfl rfl)) ?_ ?_)
     ·exact ⟨by omega,hw4,Bs.told_more hs1 hs2 hI1.2.2.1 (Classical.not_not.1 h2) (Classical.not_not.1 h3) (hot9 _ _),Bs.fit_set hok9 hoz9,by rw [List.length_set]; omega⟩
     ·omega
   refine yP fun PK3 hPK3=>?_
   have hR3:∀ (nb:Bool) (hnW:nb=true→∀ z,ls[jW]?=some z→¬ zH.compare z.sr.l s1.sr.l < 0∧zH.compare z.sr.l s1.sr.l≠0) (hoW:nb=false→∃ z,ls[jW]?=some z∧zH.compare z.sr.l s1.sr.l=0),∀ w9,Mem w ⟨no,P0⟩ (slP 2 zP (.slice s1.sr.A s1.sr.l.length s1.sr.c) s1.sr.l::okP zn.Ok s1::.blk b7 [iV s1.kind,iV s1.tier,iV s1.to,.slice s1.sr.A s1.sr.l.length s1.sr.c,iV s1.zJ.time,iV s1.zJ.value,.string s1.text] 43::allP LineS.Ok ls::Row (.slice A1 ls.length cp1) 54 2 yz ls::slP 7 vB (.slice lA l.length lc) l::allP zn.Ok l::slP 4 yl (.slice aA a.length ac) a::allP zi.Ok a::fam 41 ls) w9→∀ a9,Has 88 [] a9 [(1,.slice aA a.length ac),(5,.slice A1 ls.length cp1),(7,.pointer (some ⟨b7,0,none⟩)),(8,iV jW),(9,.slice lA l.length lc),(10,iV l.length),(11,iV k),(58,.bool nb)]→PK3 a9 w9:=by
    intro nb hnW hoW
    refine hPK3 [(1,.slice aA a.length ac),(5,.slice A1 ls.length cp1),(7,.pointer (some ⟨b7,0,none⟩)),(8,iV jW),(9,.slice lA l.length lc),(10,iV l.length),(11,iV k),(58,.bool nb)] (Mem w ⟨no,P0⟩ (slP 2 zP (.slice s1.sr.A s1.sr.l.length s1.sr.c) s1.sr.l::okP zn.Ok s1::.blk b7 [iV s1.kind,iV s1.tier,iV s1.to,.slice s1.sr.A s1.sr.l.length s1.sr.c,iV s1.zJ.time,iV s1.zJ.value,.string s1.text] 43::allP LineS.Ok ls::Row (.slice A1 ls.length cp1) 54 2 yz ls::slP 7 vB (.slice lA l.length lc) l::allP zn.Ok l::slP 4 yl (.slice aA a.length ac) a::allP zi.Ok a::fam 41 ls)) (yc (fun h4=>?_) fun h4=>?_)
    ·
     refine yL (Mem w ⟨no,P0⟩ [slP 2 zP (.slice s1.sr.A s1.sr.l.length s1.sr.c) s1.sr.l,okP zn.Ok s1,.blk b7 [iV s1.kind,iV s1.tier,iV s1.to,.slice s1.sr.A s1.sr.l.length s1.sr.c,iV s1.zJ.time,iV s1.zJ.value,.string s1.text] 43,Row (.slice A1 ls.length cp1) 54 2 yz ls,slP 7 vB (.slice lA l.length lc) l,allP zn.Ok l,slP 4 yl (.slice aA a.length ac) a,allP zi.Ok a]) mix (fun _ h=>h.drew) rfl (yF 6 [1,2,3,5,6,7,10,11,12] [0,1,2,4,5,6,7,8] rfl fun KS hKS=>?_)
     refine (go 2) ?_
     refine uW (uu (lo:=0) (hi:=jW) rfl lo0 (hi1 rfl qO) qI qI qI underlying45 inf54) ?_
     refine (go 5) ?_
     refine uW (uu (lo:=jW) (hi:=ls.length) rfl (lo1 rfl qO) hi0 qI qI qI underlying45 inf54) (zj hKS (yS (f:=5) (i:=0) (j:=8) rfl (by kernel_rfl) ?_ ?_))
     ·
      refine zc (i:=0) rfl fun KN hKN=>ur yz wn underlying45 inf54 rfl fun b59=>?_
      refine (go 1) ?_
      refine hKN _ _ (S9 [1,2,3,5,6,7,8,9]) (yS (f:=4) (i:=4) (j:=8) rfl (by kernel_rfl) ?_ ?_)
      ·
       refine zc (i:=4) rfl fun KN hKN=>yC 0 ([]:List zV) (ls.take jW) encLineX wn rfl rfl rfl (fun _ hM=>(zD.subOf (RowSl encLineX hM 5 rfl) (lo:=0) (hi:=jW) qI qI (by first | rfl | simp | (rw [List.take_length]; done)) rfl)) underlying45 inf54 rfl rfl (by simp only [qL,List.length_take,List.length_drop]; omega) rfl fun A6 cp6 hc7 hm7 hA7=>?_
       refine (go 1) ?_
       refine hKN _ _ (S9 [1,2,3,5,6,7,8,9]) (zg 3 8 (zc (i:=8) rfl fun KN hKN=>zx yz ([(zV.mk ⟨s1.sr.A,s1.sr.c,s1.sr.l⟩ ⟨none,0,[]⟩)]:List zV) wn underlying45 inf54 rfl rfl rfl rfl qD qD rfl fun b67=>?_))
       refine (go 1) ?_
       refine hKN _ _ (S9 [2,3,4,6,7,8,9,10]) (zg 2 9 (zc (i:=9) rfl fun KN hKN=>yC 1 (([]:List zV)++(ls.take jW)) ([(zV.mk ⟨s1.sr.A,s1.sr.c,s1.sr.l⟩ ⟨none,0,[]⟩)]:List zV) encLineX wn rfl rfl rfl (fun _ hM=>(RowSl encLineX hM 0 rfl)) underlying45 inf54 rfl rfl (by simp only [qL,List.length_take,List.length_drop]; omega) rfl fun A7 cp7 hc8 hm8 hA8=>?_))
       refine (go 1) ?_
       refine hKN _ _ (S9 [2,3,4,6,7,8,9,10]) (zg 1 13 (zc (i:=13) rfl fun KN hKN=>yC 1 ((([]:List zV)++(ls.take jW))++([(zV.mk ⟨s1.sr.A,s1.sr.c,s1.sr.l⟩ ⟨none,0,[]⟩)]:List zV)) (ls.drop jW) encLineX wn rfl rfl rfl (fun _ hM=>(zD.subOf (RowSl encLineX hM 6 rfl) (lo:=jW) (hi:=ls.length) qI qI (by first | rfl | simp | (rw [List.take_length]; done)) rfl)) underlying45 inf54 rfl rfl (by simp only [qL,List.length_take,List.length_drop]; omega) rfl fun A8 cp8 hc9 hm9 hA9=>zf (fun _ h=>h.famNew 11 jW rfl ⟨s1.sr.A,s1.sr.c,s1.sr.l⟩) (zf (fun _ h=>h.serNew (m:=⟨none,0,[]⟩) 5 2 jW rfl rfl) (yh 0 rfl (fun S w h x hx=>LineS.Ok.wf (h x hx)) fun hw5=>?_))))
       refine (go 1) ?_
       refine hKN _ _ (S9 [3,4,5,7,8,9,10,11]) (yF 0 [14] [3,4,5,7,8,9,10,11] rfl fun KS hKS=>?_)
       refine (go 1) ?_
       refine zj hKS ?_
       refine zq (by kernel_rfl) (zl (hR2 jW ((([]++ls.take jW)++[(⟨⟨s1.sr.A,s1.sr.c,s1.sr.l⟩,⟨none,0,[]⟩⟩:zV)])++ls.drop jW) (.slice A8 ((((([]:List zV)++(ls.take jW))++([(zV.mk ⟨s1.sr.A,s1.sr.c,s1.sr.l⟩ ⟨none,0,[]⟩)]:List zV))++(ls.drop jW)).length) cp8) (⟨⟨s1.sr.A,s1.sr.c,s1.sr.l⟩,⟨none,0,[]⟩⟩:zV) (Bs.ins_at hjW) (Bs.told_new hasc hjW hlW (hnW h4)) (Bs.fit_ins hI1.2.2.2.1 ⟨Bs.labels_ok (hgd _ _ _ hs1 hs2 (Classical.not_not.1 h2) (Classical.not_not.1 h3)),Nat.zero_le _⟩) (by rw [Bs.ins_len hjW]; omega) (hw5)) (sc rfl (sc rfl (sc rfl (sc rfl (sc rfl (sc rfl (sc rfl sn))))))) (fun _ h=>(h.ux 12 9 [3,4,5,0,2,8,9,10,11] qD rfl rfl rfl rfl)))
      ·
       refine zc (i:=8) rfl fun KN hKN=>zx yz ([(zV.mk ⟨s1.sr.A,s1.sr.c,s1.sr.l⟩ ⟨none,0,[]⟩)]:List zV) wn underlying45 inf54 rfl rfl rfl rfl qD qD rfl fun b67=>?_
       refine (go 1) ?_
       refine hKN _ _ (S9 [2,3,4,6,7,8,9,10]) (zg 3 4 (zc (i:=4) rfl fun KN hKN=>yC 1 ([]:List zV) (ls.take jW) encLineX wn rfl rfl rfl (fun _ hM=>(zD.subOf (RowSl encLineX hM 6 rfl) (lo:=0) (hi:=jW) qI qI (by first | rfl | simp | (rw [List.take_length]; done)) rfl)) underlying45 inf54 rfl rfl (by simp only [qL,List.length_take,List.length_drop]; omega) rfl fun A9 cp9 hc10 hm10 hA10=>?_))
       refine (go 1) ?_
       refine hKN _ _ (S9 [2,3,4,6,7,8,9,10]) (zg 2 9 (zc (i:=9) rfl fun KN hKN=>yC 1 (([]:List zV)++(ls.take jW)) ([(zV.mk ⟨s1.sr.A,s1.sr.c,s1.sr.l⟩ ⟨none,0,[]⟩)]:List zV) encLineX wn rfl rfl rfl (fun _ hM=>(RowSl encLineX hM 0 rfl)) underlying45 inf54 rfl rfl (by simp only [qL,List.length_take,List.length_drop]; omega) rfl fun A10 cp10 hc11 hm11 hA11=>?_))
       refine (go 1) ?_
       refine hKN _ _ (S9 [2,3,4,6,7,8,9,10]) (zg 1 13 (zc (i:=13) rfl fun KN hKN=>yC 1 ((([]:List zV)++(ls.take jW))++([(zV.mk ⟨s1.sr.A,s1.sr.c,s1.sr.l⟩ ⟨none,0,[]⟩)]:List zV)) (ls.drop jW) encLineX wn rfl rfl rfl (fun _ hM=>(zD.subOf (RowSl encLineX hM 6 rfl) (lo:=jW) (hi:=ls.length) qI qI (by first | rfl | simp | (rw [List.take_length]; done)) rfl)) underlying45 inf54 rfl rfl (by simp only [qL,List.length_take,List.length_drop]; omega) rfl fun A11 cp11 hc12 hm12 hA12=>zf (fun _ h=>h.famNew 11 jW rfl ⟨s1.sr.A,s1.sr.c,s1.sr.l⟩) (zf (fun _ h=>h.serNew (m:=⟨none,0,[]⟩) 5 2 jW rfl rfl) (yh 0 rfl (fun S w h x hx=>LineS.Ok.wf (h x hx)) fun hw6=>?_))))
       refine (go 1) ?_
       refine hKN _ _ (S9 [3,4,5,7,8,9,10,11]) (yF 0 [14] [3,4,5,7,8,9,10,11] rfl fun KS hKS=>?_)
       refine (go 1) ?_
       refine zj hKS ?_
       refine zq (by kernel_rfl) (zl (hR2 jW ((([]++ls.take jW)++[(⟨⟨s1.sr.A,s1.sr.c,s1.sr.l⟩,⟨none,0,[]⟩⟩:zV)])++ls.drop jW) (.slice A11 ((((([]:List zV)++(ls.take jW))++([(zV.mk ⟨s1.sr.A,s1.sr.c,s1.sr.l⟩ ⟨none,0,[]⟩)]:List zV))++(ls.drop jW)).length) cp11) (⟨⟨s1.sr.A,s1.sr.c,s1.sr.l⟩,⟨none,0,[]⟩⟩:zV) (Bs.ins_at hjW) (Bs.told_new hasc hjW hlW (hnW h4)) (Bs.fit_ins hI1.2.2.2.1 ⟨Bs.labels_ok (hgd _ _ _ hs1 hs2 (Classical.not_not.1 h2) (Classical.not_not.1 h3)),Nat.zero_le _⟩) (by rw [Bs.ins_len hjW]; omega) (hw6)) (sc rfl (sc rfl (sc rfl (sc rfl (sc rfl (sc rfl (sc rfl sn))))))) (fun _ h=>(h.ux 12 9 [3,4,5,0,2,8,9,10,11] qD rfl rfl rfl rfl)))
     ·
      refine zc (i:=8) rfl fun KN hKN=>zx yz ([(zV.mk ⟨s1.sr.A,s1.sr.c,s1.sr.l⟩ ⟨none,0,[]⟩)]:List zV) wn underlying45 inf54 rfl rfl rfl rfl qD qD rfl fun b67=>?_
      refine (go 1) ?_
      refine hKN _ _ (S9 [1,2,3,5,6,7,8,9]) (zg 4 0 (zc (i:=0) rfl fun KN hKN=>ur yz wn underlying45 inf54 rfl fun b59=>?_))
      refine (go 1) ?_
      refine hKN _ _ (S9 [2,3,4,6,7,8,9,10]) (zg 3 4 (zc (i:=4) rfl fun KN hKN=>yC 0 ([]:List zV) (ls.take jW) encLineX wn rfl rfl rfl (fun _ hM=>(zD.subOf (RowSl encLineX hM 6 rfl) (lo:=0) (hi:=jW) qI qI (by first | rfl | simp | (rw [List.take_length]; done)) rfl)) underlying45 inf54 rfl rfl (by simp only [qL,List.length_take,List.length_drop]; omega) rfl fun A12 cp12 hc13 hm13 hA13=>?_))
      refine (go 1) ?_
      refine hKN _ _ (S9 [2,3,4,6,7,8,9,10]) (zg 2 9 (zc (i:=9) rfl fun KN hKN=>yC 0 (([]:List zV)++(ls.take jW)) ([(zV.mk ⟨s1.sr.A,s1.sr.c,s1.sr.l⟩ ⟨none,0,[]⟩)]:List zV) encLineX wn rfl rfl rfl (fun _ hM=>(RowSl encLineX hM 1 rfl)) underlying45 inf54 rfl rfl (by simp only [qL,List.length_take,List.length_drop]; omega) rfl fun A13 cp13 hc14 hm14 hA14=>?_))
      refine (go 1) ?_
      refine hKN _ _ (S9 [2,3,4,6,7,8,9,10]) (zg 1 13 (zc (i:=13) rfl fun KN hKN=>yC 0 ((([]:List zV)++(ls.take jW))++([(zV.mk ⟨s1.sr.A,s1.sr.c,s1.sr.l⟩ ⟨none,0,[]⟩)]:List zV)) (ls.drop jW) encLineX wn rfl rfl rfl (fun _ hM=>(zD.subOf (RowSl encLineX hM 6 rfl) (lo:=jW) (hi:=ls.length) qI qI (by first | rfl | simp | (rw [List.take_length]; done)) rfl)) underlying45 inf54 rfl rfl (by simp only [qL,List.length_take,List.length_drop]; omega) rfl fun A14 cp14 hc15 hm15 hA15=>zf (fun _ h=>h.famNew 11 jW rfl ⟨s1.sr.A,s1.sr.c,s1.sr.l⟩) (zf (fun _ h=>h.serNew (m:=⟨none,0,[]⟩) 5 2 jW rfl rfl) (yh 0 rfl (fun S w h x hx=>LineS.Ok.wf (h x hx)) fun hw7=>?_))))
      refine (go 1) ?_
      refine hKN _ _ (S9 [3,4,5,7,8,9,10,11]) (yF 0 [14] [3,4,5,7,8,9,10,11] rfl fun KS hKS=>?_)
      refine (go 1) ?_
      refine zj hKS ?_
      refine zq (by kernel_rfl) (zl (hR2 jW ((([]++ls.take jW)++[(⟨⟨s1.sr.A,s1.sr.c,s1.sr.l⟩,⟨none,0,[]⟩⟩:zV)])++ls.drop jW) (.slice A14 ((((([]:List zV)++(ls.take jW))++([(zV.mk ⟨s1.sr.A,s1.sr.c,s1.sr.l⟩ ⟨none,0,[]⟩)]:List zV))++(ls.drop jW)).length) cp14) (⟨⟨s1.sr.A,s1.sr.c,s1.sr.l⟩,⟨none,0,[]⟩⟩:zV) (Bs.ins_at hjW) (Bs.told_new hasc hjW hlW (hnW h4)) (Bs.fit_ins hI1.2.2.2.1 ⟨Bs.labels_ok (hgd _ _ _ hs1 hs2 (Classical.not_not.1 h2) (Classical.not_not.1 h3)),Nat.zero_le _⟩) (by rw [Bs.ins_len hjW]; omega) (hw7)) (sc rfl (sc rfl (sc rfl (sc rfl (sc rfl (sc rfl (sc rfl sn))))))) (fun _ h=>(h.ux 12 9 [3,4,5,0,1,8,9,10,11] qD rfl rfl rfl rfl)))
    ·
     obtain ⟨z8,hz8,hc8⟩:=hoW (by simpa using h4)
     have hjl8:=(List.getElem?_eq_some_iff.1 hz8).1
     refine vx (zl (hR2 jW ls (.slice A1 ls.length cp1) z8 (hz8) (Bs.told_old hasc hlW hz8 hc8) (hI1.2.2.2.1) qO (hwf)) (sc rfl (sc rfl (sc rfl (sc rfl (sc rfl (sc rfl (sc rfl sn))))))) (fun _ h=>h))
   refine (go 6) (vW 48 (fun h5=>?_) fun h5=>?_)
   ·
    refine (go 10) ?_
    refine jd (zl (hR3 true ((fun _ z hz=>absurd (List.getElem?_eq_some_iff.1 hz).1 qO)) ((fun h=>by cases h))) (sc rfl (sc rfl (sc rfl (sc rfl (sc rfl (sc rfl (sc rfl (sc rfl sn)))))))) (fun _ h=>h))
   ·
    refine (go 2) ?_
    obtain ⟨ad5,s3,hd5,hs3⟩:=elx hA1 jW
    refine (go 2) ?_
    refine vi (vg 4 encLineX rfl rfl hd5 hs3 rfl flat39) ?_
    refine (go 2) ?_
    have hw8:=hwf _ (List.mem_of_getElem? hs3)
    refine ud (fun _ h=>h.one 3 LineS.Ok.loc rfl hs3) (fun _ h=>h.drop1) (ud (fun _ h=>h.lineS 0 rfl) (fun _ h=>h.drop1) ?_)
    obtain ⟨hc16,hm16,hA16⟩:=hw8.sr
    refine yO (wg rfl rfl rfl) rfl call22 rfl (fun w1 hM=>vk _ s3.sr.l _ s1.sr.l w1 (hM.slp 0 rfl) (hM.slp 2 rfl)) ?_
    refine (go 2) ?_
    refine jd (zl (hR3 (decide ((zH.compare s3.sr.l s1.sr.l)≠0)) ((fun h z hz=>⟨hgW z hz,by obtain rfl:=Option.some.inj (hs3.symm.trans hz); exact of_decide_eq_true h⟩)) ((fun h=>⟨_,hs3,Classical.not_not.1 (of_decide_eq_false h)⟩))) (sc rfl (sc rfl (sc rfl (sc rfl (sc rfl (sc rfl (sc rfl (sc rfl sn)))))))) (fun _ h=>(h.ux 11 9 [2,3,4,5,6,7,8,9,10] qD rfl rfl rfl rfl)))
  refine (go 1) ?_
  refine yK (fun (j:Nat)=>[(1,.slice aA a.length ac),(5,.slice A1 ls.length cp1),(7,.pointer (some ⟨b7,0,none⟩)),(8,iV j),(9,.slice lA l.length lc),(10,iV l.length),(11,iV k)]) (fun (j:Nat)=>(slP 2 zP (.slice s1.sr.A s1.sr.l.length s1.sr.c) s1.sr.l::okP zn.Ok s1::.blk b7 [iV s1.kind,iV s1.tier,iV s1.to,.slice s1.sr.A s1.sr.l.length s1.sr.c,iV s1.zJ.time,iV s1.zJ.value,.string s1.text] 43::allP LineS.Ok ls::Row (.slice A1 ls.length cp1) 54 2 yz ls::slP 7 vB (.slice lA l.length lc) l::allP zn.Ok l::slP 4 yl (.slice aA a.length ac) a::allP zi.Ok a::fam 41 ls)) (fun (j:Nat)=>j≤ls.length∧Bs.Less ls s1.sr.l j) (fun (j:Nat)=>ls.length - j) 0 (sc rfl (sc rfl (sc rfl (sc (ji qO) (sc rfl (sc rfl (sc rfl sn))))))) (fun _ h=>h) ?_ (fun j hI2=>?_)
  ·exact ⟨Nat.zero_le _,Bs.less_0⟩
  refine (go 8) (vW 31 (fun h6=>?_) fun h6=>?_)
  ·refine (go 2) ?_
   obtain ⟨ad6,s4,hd6,hs4⟩:=elx hA1 j
   refine (go 2) ?_
   refine vi (vg 4 encLineX rfl rfl hd6 hs4 rfl flat39) ?_
   refine (go 2) ?_
   have hw9:=hwf _ (List.mem_of_getElem? hs4)
   refine ud (fun _ h=>h.one 3 LineS.Ok.loc rfl hs4) (fun _ h=>h.drop1) (ud (fun _ h=>h.lineS 0 rfl) (fun _ h=>h.drop1) ?_)
   obtain ⟨hc17,hm17,hA17⟩:=hw9.sr
   refine yO (wg rfl rfl rfl) rfl call22 rfl (fun w1 hM=>vk _ s4.sr.l _ s1.sr.l w1 (hM.slp 0 rfl) (hM.slp 2 rfl)) ?_
   refine (go 4) (zY (fun h7=>?_) fun h7=>?_)
   ·refine (go 7) ?_
    refine zT (yG (zm (j + 1) (sc rfl (sc rfl (sc rfl (sc (ji qO) (sc rfl (sc rfl (sc rfl sn))))))) (fun _ h=>(h.ux 11 9 [2,3,4,5,6,7,8,9,10] qD rfl rfl rfl rfl)) ?_ ?_))
    ·exact ⟨by omega,Bs.less_next hI2.2 hs4 h7⟩
    omega
   refine va (yx (y7 (yy (zl (hR1 j (hI2.1) (hI2.2) ((fun z hz=>by obtain rfl:=Option.some.inj (hs4.symm.trans hz); exact h7))) (sc rfl (sc rfl (sc rfl (sc rfl (sc rfl (sc rfl (sc rfl sn))))))) (fun _ h=>(h.ux 11 9 [2,3,4,5,6,7,8,9,10] qD rfl rfl rfl rfl))))))
  refine (go 13) ?_
  refine va (yx (y7 (yy (zl (hR1 j (hI2.1) (hI2.2) ((fun z hz=>absurd (List.getElem?_eq_some_iff.1 hz).1 qO))) (sc rfl (sc rfl (sc rfl (sc rfl (sc rfl (sc rfl (sc rfl sn))))))) (fun _ h=>h)))))
 refine (go 12) (zZ results20 fun w1 hM=>?_)
 have hM:=hM.famSeal' (ls:=ls) 6 rfl rfl
 have hM:=hM.zk encLineX (i:=2) rfl rfl
 exact hM.vU (⟨A1,cp1,ls⟩:SlX zV) rfl (Bs.told_all hI1.2.2.1 qO) fun Pb pp=>⟨pp.sl 2 rfl,fun x hx=>⟨(hI1.2.2.2.1 x hx).1,(pp.at_ 1 _ rfl x hx).sr,(pp.at_ 0 _ rfl x hx).sm⟩⟩
end
section
namespace Bs
open Ex Sh
set_option linter.unusedVariables false
structure Like (n:Nat) (s s':Shelf):Prop where
  ser:s.zL=s'.zL
  all:∃ all,Keep s all∧Keep s' all∧all.length≤n
  whole:s.zU=0∧s'.zU=0∧s'.zE=0
theorem Like.up {n m:Nat} {s s':Shelf} (h:Like n s s') (hm:n≤m):Like m s s':=⟨h.ser,by obtain ⟨a,h1,h2,h3⟩:=h.all; exact ⟨a,h1,h2,by omega⟩,h.whole⟩
def twin (n:Nat):List Shelf→List Shelf→Prop
  | [],[]=>True
  | s::r,s'::r'=>Like n s s'∧twin n r r'
  | _,_=>False
theorem twin_up {n m:Nat} (hm:n≤m):∀ {l l':List Shelf},twin n l l'→twin m l l'
  | [],[],_=>trivial
  | [],_::_,h=>h.elim
  | _::_,[],h=>h.elim
  | s::r,s'::r',h=>⟨h.1.up hm,twin_up hm h.2⟩
structure Twin (n:Nat) (b b':Base):Prop where
  sh:twin n b.zA b'.zA
  hor:0≤b.zN∧b.zN≤1000000∧b.zN % 10=0
  hor':b'.zN=0
theorem Twin.up {n m:Nat} {b b':Base} (h:Twin n b b') (hm:n≤m):Twin m b b':=⟨twin_up hm h.sh,h.hor,h.hor'⟩
def Alike (x y:Ans):Prop:=y.err=x.err∧y.cells=x.cells∧x.cost≤y.cost
theorem Alike.of {x y:Ans} (h:y=x):Alike x y:=by subst h; exact ⟨rfl,rfl,Int.le_refl _⟩
def pairs:List Do→List Ans→List Ans→Prop
  | [],_,_=>True
  | d::l,x::a,c=>if d.kind=2 then pairs l a c else ∃ y r,c=y::r∧Alike x y∧pairs l a r
  | _::_,[],_=>False
end Bs
end
section
namespace Bs
open Ex Sh
set_option linter.unusedVariables false
section
variable {l:List zn} {z:zr × SlX zi} {k:Nat} {d:zn} {x:zi}
theorem play_is (hz:(z.1.e,z.2.l.map zi.e)=((play (l.map zn.e)).1,(play (l.map zn.e)).2.1)) (h0:¬ (play (l.map zn.e)).2.2≠0) :
    l.length≤120∧z.1.e=(run zero (l.map zn.e)).1∧z.2.l.map zi.e=(run zero (l.map zn.e)).2∧z.2.l.length=l.length:=by
  have hl:¬ 120 < (l.map zn.e).length:=fun h=>h0 (by unfold play; rw [if_pos h]; decide)
  have hp:play (l.map zn.e)=((run zero (l.map zn.e)).1,(run zero (l.map zn.e)).2,0):=if_neg hl
  rw [hp] at hz
  have e1:=congrArg Prod.fst hz
  have e2:=congrArg Prod.snd hz
  refine ⟨by simpa using hl,e1,e2,?_⟩
  have:=congrArg List.length e2
  rw [run_len] at this
  simpa using this
theorem named_x (hz:(z.1.e,z.2.l.map zi.e)=((play (l.map zn.e)).1,(play (l.map zn.e)).2.1)) (h0:¬ (play (l.map zn.e)).2.2≠0) :
    ∀ (i:Nat) (d:zn) (x:zi),l[i]?=some d→z.2.l[i]?=some x→d.kind=1→x.err=0→zH.wrong d.sr.l=0:=fun i d x hd hx h1 h2=>by
  obtain ⟨_,_,e2,_⟩:=play_is hz h0
  exact told_named (l:=l.map zn.e) (b:=zero) (i:=i) (d:=d.e) (x:=x.e) (by rw [List.getElem?_map,hd]; rfl) (by rw [← e2,List.getElem?_map,hx]; rfl) h1 h2
theorem right_x {t:List zV} (hz:(z.1.e,z.2.l.map zi.e)=((play (l.map zn.e)).1,(play (l.map zn.e)).2.1)) (h0:¬ (play (l.map zn.e)).2.2≠0) (ht:t.map zV.e=tolds [] (l.map zn.e) (z.2.l.map zi.e)) :
    t.length=z.1.zA.l.length∧(0≤z.1.zN∧z.1.zN % 10=0)∧∀ (k:Nat) (s:zC) (y:zV),z.1.zA.l[k]?=some s→t[k]?=some y→Sh.wrong s.e=0∧zH.compare s.sr.l y.sr.l=0∧s.zE=z.1.zN:=by
  obtain ⟨hl,e1,e2,_⟩:=play_is hz h0
  have hh:=tells_play (l.map zn.e) (by simpa using hl)
  have hi:=inv_play (l.map zn.e) (by simpa using hl)
  rw [← e2,← e1] at hh
  rw [← e1] at hi
  rw [← ht] at hh
  refine ⟨by have:=tells_len hh; rw [List.length_map] at this; rw [this]; exact List.length_map ..,⟨hi.hor.1,hi.hor.2.2⟩,fun k s y hs hy=>?_⟩
  have hs':z.1.e.zA[k]?=some s.e:=by show (z.1.zA.l.map zC.e)[k]?=_; rw [List.getElem?_map,hs]; rfl
  obtain ⟨q,hq,h1,h2,_⟩:=tells_get hh hs'
  rw [List.getElem?_map,hy] at hq
  obtain rfl:y.e=q:=Option.some.inj hq
  refine ⟨h2.ok.wrong,?_,hi.fine _ (List.mem_of_getElem? hs')⟩
  have h1:y.sr.l=s.sr.l:=h1
  rw [h1]; exact (zH.compare_is.zero _ _).2 rfl
end
end Bs
end
section
open _root_.Go.Proofs.Tryz
open Ex
attribute [local irreducible] WC WL WQ WE WS
set_option linter.unusedVariables false
set_option linter.unusedSimpArgs false
theorem c_badd9 (h:ByteArray) (t:Int) (v:Int) (P0:Nat→Prop) (w:World) (hP0:∀ b,P0 b→b < w.heap.size)  :
    Calls prog 40 #[.string h,iV t,iV v] w (RetE w P0 (fun z:zn=>.agg (vB z).toArray) (fun z=>z.e=Bs.addD h t v) (fun z S=>zn.Ok S z)):=by
 refine zw (N:=14) func40 (Mem.ofDatsP hP0 dn) ?_
 refine (go 2) (yA fun b6=>?_)
 refine (go 6) ?_
 refine zx zP ([(⟨⟨#[104,111,115,116]⟩,h⟩:Label)]:List Label) wn underlying39 inf74 rfl rfl rfl rfl qD qD rfl fun b9=>?_
 refine (go 8) (zZ results40 fun w1 hM=>?_)
 have hM:=hM.zk encLabel (i:=0) rfl rfl
 exact hM.vU (zn.mk 1 0 0 ⟨(some ⟨b9,0,none⟩),1,([(⟨⟨#[104,111,115,116]⟩,h⟩:Label)]:List Label)⟩ ⟨t,v⟩ ⟨#[]⟩) rfl rfl fun Pb pp=>⟨pp.sl 0 rfl⟩
set_option maxHeartbeats 1000000 in
theorem c_alive9 (P0:Nat→Prop) (w:World) (hP0:∀ b,P0 b→b < w.heap.size) (hE:zO P0 w)  :
    Calls prog 18 #[] w (Ret w (.bool true)):=by
 refine zw (N:=52) func18 (Mem.ofDatsP hP0 (dc (dp zO.loc hE) dn)) ?_
 refine (go 7) ?_
 refine yi (β:=zn) (fun z=>.agg (vB z).toArray) (fun z=>z.e=Bs.addD ⟨#[120]⟩ 5 7) (fun z S=>zn.Ok S z) (fun z=>zn.Ok.loc z) wn rfl call40 rfl (fun w1 Pb hM pp=>c_badd9 ⟨#[120]⟩ 5 7 Pb w1 pp.lt) fun z1 hz1=>yh 0 rfl (fun S w h=>zn.Ok.wf h) fun hw1=>yi (β:=zn) (fun z=>.agg (vB z).toArray) (fun z=>z.e=Bs.addD ⟨#[121]⟩ 6 8) (fun z S=>zn.Ok S z) (fun z=>zn.Ok.loc z) wn rfl call40 rfl (fun w1 Pb hM pp=>c_badd9 ⟨#[121]⟩ 6 8 Pb w1 pp.lt) fun z2 hz2=>yh 0 rfl (fun S w h=>zn.Ok.wf h) fun hw2=>?_
 refine (go 2) ?_
 refine zx vB ([z1,z2,(zn.mk 2 0 100 ⟨none,0,[]⟩ ⟨0,0⟩ ⟨#[]⟩),(zn.mk 4 0 60 ⟨none,0,[]⟩ ⟨0,0⟩ ⟨#[97,108,108,32,115,117,109,32,40,115,117,109,40,123,125,91,54,48,93,41,41]⟩)]:List zn) wn underlying22 inf43 rfl rfl rfl rfl qD qD rfl fun b9=>zf (fun _ h=>h.all0 zn.Ok.loc) (zf (fun _ h=>h.allSnoc 0 3 zn.Ok.loc rfl rfl) (zf (fun _ h=>h.allSnoc 0 3 zn.Ok.loc rfl rfl) (zf (fun _ h=>h.yU (zn.Ok.loc (zn.mk 2 0 100 ⟨none,0,[]⟩ ⟨0,0⟩ ⟨#[]⟩)) fun Pb pp=>⟨zD.zu _ _ _ _⟩) (yh 0 rfl (fun S w h=>zn.Ok.wf h) fun hw3=>zf (fun _ h=>h.allSnoc 1 0 zn.Ok.loc rfl rfl) (zf (fun _ h=>h.yU (zn.Ok.loc (zn.mk 4 0 60 ⟨none,0,[]⟩ ⟨0,0⟩ ⟨#[97,108,108,32,115,117,109,32,40,115,117,109,40,123,125,91,54,48,93,41,41]⟩)) fun Pb pp=>⟨zD.zu _ _ _ _⟩) (yh 0 rfl (fun S w h=>zn.Ok.wf h) fun hw4=>zf (fun _ h=>h.allSnoc 1 0 zn.Ok.loc rfl rfl) (l_seal 7 encDoX rfl rfl (yi (β:=zr × SlX zi) (fun z=>.tuple #[.agg (jU z.1).toArray,.slice z.2.A z.2.l.length z.2.c,iV (Bs.play (([z1,z2,(zn.mk 2 0 100 ⟨none,0,[]⟩ ⟨0,0⟩ ⟨#[]⟩),(zn.mk 4 0 60 ⟨none,0,[]⟩ ⟨0,0⟩ ⟨#[97,108,108,32,115,117,109,32,40,115,117,109,40,123,125,91,54,48,93,41,41]⟩)]:List zn).map zn.e)).2.2]) (fun z=>(z.1.e,z.2.l.map zi.e)=((Bs.play (([z1,z2,(zn.mk 2 0 100 ⟨none,0,[]⟩ ⟨0,0⟩ ⟨#[]⟩),(zn.mk 4 0 60 ⟨none,0,[]⟩ ⟨0,0⟩ ⟨#[97,108,108,32,115,117,109,32,40,115,117,109,40,123,125,91,54,48,93,41,41]⟩)]:List zn).map zn.e)).1,(Bs.play (([z1,z2,(zn.mk 2 0 100 ⟨none,0,[]⟩ ⟨0,0⟩ ⟨#[]⟩),(zn.mk 4 0 60 ⟨none,0,[]⟩ ⟨0,0⟩ ⟨#[97,108,108,32,115,117,109,32,40,115,117,109,40,123,125,91,54,48,93,41,41]⟩)]:List zn).map zn.e)).2.1)) (fun z S w=>PlayOk z S w) (fun z=>PlayOk.loc z) wn rfl call14 rfl (fun w1 Pb hM pp=>c_play _ ([z1,z2,(zn.mk 2 0 100 ⟨none,0,[]⟩ ⟨0,0⟩ ⟨#[]⟩),(zn.mk 4 0 60 ⟨none,0,[]⟩ ⟨0,0⟩ ⟨#[97,108,108,32,115,117,109,32,40,115,117,109,40,123,125,91,54,48,93,41,41]⟩)]:List zn) Pb w1 pp.lt (pp.sl 7 rfl) (pp.at_ 0 _ rfl) (pp.at_ 10 _ rfl)) fun z3 hz3=>?_))))))))
 refine yh 0 rfl (fun S w h=>PlayOk.wf h) fun hw5=>zf (fun _ h=>h.playX 0 rfl) ?_
 obtain ⟨hc1,hm1,hA1⟩:=hw5.2.sl
 obtain ⟨hal1,hal2,hal3,hal4⟩:=Bs.alive9_x (l:=([z1,z2,(zn.mk 2 0 100 ⟨none,0,[]⟩ ⟨0,0⟩ ⟨#[]⟩),(zn.mk 4 0 60 ⟨none,0,[]⟩ ⟨0,0⟩ ⟨#[97,108,108,32,115,117,109,32,40,115,117,109,40,123,125,91,54,48,93,41,41]⟩)]:List zn)) (show [zn.e z1,zn.e z2,zn.e (zn.mk 2 0 100 ⟨none,0,[]⟩ ⟨0,0⟩ ⟨#[]⟩),zn.e (zn.mk 4 0 60 ⟨none,0,[]⟩ ⟨0,0⟩ ⟨#[97,108,108,32,115,117,109,32,40,115,117,109,40,123,125,91,54,48,93,41,41]⟩)]=Bs.topL9 from by rw [hz1,hz2]; rfl) hz3
 refine (go 4) (yA fun b1=>?_)
 refine (go 10) ?_
 refine uo (t:=16) rfl hal1 ?_
 refine (go 5) ?_
 refine uo (t:=21) rfl qO ?_
 refine (go 6) ?_
 refine uo (t:=27) rfl qO ?_
 refine (go 1) ?_
 obtain ⟨ad1,s1,hd1,hs1⟩:=elx hA1 3
 refine (go 2) ?_
 obtain ⟨hv9,hc9⟩:=hal4 _ hs1
 have hn9:=congrArg List.length hv9
 simp only [List.length_map,List.length_cons,List.length_nil] at hn9
 refine (go 5) ?_
 refine uo (t:=35) rfl qO ?_
 refine (go 4) ?_
 have hw6:=hw5.2.all _ (List.mem_of_getElem? hs1)
 refine zf (fun _ h=>h.one 2 zi.Ok.loc rfl hs1) (zf (fun _ h=>h.ansX 0 rfl) ?_)
 obtain ⟨hc2,hm2,hA2⟩:=hw6.cells
 obtain ⟨ad2,s2,hd2,hs2⟩:=elx hA2 0
 refine (go 6) ?_
 refine uo (t:=45) rfl (Bs.val9_x hv9 hs2) ?_
 refine (go 10) (zZ results18 fun w1 hM=>?_)
 exact zR (by first | rfl | simp [hc9]) hM
end
section
open _root_.Go.Proofs.Tryz
open Ex
attribute [local irreducible] WC WL WQ WE WS
set_option linter.unusedVariables false
set_option linter.unusedSimpArgs false
set_option maxHeartbeats 1000000 in
theorem law_BaseRight (lv:Value) (l:List zn) (P0:Nat→Prop) (w:World) (hP0:∀ b,P0 b→b < w.heap.size) (hl:zD P0 7 vB lv l w) (hla:∀ x ∈ l,zn.Ok P0 x w) (hE:zO P0 w)  :
    Calls prog 5 #[lv] w (Ret w (.bool true)):=by
 have hwl:∀ x ∈ l,zn.Wf x:=fun x hx=>(hla x hx).wf
 obtain ⟨lA,lc,rfl,hlc,hlm,hlA⟩:=hl.form
 refine zw (N:=62) func5 (Mem.ofDatsP hP0 (dc (dlp hl) (dc (dp (all_loc zn.Ok.loc _) hla) (dc (dp zO.loc hE) dn)))) ?_
 refine (go 8) ?_
 refine yM call18 wn rfl (fun w1 hM=>c_alive9 (In w1) w1 (fun _ h=>h) (hM.yT (i:=2) rfl)) (zb (yE rfl) ?_)
 refine (go 8) ?_
 refine yi (β:=zr × SlX zi) (fun z=>.tuple #[.agg (jU z.1).toArray,.slice z.2.A z.2.l.length z.2.c,iV (Bs.play (l.map zn.e)).2.2]) (fun z=>(z.1.e,z.2.l.map zi.e)=((Bs.play (l.map zn.e)).1,(Bs.play (l.map zn.e)).2.1)) (fun z S w=>PlayOk z S w) (fun z=>PlayOk.loc z) wn rfl call14 rfl (fun w1 Pb hM pp=>c_play _ l Pb w1 pp.lt (pp.sl 0 rfl) (pp.at_ 1 _ rfl) (pp.at_ 2 _ rfl)) fun z1 hz1=>yh 0 rfl (fun S w h=>PlayOk.wf h) fun hw1=>zf (fun _ h=>h.playX 0 rfl) ?_
 obtain ⟨hc1,hm1,hA1⟩:=hw1.2.sl
 refine (go 4) (yA fun b3=>?_)
 refine (go 12) (zY (fun h1=>?_) fun h1=>?_)
 ·refine (go 7) (zZ results5 fun w1 hM=>?_)
  exact zR (by first | rfl | exact congrArg Value.bool (decide_eq_true qO)) hM
 have hlz:=Bs.play_len hz1 h1
 have hlm:=Bs.play_bound h1
 have hgd9:=Bs.named_x hz1 h1
 refine (go 6) ?_
 refine yi (β:=SlX zV) (fun z=>.slice z.A z.l.length z.c) (fun z=>z.l.map zV.e=Bs.tolds [] (l.map zn.e) (z1.2.l.map zi.e)) (fun z S=>LinesX.Ok S z) (fun z=>LinesX.Ok.loc z) wn rfl call20 rfl (fun w1 Pb hM pp=>c_told9 _ l _ z1.2.l Pb w1 pp.lt (pp.sl 5 rfl) (pp.at_ 6 _ rfl) (pp.sl 1 rfl) (pp.at_ 2 _ rfl) (by first | omega | (rw [List.length_take]; omega)) (by first | omega | (rw [List.length_take]; omega)) hgd9) fun z2 hz2=>yh 0 rfl (fun S w h=>LinesX.Ok.wf h) fun hw2=>zf (fun _ h=>h.linesX 0 rfl) ?_
 obtain ⟨hc2,hm2,hA2⟩:=hw2.sl
 obtain ⟨hr1,hr2,hr3⟩:=Bs.right_x hz1 h1 hz2
 refine (go 14) ?_
 refine yd rfl (decide_eq_false qO) ?_
 refine (go 12) ?_
 refine yK (fun (q:Nat)=>[(3,.pointer (some ⟨b3,0,none⟩)),(6,.slice z2.A z2.l.length z2.c),(29,.slice z1.1.zA.A z1.1.zA.l.length z1.1.zA.c),(30,iV z1.1.zA.l.length),(31,iV q)]) (fun (q:Nat)=>[slP 2 yz (.slice z2.A z2.l.length z2.c) z2.l,allP zV.Ok z2.l,okP LinesX.Ok z2,.blk b3 [.slice z1.1.zA.A z1.1.zA.l.length z1.1.zA.c,iV z1.1.zN] 25,slP 4 yl (.slice z1.2.A z1.2.l.length z1.2.c) z1.2.l,allP zi.Ok z1.2.l,okP zr.Ok z1.1,.pub (PlayOk z1),slP 7 vB (.slice lA l.length lc) l,allP zn.Ok l,.pub zO]) (fun (q:Nat)=>q≤z1.1.zA.l.length) (fun (q:Nat)=>z1.1.zA.l.length - q) 0 (sc rfl (sc rfl (sc rfl (sc rfl (sc (ji qO) sn))))) (fun _ h=>h) ?_ (fun q hI1=>?_)
 ·exact Nat.zero_le _
 refine (go 6) (zY (fun h2=>?_) fun h2=>?_)
 ·refine (go 7) ?_
  refine zf (fun _ h=>h.baseX 6 rfl) ?_
  obtain ⟨hc3,hm3,hA3⟩:=hw1.1.zA
  obtain ⟨ad1,s1,hd1,hs1⟩:=elx hA3 q
  refine (go 2) (yA fun b8=>?_)
  refine (go 7) ?_
  have hw3:=hw1.1.all _ (List.mem_of_getElem? hs1)
  refine ud (fun _ h=>h.one 2 zC.Ok.loc rfl hs1) (fun _ h=>h.drop1) (ud (fun _ h=>h.shelfX 0 rfl) (fun _ h=>h.drop1.drop1.drop1.drop1) ?_)
  obtain ⟨hc4,hm4,hA4⟩:=hw3.sr
  obtain ⟨hc5,hm5,hA5⟩:=hw3.raw
  obtain ⟨hc6,hm6,hA6⟩:=hw3.fine
  obtain ⟨hc7,hm7,hA7⟩:=hw3.coarse
  refine yO wn rfl call21 rfl (fun w1 hM=>vT _ _ _ _ (zC.e s1) (In w1) w1 (fun _ h=>h) (hM.slp 0 rfl) (hM.slp 1 rfl) (hM.slp 2 rfl) (hM.slp 3 rfl)) ?_
  refine (go 2) ?_
  refine q_litf (t:=39) rfl (fun g=>g (hr3 _ _ _ hs1 (List.getElem?_eq_getElem (l:=z2.l) (i:=q) qO)).1) ?_
  refine (go 4) ?_
  obtain ⟨ad2,s2,hd2,hs2⟩:=elx hA2 q
  refine (go 3) ?_
  have hw4:=hw2.all _ (List.mem_of_getElem? hs2)
  refine ud (fun _ h=>h.one 9 zV.Ok.loc rfl hs2) (fun _ h=>h.drop1) (ud (fun _ h=>h.lineX 0 rfl) (fun _ h=>h.drop1.drop1) ?_)
  obtain ⟨hc8,hm8,hA8⟩:=hw4.sr
  obtain ⟨hc9,hm9,hA9⟩:=hw4.sm
  refine yO (wg rfl rfl rfl) rfl call22 rfl (fun w1 hM=>vk _ s1.sr.l _ s2.sr.l w1 (hM.slp 3 rfl) (hM.slp 0 rfl)) ?_
  refine (go 3) ?_
  refine q_litf (t:=50) rfl (fun g=>g (hr3 _ _ _ hs1 hs2).2.1) ?_
  refine (go 8) ?_
  refine yd rfl (decide_eq_false (fun g=>g (hr3 _ _ _ hs1 (List.getElem?_eq_getElem (l:=z2.l) (i:=q) qO)).2.2)) ?_
  refine (go 6) ?_
  refine zT (zm (q + 1) (sc rfl (sc rfl (sc rfl (sc rfl (sc (ji qO) sn))))) (S9 [11,12,13,14,15,16,17,18,19,20,21]) ?_ ?_)
  ·omega
  omega
 refine (go 15) (zZ results5 fun w1 hM=>?_)
 exact zR (by first | rfl | exact congrArg Value.bool (decide_eq_true qO)) hM
end
section
open Go.ChangeShapes Go.WideShapes Go.ChangeAt Go.RowKit
namespace Ex
theorem Tryz.own_:ownKnob Tryz.prog.godebug=none:=by kernel_rfl
theorem Tryz.laid_:laidOutB Tryz.prog=true:=by kernel_rfl
section
variable {H:Type} {enc:TypeId × Value→H} {P:Program}
theorem trodAll_stays (hl:laidOutB P=true) {W W':World} {sp':Nat→Bool} (hsame:Fr no W W'):∀ {ts:List TypeId} {vs:List Value} {ds:List (DataW H)} {ps:List MemPlace},(∀ t ∈ ts,P.readableRec t=true∧t < P.types.size) →
    DataW.TrodAll enc P W 0 (fun _=>true) true ts vs ds ps→(∀ p ∈ ps,p.block < W.heap.size)→(∀ p ∈ ps,sp' p.block=true)→DataW.TrodAll enc P W' 0 sp' true ts vs ds ps
  | [],[],[],_,_,h,_,_=>h
  | t :: ts, v :: vs, d :: ds, _, hr, ⟨p, q, h1, h2, e⟩, hlt, hs =>
    ⟨p,q,WideElems.Trod_stays hl (hr t (List.mem_cons_self ..)).1 (hr t (List.mem_cons_self ..)).2 h1 (fun x hx=>(Fr.below hsame).same (hlt x (by rw [e]; exact List.mem_append_left _ hx))) (fun x hx=>hs x (by rw [e]; exact List.mem_append_left _ hx)),
      trodAll_stays hl hsame (fun t ht=>hr t (List.mem_cons_of_mem _ ht)) h2 (fun x hx=>hlt x (by rw [e]; exact List.mem_append_right _ hx)) (fun x hx=>hs x (by rw [e]; exact List.mem_append_right _ hx)),e⟩
theorem post_true {f:Func} {s:ChangeSpec} {W W':World} {args:Array Value} {ds gs:List (DataW H)} {before:List MemPlace} {bt:TypeId} (hl:laidOutB P=true) (hr:∀ t ∈ f.params.toList,P.readableRec t=true∧t < P.types.size)
    (hres:f.resultTypes=#[bt]) (hb:P.underlying bt=some .bool) (hvars:s.vars=[]) (hW:DataW.Whole enc P f.params.toList s.vars false W args.toList ds gs before)
    (hs:∀ ds:List (DataW H),ds.length=f.params.size→(s.fn H ds).results=[.lit (.bool true)]∧(s.fn H ds).args=ds∧(s.fn H ds).vars=[]) (hf:Fr no W W') :
    s.post enc P f false true false false W args (.bool true) W':=by
  have hlt:=hW.lt
  have hW0:=hW
  obtain ⟨p,q,hA,hV,rfl,hfz,hnd⟩:=hW
  rw [hvars] at hV
  obtain ⟨rfl,rfl⟩:=trodVars_none hV
  have hlen:∀ {ts:List TypeId} {vs:List Value} {ds:List (DataW H)} {ps:List MemPlace},DataW.TrodAll enc P W 0 (fun _=>true) true ts vs ds ps→ds.length=ts.length:=by
    intro ts
    induction ts with
    | nil=>intro vs ds ps h; cases vs <;> cases ds <;> simp_all [DataW.TrodAll]
    | cons t ts ih =>
      intro vs ds ps h
      cases vs <;> cases ds <;> try (simp [DataW.TrodAll] at h; done)
      obtain ⟨_,_,_,h2,_⟩:=h
      simp [ih h2]
  obtain ⟨e1,e2,e3⟩:=hs ds (by rw [hlen hA]; simp)
  refine ⟨ds,[],_,[],p,[],hW0,?_,?_,?_,?_,fun h=>by cases h⟩
  · rw [List.append_nil,e1,hres]
    exact trodAll_mk1 (shut_bool hb true)
  · rw [List.append_nil,e2]
    exact trodAll_stays hl hf hr hA (fun x hx=>hlt x (by simpa using hx)) (fun x hx=>by simpa using hlt x (by simpa using hx))
  · rw [List.append_nil,e3,hvars]
    exact rfl
  · exact (Fr.below hf).frame _
end
def ok64 (n:Int):Prop:=-9223372036854775808≤n∧n≤9223372036854775807
theorem ok64_wf {n:Int} (h:(Lit.int .i64 n).wf=true):ok64 n:=by
  simpa [Lit.wf,IntKind.min,IntKind.max,IntKind.signed,IntKind.bits,ok64] using h
def RdF (P:Program) (t:TypeId) {α:Type} (e:α→List Value) (ok:α→Prop):Prop :=
  ∀ {H:Type} (enc:TypeId × Value→H) (w:World) (base:Nat) (sp:Nat→Bool) (held:Bool) (fuel:Nat) (cs:List Value) (x:DataW H × List MemPlace),
    DataW.trod enc P w base sp held fuel t cs=some x→∃ a,cs=e a∧ok a
theorem rd_int {P:Program} {t:TypeId} (h:P.underlying t=some (.int .i64)):RdF P t intE ok64:=fun _ _ _ _ _ _ _ _ hx=>by
  obtain ⟨n,e,_,hw⟩:=DataW.trod_int h hx
  exact ⟨n,e,ok64_wf hw⟩
def okStr (s:ByteArray):Prop:=s.size≤maxLen
theorem rd_str {P:Program} {t:TypeId} (h:P.underlying t=some .string):RdF P t strE okStr:=fun _ _ _ _ _ _ _ _ hx=>by
  obtain ⟨s,e,_,hw⟩:=DataW.trod_string h hx
  exact ⟨s,e,hw⟩
theorem st_fld {H:Type} {enc:TypeId × Value→H} {P:Program} {w:World} {base:Nat} {sp:Nat→Bool} {held:Bool} {fuel:Nat} {t:TypeId} {cs:List Value} {x:DataW H × List MemPlace} {fs:Array Field} (ht:P.underlying t=some (.struct fs))
    (h:DataW.trod enc P w base sp held fuel t cs=some x):cs.length=P.cellsOf t∧∃ n,∀ (j:Nat) (f:Field),fs[j]?=some f→∃ y,DataW.trod enc P w base sp held n f.type ((cs.drop f.offset).take (P.cellsOf f.type))=some y:=by
  obtain ⟨xs,n,_,_,hl,hlen,hg⟩:=DataW.trod_struct ht h
  refine ⟨hl,n,fun j f hj=>?_⟩
  have hjl:j < xs.length:=by rw [hlen]; exact (Array.getElem?_eq_some_iff.1 hj).1
  exact ⟨xs[j],(hg j f hj).trans (List.getElem?_eq_getElem hjl)⟩
end Ex
end
section
open Go.ChangeShapes Go.WideShapes Go.ChangeAt Go.RowKit
namespace Ex
set_option linter.unusedSimpArgs false
theorem list2 {l:List Value} (h:l.length=2):∃ c0 c1,l=[c0,c1]:=by
  match l,h with
  | [c0,c1],_=>exact ⟨_,_,rfl⟩
theorem list7 {l:List Value} (h:l.length=7):∃ c0 c1 c2 c3 c4 c5 c6,l=[c0,c1,c2,c3,c4,c5,c6]:=by
  match l,h with
  | [c0,c1,c2,c3,c4,c5,c6],_=>exact ⟨_,_,_,_,_,_,_,rfl⟩
def okSample (s:Sample):Prop:=ok64 s.time∧ok64 s.value
def okLabel (s:Label):Prop:=okStr s.key∧okStr s.val
theorem rdSample:RdF Tryz.prog 41 zQ okSample:=fun {H} en w base sp held fuel cs x hx=>by
  obtain ⟨hl,n,hf⟩:=st_fld Tryz.underlying41 hx
  rw [show Tryz.prog.cellsOf 41=2 from by kernel_rfl] at hl
  obtain ⟨c0,c1,rfl⟩:=list2 hl
  obtain ⟨y0,hy0⟩:=hf 0 _ rfl
  replace hy0:DataW.trod en Tryz.prog w base sp held n 3 (List.take (Tryz.prog.cellsOf 3) (List.drop 0 _))=some y0:=hy0
  rw [show Tryz.prog.cellsOf 3=1 from by kernel_rfl] at hy0
  obtain ⟨a0,e0,o0⟩:=rd_int Tryz.underlying3 en w base sp held n _ _ hy0
  have e0':[c0]=intE a0:=e0
  simp only [strE,intE,List.cons.injEq,and_true] at e0'
  subst e0'
  obtain ⟨y1,hy1⟩:=hf 1 _ rfl
  replace hy1:DataW.trod en Tryz.prog w base sp held n 3 (List.take (Tryz.prog.cellsOf 3) (List.drop 1 _))=some y1:=hy1
  rw [show Tryz.prog.cellsOf 3=1 from by kernel_rfl] at hy1
  obtain ⟨a1,e1,o1⟩:=rd_int Tryz.underlying3 en w base sp held n _ _ hy1
  have e1':[c1]=intE a1:=e1
  simp only [strE,intE,List.cons.injEq,and_true] at e1'
  subst e1'
  exact ⟨⟨a0,a1⟩,rfl,⟨o0,o1⟩⟩
theorem rdLabel:RdF Tryz.prog 74 zP okLabel:=fun {H} en w base sp held fuel cs x hx=>by
  obtain ⟨hl,n,hf⟩:=st_fld Tryz.underlying74 hx
  rw [show Tryz.prog.cellsOf 74=2 from by kernel_rfl] at hl
  obtain ⟨c0,c1,rfl⟩:=list2 hl
  obtain ⟨y0,hy0⟩:=hf 0 _ rfl
  replace hy0:DataW.trod en Tryz.prog w base sp held n 9 (List.take (Tryz.prog.cellsOf 9) (List.drop 0 _))=some y0:=hy0
  rw [show Tryz.prog.cellsOf 9=1 from by kernel_rfl] at hy0
  obtain ⟨a0,e0,o0⟩:=rd_str Tryz.underlying9 en w base sp held n _ _ hy0
  have e0':[c0]=strE a0:=e0
  simp only [strE,intE,List.cons.injEq,and_true] at e0'
  subst e0'
  obtain ⟨y1,hy1⟩:=hf 1 _ rfl
  replace hy1:DataW.trod en Tryz.prog w base sp held n 9 (List.take (Tryz.prog.cellsOf 9) (List.drop 1 _))=some y1:=hy1
  rw [show Tryz.prog.cellsOf 9=1 from by kernel_rfl] at hy1
  obtain ⟨a1,e1,o1⟩:=rd_str Tryz.underlying9 en w base sp held n _ _ hy1
  have e1':[c1]=strE a1:=e1
  simp only [strE,intE,List.cons.injEq,and_true] at e1'
  subst e1'
  exact ⟨⟨a0,a1⟩,rfl,⟨o0,o1⟩⟩
end Ex
end
section
open Go.ChangeShapes Go.WideShapes Go.ChangeAt Go.RowKit
namespace Ex
theorem rdx_slice {H:Type} {enc:TypeId × Value→H} {P:Program} {t et:TypeId} {α:Type} {e:α→List Value} {ok:α→Prop} {k fuel:Nat} {W:World} {sp:Nat→Bool} {held:Bool} (hr:∀ n,n < fuel→∀ cs x,DataW.trod enc P W 0 sp held n et cs=some x→∃ a,cs=e a∧ok a) (ht:P.underlying t=some (.slice et)) (hk:P.cellsOf et=k) (hk0:0 < k) (he:∀ a,(e a).length=k) {cs:List Value} {x:DataW H × List MemPlace}
    (hf:DataW.trod enc P W 0 sp held fuel t cs=some x):∃ s:SlX α,cs=[.slice s.A s.l.length s.c]∧zD (In W) k e (.slice s.A s.l.length s.c) s.l W∧∀ a ∈ s.l,ok a:=by
  rcases DataW.trod_slice ht hf with ⟨h0,_⟩ | ⟨a,n,cap,elems,rest,m,hfu,hcs,hx0,_,hl,hm,hlen,hel,hs1,hs2⟩
  · exact ⟨⟨none,0,[]⟩,h0,zD.zu _ _ _ _,by simp⟩
  · have hex:∀ i,i < n→∃ x:α,ok x∧∀ (j:Nat) (u:Value),(e x)[j]?=some u→W.cell? ((a.add (i * k)).add j)=some u:=by
      intro i hin
      have h1:=hel i hin
      rw [List.getElem?_eq_getElem qO,Option.bind_eq_some_iff] at h1
      obtain ⟨cs',hc,ht'⟩:=h1
      rw [hk] at hc
      obtain ⟨x,ex,ox⟩:=hr m qO _ _ ht'
      obtain ⟨_,hcl,hat⟩:=World.cells?_some hc
      refine ⟨x,ox,fun j u hu=>?_⟩
      rw [ex] at hat
      have hj:j < k:=by rw [← he x]; exact (List.getElem?_eq_some_iff.1 hu).1
      exact (hat j hj).trans hu
    obtain ⟨l,hlen',hl'⟩:∃ l:List α,l.length=n∧∀ i x,l[i]?=some x→ok x∧∀ (j:Nat) (u:Value),(e x)[j]?=some u→W.cell? ((a.add (i * k)).add j)=some u:=by
      clear hel hlen hl hcs hs1 hs2 hx0
      induction n with
      | zero=>exact ⟨[],rfl,by simp⟩
      | succ n ih =>
        obtain ⟨l,h1,h2⟩:=ih (fun i hin=>hex i qO)
        obtain ⟨x,hx⟩:=hex n qO
        refine ⟨l++[x],by simp [h1],fun i y hy=>?_⟩
        rw [List.getElem?_append] at hy
        split at hy
        · exact h2 i y hy
        · rename_i hge
          have hin:i=n:=by
            have:i - l.length < [x].length:=(List.getElem?_eq_some_iff.1 hy).1
            simp at this; omega
          subst hin
          simp [h1] at hy
          subst hy
          exact hx
    refine ⟨⟨some a,cap,l⟩,by rw [hcs,hlen'],⟨some a,cap,rfl,by show l.length≤cap; omega,hm,fun hne=>⟨a,rfl,?_,fun i x hx=>(hl' i x hx).2⟩⟩,fun y hy=>?_⟩
    · obtain ⟨y,hy⟩:=List.exists_mem_of_ne_nil l hne
      obtain ⟨i,hi',rfl⟩:=List.getElem_of_mem hy
      have h1:=(hl' i l[i] (List.getElem?_eq_getElem hi')).2 0 ((e l[i])[0]'(by rw [he]; exact hk0)) (List.getElem?_eq_getElem _)
      have:=block_lt_of_cell h1
      rwa [add_block,add_block] at this
    · obtain ⟨i,hi',rfl⟩:=List.getElem_of_mem hy
      exact (hl' i _ (List.getElem?_eq_getElem hi')).1
def LenX {H:Type} (d:DataW H) (n:Nat):Prop:=(d=.nil∧n=0)∨∃ es sp,d=.slice es sp∧es.length=n
def AllX {H:Type} {α:Type} (ok:α→DataW H→Prop) (d:DataW H) (l:List α):Prop:=∃ ds:List (DataW H),((d=.nil∧ds=[])∨∃ sp,d=.slice ds sp)∧ds.length=l.length∧∀ (i:Nat) (a:α) (e:DataW H),l[i]?=some a→ds[i]?=some e→ok a e
theorem AllX.len {H:Type} {α:Type} {ok:α→DataW H→Prop} {d:DataW H} {l:List α} (h:AllX ok d l):LenX d l.length:=by
  obtain ⟨ds,h1,h2,_⟩:=h
  rcases h1 with ⟨h1,rfl⟩ | ⟨sp,h1⟩
  · exact .inl ⟨h1,h2.symm⟩
  · exact .inr ⟨_,_,h1,h2⟩
theorem AllX.all {H:Type} {α:Type} {ok:α→DataW H→Prop} {d:DataW H} {l:List α} (h:AllX ok d l):∀ a ∈ l,∃ e,ok a e∧∃ ds sp,d=.slice ds sp∧e ∈ ds:=fun a ha=>by
  obtain ⟨ds,h1,h2,h3⟩:=h
  obtain ⟨i,hi⟩:=List.mem_iff_getElem?.1 ha
  have hlt:=(List.getElem?_eq_some_iff.1 hi).1
  have hd:ds[i]?=some (ds[i]'qO):=List.getElem?_eq_getElem _
  refine ⟨_,h3 i a _ hi hd,ds,?_⟩
  rcases h1 with ⟨_,rfl⟩ | ⟨sp,h1⟩
  · exfalso; have h2:0=l.length:=h2; omega
  · exact ⟨sp,h1,List.mem_of_getElem? hd⟩
theorem stx_fld {H:Type} {enc:TypeId × Value→H} {P:Program} {w:World} {base:Nat} {sp:Nat→Bool} {held:Bool} {fuel:Nat} {t:TypeId} {cs:List Value} {x:DataW H × List MemPlace} {fs:Array Field} (ht:P.underlying t=some (.struct fs))
    (h:DataW.trod enc P w base sp held fuel t cs=some x):cs.length=P.cellsOf t∧∃ n,fuel=n + 1∧∀ (j:Nat) (f:Field),fs[j]?=some f→∃ y,DataW.trod enc P w base sp held n f.type ((cs.drop f.offset).take (P.cellsOf f.type))=some y:=by
  obtain ⟨xs,n,hn,_,hl,hlen,hg⟩:=DataW.trod_struct ht h
  refine ⟨hl,n,hn,fun j f hj=>?_⟩
  have hjl:j < xs.length:=by rw [hlen]; exact (Array.getElem?_eq_some_iff.1 hj).1
  exact ⟨xs[j],(hg j f hj).trans (List.getElem?_eq_getElem hjl)⟩
def RdX (P:Program) (t:TypeId) {α:Type} (e:α→List Value) (ok:α→World→Prop):Prop :=
  ∀ {H:Type} (enc:TypeId × Value→H) (W:World) (sp:Nat→Bool) (held:Bool) (fuel:Nat) (cs:List Value) (x:DataW H × List MemPlace),DataW.trod enc P W 0 sp held fuel t cs=some x→∃ a,cs=e a∧ok a W
theorem RdF.x {P:Program} {t:TypeId} {α:Type} {e:α→List Value} {ok:α→Prop} (h:RdF P t e ok):RdX P t e (fun a _=>ok a):=fun enc W sp held fuel cs x hx=>h enc W 0 sp held fuel cs x hx
theorem open_xs {H:Type} {enc:TypeId × Value→H} {P:Program} {t et:TypeId} {α:Type} {e:α→List Value} {ok:α→World→Prop} {k:Nat} (hr:RdX P et e ok) (ht:P.underlying t=some (.slice et)) (hk:P.cellsOf et=k) (hk0:0 < k) (he:∀ a,(e a).length=k) {W:World} {sp:Nat→Bool} {held:Bool} {v:Value} {d:DataW H} {p:List MemPlace}
    (hv:∃ A n c,v=.slice A n c) (h:DataW.Trod enc P W 0 sp held t v d p):∃ l:List α,zD (In W) k e v l W∧∀ a ∈ l,ok a W:=by
  obtain ⟨fuel,hf⟩:=h
  obtain ⟨A,n,c,rfl⟩:=hv
  obtain ⟨s,h1,h2,h3⟩:=rdx_slice (ok:=fun a=>ok a W) (fun n _ cs x hx=>hr enc W sp held n cs x hx) ht hk hk0 he hf
  have h1:[Value.slice A n c]=[.slice s.A s.l.length s.c]:=h1
  injection h1 with h1
  exact ⟨s.l,by rw [h1]; exact h2,h3⟩
end Ex
end
section
open Go.ChangeShapes Go.WideShapes Go.ChangeAt Go.RowKit
namespace Ex
set_option linter.unusedVariables false
set_option linter.unusedSimpArgs false
theorem rdDoX:RdX Tryz.prog 43 vB (fun a W=>zn.Ok (In W) a W):=fun {H} en W sp held fuel=>by
  intro cs x hx
  obtain ⟨hl,n,hn,hf⟩:=stx_fld Tryz.underlying43 hx
  rw [show Tryz.prog.cellsOf 43=7 from by kernel_rfl] at hl
  obtain ⟨c0,c1,c2,c3,c4,c5,c6,rfl⟩:=list7 hl
  obtain ⟨y0,hy0⟩:=hf 0 _ rfl
  replace hy0:DataW.trod en Tryz.prog W 0 sp held n 3 (List.take (Tryz.prog.cellsOf 3) (List.drop 0 _))=some y0:=hy0
  rw [show Tryz.prog.cellsOf 3=1 from by kernel_rfl] at hy0
  obtain ⟨a0,e0,o0⟩:=rd_int Tryz.underlying3 en W 0 sp held n _ _ hy0
  have e0':[c0]=intE a0:=e0
  simp only [strE,intE,List.cons.injEq,and_true] at e0'
  subst e0'
  obtain ⟨y1,hy1⟩:=hf 1 _ rfl
  replace hy1:DataW.trod en Tryz.prog W 0 sp held n 3 (List.take (Tryz.prog.cellsOf 3) (List.drop 1 _))=some y1:=hy1
  rw [show Tryz.prog.cellsOf 3=1 from by kernel_rfl] at hy1
  obtain ⟨a1,e1,o1⟩:=rd_int Tryz.underlying3 en W 0 sp held n _ _ hy1
  have e1':[c1]=intE a1:=e1
  simp only [strE,intE,List.cons.injEq,and_true] at e1'
  subst e1'
  obtain ⟨y2,hy2⟩:=hf 2 _ rfl
  replace hy2:DataW.trod en Tryz.prog W 0 sp held n 3 (List.take (Tryz.prog.cellsOf 3) (List.drop 2 _))=some y2:=hy2
  rw [show Tryz.prog.cellsOf 3=1 from by kernel_rfl] at hy2
  obtain ⟨a2,e2,o2⟩:=rd_int Tryz.underlying3 en W 0 sp held n _ _ hy2
  have e2':[c2]=intE a2:=e2
  simp only [strE,intE,List.cons.injEq,and_true] at e2'
  subst e2'
  obtain ⟨y3,hy3⟩:=hf 3 _ rfl
  replace hy3:DataW.trod en Tryz.prog W 0 sp held n 39 (List.take (Tryz.prog.cellsOf 39) (List.drop 3 _))=some y3:=hy3
  rw [show Tryz.prog.cellsOf 39=1 from by kernel_rfl] at hy3
  replace hy3:DataW.trod en Tryz.prog W 0 sp held n 39 [c3]=some y3:=hy3
  obtain ⟨s3,e3,f3,o3⟩:=rdx_slice (e:=zP) (ok:=okLabel) (k:=2) (fun m _ cs x hx=>RdF.x rdLabel en W sp held m cs x hx) Tryz.underlying39 (by kernel_rfl) qD (fun _=>rfl) hy3
  injection e3 with e3
  subst e3
  obtain ⟨y4,hy4⟩:=hf 4 _ rfl
  replace hy4:DataW.trod en Tryz.prog W 0 sp held n 41 (List.take (Tryz.prog.cellsOf 41) (List.drop 4 _))=some y4:=hy4
  rw [show Tryz.prog.cellsOf 41=2 from by kernel_rfl] at hy4
  obtain ⟨a4,e4,o4⟩:=rdSample en W 0 sp held n _ _ hy4
  have e4':[c4,c5]=zQ a4:=e4
  simp only [zQ,List.cons.injEq,and_true] at e4'
  obtain ⟨rfl,rfl⟩:=e4'
  obtain ⟨y5,hy5⟩:=hf 5 _ rfl
  replace hy5:DataW.trod en Tryz.prog W 0 sp held n 9 (List.take (Tryz.prog.cellsOf 9) (List.drop 6 _))=some y5:=hy5
  rw [show Tryz.prog.cellsOf 9=1 from by kernel_rfl] at hy5
  obtain ⟨a5,e5,o5⟩:=rd_str Tryz.underlying9 en W 0 sp held n _ _ hy5
  have e5':[c6]=strE a5:=e5
  simp only [strE,intE,List.cons.injEq,and_true] at e5'
  subst e5'
  exact ⟨⟨a0,a1,a2,s3,a4,a5⟩,rfl,⟨f3⟩⟩
end Ex
end
end Go.Proofs.YtgojhpocpajmlaaGreatDoor
