/- Laws and walks for the proof of BaseRolled, packed by program; each theorem bears its own conditions. -/
import Derived.Defers
import Derived.Recover
import Derived.Test.YtgojhpocpajmlaaGreatDoorRows
import Derived.Carry
import Derived.Deep.Slices
import Derived.Test.YtgojhpocpajmlaaGreatDoorKRolA4
namespace Go.Proofs.YtgojhpocpajmlaaGreatDoor
section
open _root_.Go.Proofs.Tryz
open Ex
attribute [local irreducible] WC WL WQ WE WS
set_option linter.unusedVariables false
set_option linter.unusedSimpArgs false
set_option maxHeartbeats 1000000 in
theorem c_window (p:Nat) (s:ByteArray) (i:Nat) (n:Int) (word:ByteArray) (Pb:Nat→Prop) (w:World) (hG:Mem w ⟨fpOf [Rb 114 p s i n,.pub zN],Pb⟩ [Rb 114 p s i n,.pub zN] w) (hi:i≤s.size) (hs:s.size≤2000) (hn:0≤n∧n≤100) (hwd:word.size≤12) :
    Calls prog 183 #[.pointer (some ⟨p,0,none⟩),.string word] w (RetX w [Rb 114 p s i n,.pub zN] Pb 111 (fun z:zB × Pz.St=>.agg (zu z.1).toArray) (fun z=>Pz.window s word ⟨i,n⟩=.ok (z.1.e,z.2)∧Pz.Good s ⟨i,n⟩ z.2) (fun z=>[Rb 114 p s z.2.at_ z.2.nd,.pub zN,okP zB.Ok z.1]) (fun f=>Pz.window s word ⟨i,n⟩=.no f)):=by
 refine zr (N:=46) func183 hG ?_
 refine (go 2) (zz fun b4=>?_)
 refine (go 5) ?_
 refine zZ (α:=Pz.St) (PT:=111) [Rb 114 p s i n,.pub zN] [.blk b4 Zx 59] (fun z:Pz.St=>.tuple #[]) (fun z1=>Pz.must s ⟨#[40]⟩ ⟨i,n⟩=.ok z1∧Pz.Good s ⟨i,n⟩ z1) (fun z1=>[Rb 114 p s z1.at_ z1.nd,.pub zN]) _ (fun f1=>Pz.must s ⟨#[40]⟩ ⟨i,n⟩=.no f1) (fun _=>rfl) (S9 [1,2,0]) (fun _=>rfl) wn rfl rfl call179 rfl (fun w1 Pb hG=>yy p s i n ⟨#[40]⟩ Pb w1 hG qO qO qO ) ?_ fun z1 hz1=>?_
 ·intro f1 hf1
  refine zR (zV fun w1 hM=>?_)
  exact hM.zd f1 (by first | (simp only [Pz.then_ok,Pz.then_no,Pz.St.go,lgc,Pz.window,zB.e,zB.es,hf1]; done) | simp [Pz.then_ok,Pz.then_no,Pz.St.go,lgc,Pz.window,zB.e,zB.es,hf1])
 obtain ⟨j1,m1⟩:=z1
 have he1:Pz.must s ⟨#[40]⟩ ⟨i,n⟩=.ok ⟨j1,m1⟩:=hz1.1
 have ga1:j1≤s.size:=hz1.2.at_
 have gm1:n≤m1:=hz1.2.mono
 have gn1:m1≤100:=hz1.2.most (show n≤100 by omega)
 refine (go 5) ?_
 refine zZ (α:=Pz.St) (PT:=111) [Rb 114 p s j1 m1,.pub zN] [.blk b4 Zx 59] (fun z:Pz.St=>.tuple #[]) (fun z2=>Pz.must s ⟨#[123]⟩ ⟨j1,m1⟩=.ok z2∧Pz.Good s ⟨j1,m1⟩ z2) (fun z2=>[Rb 114 p s z2.at_ z2.nd,.pub zN]) _ (fun f2=>Pz.must s ⟨#[123]⟩ ⟨j1,m1⟩=.no f2) (fun _=>rfl) (S9 [0,1,2]) (fun _=>rfl) wn rfl rfl call179 rfl (fun w1 Pb hG=>yy p s j1 m1 ⟨#[123]⟩ Pb w1 hG qO qO qO ) ?_ fun z2 hz2=>?_
 ·intro f2 hf2
  refine zR (zV fun w1 hM=>?_)
  exact hM.zd f2 (by first | (simp only [Pz.then_ok,Pz.then_no,Pz.St.go,lgc,Pz.window,zB.e,zB.es,he1,hf2]; done) | simp [Pz.then_ok,Pz.then_no,Pz.St.go,lgc,Pz.window,zB.e,zB.es,he1,hf2])
 obtain ⟨j2,m2⟩:=z2
 have he2:Pz.must s ⟨#[123]⟩ ⟨j1,m1⟩=.ok ⟨j2,m2⟩:=hz2.1
 have ga2:j2≤s.size:=hz2.2.at_
 have gm2:m1≤m2:=hz2.2.mono
 have gn2:m2≤100:=hz2.2.most (show m1≤100 by omega)
 refine (go 6) (zz fun b5=>?_)
 refine (go 5) ?_
 refine um (fun _ h=>h.vQ Match 179 3 yA) (uM (fun (ms:List Match) (k:Nat) (m:Int) (q:Nat) (rv:Value)=>[(0,.pointer (some ⟨p,0,none⟩)),(4,.pointer (some ⟨b4,0,none⟩)),(5,.pointer (some ⟨b5,0,none⟩))]) (fun (ms:List Match) (k:Nat) (m:Int) (q:Nat) (rv:Value)=>[Row rv 179 3 yA ms,.blk b5 [iV 2,iV 0,iV 0,.string word,rv,Zs,Zs] 59,Rb 114 p s k m,.pub zN,.blk b4 Zx 59]) (fun (ms:List Match) (k:Nat) (m:Int) (q:Nat) (rv:Value)=>Pz.winL s 6 [] ⟨j2,m2⟩=Pz.winL s (q + 1) ms ⟨k,m⟩∧ms.length + q=5∧k≤s.size∧m2≤m∧m≤100) (fun (ms:List Match) (k:Nat) (m:Int) (q:Nat) (rv:Value)=>q) [] j2 m2 5 (Zs) (sc rfl (sc rfl (sc rfl sn))) (fun _ h=>h) ?_ (fun ms k m q rv hI1=>?_))
 ·exact ⟨rfl,rfl,by omega,by omega,by omega⟩
 refine yU 0 (l:=ms) rfl fun A1 cp1 hv1 hc1 hm1 hA1=>?_
 subst hv1
 refine (go 4) ?_
 refine yM (α:=(Bool × Nat)) [Rb 114 p s k m,.pub zN] [Row (.slice A1 ms.length cp1) 179 3 yA ms,.blk b5 [iV 2,iV 0,iV 0,.string word,.slice A1 ms.length cp1,Zs,Zs] 59,.blk b4 Zx 59] (fun z:Bool × Nat=>.bool z.1) (fun z3=>(Pz.eat s ⟨#[125]⟩ k=z3∧k≤z3.2∧z3.2≤s.size)) (fun z3=>[Rb 114 p s z3.2 m,.pub zN]) _ (fun _=>rfl) (S9 [2,3,0,1,4]) (fun _=>rfl) wn rfl rfl call98 rfl (fun w1 Pb hG=>vo p s k m ⟨#[125]⟩ Pb w1 hG qO qO) fun z3 hz3=>?_
 obtain ⟨bo1,j3⟩:=z3
 have he3:Pz.eat s ⟨#[125]⟩ k=(bo1,j3):=hz3.1
 have hz3a:k≤j3:=hz3.2.1
 have hz3b:j3≤s.size:=hz3.2.2
 refine y7 (.bool bo1) (zb (yC rfl) ?_)
 refine (go 2) (yb (fun h1=>?_) fun h1=>?_)
 ·have g1:bo1=false:=by simpa using h1
  have hx1:=Pz.win_more hI1.1 (by rw [he3,g1])
  refine (go 12) (zX (fun h2=>?_) fun h2=>?_)
  ·refine (go 2) ?_
   refine zZ (α:=Pz.St) (PT:=111) [Rb 114 p s j3 m,.pub zN] [Row (.slice A1 ms.length cp1) 179 3 yA ms,.blk b5 [iV 2,iV 0,iV 0,.string word,.slice A1 ms.length cp1,Zs,Zs] 59,.blk b4 Zx 59] (fun z:Pz.St=>.tuple #[]) (fun z4=>Pz.must s ⟨#[44]⟩ ⟨j3,m⟩=.ok z4∧Pz.Good s ⟨j3,m⟩ z4) (fun z4=>[Rb 114 p s z4.at_ z4.nd,.pub zN]) _ (fun f3=>Pz.must s ⟨#[44]⟩ ⟨j3,m⟩=.no f3) (fun _=>rfl) (S9 [0,1,2,3,4]) (fun _=>rfl) wn rfl rfl call179 rfl (fun w1 Pb hG=>yy p s j3 m ⟨#[44]⟩ Pb w1 hG qO qO qO ) ?_ fun z4 hz4=>?_
   ·intro f3 hf3
    refine zR (zx (yS (zx (zR (zV fun w1 hM=>?_)))))
    have hY:=hx1.trans (by rw [Pz.win_sep' h2 hf3,Pz.then_no])
    exact hM.zd f3 (by simp only [Pz.then_ok,Pz.then_no,Pz.St.go,lgc,Pz.window,zB.e,zB.es,he1,he2,he3,g1,hY])
   obtain ⟨j4,m3⟩:=z4
   have he4:Pz.must s ⟨#[44]⟩ ⟨j3,m⟩=.ok ⟨j4,m3⟩:=hz4.1
   have ga3:j4≤s.size:=hz4.2.at_
   have gm3:m≤m3:=hz4.2.mono
   have gn3:m3≤100:=hz4.2.most (show m≤100 by omega)
   refine (go 11) (zX (fun h3=>?_) fun h3=>?_)
   ·refine (go 2) ?_
    refine zZ (α:=Unit) (PT:=111) [Rb 114 p s j4 m3,.pub zN] [Row (.slice A1 ms.length cp1) 179 3 yA ms,.blk b5 [iV 2,iV 0,iV 0,.string word,.slice A1 ms.length cp1,Zs,Zs] 59,.blk b4 Zx 59] (fun _:Unit=>.tuple #[]) (fun z5=>False) (fun z5=>[Rb 114 p s j4 m3,.pub zN]) _ (fun f4=>f4=(5,(j4:Int))) (fun _=>rfl) (S9 [0,1,2,3,4]) (fun _=>rfl) wn rfl rfl call54 rfl (fun w1 Pb hG=>yi p s j4 m3 5 Pb w1 hG) ?_ fun z5 hz5=>?_
    ·intro f4 hf4
     refine zR (zx (yS (zx (zR (zV fun w1 hM=>?_)))))
     have hY:=Pz.win_many hx1 (Pz.win_sep' h2 he4) h3
     exact hM.zd f4 (by simp only [Pz.then_ok,Pz.then_no,Pz.St.go,lgc,Pz.window,zB.e,zB.es,he1,he2,he3,g1,he4,hY,hf4])
    exact hz5.elim
   refine (go 2) ?_
   refine yK (Mem w ⟨fpOf [Rb 114 p s i n,.pub zN],Pb⟩ [.pub zN,.blk b4 Zx 59]) mix (fun _ h=>h.drew) rfl (yJ 6 [0,2] [1,4] rfl fun KS hKS=>?_)
   refine (go 2) ?_
   refine zi hKS (yX (f:=5) (i:=1) (j:=3) rfl (by kernel_rfl) ?_ ?_)
   ·refine za (i:=1) rfl fun KN hKN hPN=>?_
    refine (go 2) ?_
    refine hKN _ _ (S9 [1,4]) (zf 4 3 (za (i:=3) rfl fun KN hKN hPN=>zZ (α:=Match × Pz.St) (PT:=111) [Rb 114 p s j4 m3,.pub zN] [Row (.slice A1 ms.length cp1) 179 3 yA ms,.blk b5 [iV 2,iV 0,iV 0,.string word,.slice A1 ms.length cp1,Zs,Zs] 59,.blk b4 Zx 59] (fun z:Match × Pz.St=>.agg (yA z.1).toArray) (fun z6=>Pz.match_ s ⟨j4,m3⟩=.ok z6∧Pz.Good s ⟨j4,m3⟩ z6.2) (fun z6=>[Rb 114 p s z6.2.at_ z6.2.nd,.pub zN]) _ (fun f5=>Pz.match_ s ⟨j4,m3⟩=.no f5) (fun _=>rfl) (S9 [0,1,2,3,4]) (fun _=>rfl) wn rfl rfl call213 rfl (fun w1 Pb hG=>uQ p s j4 m3  Pb w1 hG qO qO qO ) ?_ fun z6 hz6=>?_))
    ·intro f5 hf5
     refine yn hPN (zx (yS (zx (zR (zV fun w1 hM=>?_)))))
     have hY:=Pz.win_next hx1 (Pz.win_sep' h2 he4) h3 hf5
     rw [Pz.then_no] at hY
     exact hM.zd f5 (by simp only [Pz.then_ok,Pz.then_no,Pz.St.go,lgc,Pz.window,zB.e,zB.es,he1,he2,he3,g1,he4,hY])
    obtain ⟨mt1,j5,m4⟩:=z6
    have he5:Pz.match_ s ⟨j4,m3⟩=.ok (mt1,⟨j5,m4⟩):=hz6.1
    have ga4:j5≤s.size:=hz6.2.at_
    have gm4:m3≤m4:=hz6.2.mono
    have gn4:m4≤100:=hz6.2.most (show m3≤100 by omega)
    refine (go 1) ?_
    refine hKN _ _ (S9 [1,4]) (zf 3 4 (za (i:=4) rfl fun KN hKN hPN=>zy yA ([mt1]:List Match) wn underlying55 inf179 rfl rfl rfl rfl qD qD rfl fun b31=>?_))
    refine (go 1) ?_
    refine hKN _ _ (S9 [2,5]) (zf 2 5 (za (i:=5) rfl fun KN hKN hPN=>yI 3 ms ([mt1]:List Match) encMatch wn rfl rfl rfl (fun _ hM=>(RowSl encMatch hM 0 rfl)) underlying55 inf179 rfl rfl (by simp only [qL]; omega) rfl fun A2 cp2 hc2 hm2 hA2=>?_))
    refine (go 1) ?_
    refine hKN _ _ (S9 [2,5]) (yJ 1 [6] [2,5] rfl fun KS hKS=>?_)
    refine (go 1) ?_
    refine zi hKS (zf 0 7 (za (i:=7) rfl fun KN hKN hPN=>?_))
    refine (go 2) ?_
    refine hKN _ _ (S9 [2,5]) (zw (by kernel_rfl) (yG (yW (ms++([mt1]:List Match)) j5 m4 (q - 1) (.slice A2 ((ms++([mt1]:List Match)).length) cp2) (sc rfl (sc rfl (sc rfl sn))) (S9 [3,4,1,2,5]) ?_ ?_)))
    ·have hY:=Pz.win_next hx1 (Pz.win_sep' h2 he4) h3 he5
     rw [Pz.then_ok] at hY
     exact ⟨hY.trans (by rw [show q - 1 + 1=q by omega]),by simp only [qL]; omega,by omega,by omega,by omega⟩
    omega
   refine za (i:=3) rfl fun KN hKN hPN=>zZ (α:=Match × Pz.St) (PT:=111) [Rb 114 p s j4 m3,.pub zN] [Row (.slice A1 ms.length cp1) 179 3 yA ms,.blk b5 [iV 2,iV 0,iV 0,.string word,.slice A1 ms.length cp1,Zs,Zs] 59,.blk b4 Zx 59] (fun z:Match × Pz.St=>.agg (yA z.1).toArray) (fun z7=>Pz.match_ s ⟨j4,m3⟩=.ok z7∧Pz.Good s ⟨j4,m3⟩ z7.2) (fun z7=>[Rb 114 p s z7.2.at_ z7.2.nd,.pub zN]) _ (fun f6=>Pz.match_ s ⟨j4,m3⟩=.no f6) (fun _=>rfl) (S9 [0,1,2,3,4]) (fun _=>rfl) wn rfl rfl call213 rfl (fun w1 Pb hG=>uQ p s j4 m3  Pb w1 hG qO qO qO ) ?_ fun z7 hz7=>?_
   ·intro f6 hf6
    refine yn hPN (zx (yS (zx (zR (zV fun w1 hM=>?_)))))
    have hY:=Pz.win_next hx1 (Pz.win_sep' h2 he4) h3 hf6
    rw [Pz.then_no] at hY
    exact hM.zd f6 (by simp only [Pz.then_ok,Pz.then_no,Pz.St.go,lgc,Pz.window,zB.e,zB.es,he1,he2,he3,g1,he4,hY])
   obtain ⟨mt2,j6,m5⟩:=z7
   have he6:Pz.match_ s ⟨j4,m3⟩=.ok (mt2,⟨j6,m5⟩):=hz7.1
   have ga5:j6≤s.size:=hz7.2.at_
   have gm5:m3≤m5:=hz7.2.mono
   have gn5:m5≤100:=hz7.2.most (show m3≤100 by omega)
   refine (go 1) ?_
   refine hKN _ _ (S9 [1,4]) (yX (f:=4) (i:=1) (j:=4) rfl (by kernel_rfl) ?_ ?_)
   ·refine za (i:=1) rfl fun KN hKN hPN=>?_
    refine (go 2) ?_
    refine hKN _ _ (S9 [1,4]) (zf 3 4 (za (i:=4) rfl fun KN hKN hPN=>zy yA ([mt2]:List Match) wn underlying55 inf179 rfl rfl rfl rfl qD qD rfl fun b31=>?_))
    refine (go 1) ?_
    refine hKN _ _ (S9 [2,5]) (zf 2 5 (za (i:=5) rfl fun KN hKN hPN=>yI 3 ms ([mt2]:List Match) encMatch wn rfl rfl rfl (fun _ hM=>(RowSl encMatch hM 0 rfl)) underlying55 inf179 rfl rfl (by simp only [qL]; omega) rfl fun A3 cp3 hc3 hm3 hA3=>?_))
    refine (go 1) ?_
    refine hKN _ _ (S9 [2,5]) (yJ 1 [6] [2,5] rfl fun KS hKS=>?_)
    refine (go 1) ?_
    refine zi hKS (zf 0 7 (za (i:=7) rfl fun KN hKN hPN=>?_))
    refine (go 2) ?_
    refine hKN _ _ (S9 [2,5]) (zw (by kernel_rfl) (yG (yW (ms++([mt2]:List Match)) j6 m5 (q - 1) (.slice A3 ((ms++([mt2]:List Match)).length) cp3) (sc rfl (sc rfl (sc rfl sn))) (S9 [3,4,1,2,5]) ?_ ?_)))
    ·have hY:=Pz.win_next hx1 (Pz.win_sep' h2 he4) h3 he6
     rw [Pz.then_ok] at hY
     exact ⟨hY.trans (by rw [show q - 1 + 1=q by omega]),by simp only [qL]; omega,by omega,by omega,by omega⟩
    omega
   refine za (i:=4) rfl fun KN hKN hPN=>zy yA ([mt2]:List Match) wn underlying55 inf179 rfl rfl rfl rfl qD qD rfl fun b31=>?_
   refine (go 1) ?_
   refine hKN _ _ (S9 [2,5]) (zf 3 1 (za (i:=1) rfl fun KN hKN hPN=>?_))
   refine (go 2) ?_
   refine hKN _ _ (S9 [2,5]) (zf 2 5 (za (i:=5) rfl fun KN hKN hPN=>yI 3 ms ([mt2]:List Match) encMatch wn rfl rfl rfl (fun _ hM=>(RowSl encMatch hM 0 rfl)) underlying55 inf179 rfl rfl (by simp only [qL]; omega) rfl fun A4 cp4 hc4 hm4 hA4=>?_))
   refine (go 1) ?_
   refine hKN _ _ (S9 [2,5]) (yJ 1 [6] [2,5] rfl fun KS hKS=>?_)
   refine (go 1) ?_
   refine zi hKS (zf 0 7 (za (i:=7) rfl fun KN hKN hPN=>?_))
   refine (go 2) ?_
   refine hKN _ _ (S9 [2,5]) (zw (by kernel_rfl) (yG (yW (ms++([mt2]:List Match)) j6 m5 (q - 1) (.slice A4 ((ms++([mt2]:List Match)).length) cp4) (sc rfl (sc rfl (sc rfl sn))) (S9 [3,4,1,2,5]) ?_ ?_)))
   ·have hY:=Pz.win_next hx1 (Pz.win_sep' h2 he4) h3 he6
    rw [Pz.then_ok] at hY
    exact ⟨hY.trans (by rw [show q - 1 + 1=q by omega]),by simp only [qL]; omega,by omega,by omega,by omega⟩
   omega
  refine (go 11) (zX (fun h4=>?_) fun h4=>?_)
  ·refine (go 2) ?_
   refine zZ (α:=Unit) (PT:=111) [Rb 114 p s j3 m,.pub zN] [Row (.slice A1 ms.length cp1) 179 3 yA ms,.blk b5 [iV 2,iV 0,iV 0,.string word,.slice A1 ms.length cp1,Zs,Zs] 59,.blk b4 Zx 59] (fun _:Unit=>.tuple #[]) (fun z8=>False) (fun z8=>[Rb 114 p s j3 m,.pub zN]) _ (fun f7=>f7=(5,(j3:Int))) (fun _=>rfl) (S9 [0,1,2,3,4]) (fun _=>rfl) wn rfl rfl call54 rfl (fun w1 Pb hG=>yi p s j3 m 5 Pb w1 hG) ?_ fun z8 hz8=>?_
   ·intro f7 hf7
    refine zR (zx (yS (zx (zR (zV fun w1 hM=>?_)))))
    have hY:=Pz.win_many hx1 (Pz.win_sep h2) h4
    exact hM.zd f7 (by simp only [Pz.then_ok,Pz.then_no,Pz.St.go,lgc,Pz.window,zB.e,zB.es,he1,he2,he3,g1,hY,hf7])
   exact hz8.elim
  refine (go 2) ?_
  refine yK (Mem w ⟨fpOf [Rb 114 p s i n,.pub zN],Pb⟩ [.pub zN,.blk b4 Zx 59]) mix (fun _ h=>h.drew) rfl (yJ 6 [0,2] [1,4] rfl fun KS hKS=>?_)
  refine (go 2) ?_
  refine zi hKS (yX (f:=5) (i:=1) (j:=3) rfl (by kernel_rfl) ?_ ?_)
  ·refine za (i:=1) rfl fun KN hKN hPN=>?_
   refine (go 2) ?_
   refine hKN _ _ (S9 [1,4]) (zf 4 3 (za (i:=3) rfl fun KN hKN hPN=>zZ (α:=Match × Pz.St) (PT:=111) [Rb 114 p s j3 m,.pub zN] [Row (.slice A1 ms.length cp1) 179 3 yA ms,.blk b5 [iV 2,iV 0,iV 0,.string word,.slice A1 ms.length cp1,Zs,Zs] 59,.blk b4 Zx 59] (fun z:Match × Pz.St=>.agg (yA z.1).toArray) (fun z9=>Pz.match_ s ⟨j3,m⟩=.ok z9∧Pz.Good s ⟨j3,m⟩ z9.2) (fun z9=>[Rb 114 p s z9.2.at_ z9.2.nd,.pub zN]) _ (fun f8=>Pz.match_ s ⟨j3,m⟩=.no f8) (fun _=>rfl) (S9 [0,1,2,3,4]) (fun _=>rfl) wn rfl rfl call213 rfl (fun w1 Pb hG=>uQ p s j3 m  Pb w1 hG qO qO qO ) ?_ fun z9 hz9=>?_))
   ·intro f8 hf8
    refine yn hPN (zx (yS (zx (zR (zV fun w1 hM=>?_)))))
    have hY:=Pz.win_next hx1 (Pz.win_sep h2) h4 hf8
    rw [Pz.then_no] at hY
    exact hM.zd f8 (by simp only [Pz.then_ok,Pz.then_no,Pz.St.go,lgc,Pz.window,zB.e,zB.es,he1,he2,he3,g1,hY])
   obtain ⟨mt3,j7,m6⟩:=z9
   have he7:Pz.match_ s ⟨j3,m⟩=.ok (mt3,⟨j7,m6⟩):=hz9.1
   have ga6:j7≤s.size:=hz9.2.at_
   have gm6:m≤m6:=hz9.2.mono
   have gn6:m6≤100:=hz9.2.most (show m≤100 by omega)
   refine (go 1) ?_
   refine hKN _ _ (S9 [1,4]) (zf 3 4 (za (i:=4) rfl fun KN hKN hPN=>zy yA ([mt3]:List Match) wn underlying55 inf179 rfl rfl rfl rfl qD qD rfl fun b31=>?_))
   refine (go 1) ?_
   refine hKN _ _ (S9 [2,5]) (zf 2 5 (za (i:=5) rfl fun KN hKN hPN=>yI 3 ms ([mt3]:List Match) encMatch wn rfl rfl rfl (fun _ hM=>(RowSl encMatch hM 0 rfl)) underlying55 inf179 rfl rfl (by simp only [qL]; omega) rfl fun A5 cp5 hc5 hm5 hA5=>?_))
   refine (go 1) ?_
   refine hKN _ _ (S9 [2,5]) (yJ 1 [6] [2,5] rfl fun KS hKS=>?_)
   refine (go 1) ?_
   refine zi hKS (zf 0 7 (za (i:=7) rfl fun KN hKN hPN=>?_))
   refine (go 2) ?_
   refine hKN _ _ (S9 [2,5]) (zw (by kernel_rfl) (yG (yW (ms++([mt3]:List Match)) j7 m6 (q - 1) (.slice A5 ((ms++([mt3]:List Match)).length) cp5) (sc rfl (sc rfl (sc rfl sn))) (S9 [3,4,1,2,5]) ?_ ?_)))
   ·have hY:=Pz.win_next hx1 (Pz.win_sep h2) h4 he7
    rw [Pz.then_ok] at hY
    exact ⟨hY.trans (by rw [show q - 1 + 1=q by omega]),by simp only [qL]; omega,by omega,by omega,by omega⟩
   omega
  refine za (i:=3) rfl fun KN hKN hPN=>zZ (α:=Match × Pz.St) (PT:=111) [Rb 114 p s j3 m,.pub zN] [Row (.slice A1 ms.length cp1) 179 3 yA ms,.blk b5 [iV 2,iV 0,iV 0,.string word,.slice A1 ms.length cp1,Zs,Zs] 59,.blk b4 Zx 59] (fun z:Match × Pz.St=>.agg (yA z.1).toArray) (fun z10=>Pz.match_ s ⟨j3,m⟩=.ok z10∧Pz.Good s ⟨j3,m⟩ z10.2) (fun z10=>[Rb 114 p s z10.2.at_ z10.2.nd,.pub zN]) _ (fun f9=>Pz.match_ s ⟨j3,m⟩=.no f9) (fun _=>rfl) (S9 [0,1,2,3,4]) (fun _=>rfl) wn rfl rfl call213 rfl (fun w1 Pb hG=>uQ p s j3 m  Pb w1 hG qO qO qO ) ?_ fun z10 hz10=>?_
  ·intro f9 hf9
   refine yn hPN (zx (yS (zx (zR (zV fun w1 hM=>?_)))))
   have hY:=Pz.win_next hx1 (Pz.win_sep h2) h4 hf9
   rw [Pz.then_no] at hY
   exact hM.zd f9 (by simp only [Pz.then_ok,Pz.then_no,Pz.St.go,lgc,Pz.window,zB.e,zB.es,he1,he2,he3,g1,hY])
  obtain ⟨mt4,j8,m7⟩:=z10
  have he8:Pz.match_ s ⟨j3,m⟩=.ok (mt4,⟨j8,m7⟩):=hz10.1
  have ga7:j8≤s.size:=hz10.2.at_
  have gm7:m≤m7:=hz10.2.mono
  have gn7:m7≤100:=hz10.2.most (show m≤100 by omega)
  refine (go 1) ?_
  refine hKN _ _ (S9 [1,4]) (yX (f:=4) (i:=1) (j:=4) rfl (by kernel_rfl) ?_ ?_)
  ·refine za (i:=1) rfl fun KN hKN hPN=>?_
   refine (go 2) ?_
   refine hKN _ _ (S9 [1,4]) (zf 3 4 (za (i:=4) rfl fun KN hKN hPN=>zy yA ([mt4]:List Match) wn underlying55 inf179 rfl rfl rfl rfl qD qD rfl fun b31=>?_))
   refine (go 1) ?_
   refine hKN _ _ (S9 [2,5]) (zf 2 5 (za (i:=5) rfl fun KN hKN hPN=>yI 3 ms ([mt4]:List Match) encMatch wn rfl rfl rfl (fun _ hM=>(RowSl encMatch hM 0 rfl)) underlying55 inf179 rfl rfl (by simp only [qL]; omega) rfl fun A6 cp6 hc6 hm6 hA6=>?_))
   refine (go 1) ?_
   refine hKN _ _ (S9 [2,5]) (yJ 1 [6] [2,5] rfl fun KS hKS=>?_)
   refine (go 1) ?_
   refine zi hKS (zf 0 7 (za (i:=7) rfl fun KN hKN hPN=>?_))
   refine (go 2) ?_
   refine hKN _ _ (S9 [2,5]) (zw (by kernel_rfl) (yG (yW (ms++([mt4]:List Match)) j8 m7 (q - 1) (.slice A6 ((ms++([mt4]:List Match)).length) cp6) (sc rfl (sc rfl (sc rfl sn))) (S9 [3,4,1,2,5]) ?_ ?_)))
   ·have hY:=Pz.win_next hx1 (Pz.win_sep h2) h4 he8
    rw [Pz.then_ok] at hY
    exact ⟨hY.trans (by rw [show q - 1 + 1=q by omega]),by simp only [qL]; omega,by omega,by omega,by omega⟩
   omega
  refine za (i:=4) rfl fun KN hKN hPN=>zy yA ([mt4]:List Match) wn underlying55 inf179 rfl rfl rfl rfl qD qD rfl fun b31=>?_
  refine (go 1) ?_
  refine hKN _ _ (S9 [2,5]) (zf 3 1 (za (i:=1) rfl fun KN hKN hPN=>?_))
  refine (go 2) ?_
  refine hKN _ _ (S9 [2,5]) (zf 2 5 (za (i:=5) rfl fun KN hKN hPN=>yI 3 ms ([mt4]:List Match) encMatch wn rfl rfl rfl (fun _ hM=>(RowSl encMatch hM 0 rfl)) underlying55 inf179 rfl rfl (by simp only [qL]; omega) rfl fun A7 cp7 hc7 hm7 hA7=>?_))
  refine (go 1) ?_
  refine hKN _ _ (S9 [2,5]) (yJ 1 [6] [2,5] rfl fun KS hKS=>?_)
  refine (go 1) ?_
  refine zi hKS (zf 0 7 (za (i:=7) rfl fun KN hKN hPN=>?_))
  refine (go 2) ?_
  refine hKN _ _ (S9 [2,5]) (zw (by kernel_rfl) (yG (yW (ms++([mt4]:List Match)) j8 m7 (q - 1) (.slice A7 ((ms++([mt4]:List Match)).length) cp7) (sc rfl (sc rfl (sc rfl sn))) (S9 [3,4,1,2,5]) ?_ ?_)))
  ·have hY:=Pz.win_next hx1 (Pz.win_sep h2) h4 he8
   rw [Pz.then_ok] at hY
   exact ⟨hY.trans (by rw [show q - 1 + 1=q by omega]),by simp only [qL]; omega,by omega,by omega,by omega⟩
  omega
 have g2:bo1=true:=by simpa using h1
 have hx2:=Pz.win_done hI1.1 (by rw [he3,g2])
 refine (go 8) ?_
 refine zZ (α:=Pz.St) (PT:=111) [Rb 114 p s j3 m,.pub zN] [Row (.slice A1 ms.length cp1) 179 3 yA ms,.blk b5 [iV 2,iV 0,iV 0,.string word,.slice A1 ms.length cp1,Zs,Zs] 59,.blk b4 Zx 59] (fun z:Pz.St=>.tuple #[]) (fun z11=>Pz.must s ⟨#[91]⟩ ⟨j3,m⟩=.ok z11∧Pz.Good s ⟨j3,m⟩ z11) (fun z11=>[Rb 114 p s z11.at_ z11.nd,.pub zN]) _ (fun f10=>Pz.must s ⟨#[91]⟩ ⟨j3,m⟩=.no f10) (fun _=>rfl) (S9 [0,1,2,3,4]) (fun _=>rfl) wn rfl rfl call179 rfl (fun w1 Pb hG=>yy p s j3 m ⟨#[91]⟩ Pb w1 hG qO qO qO ) ?_ fun z11 hz11=>?_
 ·intro f10 hf10
  refine zR (zV fun w1 hM=>?_)
  exact hM.zd f10 (by first | (simp only [Pz.then_ok,Pz.then_no,Pz.St.go,lgc,Pz.window,zB.e,zB.es,he1,he2,he3,g2,hx2,h1,hf10]; done) | simp [Pz.then_ok,Pz.then_no,Pz.St.go,lgc,Pz.window,zB.e,zB.es,he1,he2,he3,g2,hx2,h1,hf10])
 obtain ⟨j9,m8⟩:=z11
 have he9:Pz.must s ⟨#[91]⟩ ⟨j3,m⟩=.ok ⟨j9,m8⟩:=hz11.1
 have ga8:j9≤s.size:=hz11.2.at_
 have gm8:m≤m8:=hz11.2.mono
 have gn8:m8≤100:=hz11.2.most (show m≤100 by omega)
 refine (go 5) ?_
 refine zZ (α:=Int × Pz.St) (PT:=111) [Rb 114 p s j9 m8,.pub zN] [Row (.slice A1 ms.length cp1) 179 3 yA ms,.blk b5 [iV 2,iV 0,iV 0,.string word,.slice A1 ms.length cp1,Zs,Zs] 59,.blk b4 Zx 59] (fun z:Int × Pz.St=>iV z.1) (fun z12=>Pz.num s 1 100000 ⟨j9,m8⟩=.ok z12∧Pz.Good s ⟨j9,m8⟩ z12.2) (fun z12=>[Rb 114 p s z12.2.at_ z12.2.nd,.pub zN]) _ (fun f11=>Pz.num s 1 100000 ⟨j9,m8⟩=.no f11) (fun _=>rfl) (S9 [0,1,2,3,4]) (fun _=>rfl) wn rfl rfl call182 rfl (fun w1 Pb hG=>c_num p s j9 m8 1 100000 Pb w1 hG qO qO qO qO) ?_ fun z12 hz12=>?_
 ·intro f11 hf11
  refine zR (zV fun w1 hM=>?_)
  exact hM.zd f11 (by first | (simp only [Pz.then_ok,Pz.then_no,Pz.St.go,lgc,Pz.window,zB.e,zB.es,he1,he2,he3,g2,hx2,he9,h1,hf11]; done) | simp [Pz.then_ok,Pz.then_no,Pz.St.go,lgc,Pz.window,zB.e,zB.es,he1,he2,he3,g2,hx2,he9,h1,hf11])
 obtain ⟨v1,j10,m9⟩:=z12
 have he10:Pz.num s 1 100000 ⟨j9,m8⟩=.ok (v1,⟨j10,m9⟩):=hz12.1
 have ga9:j10≤s.size:=hz12.2.at_
 have gm9:m8≤m9:=hz12.2.mono
 have gn9:m9≤100:=hz12.2.most (show m8≤100 by omega)
 refine (go 7) ?_
 refine zZ (α:=Pz.St) (PT:=111) [Rb 114 p s j10 m9,.pub zN] [Row (.slice A1 ms.length cp1) 179 3 yA ms,.blk b5 [iV 2,iV 0,iV v1,.string word,.slice A1 ms.length cp1,Zs,Zs] 59,.blk b4 Zx 59] (fun z:Pz.St=>.tuple #[]) (fun z13=>Pz.must s ⟨#[93]⟩ ⟨j10,m9⟩=.ok z13∧Pz.Good s ⟨j10,m9⟩ z13) (fun z13=>[Rb 114 p s z13.at_ z13.nd,.pub zN]) _ (fun f12=>Pz.must s ⟨#[93]⟩ ⟨j10,m9⟩=.no f12) (fun _=>rfl) (S9 [0,1,2,3,4]) (fun _=>rfl) wn rfl rfl call179 rfl (fun w1 Pb hG=>yy p s j10 m9 ⟨#[93]⟩ Pb w1 hG qO qO qO ) ?_ fun z13 hz13=>?_
 ·intro f12 hf12
  refine zR (zV fun w1 hM=>?_)
  exact hM.zd f12 (by first | (simp only [Pz.then_ok,Pz.then_no,Pz.St.go,lgc,Pz.window,zB.e,zB.es,he1,he2,he3,g2,hx2,he9,he10,h1,hf12]; done) | simp [Pz.then_ok,Pz.then_no,Pz.St.go,lgc,Pz.window,zB.e,zB.es,he1,he2,he3,g2,hx2,he9,he10,h1,hf12])
 obtain ⟨j11,m10⟩:=z13
 have he11:Pz.must s ⟨#[93]⟩ ⟨j10,m9⟩=.ok ⟨j11,m10⟩:=hz13.1
 have ga10:j11≤s.size:=hz13.2.at_
 have gm10:m9≤m10:=hz13.2.mono
 have gn10:m10≤100:=hz13.2.most (show m9≤100 by omega)
 refine (go 5) ?_
 refine zZ (α:=Pz.St) (PT:=111) [Rb 114 p s j11 m10,.pub zN] [Row (.slice A1 ms.length cp1) 179 3 yA ms,.blk b5 [iV 2,iV 0,iV v1,.string word,.slice A1 ms.length cp1,Zs,Zs] 59,.blk b4 Zx 59] (fun z:Pz.St=>.tuple #[]) (fun z14=>Pz.must s ⟨#[41]⟩ ⟨j11,m10⟩=.ok z14∧Pz.Good s ⟨j11,m10⟩ z14) (fun z14=>[Rb 114 p s z14.at_ z14.nd,.pub zN]) _ (fun f13=>Pz.must s ⟨#[41]⟩ ⟨j11,m10⟩=.no f13) (fun _=>rfl) (S9 [0,1,2,3,4]) (fun _=>rfl) wn rfl rfl call179 rfl (fun w1 Pb hG=>yy p s j11 m10 ⟨#[41]⟩ Pb w1 hG qO qO qO ) ?_ fun z14 hz14=>?_
 ·intro f13 hf13
  refine zR (zV fun w1 hM=>?_)
  exact hM.zd f13 (by first | (simp only [Pz.then_ok,Pz.then_no,Pz.St.go,lgc,Pz.window,zB.e,zB.es,he1,he2,he3,g2,hx2,he9,he10,he11,h1,hf13]; done) | simp [Pz.then_ok,Pz.then_no,Pz.St.go,lgc,Pz.window,zB.e,zB.es,he1,he2,he3,g2,hx2,he9,he10,he11,h1,hf13])
 obtain ⟨j12,m11⟩:=z14
 have he12:Pz.must s ⟨#[41]⟩ ⟨j11,m10⟩=.ok ⟨j12,m11⟩:=hz14.1
 have ga11:j12≤s.size:=hz14.2.at_
 have gm11:m10≤m11:=hz14.2.mono
 have gn11:m11≤100:=hz14.2.most (show m10≤100 by omega)
 refine (go 6) ?_
 refine y6 2 0 encMatch rfl rfl (fp2) (vt (fun _ h=>h.exprG (k:=2) (n:=0) (r:=v1) (wd:=word) (ms:=⟨A1,cp1,ms⟩) (bs:=⟨none,0,[]⟩) (ks:=⟨none,0,[]⟩) (fun _ pp=>pp.sl 2 rfl) (fun _ _=>zD.zt _ _ _ _) (fun _ _=>zD.zt _ _ _ _) (fun _ _ x hx=>by cases hx) (by first | decide | omega) (fun x hx=>by have:=Pz.winL_size 6 (by show _≤s.size; omega) hx2 (fun _ h=>by cases h) x hx; omega) (fun x hx=>by cases hx)) (zZ (α:=Unit) (PT:=111) [Rb 114 p s j12 m11,.pub zN] [okP zB.Ok (zB.mk 2 0 v1 word ⟨A1,cp1,ms⟩ ⟨none,0,[]⟩ ⟨none,0,[]⟩),slP 3 yA (.slice A1 ms.length cp1) ms,.blk b5 [iV 2,iV 0,iV v1,.string word,.slice A1 ms.length cp1,Zs,Zs] 59,.blk b4 Zx 59] (fun _:Unit=>.agg (List.toArray [iV 2,iV 0,iV v1,.string word,.slice A1 ms.length cp1,Zs,Zs])) (fun z15=>m11 + 1≤100) (fun z15=>[Rb 114 p s j12 (m11 + 1),.pub zN]) _ (fun f14=>Pz.node ⟨j12,m11⟩=.no f14) (fun _=>rfl) (S9 [1,2,0,3,4,5]) (fun _=>rfl) wn rfl rfl call99 rfl (fun w1 Pb hG=>vk p s j12 m11 2 0 v1 word A1 ms.length cp1 none 0 0 none 0 0 Pb w1 hG qO qO qO) ?_ fun z15 hz15=>?_))
 ·intro f14 hf14
  refine zR (zV fun w1 hM=>?_)
  exact hM.zd f14 (by first | (simp only [Pz.then_ok,Pz.then_no,Pz.St.go,lgc,Pz.window,zB.e,zB.es,he1,he2,he3,g2,hx2,he9,he10,he11,he12,h1,hf14]; done) | simp [Pz.then_ok,Pz.then_no,Pz.St.go,lgc,Pz.window,zB.e,zB.es,he1,he2,he3,g2,hx2,he9,he10,he11,he12,h1,hf14])
 have he13:Pz.node ⟨j12,m11⟩=.ok ⟨j12,m11 + 1⟩:=Pz.node_yes hz15
 refine (go 4) (zY results183 fun w1 hM=>?_)
 have h9:Pz.window s word ⟨i,n⟩=.ok ((zB.mk 2 0 v1 word ⟨A1,cp1,ms⟩ ⟨none,0,[]⟩ ⟨none,0,[]⟩).e,⟨j12,(m11 + 1)⟩):=by first | (simp only [Pz.then_ok,Pz.then_no,Pz.St.go,lgc,Pz.window,zB.e,zB.es,he1,he2,he3,g2,hx2,he9,he10,he11,he12,he13,h1]; done) | simp [Pz.then_ok,Pz.then_no,Pz.St.go,lgc,Pz.window,zB.e,zB.es,he1,he2,he3,g2,hx2,he9,he10,he11,he12,he13,h1]
 exact hM.vZ (((zB.mk 2 0 v1 word ⟨A1,cp1,ms⟩ ⟨none,0,[]⟩ ⟨none,0,[]⟩),⟨j12,(m11 + 1)⟩):zB × Pz.St) rfl ⟨h9,(Pz.window_fine _ hi).ok_ h9⟩ (fun h=>h.sel [0,1,2] qD rfl)
def FacC (N:Nat):Prop:=∀ (p:Nat) (s:ByteArray) (i:Nat) (n d:Int) (Pb:Nat→Prop) (w:World) (hG:Mem w ⟨fpOf [Rb 114 p s i n,.pub zN],Pb⟩ [Rb 114 p s i n,.pub zN] w) (hi:i≤s.size) (hs:s.size≤2000) (hn:0≤n∧n≤100) (hd:d + (N:Int)=21) (hd1:1≤d),
    Calls prog 147 #[.pointer (some ⟨p,0,none⟩),iV d] w (RetX w [Rb 114 p s i n,.pub zN] Pb 111 (fun z:zB × Pz.St=>.agg (zu z.1).toArray) (fun z=>Pz.fac s N ⟨i,n⟩=.ok (z.1.e,z.2)∧Pz.Good s ⟨i,n⟩ z.2) (fun z=>[Rb 114 p s z.2.at_ z.2.nd,.pub zN,okP zB.Ok z.1]) (fun f=>Pz.fac s N ⟨i,n⟩=.no f))
def TrmC (N:Nat):Prop:=∀ (p:Nat) (s:ByteArray) (i:Nat) (n d:Int) (Pb:Nat→Prop) (w:World) (hG:Mem w ⟨fpOf [Rb 114 p s i n,.pub zN],Pb⟩ [Rb 114 p s i n,.pub zN] w) (hi:i≤s.size) (hs:s.size≤2000) (hn:0≤n∧n≤100) (hd:d + (N:Int)=21) (hd1:1≤d),
    Calls prog 97 #[.pointer (some ⟨p,0,none⟩),iV d] w (RetX w [Rb 114 p s i n,.pub zN] Pb 111 (fun z:zB × Pz.St=>.agg (zu z.1).toArray) (fun z=>Pz.trm s N ⟨i,n⟩=.ok (z.1.e,z.2)∧Pz.Good s ⟨i,n⟩ z.2) (fun z=>[Rb 114 p s z.2.at_ z.2.nd,.pub zN,okP zB.Ok z.1]) (fun f=>Pz.trm s N ⟨i,n⟩=.no f))
def XprC (N:Nat):Prop:=∀ (p:Nat) (s:ByteArray) (i:Nat) (n d:Int) (Pb:Nat→Prop) (w:World) (hG:Mem w ⟨fpOf [Rb 114 p s i n,.pub zN],Pb⟩ [Rb 114 p s i n,.pub zN] w) (hi:i≤s.size) (hs:s.size≤2000) (hn:0≤n∧n≤100) (hd:d + (N:Int)=21) (hd1:1≤d),
    Calls prog 52 #[.pointer (some ⟨p,0,none⟩),iV d] w (RetX w [Rb 114 p s i n,.pub zN] Pb 111 (fun z:zB × Pz.St=>.agg (zu z.1).toArray) (fun z=>Pz.xpr s N ⟨i,n⟩=.ok (z.1.e,z.2)∧Pz.Good s ⟨i,n⟩ z.2) (fun z=>[Rb 114 p s z.2.at_ z.2.nd,.pub zN,okP zB.Ok z.1]) (fun f=>Pz.xpr s N ⟨i,n⟩=.no f))
set_option maxHeartbeats 20000000 in
theorem c_all (p:Nat) (s:ByteArray) (i:Nat) (n:Int) (d:Int) (N:Nat) (Pb:Nat→Prop) (w:World) (hG:Mem w ⟨fpOf [Rb 114 p s i n,.pub zN],Pb⟩ [Rb 114 p s i n,.pub zN] w) (hi:i≤s.size) (hs:s.size≤2000) (hn:0≤n∧n≤100) (hd:d + 1 + (N:Int)=21) (hd1:1≤d) (ih:XprC N) :
    Calls prog 181 #[.pointer (some ⟨p,0,none⟩),iV d] w (RetX w [Rb 114 p s i n,.pub zN] Pb 111 (fun z:zB × Pz.St=>.agg (zu z.1).toArray) (fun z=>Pz.all s (Pz.xpr s N) ⟨i,n⟩=.ok (z.1.e,z.2)∧Pz.Good s ⟨i,n⟩ z.2) (fun z=>[Rb 114 p s z.2.at_ z.2.nd,.pub zN,okP zB.Ok z.1]) (fun f=>Pz.all s (Pz.xpr s N) ⟨i,n⟩=.no f)):=by
 refine zr (N:=85) func181 hG ?_
 refine (go 2) (zz fun b4=>?_)
 refine (go 5) ?_
 refine yM (α:=Nat) [Rb 114 p s i n,.pub zN] [.blk b4 Zx 59] (fun _=>.tuple #[]) (fun j1=>(Pz.blank s i=j1∧i≤j1∧j1≤s.size)) (fun j1=>[Rb 114 p s j1 n,.pub zN]) _ (fun _=>rfl) (S9 [1,2,0]) (fun _=>rfl) wn rfl rfl call53 rfl (fun w1 Pb hG=>vj p s i n Pb w1 hG qO qO) fun j1 hz1=>?_
 obtain ⟨hz1e,hz1a,hz1b⟩:=hz1
 refine (go 14) ?_
 refine zZ (α:=ByteArray × Pz.St) (PT:=111) [Rb 114 p s j1 n,.pub zN] [.blk b4 Zx 59] (fun z:ByteArray × Pz.St=>.string z.1) (fun z1=>Pz.name s ⟨j1,n⟩=.ok z1∧Pz.Good s ⟨j1,n⟩ z1.2) (fun z1=>[Rb 114 p s z1.2.at_ z1.2.nd,.pub zN]) _ (fun f1=>Pz.name s ⟨j1,n⟩=.no f1) (fun _=>rfl) (S9 [0,1,2]) (fun _=>rfl) wn rfl rfl call211 rfl (fun w1 Pb hG=>vB p s j1 n  Pb w1 hG qO qO qO ) ?_ fun z1 hz2=>?_
 ·intro f1 hf1
  refine zR (zV fun w1 hM=>?_)
  exact hM.zd f1 (by first | (simp only [Pz.then_ok,Pz.then_no,Pz.St.go,lgc,Pz.all,Pz.bys,Pz.allTail,zB.e,zB.es,hz1e,hf1]; done) | simp [Pz.then_ok,Pz.then_no,Pz.St.go,lgc,Pz.all,Pz.bys,Pz.allTail,zB.e,zB.es,hz1e,hf1])
 obtain ⟨wd1,j2,m1⟩:=z1
 have he1:Pz.name s ⟨j1,n⟩=.ok (wd1,⟨j2,m1⟩):=hz2.1
 have ga1:j2≤s.size:=hz2.2.at_
 have gm1:n≤m1:=hz2.2.mono
 have gn1:m1≤100:=hz2.2.most (show n≤100 by omega)
 have wz1:wd1.size≤12:=Pz.name_size (t:=⟨j1,n⟩) (show j1≤_ by omega) he1
 refine y7 (.string wd1) ?_
 refine (go 1) (zz fun b6=>?_)
 refine (go 5) ?_
 refine yK (Mem w ⟨fpOf [Rb 114 p s i n,.pub zN],Pb⟩ [.blk b6 [iV 3,iV 0,iV 0,.string wd1,Zs,Zs,Zs] 59,Rb 114 p s j2 m1,.pub zN,.blk b4 Zx 59]) mix (fun _ h=>h.drew) rfl (uD (f:=3) [1,2] rfl rfl (by kernel_rfl) (by kernel_rfl) (fun _ h=>h) fun KS hKS=>?_)
 refine (go 2) ?_
 refine zi hKS (zf 2 0 (za (i:=0) rfl fun KN hKN hPN=>vW Lg.totals wn rfl call151 rfl (fun w1 hM=>c_Totals  w1) fun A1 cp1 hc1 hm1 hA1=>?_))
 refine (go 1) ?_
 refine hKN _ _ (S9 [1,2,3,4]) (zf 1 3 (za (i:=3) rfl fun KN hKN hPN=>yH call150 wn rfl (fun w1 hM=>vR _ Lg.totals wd1 w1 (RowSl encString hM 0 rfl)) ?_))
 refine (go 1) ?_
 refine hKN _ _ (S9 [1,2,3,4]) (yJ 0 [4] [1,2,3,4] rfl fun KS hKS=>?_)
 refine (go 1) ?_
 refine zi hKS ?_
 refine zw (by kernel_rfl) ((go 1) (zX (fun h1=>?_) fun h1=>?_))
 ·refine (go 11) ?_
  refine zZ (α:=Unit) (PT:=111) [Rb 114 p s j1 m1,.pub zN] [Row (.slice A1 Lg.totals.length cp1) 9 1 strE Lg.totals,.blk b6 [iV 3,iV 0,iV 0,.string wd1,Zs,Zs,Zs] 59,.blk b4 Zx 59] (fun _:Unit=>.tuple #[]) (fun z2=>False) (fun z2=>[Rb 114 p s j1 m1,.pub zN]) _ (fun f2=>f2=(7,(j1:Int))) (fun _=>rfl) (S9 [2,3,0,1,4]) (fun _=>rfl) wn rfl rfl call54 rfl (fun w1 Pb hG=>yi p s j1 m1 7 Pb w1 hG) ?_ fun z2 hz3=>?_
  ·intro f2 hf2
   refine zR (zV fun w1 hM=>?_)
   exact hM.zd f2 (by first | (simp only [Pz.then_ok,Pz.then_no,Pz.St.go,lgc,Pz.all,Pz.bys,Pz.allTail,zB.e,zB.es,hz1e,he1,h1,hf2]; done) | simp [Pz.then_ok,Pz.then_no,Pz.St.go,lgc,Pz.all,Pz.bys,Pz.allTail,zB.e,zB.es,hz1e,he1,h1,hf2])
  exact hz3.elim
 refine (go 5) ?_
 refine yM (α:=Nat) [Rb 114 p s j2 m1,.pub zN] [Row (.slice A1 Lg.totals.length cp1) 9 1 strE Lg.totals,.blk b6 [iV 3,iV 0,iV 0,.string wd1,Zs,Zs,Zs] 59,.blk b4 Zx 59] (fun _=>.tuple #[]) (fun j3=>(Pz.blank s j2=j3∧j2≤j3∧j3≤s.size)) (fun j3=>[Rb 114 p s j3 m1,.pub zN]) _ (fun _=>rfl) (S9 [2,3,0,1,4]) (fun _=>rfl) wn rfl rfl call53 rfl (fun w1 Pb hG=>vj p s j2 m1 Pb w1 hG qO qO) fun j3 hz4=>?_
 obtain ⟨hz4e,hz4a,hz4b⟩:=hz4
 refine (go 15) ?_
 refine zZ (α:=ByteArray × Pz.St) (PT:=111) [Rb 114 p s j3 m1,.pub zN] [Row (.slice A1 Lg.totals.length cp1) 9 1 strE Lg.totals,.blk b6 [iV 3,iV 0,iV 0,.string wd1,Zs,Zs,Zs] 59,.blk b4 Zx 59] (fun z:ByteArray × Pz.St=>.string z.1) (fun z3=>Pz.word s ⟨j3,m1⟩=.ok z3∧Pz.Good s ⟨j3,m1⟩ z3.2) (fun z3=>[Rb 114 p s z3.2.at_ z3.2.nd,.pub zN]) _ (fun f3=>Pz.word s ⟨j3,m1⟩=.no f3) (fun _=>rfl) (S9 [0,1,2,3,4]) (fun _=>rfl) wn rfl rfl call180 rfl (fun w1 Pb hG=>jS p s j3 m1  Pb w1 hG qO qO qO ) ?_ fun z3 hz5=>?_
 ·intro f3 hf3
  refine zR (zR (zV fun w1 hM=>?_))
  exact hM.zd f3 (by first | (simp only [Pz.then_ok,Pz.then_no,Pz.St.go,lgc,Pz.all,Pz.bys,Pz.allTail,zB.e,zB.es,hz1e,he1,hz4e,h1,hf3]; done) | simp [Pz.then_ok,Pz.then_no,Pz.St.go,lgc,Pz.all,Pz.bys,Pz.allTail,zB.e,zB.es,hz1e,he1,hz4e,h1,hf3])
 obtain ⟨wd2,j4,m2⟩:=z3
 have he2:Pz.word s ⟨j3,m1⟩=.ok (wd2,⟨j4,m2⟩):=hz5.1
 have ga2:j4≤s.size:=hz5.2.at_
 have gm2:m1≤m2:=hz5.2.mono
 have gn2:m2≤100:=hz5.2.most (show m1≤100 by omega)
 have wz2:wd2.size≤12:=Pz.word_size (t:=⟨j3,m1⟩) (show j3≤_ by omega) he2
 refine y7 (.string wd2) ?_
 refine (go 8) (yN 38 (fun h2=>?_) fun h2=>?_)
 ·have g1:(wd2=⟨#[]⟩)=False:=eq_false h2
  refine (go 5) (zX (fun h3=>?_) fun h3=>?_)
  ·have g2:(wd2=⟨#[98,121]⟩)=False:=eq_false h3
   refine (go 11) ?_
   refine zZ (α:=Unit) (PT:=111) [Rb 114 p s j3 m2,.pub zN] [Row (.slice A1 Lg.totals.length cp1) 9 1 strE Lg.totals,.blk b6 [iV 3,iV 0,iV 0,.string wd1,Zs,Zs,Zs] 59,.blk b4 Zx 59] (fun _:Unit=>.tuple #[]) (fun z4=>False) (fun z4=>[Rb 114 p s j3 m2,.pub zN]) _ (fun f4=>f4=(2,(j3:Int))) (fun _=>rfl) (S9 [0,1,2,3,4]) (fun _=>rfl) wn rfl rfl call54 rfl (fun w1 Pb hG=>yi p s j3 m2 2 Pb w1 hG) ?_ fun z4 hz6=>?_
   ·intro f4 hf4
    refine zR (zV fun w1 hM=>?_)
    exact hM.zd f4 (by first | (simp only [Pz.then_ok,Pz.then_no,Pz.St.go,lgc,Pz.all,Pz.bys,Pz.allTail,zB.e,zB.es,hz1e,he1,hz4e,he2,g1,g2,h1,hf4]; done) | simp [Pz.then_ok,Pz.then_no,Pz.St.go,lgc,Pz.all,Pz.bys,Pz.allTail,zB.e,zB.es,hz1e,he1,hz4e,he2,g1,g2,h1,hf4])
   exact hz6.elim
  have g3:(wd2=⟨#[98,121]⟩)=True:=eq_true (Classical.not_not.1 h3)
  refine (go 6) ?_
  refine y8 rfl (decide_eq_true (Classical.not_not.1 h3)) ?_
  refine (go 1) ?_
  refine yK (Mem w ⟨fpOf [Rb 114 p s i n,.pub zN],Pb⟩ [.pub zN,Row (.slice A1 Lg.totals.length cp1) 9 1 strE Lg.totals,.blk b4 Zx 59]) mix (fun _ h=>h.drew) rfl (yJ 6 [0,2] [1,2,4] rfl fun KS hKS=>?_)
  refine (go 2) ?_
  refine zi hKS (yX (f:=5) (i:=1) (j:=3) rfl (by kernel_rfl) ?_ ?_)
  ·refine za (i:=1) rfl fun KN hKN hPN=>?_
   refine (go 2) ?_
   refine hKN _ _ (S9 [1,2,4]) (zf 4 3 (za (i:=3) rfl fun KN hKN hPN=>zZ (α:=ByteArray × Pz.St) (PT:=111) [Rb 114 p s j4 m2,.pub zN] [Row (.slice A1 Lg.totals.length cp1) 9 1 strE Lg.totals,.blk b6 [iV 3,iV 0,iV 0,.string wd1,Zs,Zs,Zs] 59,.blk b4 Zx 59] (fun z:ByteArray × Pz.St=>.string z.1) (fun z5=>Pz.name s ⟨j4,m2⟩=.ok z5∧Pz.Good s ⟨j4,m2⟩ z5.2) (fun z5=>[Rb 114 p s z5.2.at_ z5.2.nd,.pub zN]) _ (fun f5=>Pz.name s ⟨j4,m2⟩=.no f5) (fun _=>rfl) (S9 [0,1,2,3,4]) (fun _=>rfl) wn rfl rfl call211 rfl (fun w1 Pb hG=>vB p s j4 m2  Pb w1 hG qO qO qO ) ?_ fun z5 hz7=>?_))
   ·intro f5 hf5
    refine yn hPN (zR (zR (zV fun w1 hM=>?_)))
    exact hM.zd f5 (by first | (simp only [Pz.then_ok,Pz.then_no,Pz.St.go,lgc,Pz.all,Pz.bys,Pz.allTail,zB.e,zB.es,hz1e,he1,hz4e,he2,g1,g3,h1,hf5]; done) | simp [Pz.then_ok,Pz.then_no,Pz.St.go,lgc,Pz.all,Pz.bys,Pz.allTail,zB.e,zB.es,hz1e,he1,hz4e,he2,g1,g3,h1,hf5])
   obtain ⟨wd3,j5,m3⟩:=z5
   have he3:Pz.name s ⟨j4,m2⟩=.ok (wd3,⟨j5,m3⟩):=hz7.1
   have ga3:j5≤s.size:=hz7.2.at_
   have gm3:m2≤m3:=hz7.2.mono
   have gn3:m3≤100:=hz7.2.most (show m2≤100 by omega)
   have wz3:wd3.size≤12:=Pz.name_size (t:=⟨j4,m2⟩) (show j4≤_ by omega) he3
   refine y7 (.string wd3) ?_
   refine (go 1) ?_
   refine hKN _ _ (S9 [1,2,4]) (zf 3 4 (za (i:=4) rfl fun KN hKN hPN=>zy strE ([wd3]:List ByteArray) wn underlying56 inf9 rfl rfl rfl rfl qD qD rfl fun b54=>?_))
   refine (go 1) ?_
   refine hKN _ _ (S9 [2,3,5]) (zf 2 5 (za (i:=5) rfl fun KN hKN hPN=>yD (strE:ByteArray→List Value) 9 1 (yI 0 ([]:List ByteArray) ([wd3]:List ByteArray) encString wn rfl rfl rfl (fun _ hM=>(RowSl encString hM 1 rfl)) underlying56 inf9 rfl rfl (by simp only [qL]; omega) rfl fun A2 cp2 hc2 hm2 hA2=>?_)))
   refine (go 1) ?_
   refine hKN _ _ (S9 [3,4,6]) (yJ 1 [6] [3,4,6] rfl fun KS hKS=>?_)
   refine (go 1) ?_
   refine zi hKS (zf 0 7 (za (i:=7) rfl fun KN hKN hPN=>?_))
   refine (go 2) ?_
   refine hKN _ _ (S9 [3,4,6]) ?_
   refine zw (by kernel_rfl) ((go 1) ?_)
   refine (go 1) ?_
   refine uM (fun (l:List ByteArray) (k:Nat) (m:Int) (q:Nat) (rv:Value)=>[(0,.pointer (some ⟨p,0,none⟩)),(1,iV d),(4,.pointer (some ⟨b4,0,none⟩)),(6,.pointer (some ⟨b6,0,none⟩))]) (fun (l:List ByteArray) (k:Nat) (m:Int) (q:Nat) (rv:Value)=>[Row rv 9 1 strE l,Row (.slice (some ⟨b54,0,none⟩) 1 1) 9 1 strE ([wd3]:List ByteArray),Rb 114 p s k m,.pub zN,Row (.slice A1 Lg.totals.length cp1) 9 1 strE Lg.totals,.blk b6 [iV 3,iV 0,iV 0,.string wd1,Zs,rv,Zs] 59,.blk b4 Zx 59]) (fun (l:List ByteArray) (k:Nat) (m:Int) (q:Nat) (rv:Value)=>Pz.byL s 5 [wd3] ⟨j5,m3⟩=Pz.byL s (q + 1) l ⟨k,m⟩∧l.length + q=5∧l.length≤4∧k≤s.size∧m3≤m∧m≤100) (fun (l:List ByteArray) (k:Nat) (m:Int) (q:Nat) (rv:Value)=>q) (([]:List ByteArray)++([wd3]:List ByteArray)) j5 m3 4 (.slice A2 ((([]:List ByteArray)++([wd3]:List ByteArray)).length) cp2) (sc rfl (sc rfl (sc rfl (sc rfl sn)))) (fun _ h=>h) ?_ (fun l k m q rv hI1=>?_)
   ·exact ⟨rfl,rfl,by simp,by omega,by omega,by omega⟩
   refine yU 0 (l:=l) rfl fun A3 cp3 hv1 hc3 hm3 hA3=>?_
   subst hv1
   refine (go 4) ?_
   refine yM (α:=(Bool × Nat)) [Rb 114 p s k m,.pub zN] [Row (.slice A3 l.length cp3) 9 1 strE l,Row (.slice (some ⟨b54,0,none⟩) 1 1) 9 1 strE ([wd3]:List ByteArray),Row (.slice A1 Lg.totals.length cp1) 9 1 strE Lg.totals,.blk b6 [iV 3,iV 0,iV 0,.string wd1,Zs,.slice A3 l.length cp3,Zs] 59,.blk b4 Zx 59] (fun z:Bool × Nat=>.bool z.1) (fun z6=>(Pz.eat s ⟨#[44]⟩ k=z6∧k≤z6.2∧z6.2≤s.size)) (fun z6=>[Rb 114 p s z6.2 m,.pub zN]) _ (fun _=>rfl) (S9 [2,3,0,1,4,5,6]) (fun _=>rfl) wn rfl rfl call98 rfl (fun w1 Pb hG=>vo p s k m ⟨#[44]⟩ Pb w1 hG qO qO) fun z6 hz8=>?_
   obtain ⟨bo1,j6⟩:=z6
   have he4:Pz.eat s ⟨#[44]⟩ k=(bo1,j6):=hz8.1
   have hz8a:k≤j6:=hz8.2.1
   have hz8b:j6≤s.size:=hz8.2.2
   refine y7 (.bool bo1) ?_
   refine (go 2) (yb (fun h4=>?_) fun h4=>?_)
   ·have hx1:=hI1.1
    refine (go 12) (zX (fun h5=>?_) fun h5=>?_)
    ·refine (go 2) ?_
     refine zZ (α:=Unit) (PT:=111) [Rb 114 p s j6 m,.pub zN] [Row (.slice A3 l.length cp3) 9 1 strE l,Row (.slice (some ⟨b54,0,none⟩) 1 1) 9 1 strE ([wd3]:List ByteArray),Row (.slice A1 Lg.totals.length cp1) 9 1 strE Lg.totals,.blk b6 [iV 3,iV 0,iV 0,.string wd1,Zs,.slice A3 l.length cp3,Zs] 59,.blk b4 Zx 59] (fun _:Unit=>.tuple #[]) (fun z7=>False) (fun z7=>[Rb 114 p s j6 m,.pub zN]) _ (fun f6=>f6=(5,(j6:Int))) (fun _=>rfl) (S9 [0,1,2,3,4,5,6]) (fun _=>rfl) wn rfl rfl call54 rfl (fun w1 Pb hG=>yi p s j6 m 5 Pb w1 hG) ?_ fun z7 hz9=>?_
     ·intro f6 hf6
      refine zR (zx (yS (zx (zR (zV fun w1 hM=>?_)))))
      have hY:=Pz.by_many hx1 (by rw [he4,h4]) h5
      exact hM.zd f6 (by simp only [Pz.then_ok,Pz.then_no,Pz.St.go,lgc,Pz.all,Pz.bys,Pz.allTail,zB.e,zB.es,hz1e,he1,hz4e,he2,g1,g3,he3,he4,h1,hY,hf6])
     exact hz9.elim
    refine (go 2) ?_
    refine yK (Mem w ⟨fpOf [Rb 114 p s i n,.pub zN],Pb⟩ [.pub zN,Row (.slice (some ⟨b54,0,none⟩) 1 1) 9 1 strE ([wd3]:List ByteArray),Row (.slice A1 Lg.totals.length cp1) 9 1 strE Lg.totals,.blk b4 Zx 59]) mix (fun _ h=>h.drew) rfl (yJ 6 [0,2] [1,3,4,6] rfl fun KS hKS=>?_)
    refine (go 2) ?_
    refine zi hKS (yX (f:=5) (i:=1) (j:=3) rfl (by kernel_rfl) ?_ ?_)
    ·refine za (i:=1) rfl fun KN hKN hPN=>?_
     refine (go 2) ?_
     refine hKN _ _ (S9 [1,3,4,6]) (zf 4 3 (za (i:=3) rfl fun KN hKN hPN=>zZ (α:=ByteArray × Pz.St) (PT:=111) [Rb 114 p s j6 m,.pub zN] [Row (.slice A3 l.length cp3) 9 1 strE l,Row (.slice (some ⟨b54,0,none⟩) 1 1) 9 1 strE ([wd3]:List ByteArray),Row (.slice A1 Lg.totals.length cp1) 9 1 strE Lg.totals,.blk b6 [iV 3,iV 0,iV 0,.string wd1,Zs,.slice A3 l.length cp3,Zs] 59,.blk b4 Zx 59] (fun z:ByteArray × Pz.St=>.string z.1) (fun z8=>Pz.name s ⟨j6,m⟩=.ok z8∧Pz.Good s ⟨j6,m⟩ z8.2) (fun z8=>[Rb 114 p s z8.2.at_ z8.2.nd,.pub zN]) _ (fun f7=>Pz.name s ⟨j6,m⟩=.no f7) (fun _=>rfl) (S9 [0,1,2,3,4,5,6]) (fun _=>rfl) wn rfl rfl call211 rfl (fun w1 Pb hG=>vB p s j6 m  Pb w1 hG qO qO qO ) ?_ fun z8 hz10=>?_))
     ·intro f7 hf7
      refine yn hPN (zx (yS (zx (zR (zV fun w1 hM=>?_)))))
      have hY:=Pz.by_next hx1 (by rw [he4,h4]) h5 hf7
      rw [Pz.then_no] at hY
      exact hM.zd f7 (by simp only [Pz.then_ok,Pz.then_no,Pz.St.go,lgc,Pz.all,Pz.bys,Pz.allTail,zB.e,zB.es,hz1e,he1,hz4e,he2,g1,g3,he3,he4,h1,hY])
     obtain ⟨wd4,j7,m4⟩:=z8
     have he5:Pz.name s ⟨j6,m⟩=.ok (wd4,⟨j7,m4⟩):=hz10.1
     have ga4:j7≤s.size:=hz10.2.at_
     have gm4:m≤m4:=hz10.2.mono
     have gn4:m4≤100:=hz10.2.most (show m≤100 by omega)
     have wz4:wd4.size≤12:=Pz.name_size (t:=⟨j6,m⟩) (show j6≤_ by omega) he5
     refine y7 (.string wd4) ?_
     refine (go 1) ?_
     refine hKN _ _ (S9 [1,3,4,6]) (zf 3 4 (za (i:=4) rfl fun KN hKN hPN=>zy strE ([wd4]:List ByteArray) wn underlying56 inf9 rfl rfl rfl rfl qD qD rfl fun b69=>?_))
     refine (go 1) ?_
     refine hKN _ _ (S9 [2,4,5,7]) (zf 2 5 (za (i:=5) rfl fun KN hKN hPN=>yI 3 l ([wd4]:List ByteArray) encString wn rfl rfl rfl (fun _ hM=>(RowSl encString hM 0 rfl)) underlying56 inf9 rfl rfl (by simp only [qL]; omega) rfl fun A4 cp4 hc4 hm4 hA4=>?_))
     refine (go 1) ?_
     refine hKN _ _ (S9 [2,4,5,7]) (yJ 1 [6] [2,4,5,7] rfl fun KS hKS=>?_)
     refine (go 1) ?_
     refine zi hKS (zf 0 7 (za (i:=7) rfl fun KN hKN hPN=>?_))
     refine (go 2) ?_
     refine hKN _ _ (S9 [2,4,5,7]) (zw (by kernel_rfl) (yG (yW (l++([wd4]:List ByteArray)) j7 m4 (q - 1) (.slice A4 ((l++([wd4]:List ByteArray)).length) cp4) (sc rfl (sc rfl (sc rfl (sc rfl sn)))) (S9 [3,4,1,2,5,6,7]) ?_ ?_)))
     ·have hY:=Pz.by_next hx1 (by rw [he4,h4]) h5 he5
      rw [Pz.then_ok] at hY
      exact ⟨hY.trans (by rw [show q - 1 + 1=q by omega]),by simp only [qL]; omega,by simp only [qL]; omega,by omega,by omega,by omega⟩
     omega
    refine za (i:=3) rfl fun KN hKN hPN=>zZ (α:=ByteArray × Pz.St) (PT:=111) [Rb 114 p s j6 m,.pub zN] [Row (.slice A3 l.length cp3) 9 1 strE l,Row (.slice (some ⟨b54,0,none⟩) 1 1) 9 1 strE ([wd3]:List ByteArray),Row (.slice A1 Lg.totals.length cp1) 9 1 strE Lg.totals,.blk b6 [iV 3,iV 0,iV 0,.string wd1,Zs,.slice A3 l.length cp3,Zs] 59,.blk b4 Zx 59] (fun z:ByteArray × Pz.St=>.string z.1) (fun z9=>Pz.name s ⟨j6,m⟩=.ok z9∧Pz.Good s ⟨j6,m⟩ z9.2) (fun z9=>[Rb 114 p s z9.2.at_ z9.2.nd,.pub zN]) _ (fun f8=>Pz.name s ⟨j6,m⟩=.no f8) (fun _=>rfl) (S9 [0,1,2,3,4,5,6]) (fun _=>rfl) wn rfl rfl call211 rfl (fun w1 Pb hG=>vB p s j6 m  Pb w1 hG qO qO qO ) ?_ fun z9 hz11=>?_
    ·intro f8 hf8
     refine yn hPN (zx (yS (zx (zR (zV fun w1 hM=>?_)))))
     have hY:=Pz.by_next hx1 (by rw [he4,h4]) h5 hf8
     rw [Pz.then_no] at hY
     exact hM.zd f8 (by simp only [Pz.then_ok,Pz.then_no,Pz.St.go,lgc,Pz.all,Pz.bys,Pz.allTail,zB.e,zB.es,hz1e,he1,hz4e,he2,g1,g3,he3,he4,h1,hY])
    obtain ⟨wd5,j8,m5⟩:=z9
    have he6:Pz.name s ⟨j6,m⟩=.ok (wd5,⟨j8,m5⟩):=hz11.1
    have ga5:j8≤s.size:=hz11.2.at_
    have gm5:m≤m5:=hz11.2.mono
    have gn5:m5≤100:=hz11.2.most (show m≤100 by omega)
    have wz5:wd5.size≤12:=Pz.name_size (t:=⟨j6,m⟩) (show j6≤_ by omega) he6
    refine y7 (.string wd5) ?_
    refine (go 1) ?_
    refine hKN _ _ (S9 [1,3,4,6]) (yX (f:=4) (i:=1) (j:=4) rfl (by kernel_rfl) ?_ ?_)
    ·refine za (i:=1) rfl fun KN hKN hPN=>?_
     refine (go 2) ?_
     refine hKN _ _ (S9 [1,3,4,6]) (zf 3 4 (za (i:=4) rfl fun KN hKN hPN=>zy strE ([wd5]:List ByteArray) wn underlying56 inf9 rfl rfl rfl rfl qD qD rfl fun b69=>?_))
     refine (go 1) ?_
     refine hKN _ _ (S9 [2,4,5,7]) (zf 2 5 (za (i:=5) rfl fun KN hKN hPN=>yI 3 l ([wd5]:List ByteArray) encString wn rfl rfl rfl (fun _ hM=>(RowSl encString hM 0 rfl)) underlying56 inf9 rfl rfl (by simp only [qL]; omega) rfl fun A5 cp5 hc5 hm5 hA5=>?_))
     refine (go 1) ?_
     refine hKN _ _ (S9 [2,4,5,7]) (yJ 1 [6] [2,4,5,7] rfl fun KS hKS=>?_)
     refine (go 1) ?_
     refine zi hKS (zf 0 7 (za (i:=7) rfl fun KN hKN hPN=>?_))
     refine (go 2) ?_
     refine hKN _ _ (S9 [2,4,5,7]) (zw (by kernel_rfl) (yG (yW (l++([wd5]:List ByteArray)) j8 m5 (q - 1) (.slice A5 ((l++([wd5]:List ByteArray)).length) cp5) (sc rfl (sc rfl (sc rfl (sc rfl sn)))) (S9 [3,4,1,2,5,6,7]) ?_ ?_)))
     ·have hY:=Pz.by_next hx1 (by rw [he4,h4]) h5 he6
      rw [Pz.then_ok] at hY
      exact ⟨hY.trans (by rw [show q - 1 + 1=q by omega]),by simp only [qL]; omega,by simp only [qL]; omega,by omega,by omega,by omega⟩
     omega
    refine za (i:=4) rfl fun KN hKN hPN=>zy strE ([wd5]:List ByteArray) wn underlying56 inf9 rfl rfl rfl rfl qD qD rfl fun b69=>?_
    refine (go 1) ?_
    refine hKN _ _ (S9 [2,4,5,7]) (zf 3 1 (za (i:=1) rfl fun KN hKN hPN=>?_))
    refine (go 2) ?_
    refine hKN _ _ (S9 [2,4,5,7]) (zf 2 5 (za (i:=5) rfl fun KN hKN hPN=>yI 3 l ([wd5]:List ByteArray) encString wn rfl rfl rfl (fun _ hM=>(RowSl encString hM 0 rfl)) underlying56 inf9 rfl rfl (by simp only [qL]; omega) rfl fun A6 cp6 hc6 hm6 hA6=>?_))
    refine (go 1) ?_
    refine hKN _ _ (S9 [2,4,5,7]) (yJ 1 [6] [2,4,5,7] rfl fun KS hKS=>?_)
    refine (go 1) ?_
    refine zi hKS (zf 0 7 (za (i:=7) rfl fun KN hKN hPN=>?_))
    refine (go 2) ?_
    refine hKN _ _ (S9 [2,4,5,7]) (zw (by kernel_rfl) (yG (yW (l++([wd5]:List ByteArray)) j8 m5 (q - 1) (.slice A6 ((l++([wd5]:List ByteArray)).length) cp6) (sc rfl (sc rfl (sc rfl (sc rfl sn)))) (S9 [3,4,1,2,5,6,7]) ?_ ?_)))
    ·have hY:=Pz.by_next hx1 (by rw [he4,h4]) h5 he6
     rw [Pz.then_ok] at hY
     exact ⟨hY.trans (by rw [show q - 1 + 1=q by omega]),by simp only [qL]; omega,by simp only [qL]; omega,by omega,by omega,by omega⟩
    omega
   have g4:bo1=false:=by simpa using h4
   have hx2:=Pz.by_done hI1.1 (by rw [he4,g4])
   refine (go 8) ?_
   refine zZ (α:=Pz.St) (PT:=111) [Rb 114 p s j6 m,.pub zN] [Row (.slice A3 l.length cp3) 9 1 strE l,Row (.slice (some ⟨b54,0,none⟩) 1 1) 9 1 strE ([wd3]:List ByteArray),Row (.slice A1 Lg.totals.length cp1) 9 1 strE Lg.totals,.blk b6 [iV 3,iV 0,iV 0,.string wd1,Zs,.slice A3 l.length cp3,Zs] 59,.blk b4 Zx 59] (fun z:Pz.St=>.tuple #[]) (fun z10=>Pz.must s ⟨#[40]⟩ ⟨j6,m⟩=.ok z10∧Pz.Good s ⟨j6,m⟩ z10) (fun z10=>[Rb 114 p s z10.at_ z10.nd,.pub zN]) _ (fun f9=>Pz.must s ⟨#[40]⟩ ⟨j6,m⟩=.no f9) (fun _=>rfl) (S9 [0,1,2,3,4,5,6]) (fun _=>rfl) wn rfl rfl call179 rfl (fun w1 Pb hG=>yy p s j6 m ⟨#[40]⟩ Pb w1 hG qO qO qO ) ?_ fun z10 hz12=>?_
   ·intro f9 hf9
    refine zR (zV fun w1 hM=>?_)
    exact hM.zd f9 (by first | (simp only [Pz.then_ok,Pz.then_no,Pz.St.go,lgc,Pz.all,Pz.bys,Pz.allTail,zB.e,zB.es,hz1e,he1,hz4e,he2,g1,g3,he3,he4,g4,hx2,h1,h4,hf9]; done) | simp [Pz.then_ok,Pz.then_no,Pz.St.go,lgc,Pz.all,Pz.bys,Pz.allTail,zB.e,zB.es,hz1e,he1,hz4e,he2,g1,g3,he3,he4,g4,hx2,h1,h4,hf9])
   obtain ⟨j9,m6⟩:=z10
   have he7:Pz.must s ⟨#[40]⟩ ⟨j6,m⟩=.ok ⟨j9,m6⟩:=hz12.1
   have ga6:j9≤s.size:=hz12.2.at_
   have gm6:m≤m6:=hz12.2.mono
   have gn6:m6≤100:=hz12.2.most (show m≤100 by omega)
   refine (go 7) ?_
   refine zZ (α:=zB × Pz.St) (PT:=111) [Rb 114 p s j9 m6,.pub zN] [Row (.slice A3 l.length cp3) 9 1 strE l,Row (.slice (some ⟨b54,0,none⟩) 1 1) 9 1 strE ([wd3]:List ByteArray),Row (.slice A1 Lg.totals.length cp1) 9 1 strE Lg.totals,.blk b6 [iV 3,iV 0,iV 0,.string wd1,Zs,.slice A3 l.length cp3,Zs] 59,.blk b4 Zx 59] (fun z:zB × Pz.St=>.agg (zu z.1).toArray) (fun z11=>Pz.xpr s N ⟨j9,m6⟩=.ok (z11.1.e,z11.2)∧Pz.Good s ⟨j9,m6⟩ z11.2) (fun z11=>[Rb 114 p s z11.2.at_ z11.2.nd,.pub zN,okP zB.Ok z11.1]) _ (fun f10=>Pz.xpr s N ⟨j9,m6⟩=.no f10) (fun _=>rfl) (S9 [0,1,2,3,4,5,6]) (fun _=>rfl) wn rfl rfl call52 rfl (fun w1 Pb hG=>ih p s j9 m6 (d + 1) Pb w1 hG qO qO qO qO qO) ?_ fun z11 hz13=>?_
   ·intro f10 hf10
    refine zR (zV fun w1 hM=>?_)
    exact hM.zd f10 (by first | (simp only [Pz.then_ok,Pz.then_no,Pz.St.go,lgc,Pz.all,Pz.bys,Pz.allTail,zB.e,zB.es,hz1e,he1,hz4e,he2,g1,g3,he3,he4,g4,hx2,he7,h1,h4,hf10]; done) | simp [Pz.then_ok,Pz.then_no,Pz.St.go,lgc,Pz.all,Pz.bys,Pz.allTail,zB.e,zB.es,hz1e,he1,hz4e,he2,g1,g3,he3,he4,g4,hx2,he7,h1,h4,hf10])
   obtain ⟨x1,j10,m7⟩:=z11
   have he8:Pz.xpr s N ⟨j9,m6⟩=.ok (x1.e,⟨j10,m7⟩):=hz13.1
   have ga7:j10≤s.size:=hz13.2.at_
   have gm7:m6≤m7:=hz13.2.mono
   have gn7:m7≤100:=hz13.2.most (show m6≤100 by omega)
   refine zy zu ([x1]:List zB) wn underlying57 inf59 rfl rfl rfl rfl qD qD rfl fun b78=>?_
   refine (go 7) ?_
   refine zZ (α:=Pz.St) (PT:=111) [Rb 114 p s j10 m7,.pub zN] [Row (.slice (some ⟨b78,0,none⟩) 1 1) 59 7 zu ([x1]:List zB),okP zB.Ok x1,Row (.slice A3 l.length cp3) 9 1 strE l,Row (.slice (some ⟨b54,0,none⟩) 1 1) 9 1 strE ([wd3]:List ByteArray),Row (.slice A1 Lg.totals.length cp1) 9 1 strE Lg.totals,.blk b6 [iV 3,iV 0,iV 0,.string wd1,Zs,.slice A3 l.length cp3,.slice (some ⟨b78,0,none⟩) 1 1] 59,.blk b4 Zx 59] (fun z:Pz.St=>.tuple #[]) (fun z12=>Pz.must s ⟨#[41]⟩ ⟨j10,m7⟩=.ok z12∧Pz.Good s ⟨j10,m7⟩ z12) (fun z12=>[Rb 114 p s z12.at_ z12.nd,.pub zN]) _ (fun f11=>Pz.must s ⟨#[41]⟩ ⟨j10,m7⟩=.no f11) (fun _=>rfl) (S9 [1,2,0,3,4,5,6,7,8]) (fun _=>rfl) wn rfl rfl call179 rfl (fun w1 Pb hG=>yy p s j10 m7 ⟨#[41]⟩ Pb w1 hG qO qO qO ) ?_ fun z12 hz14=>?_
   ·intro f11 hf11
    refine zR (zV fun w1 hM=>?_)
    exact hM.zd f11 (by first | (simp only [Pz.then_ok,Pz.then_no,Pz.St.go,lgc,Pz.all,Pz.bys,Pz.allTail,zB.e,zB.es,hz1e,he1,hz4e,he2,g1,g3,he3,he4,g4,hx2,he7,he8,h1,h4,hf11]; done) | simp [Pz.then_ok,Pz.then_no,Pz.St.go,lgc,Pz.all,Pz.bys,Pz.allTail,zB.e,zB.es,hz1e,he1,hz4e,he2,g1,g3,he3,he4,g4,hx2,he7,he8,h1,h4,hf11])
   obtain ⟨j11,m8⟩:=z12
   have he9:Pz.must s ⟨#[41]⟩ ⟨j10,m7⟩=.ok ⟨j11,m8⟩:=hz14.1
   have ga8:j11≤s.size:=hz14.2.at_
   have gm8:m7≤m8:=hz14.2.mono
   have gn8:m8≤100:=hz14.2.most (show m7≤100 by omega)
   refine (go 6) ?_
   refine y6 4 0 encString rfl rfl (fp2) (y6 2 0 encExprX rfl rfl (fp2) (vt (fun _ h=>h.exprG (k:=3) (n:=0) (r:=0) (wd:=wd1) (ms:=⟨none,0,[]⟩) (bs:=⟨A3,cp3,l⟩) (ks:=⟨(some ⟨b78,0,none⟩),1,([x1]:List zB)⟩) (fun _ _=>zD.zt _ _ _ _) (fun _ pp=>pp.sl 4 rfl) (fun _ pp=>pp.sl 2 rfl) (fun _ pp x hx=>by simp only [List.mem_cons,List.not_mem_nil,or_false] at hx; rcases hx with rfl <;> first | exact pp.at_ 3 _ rfl) (by first | decide | omega) (fun x hx=>by cases hx) (fun x hx=>by have:=Pz.byL_size 5 (by show _≤s.size; omega) hx2 (fun y hy=>by rw [List.mem_singleton.1 hy]; omega) x hx; omega)) (zZ (α:=Unit) (PT:=111) [Rb 114 p s j11 m8,.pub zN] [okP zB.Ok (zB.mk 3 0 0 wd1 ⟨none,0,[]⟩ ⟨A3,cp3,l⟩ ⟨(some ⟨b78,0,none⟩),1,([x1]:List zB)⟩),slP 7 zu (.slice (some ⟨b78,0,none⟩) 1 1) ([x1]:List zB),okP zB.Ok x1,slP 1 strE (.slice A3 l.length cp3) l,Row (.slice (some ⟨b54,0,none⟩) 1 1) 9 1 strE ([wd3]:List ByteArray),Row (.slice A1 Lg.totals.length cp1) 9 1 strE Lg.totals,.blk b6 [iV 3,iV 0,iV 0,.string wd1,Zs,.slice A3 l.length cp3,.slice (some ⟨b78,0,none⟩) 1 1] 59,.blk b4 Zx 59] (fun _:Unit=>.agg (List.toArray [iV 3,iV 0,iV 0,.string wd1,Zs,.slice A3 l.length cp3,.slice (some ⟨b78,0,none⟩) 1 1])) (fun z13=>m8 + 1≤100) (fun z13=>[Rb 114 p s j11 (m8 + 1),.pub zN]) _ (fun f12=>Pz.node ⟨j11,m8⟩=.no f12) (fun _=>rfl) (S9 [1,2,0,3,4,5,6,7,8,9]) (fun _=>rfl) wn rfl rfl call99 rfl (fun w1 Pb hG=>vk p s j11 m8 3 0 0 wd1 none 0 0 A3 l.length cp3 (some ⟨b78,0,none⟩) 1 1 Pb w1 hG qO qO qO) ?_ fun z13 hz15=>?_)))
   ·intro f12 hf12
    refine zR (zV fun w1 hM=>?_)
    exact hM.zd f12 (by first | (simp only [Pz.then_ok,Pz.then_no,Pz.St.go,lgc,Pz.all,Pz.bys,Pz.allTail,zB.e,zB.es,hz1e,he1,hz4e,he2,g1,g3,he3,he4,g4,hx2,he7,he8,he9,h1,h4,hf12]; done) | simp [Pz.then_ok,Pz.then_no,Pz.St.go,lgc,Pz.all,Pz.bys,Pz.allTail,zB.e,zB.es,hz1e,he1,hz4e,he2,g1,g3,he3,he4,g4,hx2,he7,he8,he9,h1,h4,hf12])
   have he10:Pz.node ⟨j11,m8⟩=.ok ⟨j11,m8 + 1⟩:=Pz.node_yes hz15
   refine (go 4) (zY results181 fun w1 hM=>?_)
   have h9:Pz.all s (Pz.xpr s N) ⟨i,n⟩=.ok ((zB.mk 3 0 0 wd1 ⟨none,0,[]⟩ ⟨A3,cp3,l⟩ ⟨(some ⟨b78,0,none⟩),1,([x1]:List zB)⟩).e,⟨j11,(m8 + 1)⟩):=by first | (simp only [Pz.then_ok,Pz.then_no,Pz.St.go,lgc,Pz.all,Pz.bys,Pz.allTail,zB.e,zB.es,hz1e,he1,hz4e,he2,g1,g3,he3,he4,g4,hx2,he7,he8,he9,he10,h1,h4]; done) | simp [Pz.then_ok,Pz.then_no,Pz.St.go,lgc,Pz.all,Pz.bys,Pz.allTail,zB.e,zB.es,hz1e,he1,hz4e,he2,g1,g3,he3,he4,g4,hx2,he7,he8,he9,he10,h1,h4]
   exact hM.vZ (((zB.mk 3 0 0 wd1 ⟨none,0,[]⟩ ⟨A3,cp3,l⟩ ⟨(some ⟨b78,0,none⟩),1,([x1]:List zB)⟩),⟨j11,(m8 + 1)⟩):zB × Pz.St) rfl ⟨h9,(Pz.all_fine (Pz.xpr_fine s N) hi).ok_ h9⟩ (fun h=>h.sel [0,1,2] qD rfl)
  refine za (i:=3) rfl fun KN hKN hPN=>zZ (α:=ByteArray × Pz.St) (PT:=111) [Rb 114 p s j4 m2,.pub zN] [Row (.slice A1 Lg.totals.length cp1) 9 1 strE Lg.totals,.blk b6 [iV 3,iV 0,iV 0,.string wd1,Zs,Zs,Zs] 59,.blk b4 Zx 59] (fun z:ByteArray × Pz.St=>.string z.1) (fun z14=>Pz.name s ⟨j4,m2⟩=.ok z14∧Pz.Good s ⟨j4,m2⟩ z14.2) (fun z14=>[Rb 114 p s z14.2.at_ z14.2.nd,.pub zN]) _ (fun f13=>Pz.name s ⟨j4,m2⟩=.no f13) (fun _=>rfl) (S9 [0,1,2,3,4]) (fun _=>rfl) wn rfl rfl call211 rfl (fun w1 Pb hG=>vB p s j4 m2  Pb w1 hG qO qO qO ) ?_ fun z14 hz16=>?_
  ·intro f13 hf13
   refine yn hPN (zR (zR (zV fun w1 hM=>?_)))
   exact hM.zd f13 (by first | (simp only [Pz.then_ok,Pz.then_no,Pz.St.go,lgc,Pz.all,Pz.bys,Pz.allTail,zB.e,zB.es,hz1e,he1,hz4e,he2,g1,g3,h1,hf13]; done) | simp [Pz.then_ok,Pz.then_no,Pz.St.go,lgc,Pz.all,Pz.bys,Pz.allTail,zB.e,zB.es,hz1e,he1,hz4e,he2,g1,g3,h1,hf13])
  obtain ⟨wd6,j12,m9⟩:=z14
  have he11:Pz.name s ⟨j4,m2⟩=.ok (wd6,⟨j12,m9⟩):=hz16.1
  have ga9:j12≤s.size:=hz16.2.at_
  have gm9:m2≤m9:=hz16.2.mono
  have gn9:m9≤100:=hz16.2.most (show m2≤100 by omega)
  have wz6:wd6.size≤12:=Pz.name_size (t:=⟨j4,m2⟩) (show j4≤_ by omega) he11
  refine y7 (.string wd6) ?_
  refine (go 1) ?_
  refine hKN _ _ (S9 [1,2,4]) (yX (f:=4) (i:=1) (j:=4) rfl (by kernel_rfl) ?_ ?_)
  ·refine za (i:=1) rfl fun KN hKN hPN=>?_
   refine (go 2) ?_
   refine hKN _ _ (S9 [1,2,4]) (zf 3 4 (za (i:=4) rfl fun KN hKN hPN=>zy strE ([wd6]:List ByteArray) wn underlying56 inf9 rfl rfl rfl rfl qD qD rfl fun b54=>?_))
   refine (go 1) ?_
   refine hKN _ _ (S9 [2,3,5]) (zf 2 5 (za (i:=5) rfl fun KN hKN hPN=>yD (strE:ByteArray→List Value) 9 1 (yI 0 ([]:List ByteArray) ([wd6]:List ByteArray) encString wn rfl rfl rfl (fun _ hM=>(RowSl encString hM 1 rfl)) underlying56 inf9 rfl rfl (by simp only [qL]; omega) rfl fun A7 cp7 hc7 hm7 hA7=>?_)))
   refine (go 1) ?_
   refine hKN _ _ (S9 [3,4,6]) (yJ 1 [6] [3,4,6] rfl fun KS hKS=>?_)
   refine (go 1) ?_
   refine zi hKS (zf 0 7 (za (i:=7) rfl fun KN hKN hPN=>?_))
   refine (go 2) ?_
   refine hKN _ _ (S9 [3,4,6]) ?_
   refine zw (by kernel_rfl) ((go 1) ?_)
   refine (go 1) ?_
   refine uM (fun (l:List ByteArray) (k:Nat) (m:Int) (q:Nat) (rv:Value)=>[(0,.pointer (some ⟨p,0,none⟩)),(1,iV d),(4,.pointer (some ⟨b4,0,none⟩)),(6,.pointer (some ⟨b6,0,none⟩))]) (fun (l:List ByteArray) (k:Nat) (m:Int) (q:Nat) (rv:Value)=>[Row rv 9 1 strE l,Row (.slice (some ⟨b54,0,none⟩) 1 1) 9 1 strE ([wd6]:List ByteArray),Rb 114 p s k m,.pub zN,Row (.slice A1 Lg.totals.length cp1) 9 1 strE Lg.totals,.blk b6 [iV 3,iV 0,iV 0,.string wd1,Zs,rv,Zs] 59,.blk b4 Zx 59]) (fun (l:List ByteArray) (k:Nat) (m:Int) (q:Nat) (rv:Value)=>Pz.byL s 5 [wd6] ⟨j12,m9⟩=Pz.byL s (q + 1) l ⟨k,m⟩∧l.length + q=5∧l.length≤4∧k≤s.size∧m9≤m∧m≤100) (fun (l:List ByteArray) (k:Nat) (m:Int) (q:Nat) (rv:Value)=>q) (([]:List ByteArray)++([wd6]:List ByteArray)) j12 m9 4 (.slice A7 ((([]:List ByteArray)++([wd6]:List ByteArray)).length) cp7) (sc rfl (sc rfl (sc rfl (sc rfl sn)))) (fun _ h=>h) ?_ (fun l k m q rv hI2=>?_)
   ·exact ⟨rfl,rfl,by simp,by omega,by omega,by omega⟩
   refine yU 0 (l:=l) rfl fun A8 cp8 hv2 hc8 hm8 hA8=>?_
   subst hv2
   refine (go 4) ?_
   refine yM (α:=(Bool × Nat)) [Rb 114 p s k m,.pub zN] [Row (.slice A8 l.length cp8) 9 1 strE l,Row (.slice (some ⟨b54,0,none⟩) 1 1) 9 1 strE ([wd6]:List ByteArray),Row (.slice A1 Lg.totals.length cp1) 9 1 strE Lg.totals,.blk b6 [iV 3,iV 0,iV 0,.string wd1,Zs,.slice A8 l.length cp8,Zs] 59,.blk b4 Zx 59] (fun z:Bool × Nat=>.bool z.1) (fun z15=>(Pz.eat s ⟨#[44]⟩ k=z15∧k≤z15.2∧z15.2≤s.size)) (fun z15=>[Rb 114 p s z15.2 m,.pub zN]) _ (fun _=>rfl) (S9 [2,3,0,1,4,5,6]) (fun _=>rfl) wn rfl rfl call98 rfl (fun w1 Pb hG=>vo p s k m ⟨#[44]⟩ Pb w1 hG qO qO) fun z15 hz17=>?_
   obtain ⟨bo2,j13⟩:=z15
   have he12:Pz.eat s ⟨#[44]⟩ k=(bo2,j13):=hz17.1
   have hz17a:k≤j13:=hz17.2.1
   have hz17b:j13≤s.size:=hz17.2.2
   refine y7 (.bool bo2) ?_
   refine (go 2) (yb (fun h6=>?_) fun h6=>?_)
   ·have hx3:=hI2.1
    refine (go 12) (zX (fun h7=>?_) fun h7=>?_)
    ·refine (go 2) ?_
     refine zZ (α:=Unit) (PT:=111) [Rb 114 p s j13 m,.pub zN] [Row (.slice A8 l.length cp8) 9 1 strE l,Row (.slice (some ⟨b54,0,none⟩) 1 1) 9 1 strE ([wd6]:List ByteArray),Row (.slice A1 Lg.totals.length cp1) 9 1 strE Lg.totals,.blk b6 [iV 3,iV 0,iV 0,.string wd1,Zs,.slice A8 l.length cp8,Zs] 59,.blk b4 Zx 59] (fun _:Unit=>.tuple #[]) (fun z16=>False) (fun z16=>[Rb 114 p s j13 m,.pub zN]) _ (fun f14=>f14=(5,(j13:Int))) (fun _=>rfl) (S9 [0,1,2,3,4,5,6]) (fun _=>rfl) wn rfl rfl call54 rfl (fun w1 Pb hG=>yi p s j13 m 5 Pb w1 hG) ?_ fun z16 hz18=>?_
     ·intro f14 hf14
      refine zR (zx (yS (zx (zR (zV fun w1 hM=>?_)))))
      have hY:=Pz.by_many hx3 (by rw [he12,h6]) h7
      exact hM.zd f14 (by simp only [Pz.then_ok,Pz.then_no,Pz.St.go,lgc,Pz.all,Pz.bys,Pz.allTail,zB.e,zB.es,hz1e,he1,hz4e,he2,g1,g3,he11,he12,h1,hY,hf14])
     exact hz18.elim
    refine (go 2) ?_
    refine yK (Mem w ⟨fpOf [Rb 114 p s i n,.pub zN],Pb⟩ [.pub zN,Row (.slice (some ⟨b54,0,none⟩) 1 1) 9 1 strE ([wd6]:List ByteArray),Row (.slice A1 Lg.totals.length cp1) 9 1 strE Lg.totals,.blk b4 Zx 59]) mix (fun _ h=>h.drew) rfl (yJ 6 [0,2] [1,3,4,6] rfl fun KS hKS=>?_)
    refine (go 2) ?_
    refine zi hKS (yX (f:=5) (i:=1) (j:=3) rfl (by kernel_rfl) ?_ ?_)
    ·refine za (i:=1) rfl fun KN hKN hPN=>?_
     refine (go 2) ?_
     refine hKN _ _ (S9 [1,3,4,6]) (zf 4 3 (za (i:=3) rfl fun KN hKN hPN=>zZ (α:=ByteArray × Pz.St) (PT:=111) [Rb 114 p s j13 m,.pub zN] [Row (.slice A8 l.length cp8) 9 1 strE l,Row (.slice (some ⟨b54,0,none⟩) 1 1) 9 1 strE ([wd6]:List ByteArray),Row (.slice A1 Lg.totals.length cp1) 9 1 strE Lg.totals,.blk b6 [iV 3,iV 0,iV 0,.string wd1,Zs,.slice A8 l.length cp8,Zs] 59,.blk b4 Zx 59] (fun z:ByteArray × Pz.St=>.string z.1) (fun z17=>Pz.name s ⟨j13,m⟩=.ok z17∧Pz.Good s ⟨j13,m⟩ z17.2) (fun z17=>[Rb 114 p s z17.2.at_ z17.2.nd,.pub zN]) _ (fun f15=>Pz.name s ⟨j13,m⟩=.no f15) (fun _=>rfl) (S9 [0,1,2,3,4,5,6]) (fun _=>rfl) wn rfl rfl call211 rfl (fun w1 Pb hG=>vB p s j13 m  Pb w1 hG qO qO qO ) ?_ fun z17 hz19=>?_))
     ·intro f15 hf15
      refine yn hPN (zx (yS (zx (zR (zV fun w1 hM=>?_)))))
      have hY:=Pz.by_next hx3 (by rw [he12,h6]) h7 hf15
      rw [Pz.then_no] at hY
      exact hM.zd f15 (by simp only [Pz.then_ok,Pz.then_no,Pz.St.go,lgc,Pz.all,Pz.bys,Pz.allTail,zB.e,zB.es,hz1e,he1,hz4e,he2,g1,g3,he11,he12,h1,hY])
     obtain ⟨wd7,j14,m10⟩:=z17
     have he13:Pz.name s ⟨j13,m⟩=.ok (wd7,⟨j14,m10⟩):=hz19.1
     have ga10:j14≤s.size:=hz19.2.at_
     have gm10:m≤m10:=hz19.2.mono
     have gn10:m10≤100:=hz19.2.most (show m≤100 by omega)
     have wz7:wd7.size≤12:=Pz.name_size (t:=⟨j13,m⟩) (show j13≤_ by omega) he13
     refine y7 (.string wd7) ?_
     refine (go 1) ?_
     refine hKN _ _ (S9 [1,3,4,6]) (zf 3 4 (za (i:=4) rfl fun KN hKN hPN=>zy strE ([wd7]:List ByteArray) wn underlying56 inf9 rfl rfl rfl rfl qD qD rfl fun b69=>?_))
     refine (go 1) ?_
     refine hKN _ _ (S9 [2,4,5,7]) (zf 2 5 (za (i:=5) rfl fun KN hKN hPN=>yI 3 l ([wd7]:List ByteArray) encString wn rfl rfl rfl (fun _ hM=>(RowSl encString hM 0 rfl)) underlying56 inf9 rfl rfl (by simp only [qL]; omega) rfl fun A9 cp9 hc9 hm9 hA9=>?_))
     refine (go 1) ?_
     refine hKN _ _ (S9 [2,4,5,7]) (yJ 1 [6] [2,4,5,7] rfl fun KS hKS=>?_)
     refine (go 1) ?_
     refine zi hKS (zf 0 7 (za (i:=7) rfl fun KN hKN hPN=>?_))
     refine (go 2) ?_
     refine hKN _ _ (S9 [2,4,5,7]) (zw (by kernel_rfl) (yG (yW (l++([wd7]:List ByteArray)) j14 m10 (q - 1) (.slice A9 ((l++([wd7]:List ByteArray)).length) cp9) (sc rfl (sc rfl (sc rfl (sc rfl sn)))) (S9 [3,4,1,2,5,6,7]) ?_ ?_)))
     ·have hY:=Pz.by_next hx3 (by rw [he12,h6]) h7 he13
      rw [Pz.then_ok] at hY
      exact ⟨hY.trans (by rw [show q - 1 + 1=q by omega]),by simp only [qL]; omega,by simp only [qL]; omega,by omega,by omega,by omega⟩
     omega
    refine za (i:=3) rfl fun KN hKN hPN=>zZ (α:=ByteArray × Pz.St) (PT:=111) [Rb 114 p s j13 m,.pub zN] [Row (.slice A8 l.length cp8) 9 1 strE l,Row (.slice (some ⟨b54,0,none⟩) 1 1) 9 1 strE ([wd6]:List ByteArray),Row (.slice A1 Lg.totals.length cp1) 9 1 strE Lg.totals,.blk b6 [iV 3,iV 0,iV 0,.string wd1,Zs,.slice A8 l.length cp8,Zs] 59,.blk b4 Zx 59] (fun z:ByteArray × Pz.St=>.string z.1) (fun z18=>Pz.name s ⟨j13,m⟩=.ok z18∧Pz.Good s ⟨j13,m⟩ z18.2) (fun z18=>[Rb 114 p s z18.2.at_ z18.2.nd,.pub zN]) _ (fun f16=>Pz.name s ⟨j13,m⟩=.no f16) (fun _=>rfl) (S9 [0,1,2,3,4,5,6]) (fun _=>rfl) wn rfl rfl call211 rfl (fun w1 Pb hG=>vB p s j13 m  Pb w1 hG qO qO qO ) ?_ fun z18 hz20=>?_
    ·intro f16 hf16
     refine yn hPN (zx (yS (zx (zR (zV fun w1 hM=>?_)))))
     have hY:=Pz.by_next hx3 (by rw [he12,h6]) h7 hf16
     rw [Pz.then_no] at hY
     exact hM.zd f16 (by simp only [Pz.then_ok,Pz.then_no,Pz.St.go,lgc,Pz.all,Pz.bys,Pz.allTail,zB.e,zB.es,hz1e,he1,hz4e,he2,g1,g3,he11,he12,h1,hY])
    obtain ⟨wd8,j15,m11⟩:=z18
    have he14:Pz.name s ⟨j13,m⟩=.ok (wd8,⟨j15,m11⟩):=hz20.1
    have ga11:j15≤s.size:=hz20.2.at_
    have gm11:m≤m11:=hz20.2.mono
    have gn11:m11≤100:=hz20.2.most (show m≤100 by omega)
    have wz8:wd8.size≤12:=Pz.name_size (t:=⟨j13,m⟩) (show j13≤_ by omega) he14
    refine y7 (.string wd8) ?_
    refine (go 1) ?_
    refine hKN _ _ (S9 [1,3,4,6]) (yX (f:=4) (i:=1) (j:=4) rfl (by kernel_rfl) ?_ ?_)
    ·refine za (i:=1) rfl fun KN hKN hPN=>?_
     refine (go 2) ?_
     refine hKN _ _ (S9 [1,3,4,6]) (zf 3 4 (za (i:=4) rfl fun KN hKN hPN=>zy strE ([wd8]:List ByteArray) wn underlying56 inf9 rfl rfl rfl rfl qD qD rfl fun b69=>?_))
     refine (go 1) ?_
     refine hKN _ _ (S9 [2,4,5,7]) (zf 2 5 (za (i:=5) rfl fun KN hKN hPN=>yI 3 l ([wd8]:List ByteArray) encString wn rfl rfl rfl (fun _ hM=>(RowSl encString hM 0 rfl)) underlying56 inf9 rfl rfl (by simp only [qL]; omega) rfl fun A10 cp10 hc10 hm10 hA10=>?_))
     refine (go 1) ?_
     refine hKN _ _ (S9 [2,4,5,7]) (yJ 1 [6] [2,4,5,7] rfl fun KS hKS=>?_)
     refine (go 1) ?_
     refine zi hKS (zf 0 7 (za (i:=7) rfl fun KN hKN hPN=>?_))
     refine (go 2) ?_
     refine hKN _ _ (S9 [2,4,5,7]) (zw (by kernel_rfl) (yG (yW (l++([wd8]:List ByteArray)) j15 m11 (q - 1) (.slice A10 ((l++([wd8]:List ByteArray)).length) cp10) (sc rfl (sc rfl (sc rfl (sc rfl sn)))) (S9 [3,4,1,2,5,6,7]) ?_ ?_)))
     ·have hY:=Pz.by_next hx3 (by rw [he12,h6]) h7 he14
      rw [Pz.then_ok] at hY
      exact ⟨hY.trans (by rw [show q - 1 + 1=q by omega]),by simp only [qL]; omega,by simp only [qL]; omega,by omega,by omega,by omega⟩
     omega
    refine za (i:=4) rfl fun KN hKN hPN=>zy strE ([wd8]:List ByteArray) wn underlying56 inf9 rfl rfl rfl rfl qD qD rfl fun b69=>?_
    refine (go 1) ?_
    refine hKN _ _ (S9 [2,4,5,7]) (zf 3 1 (za (i:=1) rfl fun KN hKN hPN=>?_))
    refine (go 2) ?_
    refine hKN _ _ (S9 [2,4,5,7]) (zf 2 5 (za (i:=5) rfl fun KN hKN hPN=>yI 3 l ([wd8]:List ByteArray) encString wn rfl rfl rfl (fun _ hM=>(RowSl encString hM 0 rfl)) underlying56 inf9 rfl rfl (by simp only [qL]; omega) rfl fun A11 cp11 hc11 hm11 hA11=>?_))
    refine (go 1) ?_
    refine hKN _ _ (S9 [2,4,5,7]) (yJ 1 [6] [2,4,5,7] rfl fun KS hKS=>?_)
    refine (go 1) ?_
    refine zi hKS (zf 0 7 (za (i:=7) rfl fun KN hKN hPN=>?_))
    refine (go 2) ?_
    refine hKN _ _ (S9 [2,4,5,7]) (zw (by kernel_rfl) (yG (yW (l++([wd8]:List ByteArray)) j15 m11 (q - 1) (.slice A11 ((l++([wd8]:List ByteArray)).length) cp11) (sc rfl (sc rfl (sc rfl (sc rfl sn)))) (S9 [3,4,1,2,5,6,7]) ?_ ?_)))
    ·have hY:=Pz.by_next hx3 (by rw [he12,h6]) h7 he14
     rw [Pz.then_ok] at hY
     exact ⟨hY.trans (by rw [show q - 1 + 1=q by omega]),by simp only [qL]; omega,by simp only [qL]; omega,by omega,by omega,by omega⟩
    omega
   have g5:bo2=false:=by simpa using h6
   have hx4:=Pz.by_done hI2.1 (by rw [he12,g5])
   refine (go 8) ?_
   refine zZ (α:=Pz.St) (PT:=111) [Rb 114 p s j13 m,.pub zN] [Row (.slice A8 l.length cp8) 9 1 strE l,Row (.slice (some ⟨b54,0,none⟩) 1 1) 9 1 strE ([wd6]:List ByteArray),Row (.slice A1 Lg.totals.length cp1) 9 1 strE Lg.totals,.blk b6 [iV 3,iV 0,iV 0,.string wd1,Zs,.slice A8 l.length cp8,Zs] 59,.blk b4 Zx 59] (fun z:Pz.St=>.tuple #[]) (fun z19=>Pz.must s ⟨#[40]⟩ ⟨j13,m⟩=.ok z19∧Pz.Good s ⟨j13,m⟩ z19) (fun z19=>[Rb 114 p s z19.at_ z19.nd,.pub zN]) _ (fun f17=>Pz.must s ⟨#[40]⟩ ⟨j13,m⟩=.no f17) (fun _=>rfl) (S9 [0,1,2,3,4,5,6]) (fun _=>rfl) wn rfl rfl call179 rfl (fun w1 Pb hG=>yy p s j13 m ⟨#[40]⟩ Pb w1 hG qO qO qO ) ?_ fun z19 hz21=>?_
   ·intro f17 hf17
    refine zR (zV fun w1 hM=>?_)
    exact hM.zd f17 (by first | (simp only [Pz.then_ok,Pz.then_no,Pz.St.go,lgc,Pz.all,Pz.bys,Pz.allTail,zB.e,zB.es,hz1e,he1,hz4e,he2,g1,g3,he11,he12,g5,hx4,h1,h6,hf17]; done) | simp [Pz.then_ok,Pz.then_no,Pz.St.go,lgc,Pz.all,Pz.bys,Pz.allTail,zB.e,zB.es,hz1e,he1,hz4e,he2,g1,g3,he11,he12,g5,hx4,h1,h6,hf17])
   obtain ⟨j16,m12⟩:=z19
   have he15:Pz.must s ⟨#[40]⟩ ⟨j13,m⟩=.ok ⟨j16,m12⟩:=hz21.1
   have ga12:j16≤s.size:=hz21.2.at_
   have gm12:m≤m12:=hz21.2.mono
   have gn12:m12≤100:=hz21.2.most (show m≤100 by omega)
   refine (go 7) ?_
   refine zZ (α:=zB × Pz.St) (PT:=111) [Rb 114 p s j16 m12,.pub zN] [Row (.slice A8 l.length cp8) 9 1 strE l,Row (.slice (some ⟨b54,0,none⟩) 1 1) 9 1 strE ([wd6]:List ByteArray),Row (.slice A1 Lg.totals.length cp1) 9 1 strE Lg.totals,.blk b6 [iV 3,iV 0,iV 0,.string wd1,Zs,.slice A8 l.length cp8,Zs] 59,.blk b4 Zx 59] (fun z:zB × Pz.St=>.agg (zu z.1).toArray) (fun z20=>Pz.xpr s N ⟨j16,m12⟩=.ok (z20.1.e,z20.2)∧Pz.Good s ⟨j16,m12⟩ z20.2) (fun z20=>[Rb 114 p s z20.2.at_ z20.2.nd,.pub zN,okP zB.Ok z20.1]) _ (fun f18=>Pz.xpr s N ⟨j16,m12⟩=.no f18) (fun _=>rfl) (S9 [0,1,2,3,4,5,6]) (fun _=>rfl) wn rfl rfl call52 rfl (fun w1 Pb hG=>ih p s j16 m12 (d + 1) Pb w1 hG qO qO qO qO qO) ?_ fun z20 hz22=>?_
   ·intro f18 hf18
    refine zR (zV fun w1 hM=>?_)
    exact hM.zd f18 (by first | (simp only [Pz.then_ok,Pz.then_no,Pz.St.go,lgc,Pz.all,Pz.bys,Pz.allTail,zB.e,zB.es,hz1e,he1,hz4e,he2,g1,g3,he11,he12,g5,hx4,he15,h1,h6,hf18]; done) | simp [Pz.then_ok,Pz.then_no,Pz.St.go,lgc,Pz.all,Pz.bys,Pz.allTail,zB.e,zB.es,hz1e,he1,hz4e,he2,g1,g3,he11,he12,g5,hx4,he15,h1,h6,hf18])
   obtain ⟨x2,j17,m13⟩:=z20
   have he16:Pz.xpr s N ⟨j16,m12⟩=.ok (x2.e,⟨j17,m13⟩):=hz22.1
   have ga13:j17≤s.size:=hz22.2.at_
   have gm13:m12≤m13:=hz22.2.mono
   have gn13:m13≤100:=hz22.2.most (show m12≤100 by omega)
   refine zy zu ([x2]:List zB) wn underlying57 inf59 rfl rfl rfl rfl qD qD rfl fun b78=>?_
   refine (go 7) ?_
   refine zZ (α:=Pz.St) (PT:=111) [Rb 114 p s j17 m13,.pub zN] [Row (.slice (some ⟨b78,0,none⟩) 1 1) 59 7 zu ([x2]:List zB),okP zB.Ok x2,Row (.slice A8 l.length cp8) 9 1 strE l,Row (.slice (some ⟨b54,0,none⟩) 1 1) 9 1 strE ([wd6]:List ByteArray),Row (.slice A1 Lg.totals.length cp1) 9 1 strE Lg.totals,.blk b6 [iV 3,iV 0,iV 0,.string wd1,Zs,.slice A8 l.length cp8,.slice (some ⟨b78,0,none⟩) 1 1] 59,.blk b4 Zx 59] (fun z:Pz.St=>.tuple #[]) (fun z21=>Pz.must s ⟨#[41]⟩ ⟨j17,m13⟩=.ok z21∧Pz.Good s ⟨j17,m13⟩ z21) (fun z21=>[Rb 114 p s z21.at_ z21.nd,.pub zN]) _ (fun f19=>Pz.must s ⟨#[41]⟩ ⟨j17,m13⟩=.no f19) (fun _=>rfl) (S9 [1,2,0,3,4,5,6,7,8]) (fun _=>rfl) wn rfl rfl call179 rfl (fun w1 Pb hG=>yy p s j17 m13 ⟨#[41]⟩ Pb w1 hG qO qO qO ) ?_ fun z21 hz23=>?_
   ·intro f19 hf19
    refine zR (zV fun w1 hM=>?_)
    exact hM.zd f19 (by first | (simp only [Pz.then_ok,Pz.then_no,Pz.St.go,lgc,Pz.all,Pz.bys,Pz.allTail,zB.e,zB.es,hz1e,he1,hz4e,he2,g1,g3,he11,he12,g5,hx4,he15,he16,h1,h6,hf19]; done) | simp [Pz.then_ok,Pz.then_no,Pz.St.go,lgc,Pz.all,Pz.bys,Pz.allTail,zB.e,zB.es,hz1e,he1,hz4e,he2,g1,g3,he11,he12,g5,hx4,he15,he16,h1,h6,hf19])
   obtain ⟨j18,m14⟩:=z21
   have he17:Pz.must s ⟨#[41]⟩ ⟨j17,m13⟩=.ok ⟨j18,m14⟩:=hz23.1
   have ga14:j18≤s.size:=hz23.2.at_
   have gm14:m13≤m14:=hz23.2.mono
   have gn14:m14≤100:=hz23.2.most (show m13≤100 by omega)
   refine (go 6) ?_
   refine y6 4 0 encString rfl rfl (fp2) (y6 2 0 encExprX rfl rfl (fp2) (vt (fun _ h=>h.exprG (k:=3) (n:=0) (r:=0) (wd:=wd1) (ms:=⟨none,0,[]⟩) (bs:=⟨A8,cp8,l⟩) (ks:=⟨(some ⟨b78,0,none⟩),1,([x2]:List zB)⟩) (fun _ _=>zD.zt _ _ _ _) (fun _ pp=>pp.sl 4 rfl) (fun _ pp=>pp.sl 2 rfl) (fun _ pp x hx=>by simp only [List.mem_cons,List.not_mem_nil,or_false] at hx; rcases hx with rfl <;> first | exact pp.at_ 3 _ rfl) (by first | decide | omega) (fun x hx=>by cases hx) (fun x hx=>by have:=Pz.byL_size 5 (by show _≤s.size; omega) hx4 (fun y hy=>by rw [List.mem_singleton.1 hy]; omega) x hx; omega)) (zZ (α:=Unit) (PT:=111) [Rb 114 p s j18 m14,.pub zN] [okP zB.Ok (zB.mk 3 0 0 wd1 ⟨none,0,[]⟩ ⟨A8,cp8,l⟩ ⟨(some ⟨b78,0,none⟩),1,([x2]:List zB)⟩),slP 7 zu (.slice (some ⟨b78,0,none⟩) 1 1) ([x2]:List zB),okP zB.Ok x2,slP 1 strE (.slice A8 l.length cp8) l,Row (.slice (some ⟨b54,0,none⟩) 1 1) 9 1 strE ([wd6]:List ByteArray),Row (.slice A1 Lg.totals.length cp1) 9 1 strE Lg.totals,.blk b6 [iV 3,iV 0,iV 0,.string wd1,Zs,.slice A8 l.length cp8,.slice (some ⟨b78,0,none⟩) 1 1] 59,.blk b4 Zx 59] (fun _:Unit=>.agg (List.toArray [iV 3,iV 0,iV 0,.string wd1,Zs,.slice A8 l.length cp8,.slice (some ⟨b78,0,none⟩) 1 1])) (fun z22=>m14 + 1≤100) (fun z22=>[Rb 114 p s j18 (m14 + 1),.pub zN]) _ (fun f20=>Pz.node ⟨j18,m14⟩=.no f20) (fun _=>rfl) (S9 [1,2,0,3,4,5,6,7,8,9]) (fun _=>rfl) wn rfl rfl call99 rfl (fun w1 Pb hG=>vk p s j18 m14 3 0 0 wd1 none 0 0 A8 l.length cp8 (some ⟨b78,0,none⟩) 1 1 Pb w1 hG qO qO qO) ?_ fun z22 hz24=>?_)))
   ·intro f20 hf20
    refine zR (zV fun w1 hM=>?_)
    exact hM.zd f20 (by first | (simp only [Pz.then_ok,Pz.then_no,Pz.St.go,lgc,Pz.all,Pz.bys,Pz.allTail,zB.e,zB.es,hz1e,he1,hz4e,he2,g1,g3,he11,he12,g5,hx4,he15,he16,he17,h1,h6,hf20]; done) | simp [Pz.then_ok,Pz.then_no,Pz.St.go,lgc,Pz.all,Pz.bys,Pz.allTail,zB.e,zB.es,hz1e,he1,hz4e,he2,g1,g3,he11,he12,g5,hx4,he15,he16,he17,h1,h6,hf20])
   have he18:Pz.node ⟨j18,m14⟩=.ok ⟨j18,m14 + 1⟩:=Pz.node_yes hz24
   refine (go 4) (zY results181 fun w1 hM=>?_)
   have h9:Pz.all s (Pz.xpr s N) ⟨i,n⟩=.ok ((zB.mk 3 0 0 wd1 ⟨none,0,[]⟩ ⟨A8,cp8,l⟩ ⟨(some ⟨b78,0,none⟩),1,([x2]:List zB)⟩).e,⟨j18,(m14 + 1)⟩):=by first | (simp only [Pz.then_ok,Pz.then_no,Pz.St.go,lgc,Pz.all,Pz.bys,Pz.allTail,zB.e,zB.es,hz1e,he1,hz4e,he2,g1,g3,he11,he12,g5,hx4,he15,he16,he17,he18,h1,h6]; done) | simp [Pz.then_ok,Pz.then_no,Pz.St.go,lgc,Pz.all,Pz.bys,Pz.allTail,zB.e,zB.es,hz1e,he1,hz4e,he2,g1,g3,he11,he12,g5,hx4,he15,he16,he17,he18,h1,h6]
   exact hM.vZ (((zB.mk 3 0 0 wd1 ⟨none,0,[]⟩ ⟨A8,cp8,l⟩ ⟨(some ⟨b78,0,none⟩),1,([x2]:List zB)⟩),⟨j18,(m14 + 1)⟩):zB × Pz.St) rfl ⟨h9,(Pz.all_fine (Pz.xpr_fine s N) hi).ok_ h9⟩ (fun h=>h.sel [0,1,2] qD rfl)
  refine za (i:=4) rfl fun KN hKN hPN=>zy strE ([wd6]:List ByteArray) wn underlying56 inf9 rfl rfl rfl rfl qD qD rfl fun b54=>?_
  refine (go 1) ?_
  refine hKN _ _ (S9 [2,3,5]) (zf 3 1 (za (i:=1) rfl fun KN hKN hPN=>?_))
  refine (go 2) ?_
  refine hKN _ _ (S9 [2,3,5]) (zf 2 5 (za (i:=5) rfl fun KN hKN hPN=>yD (strE:ByteArray→List Value) 9 1 (yI 0 ([]:List ByteArray) ([wd6]:List ByteArray) encString wn rfl rfl rfl (fun _ hM=>(RowSl encString hM 1 rfl)) underlying56 inf9 rfl rfl (by simp only [qL]; omega) rfl fun A12 cp12 hc12 hm12 hA12=>?_)))
  refine (go 1) ?_
  refine hKN _ _ (S9 [3,4,6]) (yJ 1 [6] [3,4,6] rfl fun KS hKS=>?_)
  refine (go 1) ?_
  refine zi hKS (zf 0 7 (za (i:=7) rfl fun KN hKN hPN=>?_))
  refine (go 2) ?_
  refine hKN _ _ (S9 [3,4,6]) ?_
  refine zw (by kernel_rfl) ((go 1) ?_)
  refine (go 1) ?_
  refine uM (fun (l:List ByteArray) (k:Nat) (m:Int) (q:Nat) (rv:Value)=>[(0,.pointer (some ⟨p,0,none⟩)),(1,iV d),(4,.pointer (some ⟨b4,0,none⟩)),(6,.pointer (some ⟨b6,0,none⟩))]) (fun (l:List ByteArray) (k:Nat) (m:Int) (q:Nat) (rv:Value)=>[Row rv 9 1 strE l,Row (.slice (some ⟨b54,0,none⟩) 1 1) 9 1 strE ([wd6]:List ByteArray),Rb 114 p s k m,.pub zN,Row (.slice A1 Lg.totals.length cp1) 9 1 strE Lg.totals,.blk b6 [iV 3,iV 0,iV 0,.string wd1,Zs,rv,Zs] 59,.blk b4 Zx 59]) (fun (l:List ByteArray) (k:Nat) (m:Int) (q:Nat) (rv:Value)=>Pz.byL s 5 [wd6] ⟨j12,m9⟩=Pz.byL s (q + 1) l ⟨k,m⟩∧l.length + q=5∧l.length≤4∧k≤s.size∧m9≤m∧m≤100) (fun (l:List ByteArray) (k:Nat) (m:Int) (q:Nat) (rv:Value)=>q) (([]:List ByteArray)++([wd6]:List ByteArray)) j12 m9 4 (.slice A12 ((([]:List ByteArray)++([wd6]:List ByteArray)).length) cp12) (sc rfl (sc rfl (sc rfl (sc rfl sn)))) (fun _ h=>h) ?_ (fun l k m q rv hI3=>?_)
  ·exact ⟨rfl,rfl,by simp,by omega,by omega,by omega⟩
  refine yU 0 (l:=l) rfl fun A13 cp13 hv3 hc13 hm13 hA13=>?_
  subst hv3
  refine (go 4) ?_
  refine yM (α:=(Bool × Nat)) [Rb 114 p s k m,.pub zN] [Row (.slice A13 l.length cp13) 9 1 strE l,Row (.slice (some ⟨b54,0,none⟩) 1 1) 9 1 strE ([wd6]:List ByteArray),Row (.slice A1 Lg.totals.length cp1) 9 1 strE Lg.totals,.blk b6 [iV 3,iV 0,iV 0,.string wd1,Zs,.slice A13 l.length cp13,Zs] 59,.blk b4 Zx 59] (fun z:Bool × Nat=>.bool z.1) (fun z23=>(Pz.eat s ⟨#[44]⟩ k=z23∧k≤z23.2∧z23.2≤s.size)) (fun z23=>[Rb 114 p s z23.2 m,.pub zN]) _ (fun _=>rfl) (S9 [2,3,0,1,4,5,6]) (fun _=>rfl) wn rfl rfl call98 rfl (fun w1 Pb hG=>vo p s k m ⟨#[44]⟩ Pb w1 hG qO qO) fun z23 hz25=>?_
  obtain ⟨bo3,j19⟩:=z23
  have he19:Pz.eat s ⟨#[44]⟩ k=(bo3,j19):=hz25.1
  have hz25a:k≤j19:=hz25.2.1
  have hz25b:j19≤s.size:=hz25.2.2
  refine y7 (.bool bo3) ?_
  refine (go 2) (yb (fun h8=>?_) fun h8=>?_)
  ·have hx5:=hI3.1
   refine (go 12) (zX (fun h9=>?_) fun h9=>?_)
   ·refine (go 2) ?_
    refine zZ (α:=Unit) (PT:=111) [Rb 114 p s j19 m,.pub zN] [Row (.slice A13 l.length cp13) 9 1 strE l,Row (.slice (some ⟨b54,0,none⟩) 1 1) 9 1 strE ([wd6]:List ByteArray),Row (.slice A1 Lg.totals.length cp1) 9 1 strE Lg.totals,.blk b6 [iV 3,iV 0,iV 0,.string wd1,Zs,.slice A13 l.length cp13,Zs] 59,.blk b4 Zx 59] (fun _:Unit=>.tuple #[]) (fun z24=>False) (fun z24=>[Rb 114 p s j19 m,.pub zN]) _ (fun f21=>f21=(5,(j19:Int))) (fun _=>rfl) (S9 [0,1,2,3,4,5,6]) (fun _=>rfl) wn rfl rfl call54 rfl (fun w1 Pb hG=>yi p s j19 m 5 Pb w1 hG) ?_ fun z24 hz26=>?_
    ·intro f21 hf21
     refine zR (zx (yS (zx (zR (zV fun w1 hM=>?_)))))
     have hY:=Pz.by_many hx5 (by rw [he19,h8]) h9
     exact hM.zd f21 (by simp only [Pz.then_ok,Pz.then_no,Pz.St.go,lgc,Pz.all,Pz.bys,Pz.allTail,zB.e,zB.es,hz1e,he1,hz4e,he2,g1,g3,he11,he19,h1,hY,hf21])
    exact hz26.elim
   refine (go 2) ?_
   refine yK (Mem w ⟨fpOf [Rb 114 p s i n,.pub zN],Pb⟩ [.pub zN,Row (.slice (some ⟨b54,0,none⟩) 1 1) 9 1 strE ([wd6]:List ByteArray),Row (.slice A1 Lg.totals.length cp1) 9 1 strE Lg.totals,.blk b4 Zx 59]) mix (fun _ h=>h.drew) rfl (yJ 6 [0,2] [1,3,4,6] rfl fun KS hKS=>?_)
   refine (go 2) ?_
   refine zi hKS (yX (f:=5) (i:=1) (j:=3) rfl (by kernel_rfl) ?_ ?_)
   ·refine za (i:=1) rfl fun KN hKN hPN=>?_
    refine (go 2) ?_
    refine hKN _ _ (S9 [1,3,4,6]) (zf 4 3 (za (i:=3) rfl fun KN hKN hPN=>zZ (α:=ByteArray × Pz.St) (PT:=111) [Rb 114 p s j19 m,.pub zN] [Row (.slice A13 l.length cp13) 9 1 strE l,Row (.slice (some ⟨b54,0,none⟩) 1 1) 9 1 strE ([wd6]:List ByteArray),Row (.slice A1 Lg.totals.length cp1) 9 1 strE Lg.totals,.blk b6 [iV 3,iV 0,iV 0,.string wd1,Zs,.slice A13 l.length cp13,Zs] 59,.blk b4 Zx 59] (fun z:ByteArray × Pz.St=>.string z.1) (fun z25=>Pz.name s ⟨j19,m⟩=.ok z25∧Pz.Good s ⟨j19,m⟩ z25.2) (fun z25=>[Rb 114 p s z25.2.at_ z25.2.nd,.pub zN]) _ (fun f22=>Pz.name s ⟨j19,m⟩=.no f22) (fun _=>rfl) (S9 [0,1,2,3,4,5,6]) (fun _=>rfl) wn rfl rfl call211 rfl (fun w1 Pb hG=>vB p s j19 m  Pb w1 hG qO qO qO ) ?_ fun z25 hz27=>?_))
    ·intro f22 hf22
     refine yn hPN (zx (yS (zx (zR (zV fun w1 hM=>?_)))))
     have hY:=Pz.by_next hx5 (by rw [he19,h8]) h9 hf22
     rw [Pz.then_no] at hY
     exact hM.zd f22 (by simp only [Pz.then_ok,Pz.then_no,Pz.St.go,lgc,Pz.all,Pz.bys,Pz.allTail,zB.e,zB.es,hz1e,he1,hz4e,he2,g1,g3,he11,he19,h1,hY])
    obtain ⟨wd9,j20,m15⟩:=z25
    have he20:Pz.name s ⟨j19,m⟩=.ok (wd9,⟨j20,m15⟩):=hz27.1
    have ga15:j20≤s.size:=hz27.2.at_
    have gm15:m≤m15:=hz27.2.mono
    have gn15:m15≤100:=hz27.2.most (show m≤100 by omega)
    have wz9:wd9.size≤12:=Pz.name_size (t:=⟨j19,m⟩) (show j19≤_ by omega) he20
    refine y7 (.string wd9) ?_
    refine (go 1) ?_
    refine hKN _ _ (S9 [1,3,4,6]) (zf 3 4 (za (i:=4) rfl fun KN hKN hPN=>zy strE ([wd9]:List ByteArray) wn underlying56 inf9 rfl rfl rfl rfl qD qD rfl fun b69=>?_))
    refine (go 1) ?_
    refine hKN _ _ (S9 [2,4,5,7]) (zf 2 5 (za (i:=5) rfl fun KN hKN hPN=>yI 3 l ([wd9]:List ByteArray) encString wn rfl rfl rfl (fun _ hM=>(RowSl encString hM 0 rfl)) underlying56 inf9 rfl rfl (by simp only [qL]; omega) rfl fun A14 cp14 hc14 hm14 hA14=>?_))
    refine (go 1) ?_
    refine hKN _ _ (S9 [2,4,5,7]) (yJ 1 [6] [2,4,5,7] rfl fun KS hKS=>?_)
    refine (go 1) ?_
    refine zi hKS (zf 0 7 (za (i:=7) rfl fun KN hKN hPN=>?_))
    refine (go 2) ?_
    refine hKN _ _ (S9 [2,4,5,7]) (zw (by kernel_rfl) (yG (yW (l++([wd9]:List ByteArray)) j20 m15 (q - 1) (.slice A14 ((l++([wd9]:List ByteArray)).length) cp14) (sc rfl (sc rfl (sc rfl (sc rfl sn)))) (S9 [3,4,1,2,5,6,7]) ?_ ?_)))
    ·have hY:=Pz.by_next hx5 (by rw [he19,h8]) h9 he20
     rw [Pz.then_ok] at hY
     exact ⟨hY.trans (by rw [show q - 1 + 1=q by omega]),by simp only [qL]; omega,by simp only [qL]; omega,by omega,by omega,by omega⟩
    omega
   refine za (i:=3) rfl fun KN hKN hPN=>zZ (α:=ByteArray × Pz.St) (PT:=111) [Rb 114 p s j19 m,.pub zN] [Row (.slice A13 l.length cp13) 9 1 strE l,Row (.slice (some ⟨b54,0,none⟩) 1 1) 9 1 strE ([wd6]:List ByteArray),Row (.slice A1 Lg.totals.length cp1) 9 1 strE Lg.totals,.blk b6 [iV 3,iV 0,iV 0,.string wd1,Zs,.slice A13 l.length cp13,Zs] 59,.blk b4 Zx 59] (fun z:ByteArray × Pz.St=>.string z.1) (fun z26=>Pz.name s ⟨j19,m⟩=.ok z26∧Pz.Good s ⟨j19,m⟩ z26.2) (fun z26=>[Rb 114 p s z26.2.at_ z26.2.nd,.pub zN]) _ (fun f23=>Pz.name s ⟨j19,m⟩=.no f23) (fun _=>rfl) (S9 [0,1,2,3,4,5,6]) (fun _=>rfl) wn rfl rfl call211 rfl (fun w1 Pb hG=>vB p s j19 m  Pb w1 hG qO qO qO ) ?_ fun z26 hz28=>?_
   ·intro f23 hf23
    refine yn hPN (zx (yS (zx (zR (zV fun w1 hM=>?_)))))
    have hY:=Pz.by_next hx5 (by rw [he19,h8]) h9 hf23
    rw [Pz.then_no] at hY
    exact hM.zd f23 (by simp only [Pz.then_ok,Pz.then_no,Pz.St.go,lgc,Pz.all,Pz.bys,Pz.allTail,zB.e,zB.es,hz1e,he1,hz4e,he2,g1,g3,he11,he19,h1,hY])
   obtain ⟨wd10,j21,m16⟩:=z26
   have he21:Pz.name s ⟨j19,m⟩=.ok (wd10,⟨j21,m16⟩):=hz28.1
   have ga16:j21≤s.size:=hz28.2.at_
   have gm16:m≤m16:=hz28.2.mono
   have gn16:m16≤100:=hz28.2.most (show m≤100 by omega)
   have wz10:wd10.size≤12:=Pz.name_size (t:=⟨j19,m⟩) (show j19≤_ by omega) he21
   refine y7 (.string wd10) ?_
   refine (go 1) ?_
   refine hKN _ _ (S9 [1,3,4,6]) (yX (f:=4) (i:=1) (j:=4) rfl (by kernel_rfl) ?_ ?_)
   ·refine za (i:=1) rfl fun KN hKN hPN=>?_
    refine (go 2) ?_
    refine hKN _ _ (S9 [1,3,4,6]) (zf 3 4 (za (i:=4) rfl fun KN hKN hPN=>zy strE ([wd10]:List ByteArray) wn underlying56 inf9 rfl rfl rfl rfl qD qD rfl fun b69=>?_))
    refine (go 1) ?_
    refine hKN _ _ (S9 [2,4,5,7]) (zf 2 5 (za (i:=5) rfl fun KN hKN hPN=>yI 3 l ([wd10]:List ByteArray) encString wn rfl rfl rfl (fun _ hM=>(RowSl encString hM 0 rfl)) underlying56 inf9 rfl rfl (by simp only [qL]; omega) rfl fun A15 cp15 hc15 hm15 hA15=>?_))
    refine (go 1) ?_
    refine hKN _ _ (S9 [2,4,5,7]) (yJ 1 [6] [2,4,5,7] rfl fun KS hKS=>?_)
    refine (go 1) ?_
    refine zi hKS (zf 0 7 (za (i:=7) rfl fun KN hKN hPN=>?_))
    refine (go 2) ?_
    refine hKN _ _ (S9 [2,4,5,7]) (zw (by kernel_rfl) (yG (yW (l++([wd10]:List ByteArray)) j21 m16 (q - 1) (.slice A15 ((l++([wd10]:List ByteArray)).length) cp15) (sc rfl (sc rfl (sc rfl (sc rfl sn)))) (S9 [3,4,1,2,5,6,7]) ?_ ?_)))
    ·have hY:=Pz.by_next hx5 (by rw [he19,h8]) h9 he21
     rw [Pz.then_ok] at hY
     exact ⟨hY.trans (by rw [show q - 1 + 1=q by omega]),by simp only [qL]; omega,by simp only [qL]; omega,by omega,by omega,by omega⟩
    omega
   refine za (i:=4) rfl fun KN hKN hPN=>zy strE ([wd10]:List ByteArray) wn underlying56 inf9 rfl rfl rfl rfl qD qD rfl fun b69=>?_
   refine (go 1) ?_
   refine hKN _ _ (S9 [2,4,5,7]) (zf 3 1 (za (i:=1) rfl fun KN hKN hPN=>?_))
   refine (go 2) ?_
   refine hKN _ _ (S9 [2,4,5,7]) (zf 2 5 (za (i:=5) rfl fun KN hKN hPN=>yI 3 l ([wd10]:List ByteArray) encString wn rfl rfl rfl (fun _ hM=>(RowSl encString hM 0 rfl)) underlying56 inf9 rfl rfl (by simp only [qL]; omega) rfl fun A16 cp16 hc16 hm16 hA16=>?_))
   refine (go 1) ?_
   refine hKN _ _ (S9 [2,4,5,7]) (yJ 1 [6] [2,4,5,7] rfl fun KS hKS=>?_)
   refine (go 1) ?_
   refine zi hKS (zf 0 7 (za (i:=7) rfl fun KN hKN hPN=>?_))
   refine (go 2) ?_
   refine hKN _ _ (S9 [2,4,5,7]) (zw (by kernel_rfl) (yG (yW (l++([wd10]:List ByteArray)) j21 m16 (q - 1) (.slice A16 ((l++([wd10]:List ByteArray)).length) cp16) (sc rfl (sc rfl (sc rfl (sc rfl sn)))) (S9 [3,4,1,2,5,6,7]) ?_ ?_)))
   ·have hY:=Pz.by_next hx5 (by rw [he19,h8]) h9 he21
    rw [Pz.then_ok] at hY
    exact ⟨hY.trans (by rw [show q - 1 + 1=q by omega]),by simp only [qL]; omega,by simp only [qL]; omega,by omega,by omega,by omega⟩
   omega
  have g6:bo3=false:=by simpa using h8
  have hx6:=Pz.by_done hI3.1 (by rw [he19,g6])
  refine (go 8) ?_
  refine zZ (α:=Pz.St) (PT:=111) [Rb 114 p s j19 m,.pub zN] [Row (.slice A13 l.length cp13) 9 1 strE l,Row (.slice (some ⟨b54,0,none⟩) 1 1) 9 1 strE ([wd6]:List ByteArray),Row (.slice A1 Lg.totals.length cp1) 9 1 strE Lg.totals,.blk b6 [iV 3,iV 0,iV 0,.string wd1,Zs,.slice A13 l.length cp13,Zs] 59,.blk b4 Zx 59] (fun z:Pz.St=>.tuple #[]) (fun z27=>Pz.must s ⟨#[40]⟩ ⟨j19,m⟩=.ok z27∧Pz.Good s ⟨j19,m⟩ z27) (fun z27=>[Rb 114 p s z27.at_ z27.nd,.pub zN]) _ (fun f24=>Pz.must s ⟨#[40]⟩ ⟨j19,m⟩=.no f24) (fun _=>rfl) (S9 [0,1,2,3,4,5,6]) (fun _=>rfl) wn rfl rfl call179 rfl (fun w1 Pb hG=>yy p s j19 m ⟨#[40]⟩ Pb w1 hG qO qO qO ) ?_ fun z27 hz29=>?_
  ·intro f24 hf24
   refine zR (zV fun w1 hM=>?_)
   exact hM.zd f24 (by first | (simp only [Pz.then_ok,Pz.then_no,Pz.St.go,lgc,Pz.all,Pz.bys,Pz.allTail,zB.e,zB.es,hz1e,he1,hz4e,he2,g1,g3,he11,he19,g6,hx6,h1,h8,hf24]; done) | simp [Pz.then_ok,Pz.then_no,Pz.St.go,lgc,Pz.all,Pz.bys,Pz.allTail,zB.e,zB.es,hz1e,he1,hz4e,he2,g1,g3,he11,he19,g6,hx6,h1,h8,hf24])
  obtain ⟨j22,m17⟩:=z27
  have he22:Pz.must s ⟨#[40]⟩ ⟨j19,m⟩=.ok ⟨j22,m17⟩:=hz29.1
  have ga17:j22≤s.size:=hz29.2.at_
  have gm17:m≤m17:=hz29.2.mono
  have gn17:m17≤100:=hz29.2.most (show m≤100 by omega)
  refine (go 7) ?_
  refine zZ (α:=zB × Pz.St) (PT:=111) [Rb 114 p s j22 m17,.pub zN] [Row (.slice A13 l.length cp13) 9 1 strE l,Row (.slice (some ⟨b54,0,none⟩) 1 1) 9 1 strE ([wd6]:List ByteArray),Row (.slice A1 Lg.totals.length cp1) 9 1 strE Lg.totals,.blk b6 [iV 3,iV 0,iV 0,.string wd1,Zs,.slice A13 l.length cp13,Zs] 59,.blk b4 Zx 59] (fun z:zB × Pz.St=>.agg (zu z.1).toArray) (fun z28=>Pz.xpr s N ⟨j22,m17⟩=.ok (z28.1.e,z28.2)∧Pz.Good s ⟨j22,m17⟩ z28.2) (fun z28=>[Rb 114 p s z28.2.at_ z28.2.nd,.pub zN,okP zB.Ok z28.1]) _ (fun f25=>Pz.xpr s N ⟨j22,m17⟩=.no f25) (fun _=>rfl) (S9 [0,1,2,3,4,5,6]) (fun _=>rfl) wn rfl rfl call52 rfl (fun w1 Pb hG=>ih p s j22 m17 (d + 1) Pb w1 hG qO qO qO qO qO) ?_ fun z28 hz30=>?_
  ·intro f25 hf25
   refine zR (zV fun w1 hM=>?_)
   exact hM.zd f25 (by first | (simp only [Pz.then_ok,Pz.then_no,Pz.St.go,lgc,Pz.all,Pz.bys,Pz.allTail,zB.e,zB.es,hz1e,he1,hz4e,he2,g1,g3,he11,he19,g6,hx6,he22,h1,h8,hf25]; done) | simp [Pz.then_ok,Pz.then_no,Pz.St.go,lgc,Pz.all,Pz.bys,Pz.allTail,zB.e,zB.es,hz1e,he1,hz4e,he2,g1,g3,he11,he19,g6,hx6,he22,h1,h8,hf25])
  obtain ⟨x3,j23,m18⟩:=z28
  have he23:Pz.xpr s N ⟨j22,m17⟩=.ok (x3.e,⟨j23,m18⟩):=hz30.1
  have ga18:j23≤s.size:=hz30.2.at_
  have gm18:m17≤m18:=hz30.2.mono
  have gn18:m18≤100:=hz30.2.most (show m17≤100 by omega)
  refine zy zu ([x3]:List zB) wn underlying57 inf59 rfl rfl rfl rfl qD qD rfl fun b78=>?_
  refine (go 7) ?_
  refine zZ (α:=Pz.St) (PT:=111) [Rb 114 p s j23 m18,.pub zN] [Row (.slice (some ⟨b78,0,none⟩) 1 1) 59 7 zu ([x3]:List zB),okP zB.Ok x3,Row (.slice A13 l.length cp13) 9 1 strE l,Row (.slice (some ⟨b54,0,none⟩) 1 1) 9 1 strE ([wd6]:List ByteArray),Row (.slice A1 Lg.totals.length cp1) 9 1 strE Lg.totals,.blk b6 [iV 3,iV 0,iV 0,.string wd1,Zs,.slice A13 l.length cp13,.slice (some ⟨b78,0,none⟩) 1 1] 59,.blk b4 Zx 59] (fun z:Pz.St=>.tuple #[]) (fun z29=>Pz.must s ⟨#[41]⟩ ⟨j23,m18⟩=.ok z29∧Pz.Good s ⟨j23,m18⟩ z29) (fun z29=>[Rb 114 p s z29.at_ z29.nd,.pub zN]) _ (fun f26=>Pz.must s ⟨#[41]⟩ ⟨j23,m18⟩=.no f26) (fun _=>rfl) (S9 [1,2,0,3,4,5,6,7,8]) (fun _=>rfl) wn rfl rfl call179 rfl (fun w1 Pb hG=>yy p s j23 m18 ⟨#[41]⟩ Pb w1 hG qO qO qO ) ?_ fun z29 hz31=>?_
  ·intro f26 hf26
   refine zR (zV fun w1 hM=>?_)
   exact hM.zd f26 (by first | (simp only [Pz.then_ok,Pz.then_no,Pz.St.go,lgc,Pz.all,Pz.bys,Pz.allTail,zB.e,zB.es,hz1e,he1,hz4e,he2,g1,g3,he11,he19,g6,hx6,he22,he23,h1,h8,hf26]; done) | simp [Pz.then_ok,Pz.then_no,Pz.St.go,lgc,Pz.all,Pz.bys,Pz.allTail,zB.e,zB.es,hz1e,he1,hz4e,he2,g1,g3,he11,he19,g6,hx6,he22,he23,h1,h8,hf26])
  obtain ⟨j24,m19⟩:=z29
  have he24:Pz.must s ⟨#[41]⟩ ⟨j23,m18⟩=.ok ⟨j24,m19⟩:=hz31.1
  have ga19:j24≤s.size:=hz31.2.at_
  have gm19:m18≤m19:=hz31.2.mono
  have gn19:m19≤100:=hz31.2.most (show m18≤100 by omega)
  refine (go 6) ?_
  refine y6 4 0 encString rfl rfl (fp2) (y6 2 0 encExprX rfl rfl (fp2) (vt (fun _ h=>h.exprG (k:=3) (n:=0) (r:=0) (wd:=wd1) (ms:=⟨none,0,[]⟩) (bs:=⟨A13,cp13,l⟩) (ks:=⟨(some ⟨b78,0,none⟩),1,([x3]:List zB)⟩) (fun _ _=>zD.zt _ _ _ _) (fun _ pp=>pp.sl 4 rfl) (fun _ pp=>pp.sl 2 rfl) (fun _ pp x hx=>by simp only [List.mem_cons,List.not_mem_nil,or_false] at hx; rcases hx with rfl <;> first | exact pp.at_ 3 _ rfl) (by first | decide | omega) (fun x hx=>by cases hx) (fun x hx=>by have:=Pz.byL_size 5 (by show _≤s.size; omega) hx6 (fun y hy=>by rw [List.mem_singleton.1 hy]; omega) x hx; omega)) (zZ (α:=Unit) (PT:=111) [Rb 114 p s j24 m19,.pub zN] [okP zB.Ok (zB.mk 3 0 0 wd1 ⟨none,0,[]⟩ ⟨A13,cp13,l⟩ ⟨(some ⟨b78,0,none⟩),1,([x3]:List zB)⟩),slP 7 zu (.slice (some ⟨b78,0,none⟩) 1 1) ([x3]:List zB),okP zB.Ok x3,slP 1 strE (.slice A13 l.length cp13) l,Row (.slice (some ⟨b54,0,none⟩) 1 1) 9 1 strE ([wd6]:List ByteArray),Row (.slice A1 Lg.totals.length cp1) 9 1 strE Lg.totals,.blk b6 [iV 3,iV 0,iV 0,.string wd1,Zs,.slice A13 l.length cp13,.slice (some ⟨b78,0,none⟩) 1 1] 59,.blk b4 Zx 59] (fun _:Unit=>.agg (List.toArray [iV 3,iV 0,iV 0,.string wd1,Zs,.slice A13 l.length cp13,.slice (some ⟨b78,0,none⟩) 1 1])) (fun z30=>m19 + 1≤100) (fun z30=>[Rb 114 p s j24 (m19 + 1),.pub zN]) _ (fun f27=>Pz.node ⟨j24,m19⟩=.no f27) (fun _=>rfl) (S9 [1,2,0,3,4,5,6,7,8,9]) (fun _=>rfl) wn rfl rfl call99 rfl (fun w1 Pb hG=>vk p s j24 m19 3 0 0 wd1 none 0 0 A13 l.length cp13 (some ⟨b78,0,none⟩) 1 1 Pb w1 hG qO qO qO) ?_ fun z30 hz32=>?_)))
  ·intro f27 hf27
   refine zR (zV fun w1 hM=>?_)
   exact hM.zd f27 (by first | (simp only [Pz.then_ok,Pz.then_no,Pz.St.go,lgc,Pz.all,Pz.bys,Pz.allTail,zB.e,zB.es,hz1e,he1,hz4e,he2,g1,g3,he11,he19,g6,hx6,he22,he23,he24,h1,h8,hf27]; done) | simp [Pz.then_ok,Pz.then_no,Pz.St.go,lgc,Pz.all,Pz.bys,Pz.allTail,zB.e,zB.es,hz1e,he1,hz4e,he2,g1,g3,he11,he19,g6,hx6,he22,he23,he24,h1,h8,hf27])
  have he25:Pz.node ⟨j24,m19⟩=.ok ⟨j24,m19 + 1⟩:=Pz.node_yes hz32
  refine (go 4) (zY results181 fun w1 hM=>?_)
  have h9:Pz.all s (Pz.xpr s N) ⟨i,n⟩=.ok ((zB.mk 3 0 0 wd1 ⟨none,0,[]⟩ ⟨A13,cp13,l⟩ ⟨(some ⟨b78,0,none⟩),1,([x3]:List zB)⟩).e,⟨j24,(m19 + 1)⟩):=by first | (simp only [Pz.then_ok,Pz.then_no,Pz.St.go,lgc,Pz.all,Pz.bys,Pz.allTail,zB.e,zB.es,hz1e,he1,hz4e,he2,g1,g3,he11,he19,g6,hx6,he22,he23,he24,he25,h1,h8]; done) | simp [Pz.then_ok,Pz.then_no,Pz.St.go,lgc,Pz.all,Pz.bys,Pz.allTail,zB.e,zB.es,hz1e,he1,hz4e,he2,g1,g3,he11,he19,g6,hx6,he22,he23,he24,he25,h1,h8]
  exact hM.vZ (((zB.mk 3 0 0 wd1 ⟨none,0,[]⟩ ⟨A13,cp13,l⟩ ⟨(some ⟨b78,0,none⟩),1,([x3]:List zB)⟩),⟨j24,(m19 + 1)⟩):zB × Pz.St) rfl ⟨h9,(Pz.all_fine (Pz.xpr_fine s N) hi).ok_ h9⟩ (fun h=>h.sel [0,1,2] qD rfl)
 have g7:(wd2=⟨#[]⟩)=True:=eq_true (Classical.not_not.1 h2)
 refine (go 12) ?_
 refine yc rfl (decide_eq_false (by rw [Classical.not_not.1 h2]; decide)) ?_
 refine (go 4) ?_
 have g8:(wd2=⟨#[98,121]⟩)=False:=eq_false (by rw [Classical.not_not.1 h2]; decide)
 refine (go 1) ?_
 refine zZ (α:=Pz.St) (PT:=111) [Rb 114 p s j4 m2,.pub zN] [Row (.slice A1 Lg.totals.length cp1) 9 1 strE Lg.totals,.blk b6 [iV 3,iV 0,iV 0,.string wd1,Zs,Zs,Zs] 59,.blk b4 Zx 59] (fun z:Pz.St=>.tuple #[]) (fun z31=>Pz.must s ⟨#[40]⟩ ⟨j4,m2⟩=.ok z31∧Pz.Good s ⟨j4,m2⟩ z31) (fun z31=>[Rb 114 p s z31.at_ z31.nd,.pub zN]) _ (fun f28=>Pz.must s ⟨#[40]⟩ ⟨j4,m2⟩=.no f28) (fun _=>rfl) (S9 [0,1,2,3,4]) (fun _=>rfl) wn rfl rfl call179 rfl (fun w1 Pb hG=>yy p s j4 m2 ⟨#[40]⟩ Pb w1 hG qO qO qO ) ?_ fun z31 hz33=>?_
 ·intro f28 hf28
  refine zR (zV fun w1 hM=>?_)
  exact hM.zd f28 (by first | (simp only [Pz.then_ok,Pz.then_no,Pz.St.go,lgc,Pz.all,Pz.bys,Pz.allTail,zB.e,zB.es,hz1e,he1,hz4e,he2,g7,g8,h1,hf28]; done) | simp [Pz.then_ok,Pz.then_no,Pz.St.go,lgc,Pz.all,Pz.bys,Pz.allTail,zB.e,zB.es,hz1e,he1,hz4e,he2,g7,g8,h1,hf28])
 obtain ⟨j25,m20⟩:=z31
 have he26:Pz.must s ⟨#[40]⟩ ⟨j4,m2⟩=.ok ⟨j25,m20⟩:=hz33.1
 have ga20:j25≤s.size:=hz33.2.at_
 have gm20:m2≤m20:=hz33.2.mono
 have gn20:m20≤100:=hz33.2.most (show m2≤100 by omega)
 refine (go 7) ?_
 refine zZ (α:=zB × Pz.St) (PT:=111) [Rb 114 p s j25 m20,.pub zN] [Row (.slice A1 Lg.totals.length cp1) 9 1 strE Lg.totals,.blk b6 [iV 3,iV 0,iV 0,.string wd1,Zs,Zs,Zs] 59,.blk b4 Zx 59] (fun z:zB × Pz.St=>.agg (zu z.1).toArray) (fun z32=>Pz.xpr s N ⟨j25,m20⟩=.ok (z32.1.e,z32.2)∧Pz.Good s ⟨j25,m20⟩ z32.2) (fun z32=>[Rb 114 p s z32.2.at_ z32.2.nd,.pub zN,okP zB.Ok z32.1]) _ (fun f29=>Pz.xpr s N ⟨j25,m20⟩=.no f29) (fun _=>rfl) (S9 [0,1,2,3,4]) (fun _=>rfl) wn rfl rfl call52 rfl (fun w1 Pb hG=>ih p s j25 m20 (d + 1) Pb w1 hG qO qO qO qO qO) ?_ fun z32 hz34=>?_
 ·intro f29 hf29
  refine zR (zV fun w1 hM=>?_)
  exact hM.zd f29 (by first | (simp only [Pz.then_ok,Pz.then_no,Pz.St.go,lgc,Pz.all,Pz.bys,Pz.allTail,zB.e,zB.es,hz1e,he1,hz4e,he2,g7,g8,he26,h1,hf29]; done) | simp [Pz.then_ok,Pz.then_no,Pz.St.go,lgc,Pz.all,Pz.bys,Pz.allTail,zB.e,zB.es,hz1e,he1,hz4e,he2,g7,g8,he26,h1,hf29])
 obtain ⟨x4,j26,m21⟩:=z32
 have he27:Pz.xpr s N ⟨j25,m20⟩=.ok (x4.e,⟨j26,m21⟩):=hz34.1
 have ga21:j26≤s.size:=hz34.2.at_
 have gm21:m20≤m21:=hz34.2.mono
 have gn21:m21≤100:=hz34.2.most (show m20≤100 by omega)
 refine zy zu ([x4]:List zB) wn underlying57 inf59 rfl rfl rfl rfl qD qD rfl fun b78=>?_
 refine (go 7) ?_
 refine zZ (α:=Pz.St) (PT:=111) [Rb 114 p s j26 m21,.pub zN] [Row (.slice (some ⟨b78,0,none⟩) 1 1) 59 7 zu ([x4]:List zB),okP zB.Ok x4,Row (.slice A1 Lg.totals.length cp1) 9 1 strE Lg.totals,.blk b6 [iV 3,iV 0,iV 0,.string wd1,Zs,Zs,.slice (some ⟨b78,0,none⟩) 1 1] 59,.blk b4 Zx 59] (fun z:Pz.St=>.tuple #[]) (fun z33=>Pz.must s ⟨#[41]⟩ ⟨j26,m21⟩=.ok z33∧Pz.Good s ⟨j26,m21⟩ z33) (fun z33=>[Rb 114 p s z33.at_ z33.nd,.pub zN]) _ (fun f30=>Pz.must s ⟨#[41]⟩ ⟨j26,m21⟩=.no f30) (fun _=>rfl) (S9 [1,2,0,3,4,5,6]) (fun _=>rfl) wn rfl rfl call179 rfl (fun w1 Pb hG=>yy p s j26 m21 ⟨#[41]⟩ Pb w1 hG qO qO qO ) ?_ fun z33 hz35=>?_
 ·intro f30 hf30
  refine zR (zV fun w1 hM=>?_)
  exact hM.zd f30 (by first | (simp only [Pz.then_ok,Pz.then_no,Pz.St.go,lgc,Pz.all,Pz.bys,Pz.allTail,zB.e,zB.es,hz1e,he1,hz4e,he2,g7,g8,he26,he27,h1,hf30]; done) | simp [Pz.then_ok,Pz.then_no,Pz.St.go,lgc,Pz.all,Pz.bys,Pz.allTail,zB.e,zB.es,hz1e,he1,hz4e,he2,g7,g8,he26,he27,h1,hf30])
 obtain ⟨j27,m22⟩:=z33
 have he28:Pz.must s ⟨#[41]⟩ ⟨j26,m21⟩=.ok ⟨j27,m22⟩:=hz35.1
 have ga22:j27≤s.size:=hz35.2.at_
 have gm22:m21≤m22:=hz35.2.mono
 have gn22:m22≤100:=hz35.2.most (show m21≤100 by omega)
 refine (go 6) ?_
 refine y6 2 0 encExprX rfl rfl (fp2) (vt (fun _ h=>h.exprG (k:=3) (n:=0) (r:=0) (wd:=wd1) (ms:=⟨none,0,[]⟩) (bs:=⟨none,0,[]⟩) (ks:=⟨(some ⟨b78,0,none⟩),1,([x4]:List zB)⟩) (fun _ _=>zD.zt _ _ _ _) (fun _ _=>zD.zt _ _ _ _) (fun _ pp=>pp.sl 2 rfl) (fun _ pp x hx=>by simp only [List.mem_cons,List.not_mem_nil,or_false] at hx; rcases hx with rfl <;> first | exact pp.at_ 3 _ rfl) (by first | decide | omega) (fun x hx=>by cases hx) (fun x hx=>by cases hx)) (zZ (α:=Unit) (PT:=111) [Rb 114 p s j27 m22,.pub zN] [okP zB.Ok (zB.mk 3 0 0 wd1 ⟨none,0,[]⟩ ⟨none,0,[]⟩ ⟨(some ⟨b78,0,none⟩),1,([x4]:List zB)⟩),slP 7 zu (.slice (some ⟨b78,0,none⟩) 1 1) ([x4]:List zB),okP zB.Ok x4,Row (.slice A1 Lg.totals.length cp1) 9 1 strE Lg.totals,.blk b6 [iV 3,iV 0,iV 0,.string wd1,Zs,Zs,.slice (some ⟨b78,0,none⟩) 1 1] 59,.blk b4 Zx 59] (fun _:Unit=>.agg (List.toArray [iV 3,iV 0,iV 0,.string wd1,Zs,Zs,.slice (some ⟨b78,0,none⟩) 1 1])) (fun z34=>m22 + 1≤100) (fun z34=>[Rb 114 p s j27 (m22 + 1),.pub zN]) _ (fun f31=>Pz.node ⟨j27,m22⟩=.no f31) (fun _=>rfl) (S9 [1,2,0,3,4,5,6,7]) (fun _=>rfl) wn rfl rfl call99 rfl (fun w1 Pb hG=>vk p s j27 m22 3 0 0 wd1 none 0 0 none 0 0 (some ⟨b78,0,none⟩) 1 1 Pb w1 hG qO qO qO) ?_ fun z34 hz36=>?_))
 ·intro f31 hf31
  refine zR (zV fun w1 hM=>?_)
  exact hM.zd f31 (by first | (simp only [Pz.then_ok,Pz.then_no,Pz.St.go,lgc,Pz.all,Pz.bys,Pz.allTail,zB.e,zB.es,hz1e,he1,hz4e,he2,g7,g8,he26,he27,he28,h1,hf31]; done) | simp [Pz.then_ok,Pz.then_no,Pz.St.go,lgc,Pz.all,Pz.bys,Pz.allTail,zB.e,zB.es,hz1e,he1,hz4e,he2,g7,g8,he26,he27,he28,h1,hf31])
 have he29:Pz.node ⟨j27,m22⟩=.ok ⟨j27,m22 + 1⟩:=Pz.node_yes hz36
 refine (go 4) (zY results181 fun w1 hM=>?_)
 have h9:Pz.all s (Pz.xpr s N) ⟨i,n⟩=.ok ((zB.mk 3 0 0 wd1 ⟨none,0,[]⟩ ⟨none,0,[]⟩ ⟨(some ⟨b78,0,none⟩),1,([x4]:List zB)⟩).e,⟨j27,(m22 + 1)⟩):=by first | (simp only [Pz.then_ok,Pz.then_no,Pz.St.go,lgc,Pz.all,Pz.bys,Pz.allTail,zB.e,zB.es,hz1e,he1,hz4e,he2,g7,g8,he26,he27,he28,he29,h1]; done) | simp [Pz.then_ok,Pz.then_no,Pz.St.go,lgc,Pz.all,Pz.bys,Pz.allTail,zB.e,zB.es,hz1e,he1,hz4e,he2,g7,g8,he26,he27,he28,he29,h1]
 exact hM.vZ (((zB.mk 3 0 0 wd1 ⟨none,0,[]⟩ ⟨none,0,[]⟩ ⟨(some ⟨b78,0,none⟩),1,([x4]:List zB)⟩),⟨j27,(m22 + 1)⟩):zB × Pz.St) rfl ⟨h9,(Pz.all_fine (Pz.xpr_fine s N) hi).ok_ h9⟩ (fun h=>h.sel [0,1,2] qD rfl)
set_option maxHeartbeats 2000000 in
theorem c_factor (p:Nat) (s:ByteArray) (i:Nat) (n:Int) (d:Int) (N:Nat) (Pb:Nat→Prop) (w:World) (hG:Mem w ⟨fpOf [Rb 114 p s i n,.pub zN],Pb⟩ [Rb 114 p s i n,.pub zN] w) (hi:i≤s.size) (hs:s.size≤2000) (hn:0≤n∧n≤100) (hd:d + (N:Int)=21) (hd1:1≤d) (ih:∀ M,N=M + 1→XprC M) :
    Calls prog 147 #[.pointer (some ⟨p,0,none⟩),iV d] w (RetX w [Rb 114 p s i n,.pub zN] Pb 111 (fun z:zB × Pz.St=>.agg (zu z.1).toArray) (fun z=>Pz.fac s N ⟨i,n⟩=.ok (z.1.e,z.2)∧Pz.Good s ⟨i,n⟩ z.2) (fun z=>[Rb 114 p s z.2.at_ z.2.nd,.pub zN,okP zB.Ok z.1]) (fun f=>Pz.fac s N ⟨i,n⟩=.no f)):=by
 refine zr (N:=57) func147 hG ?_
 refine (go 2) (zz fun b4=>?_)
 refine (go 9) (zX (fun h1=>?_) fun h1=>?_)
 ·refine (go 2) ?_
  refine zZ (α:=Unit) (PT:=111) [Rb 114 p s i n,.pub zN] [.blk b4 Zx 59] (fun _:Unit=>.tuple #[]) (fun z1=>False) (fun z1=>[Rb 114 p s i n,.pub zN]) _ (fun f1=>f1=(4,(i:Int))) (fun _=>rfl) (S9 [1,2,0]) (fun _=>rfl) wn rfl rfl call54 rfl (fun w1 Pb hG=>yi p s i n 4 Pb w1 hG) ?_ fun z1 hz1=>?_
  ·intro f1 hf1
   refine zR (zV fun w1 hM=>?_)
   exact hM.zd f1 (by rw [show N=0 by omega,hf1]; rfl)
  exact hz1.elim
 obtain ⟨M,rfl⟩:∃ M,N=M + 1:=⟨N - 1,by omega⟩
 refine (go 6) ?_
 refine yM (α:=(Bool × Nat)) [Rb 114 p s i n,.pub zN] [.blk b4 Zx 59] (fun z:Bool × Nat=>.bool z.1) (fun z2=>(Pz.eat s ⟨#[40]⟩ i=z2∧i≤z2.2∧z2.2≤s.size)) (fun z2=>[Rb 114 p s z2.2 n,.pub zN]) _ (fun _=>rfl) (S9 [1,2,0]) (fun _=>rfl) wn rfl rfl call98 rfl (fun w1 Pb hG=>vo p s i n ⟨#[40]⟩ Pb w1 hG qO qO) fun z2 hz2=>?_
 obtain ⟨bo1,j1⟩:=z2
 have he1:Pz.eat s ⟨#[40]⟩ i=(bo1,j1):=hz2.1
 have hz2a:i≤j1:=hz2.2.1
 have hz2b:j1≤s.size:=hz2.2.2
 refine y7 (.bool bo1) ?_
 refine (go 2) (yb (fun h2=>?_) fun h2=>?_)
 ·refine (go 5) ?_
  refine zZ (α:=zB × Pz.St) (PT:=111) [Rb 114 p s j1 n,.pub zN] [.blk b4 Zx 59] (fun z:zB × Pz.St=>.agg (zu z.1).toArray) (fun z3=>Pz.xpr s M ⟨j1,n⟩=.ok (z3.1.e,z3.2)∧Pz.Good s ⟨j1,n⟩ z3.2) (fun z3=>[Rb 114 p s z3.2.at_ z3.2.nd,.pub zN,okP zB.Ok z3.1]) _ (fun f2=>Pz.xpr s M ⟨j1,n⟩=.no f2) (fun _=>rfl) (S9 [0,1,2]) (fun _=>rfl) wn rfl rfl call52 rfl (fun w1 Pb hG=>(ih M rfl) p s j1 n (d + 1) Pb w1 hG qO qO qO qO qO) ?_ fun z3 hz3=>?_
  ·intro f2 hf2
   refine zR (zR (zV fun w1 hM=>?_))
   exact hM.zd f2 (by first | (simp only [Pz.then_ok,Pz.then_no,Pz.St.go,lgc,Pz.fac_succ,Pz.factor,zB.e,zB.es,he1,h1,h2,hf2]; done) | simp [Pz.then_ok,Pz.then_no,Pz.St.go,lgc,Pz.fac_succ,Pz.factor,zB.e,zB.es,he1,h1,h2,hf2])
  obtain ⟨x1,j2,m1⟩:=z3
  have he2:Pz.xpr s M ⟨j1,n⟩=.ok (x1.e,⟨j2,m1⟩):=hz3.1
  have ga1:j2≤s.size:=hz3.2.at_
  have gm1:n≤m1:=hz3.2.mono
  have gn1:m1≤100:=hz3.2.most (show n≤100 by omega)
  refine zz fun b5=>?_
  refine (go 6) ?_
  refine zZ (α:=Pz.St) (PT:=111) [Rb 114 p s j2 m1,.pub zN] [.blk b5 [iV x1.kind,iV x1.n,iV x1.range,.string x1.word,.slice x1.ms.A x1.ms.l.length x1.ms.c,.slice x1.by_.A x1.by_.l.length x1.by_.c,.slice x1.kids.A x1.kids.l.length x1.kids.c] 59,okP zB.Ok x1,.blk b4 Zx 59] (fun z:Pz.St=>.tuple #[]) (fun z4=>Pz.must s ⟨#[41]⟩ ⟨j2,m1⟩=.ok z4∧Pz.Good s ⟨j2,m1⟩ z4) (fun z4=>[Rb 114 p s z4.at_ z4.nd,.pub zN]) _ (fun f3=>Pz.must s ⟨#[41]⟩ ⟨j2,m1⟩=.no f3) (fun _=>rfl) (S9 [1,2,0,3,4]) (fun _=>rfl) wn rfl rfl call179 rfl (fun w1 Pb hG=>yy p s j2 m1 ⟨#[41]⟩ Pb w1 hG qO qO qO ) ?_ fun z4 hz4=>?_
  ·intro f3 hf3
   refine zR (zR (zV fun w1 hM=>?_))
   exact hM.zd f3 (by first | (simp only [Pz.then_ok,Pz.then_no,Pz.St.go,lgc,Pz.fac_succ,Pz.factor,zB.e,zB.es,he1,he2,h1,h2,hf3]; done) | simp [Pz.then_ok,Pz.then_no,Pz.St.go,lgc,Pz.fac_succ,Pz.factor,zB.e,zB.es,he1,he2,h1,h2,hf3])
  obtain ⟨j3,m2⟩:=z4
  have he3:Pz.must s ⟨#[41]⟩ ⟨j2,m1⟩=.ok ⟨j3,m2⟩:=hz4.1
  have ga2:j3≤s.size:=hz4.2.at_
  have gm2:m1≤m2:=hz4.2.mono
  have gn2:m2≤100:=hz4.2.most (show m1≤100 by omega)
  refine (go 10) (zY results147 fun w1 hM=>?_)
  have h9:Pz.fac s (M + 1) ⟨i,n⟩=.ok (x1.e,⟨j3,m2⟩):=by first | (simp only [Pz.then_ok,Pz.then_no,Pz.St.go,lgc,Pz.fac_succ,Pz.factor,zB.e,zB.es,he1,he2,he3,h1,h2]; done) | simp [Pz.then_ok,Pz.then_no,Pz.St.go,lgc,Pz.fac_succ,Pz.factor,zB.e,zB.es,he1,he2,he3,h1,h2]
  exact hM.vZ ((x1,⟨j3,m2⟩):zB × Pz.St) rfl ⟨h9,(Pz.fac_fine s (M + 1) _ hi).ok_ h9⟩ (fun h=>h.sel [0,1,3] qD rfl)
 have g1:bo1=false:=by simpa using h2
 refine (go 5) ?_
 refine yM (α:=Nat) [Rb 114 p s j1 n,.pub zN] [.blk b4 Zx 59] (fun _=>.tuple #[]) (fun j4=>(Pz.blank s j1=j4∧j1≤j4∧j4≤s.size)) (fun j4=>[Rb 114 p s j4 n,.pub zN]) _ (fun _=>rfl) (S9 [0,1,2]) (fun _=>rfl) wn rfl rfl call53 rfl (fun w1 Pb hG=>vj p s j1 n Pb w1 hG qO qO) fun j4 hz5=>?_
 obtain ⟨hz5e,hz5a,hz5b⟩:=hz5
 refine (go 14) ?_
 refine zZ (α:=ByteArray × Pz.St) (PT:=111) [Rb 114 p s j4 n,.pub zN] [.blk b4 Zx 59] (fun z:ByteArray × Pz.St=>.string z.1) (fun z5=>Pz.word s ⟨j4,n⟩=.ok z5∧Pz.Good s ⟨j4,n⟩ z5.2) (fun z5=>[Rb 114 p s z5.2.at_ z5.2.nd,.pub zN]) _ (fun f4=>Pz.word s ⟨j4,n⟩=.no f4) (fun _=>rfl) (S9 [0,1,2]) (fun _=>rfl) wn rfl rfl call180 rfl (fun w1 Pb hG=>jS p s j4 n  Pb w1 hG qO qO qO ) ?_ fun z5 hz6=>?_
 ·intro f4 hf4
  refine zR (zV fun w1 hM=>?_)
  exact hM.zd f4 (by first | (simp only [Pz.then_ok,Pz.then_no,Pz.St.go,lgc,Pz.fac_succ,Pz.factor,zB.e,zB.es,he1,g1,hz5e,h1,h2,hf4]; done) | simp [Pz.then_ok,Pz.then_no,Pz.St.go,lgc,Pz.fac_succ,Pz.factor,zB.e,zB.es,he1,g1,hz5e,h1,h2,hf4])
 obtain ⟨wd1,j5,m3⟩:=z5
 have he4:Pz.word s ⟨j4,n⟩=.ok (wd1,⟨j5,m3⟩):=hz6.1
 have ga3:j5≤s.size:=hz6.2.at_
 have gm3:n≤m3:=hz6.2.mono
 have gn3:m3≤100:=hz6.2.most (show n≤100 by omega)
 have wz1:wd1.size≤12:=Pz.word_size (t:=⟨j4,n⟩) (show j4≤_ by omega) he4
 refine y7 (.string wd1) ?_
 refine (go 12) (zX (fun h3=>?_) fun h3=>?_)
 ·have g2:(wd1=⟨#[97,108,108]⟩)=True:=eq_true h3
  refine (go 4) ?_
  refine zZ (α:=zB × Pz.St) (PT:=111) [Rb 114 p s j5 m3,.pub zN] [.blk b4 Zx 59] (fun z:zB × Pz.St=>.agg (zu z.1).toArray) (fun z6=>Pz.all s (Pz.xpr s M) ⟨j5,m3⟩=.ok (z6.1.e,z6.2)∧Pz.Good s ⟨j5,m3⟩ z6.2) (fun z6=>[Rb 114 p s z6.2.at_ z6.2.nd,.pub zN,okP zB.Ok z6.1]) _ (fun f5=>Pz.all s (Pz.xpr s M) ⟨j5,m3⟩=.no f5) (fun _=>rfl) (S9 [0,1,2]) (fun _=>rfl) wn rfl rfl call181 rfl (fun w1 Pb hG=>c_all p s j5 m3 d M Pb w1 hG qO qO qO qO qO (ih M rfl)) ?_ fun z6 hz7=>?_
  ·intro f5 hf5
   refine zR (zx (zR (zV fun w1 hM=>?_)))
   exact hM.zd f5 (by first | (simp only [Pz.then_ok,Pz.then_no,Pz.St.go,lgc,Pz.fac_succ,Pz.factor,zB.e,zB.es,he1,g1,hz5e,he4,g2,h1,h2,hf5]; done) | simp [Pz.then_ok,Pz.then_no,Pz.St.go,lgc,Pz.fac_succ,Pz.factor,zB.e,zB.es,he1,g1,hz5e,he4,g2,h1,h2,hf5])
  obtain ⟨x2,j6,m4⟩:=z6
  have he5:Pz.all s (Pz.xpr s M) ⟨j5,m3⟩=.ok (x2.e,⟨j6,m4⟩):=hz7.1
  have ga4:j6≤s.size:=hz7.2.at_
  have gm4:m3≤m4:=hz7.2.mono
  have gn4:m4≤100:=hz7.2.most (show m3≤100 by omega)
  refine (go 6) (zY results147 fun w1 hM=>?_)
  have h9:Pz.fac s (M + 1) ⟨i,n⟩=.ok (x2.e,⟨j6,m4⟩):=by first | (simp only [Pz.then_ok,Pz.then_no,Pz.St.go,lgc,Pz.fac_succ,Pz.factor,zB.e,zB.es,he1,g1,hz5e,he4,g2,he5,h1,h2]; done) | simp [Pz.then_ok,Pz.then_no,Pz.St.go,lgc,Pz.fac_succ,Pz.factor,zB.e,zB.es,he1,g1,hz5e,he4,g2,he5,h1,h2]
  exact hM.vZ ((x2,⟨j6,m4⟩):zB × Pz.St) rfl ⟨h9,(Pz.fac_fine s (M + 1) _ hi).ok_ h9⟩ (fun h=>h.sel [0,1,2] qD rfl)
 have g3:(wd1=⟨#[97,108,108]⟩)=False:=eq_false h3
 refine (go 7) (zX (fun h4=>?_) fun h4=>?_)
 ·have g4:(wd1=⟨#[]⟩)=True:=eq_true h4
  refine (go 4) ?_
  refine zZ (α:=Int × Pz.St) (PT:=111) [Rb 114 p s j5 m3,.pub zN] [.blk b4 Zx 59] (fun z:Int × Pz.St=>iV z.1) (fun z7=>Pz.num s 0 1000000 ⟨j5,m3⟩=.ok z7∧Pz.Good s ⟨j5,m3⟩ z7.2) (fun z7=>[Rb 114 p s z7.2.at_ z7.2.nd,.pub zN]) _ (fun f6=>Pz.num s 0 1000000 ⟨j5,m3⟩=.no f6) (fun _=>rfl) (S9 [0,1,2]) (fun _=>rfl) wn rfl rfl call182 rfl (fun w1 Pb hG=>c_num p s j5 m3 0 1000000 Pb w1 hG qO qO qO qO) ?_ fun z7 hz8=>?_
  ·intro f6 hf6
   refine zR (zx (zR (zV fun w1 hM=>?_)))
   exact hM.zd f6 (by first | (simp only [Pz.then_ok,Pz.then_no,Pz.St.go,lgc,Pz.fac_succ,Pz.factor,zB.e,zB.es,he1,g1,hz5e,he4,g3,g4,h1,h2,hf6]; done) | simp [Pz.then_ok,Pz.then_no,Pz.St.go,lgc,Pz.fac_succ,Pz.factor,zB.e,zB.es,he1,g1,hz5e,he4,g3,g4,h1,h2,hf6])
  obtain ⟨v1,j7,m5⟩:=z7
  have he6:Pz.num s 0 1000000 ⟨j5,m3⟩=.ok (v1,⟨j7,m5⟩):=hz8.1
  have ga5:j7≤s.size:=hz8.2.at_
  have gm5:m3≤m5:=hz8.2.mono
  have gn5:m5≤100:=hz8.2.most (show m3≤100 by omega)
  refine (go 1) ?_
  refine vt (fun _ h=>h.exprG (k:=1) (n:=v1) (r:=0) (wd:=⟨#[]⟩) (ms:=⟨none,0,[]⟩) (bs:=⟨none,0,[]⟩) (ks:=⟨none,0,[]⟩) (fun _ _=>zD.zt _ _ _ _) (fun _ _=>zD.zt _ _ _ _) (fun _ _=>zD.zt _ _ _ _) (fun _ _ x hx=>by cases hx) (by first | decide | omega) (fun x hx=>by cases hx) (fun x hx=>by cases hx)) (zZ (α:=Unit) (PT:=111) [Rb 114 p s j7 m5,.pub zN] [okP zB.Ok (zB.mk 1 v1 0 ⟨#[]⟩ ⟨none,0,[]⟩ ⟨none,0,[]⟩ ⟨none,0,[]⟩),.blk b4 Zx 59] (fun _:Unit=>.agg (List.toArray [iV 1,iV v1,iV 0,.string ⟨#[]⟩,Zs,Zs,Zs])) (fun z8=>m5 + 1≤100) (fun z8=>[Rb 114 p s j7 (m5 + 1),.pub zN]) _ (fun f7=>Pz.node ⟨j7,m5⟩=.no f7) (fun _=>rfl) (S9 [1,2,0,3]) (fun _=>rfl) wn rfl rfl call99 rfl (fun w1 Pb hG=>vk p s j7 m5 1 v1 0 ⟨#[]⟩ none 0 0 none 0 0 none 0 0 Pb w1 hG qO qO qO) ?_ fun z8 hz9=>?_)
  ·intro f7 hf7
   refine zR (zx (zR (zV fun w1 hM=>?_)))
   exact hM.zd f7 (by first | (simp only [Pz.then_ok,Pz.then_no,Pz.St.go,lgc,Pz.fac_succ,Pz.factor,zB.e,zB.es,he1,g1,hz5e,he4,g3,g4,he6,h1,h2,hf7]; done) | simp [Pz.then_ok,Pz.then_no,Pz.St.go,lgc,Pz.fac_succ,Pz.factor,zB.e,zB.es,he1,g1,hz5e,he4,g3,g4,he6,h1,h2,hf7])
  have he7:Pz.node ⟨j7,m5⟩=.ok ⟨j7,m5 + 1⟩:=Pz.node_yes hz9
  refine (go 6) (zY results147 fun w1 hM=>?_)
  have h9:Pz.fac s (M + 1) ⟨i,n⟩=.ok ((zB.mk 1 v1 0 ⟨#[]⟩ ⟨none,0,[]⟩ ⟨none,0,[]⟩ ⟨none,0,[]⟩).e,⟨j7,(m5 + 1)⟩):=by first | (simp only [Pz.then_ok,Pz.then_no,Pz.St.go,lgc,Pz.fac_succ,Pz.factor,zB.e,zB.es,he1,g1,hz5e,he4,g3,g4,he6,he7,h1,h2]; done) | simp [Pz.then_ok,Pz.then_no,Pz.St.go,lgc,Pz.fac_succ,Pz.factor,zB.e,zB.es,he1,g1,hz5e,he4,g3,g4,he6,he7,h1,h2]
  exact hM.vZ (((zB.mk 1 v1 0 ⟨#[]⟩ ⟨none,0,[]⟩ ⟨none,0,[]⟩ ⟨none,0,[]⟩),⟨j7,(m5 + 1)⟩):zB × Pz.St) rfl ⟨h9,(Pz.fac_fine s (M + 1) _ hi).ok_ h9⟩ (fun h=>h.sel [0,1,2] qD rfl)
 have g5:(wd1=⟨#[]⟩)=False:=eq_false h4
 refine (go 2) ?_
 refine vW Agg.words wn rfl call33 rfl (fun w1 hM=>c_Words  w1) fun A1 cp1 hc1 hm1 hA1=>?_
 refine (go 1) ?_
 refine yH call150 wn rfl (fun w1 hM=>vR _ Agg.words wd1 w1 (RowSl encString hM 0 rfl)) ?_
 refine (go 4) (zX (fun h5=>?_) fun h5=>?_)
 ·refine (go 11) ?_
  refine zZ (α:=Unit) (PT:=111) [Rb 114 p s j4 m3,.pub zN] [Row (.slice A1 Agg.words.length cp1) 9 1 strE Agg.words,.blk b4 Zx 59] (fun _:Unit=>.tuple #[]) (fun z9=>False) (fun z9=>[Rb 114 p s j4 m3,.pub zN]) _ (fun f8=>f8=(7,(j4:Int))) (fun _=>rfl) (S9 [1,2,0,3]) (fun _=>rfl) wn rfl rfl call54 rfl (fun w1 Pb hG=>yi p s j4 m3 7 Pb w1 hG) ?_ fun z9 hz10=>?_
  ·intro f8 hf8
   refine zx (zR (zV fun w1 hM=>?_))
   exact hM.zd f8 (by first | (simp only [Pz.then_ok,Pz.then_no,Pz.St.go,lgc,Pz.fac_succ,Pz.factor,zB.e,zB.es,he1,g1,hz5e,he4,g3,g5,h1,h2,h5,hf8]; done) | simp [Pz.then_ok,Pz.then_no,Pz.St.go,lgc,Pz.fac_succ,Pz.factor,zB.e,zB.es,he1,g1,hz5e,he4,g3,g5,h1,h2,h5,hf8])
  exact hz10.elim
 refine (go 7) ?_
 refine zZ (α:=zB × Pz.St) (PT:=111) [Rb 114 p s j5 m3,.pub zN] [Row (.slice A1 Agg.words.length cp1) 9 1 strE Agg.words,.blk b4 Zx 59] (fun z:zB × Pz.St=>.agg (zu z.1).toArray) (fun z10=>Pz.window s wd1 ⟨j5,m3⟩=.ok (z10.1.e,z10.2)∧Pz.Good s ⟨j5,m3⟩ z10.2) (fun z10=>[Rb 114 p s z10.2.at_ z10.2.nd,.pub zN,okP zB.Ok z10.1]) _ (fun f9=>Pz.window s wd1 ⟨j5,m3⟩=.no f9) (fun _=>rfl) (S9 [1,2,0,3]) (fun _=>rfl) wn rfl rfl call183 rfl (fun w1 Pb hG=>c_window p s j5 m3 wd1 Pb w1 hG qO qO qO qO) ?_ fun z10 hz11=>?_
 ·intro f9 hf9
  refine zR (zV fun w1 hM=>?_)
  exact hM.zd f9 (by first | (simp only [Pz.then_ok,Pz.then_no,Pz.St.go,lgc,Pz.fac_succ,Pz.factor,zB.e,zB.es,he1,g1,hz5e,he4,g3,g5,h1,h2,h5,hf9]; done) | simp [Pz.then_ok,Pz.then_no,Pz.St.go,lgc,Pz.fac_succ,Pz.factor,zB.e,zB.es,he1,g1,hz5e,he4,g3,g5,h1,h2,h5,hf9])
 obtain ⟨x3,j8,m6⟩:=z10
 have he8:Pz.window s wd1 ⟨j5,m3⟩=.ok (x3.e,⟨j8,m6⟩):=hz11.1
 have ga6:j8≤s.size:=hz11.2.at_
 have gm6:m3≤m6:=hz11.2.mono
 have gn6:m6≤100:=hz11.2.most (show m3≤100 by omega)
 refine (go 4) (zY results147 fun w1 hM=>?_)
 have h9:Pz.fac s (M + 1) ⟨i,n⟩=.ok (x3.e,⟨j8,m6⟩):=by first | (simp only [Pz.then_ok,Pz.then_no,Pz.St.go,lgc,Pz.fac_succ,Pz.factor,zB.e,zB.es,he1,g1,hz5e,he4,g3,g5,he8,h1,h2,h5]; done) | simp [Pz.then_ok,Pz.then_no,Pz.St.go,lgc,Pz.fac_succ,Pz.factor,zB.e,zB.es,he1,g1,hz5e,he4,g3,g5,he8,h1,h2,h5]
 exact hM.vZ ((x3,⟨j8,m6⟩):zB × Pz.St) rfl ⟨h9,(Pz.fac_fine s (M + 1) _ hi).ok_ h9⟩ (fun h=>h.sel [0,1,2] qD rfl)
set_option maxHeartbeats 2000000 in
theorem c_term (p:Nat) (s:ByteArray) (i:Nat) (n:Int) (d:Int) (N:Nat) (Pb:Nat→Prop) (w:World) (hG:Mem w ⟨fpOf [Rb 114 p s i n,.pub zN],Pb⟩ [Rb 114 p s i n,.pub zN] w) (hi:i≤s.size) (hs:s.size≤2000) (hn:0≤n∧n≤100) (hd:d + (N:Int)=21) (hd1:1≤d) (ih:FacC N) :
    Calls prog 97 #[.pointer (some ⟨p,0,none⟩),iV d] w (RetX w [Rb 114 p s i n,.pub zN] Pb 111 (fun z:zB × Pz.St=>.agg (zu z.1).toArray) (fun z=>Pz.trm s N ⟨i,n⟩=.ok (z.1.e,z.2)∧Pz.Good s ⟨i,n⟩ z.2) (fun z=>[Rb 114 p s z.2.at_ z.2.nd,.pub zN,okP zB.Ok z.1]) (fun f=>Pz.trm s N ⟨i,n⟩=.no f)):=by
 refine zr (N:=22) func97 hG ?_
 refine (go 2) (zz fun b4=>?_)
 refine (go 6) ?_
 refine zZ (α:=zB × Pz.St) (PT:=111) [Rb 114 p s i n,.pub zN] [.blk b4 Zx 59] (fun z:zB × Pz.St=>.agg (zu z.1).toArray) (fun z1=>Pz.fac s N ⟨i,n⟩=.ok (z1.1.e,z1.2)∧Pz.Good s ⟨i,n⟩ z1.2) (fun z1=>[Rb 114 p s z1.2.at_ z1.2.nd,.pub zN,okP zB.Ok z1.1]) _ (fun f1=>Pz.fac s N ⟨i,n⟩=.no f1) (fun _=>rfl) (S9 [1,2,0]) (fun _=>rfl) wn rfl rfl call147 rfl (fun w1 Pb hG=>ih p s i n d Pb w1 hG qO qO qO qO qO) ?_ fun z1 hz1=>?_
 ·intro f1 hf1
  refine zR (zV fun w1 hM=>?_)
  exact hM.zd f1 (by first | (simp only [Pz.then_ok,Pz.then_no,Pz.St.go,lgc,Pz.trm,Pz.sumOf,hf1]; done) | simp [Pz.then_ok,Pz.then_no,Pz.St.go,lgc,Pz.trm,Pz.sumOf,hf1])
 obtain ⟨x1,j1,m1⟩:=z1
 have he1:Pz.fac s N ⟨i,n⟩=.ok (x1.e,⟨j1,m1⟩):=hz1.1
 have ga1:j1≤s.size:=hz1.2.at_
 have gm1:n≤m1:=hz1.2.mono
 have gn1:m1≤100:=hz1.2.most (show n≤100 by omega)
 refine zz fun b5=>?_
 refine (go 5) ?_
 refine vK (fun (x:zB) (k:Nat) (m:Int) (q:Nat)=>[(0,.pointer (some ⟨p,0,none⟩)),(1,iV d),(4,.pointer (some ⟨b4,0,none⟩)),(5,.pointer (some ⟨b5,0,none⟩))]) (fun (x:zB) (k:Nat) (m:Int) (q:Nat)=>[.blk b5 [iV x.kind,iV x.n,iV x.range,.string x.word,.slice x.ms.A x.ms.l.length x.ms.c,.slice x.by_.A x.by_.l.length x.by_.c,.slice x.kids.A x.kids.l.length x.kids.c] 59,Rb 114 p s k m,.pub zN,okP zB.Ok x,.blk b4 Zx 59]) (fun (x:zB) (k:Nat) (m:Int) (q:Nat)=>Pz.binL s (Pz.fac s N) Pz.star 101 x1.e ⟨j1,m1⟩=Pz.binL s (Pz.fac s N) Pz.star (q + 1) x.e ⟨k,m⟩∧k≤s.size∧0≤m∧m≤100∧(100:Int)≤(q:Int) + m) (fun (x:zB) (k:Nat) (m:Int) (q:Nat)=>q) x1 j1 m1 100 (sc rfl (sc rfl (sc rfl (sc rfl sn)))) (fun _ h=>h) ?_ (fun x k m q hI1=>?_)
 ·exact ⟨rfl,by omega,by omega,by omega,by omega⟩
 refine (go 4) ?_
 refine yM (α:=(Bool × Nat)) [Rb 114 p s k m,.pub zN] [.blk b5 [iV x.kind,iV x.n,iV x.range,.string x.word,.slice x.ms.A x.ms.l.length x.ms.c,.slice x.by_.A x.by_.l.length x.by_.c,.slice x.kids.A x.kids.l.length x.kids.c] 59,okP zB.Ok x,.blk b4 Zx 59] (fun z:Bool × Nat=>.bool z.1) (fun z2=>(Pz.eat s ⟨#[42]⟩ k=z2∧k≤z2.2∧z2.2≤s.size)) (fun z2=>[Rb 114 p s z2.2 m,.pub zN]) _ (fun _=>rfl) (S9 [1,2,0,3,4]) (fun _=>rfl) wn rfl rfl call98 rfl (fun w1 Pb hG=>vo p s k m ⟨#[42]⟩ Pb w1 hG qO qO) fun z2 hz2=>?_
 obtain ⟨bo1,j2⟩:=z2
 have he2:Pz.eat s ⟨#[42]⟩ k=(bo1,j2):=hz2.1
 have hz2a:k≤j2:=hz2.2.1
 have hz2b:j2≤s.size:=hz2.2.2
 refine y7 (.bool bo1) ?_
 refine (go 2) (yb (fun h1=>?_) fun h1=>?_)
 ·refine (go 7) ?_
  refine zZ (α:=zB × Pz.St) (PT:=111) [Rb 114 p s j2 m,.pub zN] [.blk b5 [iV x.kind,iV x.n,iV x.range,.string x.word,.slice x.ms.A x.ms.l.length x.ms.c,.slice x.by_.A x.by_.l.length x.by_.c,.slice x.kids.A x.kids.l.length x.kids.c] 59,okP zB.Ok x,.blk b4 Zx 59] (fun z:zB × Pz.St=>.agg (zu z.1).toArray) (fun z3=>Pz.fac s N ⟨j2,m⟩=.ok (z3.1.e,z3.2)∧Pz.Good s ⟨j2,m⟩ z3.2) (fun z3=>[Rb 114 p s z3.2.at_ z3.2.nd,.pub zN,okP zB.Ok z3.1]) _ (fun f2=>Pz.fac s N ⟨j2,m⟩=.no f2) (fun _=>rfl) (S9 [0,1,2,3,4]) (fun _=>rfl) wn rfl rfl call147 rfl (fun w1 Pb hG=>ih p s j2 m d Pb w1 hG qO qO qO qO qO) ?_ fun z3 hz3=>?_
  ·intro f2 hf2
   refine zR (zx (vP (zx (zR (zV fun w1 hM=>?_)))))
   have hY:=Pz.bin_next hI1.1 (Pz.star1 (by rw [he2,h1])) qD hf2
   rw [Pz.then_no] at hY
   exact hM.zd f2 (by simp only [Pz.then_ok,Pz.then_no,Pz.St.go,lgc,Pz.trm,Pz.sumOf,he1,hY])
  obtain ⟨x2,j3,m2⟩:=z3
  have he3:Pz.fac s N ⟨j2,m⟩=.ok (x2.e,⟨j3,m2⟩):=hz3.1
  have ga2:j3≤s.size:=hz3.2.at_
  have gm2:m≤m2:=hz3.2.mono
  have gn2:m2≤100:=hz3.2.most (show m≤100 by omega)
  refine zz fun b6=>?_
  refine (go 7) ?_
  refine zy zu ([x,x2]:List zB) wn underlying57 inf59 rfl rfl rfl rfl qD qD rfl fun b18=>?_
  refine (go 1) ?_
  refine y6 0 2 encExprX rfl rfl (fp2) (vt (fun _ h=>h.exprG (k:=4) (n:=0) (r:=0) (wd:=⟨#[42]⟩) (ms:=⟨none,0,[]⟩) (bs:=⟨none,0,[]⟩) (ks:=⟨(some ⟨b18,0,none⟩),2,([x,x2]:List zB)⟩) (fun _ _=>zD.zt _ _ _ _) (fun _ _=>zD.zt _ _ _ _) (fun _ pp=>pp.sl 0 rfl) (fun _ pp x hx=>by simp only [List.mem_cons,List.not_mem_nil,or_false] at hx; rcases hx with rfl | rfl <;> first | exact pp.at_ 6 _ rfl | exact pp.at_ 4 _ rfl) (by first | decide | omega) (fun x hx=>by cases hx) (fun x hx=>by cases hx)) (zZ (α:=Unit) (PT:=111) [Rb 114 p s j3 m2,.pub zN] [okP zB.Ok (zB.mk 4 0 0 ⟨#[42]⟩ ⟨none,0,[]⟩ ⟨none,0,[]⟩ ⟨(some ⟨b18,0,none⟩),2,([x,x2]:List zB)⟩),slP 7 zu (.slice (some ⟨b18,0,none⟩) 2 2) ([x,x2]:List zB),.blk b6 [iV x2.kind,iV x2.n,iV x2.range,.string x2.word,.slice x2.ms.A x2.ms.l.length x2.ms.c,.slice x2.by_.A x2.by_.l.length x2.by_.c,.slice x2.kids.A x2.kids.l.length x2.kids.c] 59,okP zB.Ok x2,.blk b5 [iV x.kind,iV x.n,iV x.range,.string x.word,.slice x.ms.A x.ms.l.length x.ms.c,.slice x.by_.A x.by_.l.length x.by_.c,.slice x.kids.A x.kids.l.length x.kids.c] 59,okP zB.Ok x,.blk b4 Zx 59] (fun _:Unit=>.agg (List.toArray [iV 4,iV 0,iV 0,.string ⟨#[42]⟩,Zs,Zs,.slice (some ⟨b18,0,none⟩) 2 2])) (fun z4=>m2 + 1≤100) (fun z4=>[Rb 114 p s j3 (m2 + 1),.pub zN]) _ (fun f3=>Pz.node ⟨j3,m2⟩=.no f3) (fun _=>rfl) (S9 [3,4,0,1,2,5,6,7,8]) (fun _=>rfl) wn rfl rfl call99 rfl (fun w1 Pb hG=>vk p s j3 m2 4 0 0 ⟨#[42]⟩ none 0 0 none 0 0 (some ⟨b18,0,none⟩) 2 2 Pb w1 hG qO qO qO) ?_ fun z4 hz4=>?_))
  ·intro f3 hf3
   refine zx (vP (zx (zR (zV fun w1 hM=>?_))))
   have hY:=Pz.bin_next hI1.1 (Pz.star1 (by rw [he2,h1])) qD he3
   simp only [Pz.then_ok,hf3,Pz.then_no] at hY
   exact hM.zd f3 (by simp only [Pz.then_ok,Pz.then_no,Pz.St.go,lgc,Pz.trm,Pz.sumOf,he1,hY])
  have he4:Pz.node ⟨j3,m2⟩=.ok ⟨j3,m2 + 1⟩:=Pz.node_yes hz4
  refine (go 1) ?_
  refine zU (yG (yY (zB.mk 4 0 0 ⟨#[42]⟩ ⟨none,0,[]⟩ ⟨none,0,[]⟩ ⟨(some ⟨b18,0,none⟩),2,([x,x2]:List zB)⟩) j3 (m2 + 1) (q - 1) (sc rfl (sc rfl (sc rfl (sc rfl sn)))) (S9 [6,0,1,2,8]) ?_ ?_))
  ·have hY:=Pz.bin_next hI1.1 (Pz.star1 (by rw [he2,h1])) qD he3
   simp only [Pz.then_ok,he4] at hY
   exact ⟨hY.trans (by rw [show q - 1 + 1=q by omega]; rfl),by omega,by omega,by omega,by omega⟩
  omega
 have g1:bo1=false:=by simpa using h1
 refine (go 12) (zY results97 fun w1 hM=>?_)
 have h9:Pz.trm s N ⟨i,n⟩=.ok (x.e,⟨j2,m⟩):=by simp only [Pz.then_ok,Pz.then_no,Pz.St.go,lgc,Pz.trm,Pz.sumOf,he1,Pz.bin_done hI1.1 (Pz.star0 (by rw [he2,g1]))]
 exact hM.vZ ((x,⟨j2,m⟩):zB × Pz.St) rfl ⟨h9,(Pz.trm_fine s N _ hi).ok_ h9⟩ (fun h=>h.sel [0,1,3] qD rfl)
set_option maxHeartbeats 2000000 in
theorem c_expr (p:Nat) (s:ByteArray) (i:Nat) (n:Int) (d:Int) (N:Nat) (Pb:Nat→Prop) (w:World) (hG:Mem w ⟨fpOf [Rb 114 p s i n,.pub zN],Pb⟩ [Rb 114 p s i n,.pub zN] w) (hi:i≤s.size) (hs:s.size≤2000) (hn:0≤n∧n≤100) (hd:d + (N:Int)=21) (hd1:1≤d) (ih:TrmC N) :
    Calls prog 52 #[.pointer (some ⟨p,0,none⟩),iV d] w (RetX w [Rb 114 p s i n,.pub zN] Pb 111 (fun z:zB × Pz.St=>.agg (zu z.1).toArray) (fun z=>Pz.xpr s N ⟨i,n⟩=.ok (z.1.e,z.2)∧Pz.Good s ⟨i,n⟩ z.2) (fun z=>[Rb 114 p s z.2.at_ z.2.nd,.pub zN,okP zB.Ok z.1]) (fun f=>Pz.xpr s N ⟨i,n⟩=.no f)):=by
 refine zr (N:=28) func52 hG ?_
 refine (go 2) (zz fun b4=>?_)
 refine (go 6) ?_
 refine zZ (α:=zB × Pz.St) (PT:=111) [Rb 114 p s i n,.pub zN] [.blk b4 Zx 59] (fun z:zB × Pz.St=>.agg (zu z.1).toArray) (fun z1=>Pz.trm s N ⟨i,n⟩=.ok (z1.1.e,z1.2)∧Pz.Good s ⟨i,n⟩ z1.2) (fun z1=>[Rb 114 p s z1.2.at_ z1.2.nd,.pub zN,okP zB.Ok z1.1]) _ (fun f1=>Pz.trm s N ⟨i,n⟩=.no f1) (fun _=>rfl) (S9 [1,2,0]) (fun _=>rfl) wn rfl rfl call97 rfl (fun w1 Pb hG=>ih p s i n d Pb w1 hG qO qO qO qO qO) ?_ fun z1 hz1=>?_
 ·intro f1 hf1
  refine zR (zV fun w1 hM=>?_)
  exact hM.zd f1 (by first | (simp only [Pz.then_ok,Pz.then_no,Pz.St.go,lgc,Pz.xpr,Pz.sumOf,hf1]; done) | simp [Pz.then_ok,Pz.then_no,Pz.St.go,lgc,Pz.xpr,Pz.sumOf,hf1])
 obtain ⟨x1,j1,m1⟩:=z1
 have he1:Pz.trm s N ⟨i,n⟩=.ok (x1.e,⟨j1,m1⟩):=hz1.1
 have ga1:j1≤s.size:=hz1.2.at_
 have gm1:n≤m1:=hz1.2.mono
 have gn1:m1≤100:=hz1.2.most (show n≤100 by omega)
 refine zz fun b5=>?_
 refine (go 4) ?_
 refine vK (fun (x:zB) (k:Nat) (m:Int) (q:Nat)=>[(0,.pointer (some ⟨p,0,none⟩)),(1,iV d),(4,.pointer (some ⟨b4,0,none⟩)),(5,.pointer (some ⟨b5,0,none⟩))]) (fun (x:zB) (k:Nat) (m:Int) (q:Nat)=>[.blk b5 [iV x.kind,iV x.n,iV x.range,.string x.word,.slice x.ms.A x.ms.l.length x.ms.c,.slice x.by_.A x.by_.l.length x.by_.c,.slice x.kids.A x.kids.l.length x.kids.c] 59,Rb 114 p s k m,.pub zN,okP zB.Ok x,.blk b4 Zx 59]) (fun (x:zB) (k:Nat) (m:Int) (q:Nat)=>Pz.binL s (Pz.trm s N) Pz.plus 101 x1.e ⟨j1,m1⟩=Pz.binL s (Pz.trm s N) Pz.plus (q + 1) x.e ⟨k,m⟩∧k≤s.size∧0≤m∧m≤100∧(100:Int)≤(q:Int) + m) (fun (x:zB) (k:Nat) (m:Int) (q:Nat)=>q) x1 j1 m1 100 (sc rfl (sc rfl (sc rfl (sc rfl sn)))) (fun _ h=>h) ?_ (fun x k m q hI1=>?_)
 ·exact ⟨rfl,by omega,by omega,by omega,by omega⟩
 refine (go 11) ?_
 refine yM (α:=(Bool × Nat)) [Rb 114 p s k m,.pub zN] [.blk b5 [iV x.kind,iV x.n,iV x.range,.string x.word,.slice x.ms.A x.ms.l.length x.ms.c,.slice x.by_.A x.by_.l.length x.by_.c,.slice x.kids.A x.kids.l.length x.kids.c] 59,okP zB.Ok x,.blk b4 Zx 59] (fun z:Bool × Nat=>.bool z.1) (fun z2=>(Pz.eat s ⟨#[43]⟩ k=z2∧k≤z2.2∧z2.2≤s.size)) (fun z2=>[Rb 114 p s z2.2 m,.pub zN]) _ (fun _=>rfl) (S9 [1,2,0,3,4]) (fun _=>rfl) wn rfl rfl call98 rfl (fun w1 Pb hG=>vo p s k m ⟨#[43]⟩ Pb w1 hG qO qO) fun z2 hz2=>?_
 obtain ⟨bo1,j2⟩:=z2
 have he2:Pz.eat s ⟨#[43]⟩ k=(bo1,j2):=hz2.1
 have hz2a:k≤j2:=hz2.2.1
 have hz2b:j2≤s.size:=hz2.2.2
 refine y7 (.bool bo1) ?_
 refine (go 3) (yb (fun h1=>?_) fun h1=>?_)
 ·refine (go 9) ?_
  refine zZ (α:=zB × Pz.St) (PT:=111) [Rb 114 p s j2 m,.pub zN] [.blk b5 [iV x.kind,iV x.n,iV x.range,.string x.word,.slice x.ms.A x.ms.l.length x.ms.c,.slice x.by_.A x.by_.l.length x.by_.c,.slice x.kids.A x.kids.l.length x.kids.c] 59,okP zB.Ok x,.blk b4 Zx 59] (fun z:zB × Pz.St=>.agg (zu z.1).toArray) (fun z3=>Pz.trm s N ⟨j2,m⟩=.ok (z3.1.e,z3.2)∧Pz.Good s ⟨j2,m⟩ z3.2) (fun z3=>[Rb 114 p s z3.2.at_ z3.2.nd,.pub zN,okP zB.Ok z3.1]) _ (fun f2=>Pz.trm s N ⟨j2,m⟩=.no f2) (fun _=>rfl) (S9 [0,1,2,3,4]) (fun _=>rfl) wn rfl rfl call97 rfl (fun w1 Pb hG=>ih p s j2 m d Pb w1 hG qO qO qO qO qO) ?_ fun z3 hz3=>?_
  ·intro f2 hf2
   refine zR (zx (vP (zx (zV fun w1 hM=>?_))))
   have hY:=Pz.bin_next hI1.1 (Pz.plus1 (by rw [he2,h1])) qD hf2
   rw [Pz.then_no] at hY
   exact hM.zd f2 (by simp only [Pz.then_ok,Pz.then_no,Pz.St.go,lgc,Pz.xpr,Pz.sumOf,he1,hY])
  obtain ⟨x2,j3,m2⟩:=z3
  have he3:Pz.trm s N ⟨j2,m⟩=.ok (x2.e,⟨j3,m2⟩):=hz3.1
  have ga2:j3≤s.size:=hz3.2.at_
  have gm2:m≤m2:=hz3.2.mono
  have gn2:m2≤100:=hz3.2.most (show m≤100 by omega)
  refine zz fun b7=>?_
  refine (go 8) ?_
  refine zy zu ([x,x2]:List zB) wn underlying57 inf59 rfl rfl rfl rfl qD qD rfl fun b25=>?_
  refine (go 1) ?_
  refine y6 0 2 encExprX rfl rfl (fp2) (vt (fun _ h=>h.exprG (k:=4) (n:=0) (r:=0) (wd:=⟨#[43]⟩) (ms:=⟨none,0,[]⟩) (bs:=⟨none,0,[]⟩) (ks:=⟨(some ⟨b25,0,none⟩),2,([x,x2]:List zB)⟩) (fun _ _=>zD.zt _ _ _ _) (fun _ _=>zD.zt _ _ _ _) (fun _ pp=>pp.sl 0 rfl) (fun _ pp x hx=>by simp only [List.mem_cons,List.not_mem_nil,or_false] at hx; rcases hx with rfl | rfl <;> first | exact pp.at_ 6 _ rfl | exact pp.at_ 4 _ rfl) (by first | decide | omega) (fun x hx=>by cases hx) (fun x hx=>by cases hx)) (zZ (α:=Unit) (PT:=111) [Rb 114 p s j3 m2,.pub zN] [okP zB.Ok (zB.mk 4 0 0 ⟨#[43]⟩ ⟨none,0,[]⟩ ⟨none,0,[]⟩ ⟨(some ⟨b25,0,none⟩),2,([x,x2]:List zB)⟩),slP 7 zu (.slice (some ⟨b25,0,none⟩) 2 2) ([x,x2]:List zB),.blk b7 [iV x2.kind,iV x2.n,iV x2.range,.string x2.word,.slice x2.ms.A x2.ms.l.length x2.ms.c,.slice x2.by_.A x2.by_.l.length x2.by_.c,.slice x2.kids.A x2.kids.l.length x2.kids.c] 59,okP zB.Ok x2,.blk b5 [iV x.kind,iV x.n,iV x.range,.string x.word,.slice x.ms.A x.ms.l.length x.ms.c,.slice x.by_.A x.by_.l.length x.by_.c,.slice x.kids.A x.kids.l.length x.kids.c] 59,okP zB.Ok x,.blk b4 Zx 59] (fun _:Unit=>.agg (List.toArray [iV 4,iV 0,iV 0,.string ⟨#[43]⟩,Zs,Zs,.slice (some ⟨b25,0,none⟩) 2 2])) (fun z4=>m2 + 1≤100) (fun z4=>[Rb 114 p s j3 (m2 + 1),.pub zN]) _ (fun f3=>Pz.node ⟨j3,m2⟩=.no f3) (fun _=>rfl) (S9 [3,4,0,1,2,5,6,7,8]) (fun _=>rfl) wn rfl rfl call99 rfl (fun w1 Pb hG=>vk p s j3 m2 4 0 0 ⟨#[43]⟩ none 0 0 none 0 0 (some ⟨b25,0,none⟩) 2 2 Pb w1 hG qO qO qO) ?_ fun z4 hz4=>?_))
  ·intro f3 hf3
   refine zx (vP (zx (zV fun w1 hM=>?_)))
   have hY:=Pz.bin_next hI1.1 (Pz.plus1 (by rw [he2,h1])) qD he3
   simp only [Pz.then_ok,hf3,Pz.then_no] at hY
   exact hM.zd f3 (by simp only [Pz.then_ok,Pz.then_no,Pz.St.go,lgc,Pz.xpr,Pz.sumOf,he1,hY])
  have he4:Pz.node ⟨j3,m2⟩=.ok ⟨j3,m2 + 1⟩:=Pz.node_yes hz4
  refine (go 1) ?_
  refine zU (yG (yY (zB.mk 4 0 0 ⟨#[43]⟩ ⟨none,0,[]⟩ ⟨none,0,[]⟩ ⟨(some ⟨b25,0,none⟩),2,([x,x2]:List zB)⟩) j3 (m2 + 1) (q - 1) (sc rfl (sc rfl (sc rfl (sc rfl sn)))) (S9 [6,0,1,2,8]) ?_ ?_))
  ·have hY:=Pz.bin_next hI1.1 (Pz.plus1 (by rw [he2,h1])) qD he3
   simp only [Pz.then_ok,he4] at hY
   exact ⟨hY.trans (by rw [show q - 1 + 1=q by omega]; rfl),by omega,by omega,by omega,by omega⟩
  omega
 have g1:bo1=false:=by simpa using h1
 refine (go 3) ?_
 refine yM (α:=(Bool × Nat)) [Rb 114 p s j2 m,.pub zN] [.blk b5 [iV x.kind,iV x.n,iV x.range,.string x.word,.slice x.ms.A x.ms.l.length x.ms.c,.slice x.by_.A x.by_.l.length x.by_.c,.slice x.kids.A x.kids.l.length x.kids.c] 59,okP zB.Ok x,.blk b4 Zx 59] (fun z:Bool × Nat=>.bool z.1) (fun z5=>(Pz.eat s ⟨#[45]⟩ j2=z5∧j2≤z5.2∧z5.2≤s.size)) (fun z5=>[Rb 114 p s z5.2 m,.pub zN]) _ (fun _=>rfl) (S9 [0,1,2,3,4]) (fun _=>rfl) wn rfl rfl call98 rfl (fun w1 Pb hG=>vo p s j2 m ⟨#[45]⟩ Pb w1 hG qO qO) fun z5 hz5=>?_
 obtain ⟨bo2,j4⟩:=z5
 have he5:Pz.eat s ⟨#[45]⟩ j2=(bo2,j4):=hz5.1
 have hz5a:j2≤j4:=hz5.2.1
 have hz5b:j4≤s.size:=hz5.2.2
 refine y7 (.bool bo2) ?_
 refine (go 3) (yb (fun h2=>?_) fun h2=>?_)
 ·refine (go 9) ?_
  refine zZ (α:=zB × Pz.St) (PT:=111) [Rb 114 p s j4 m,.pub zN] [.blk b5 [iV x.kind,iV x.n,iV x.range,.string x.word,.slice x.ms.A x.ms.l.length x.ms.c,.slice x.by_.A x.by_.l.length x.by_.c,.slice x.kids.A x.kids.l.length x.kids.c] 59,okP zB.Ok x,.blk b4 Zx 59] (fun z:zB × Pz.St=>.agg (zu z.1).toArray) (fun z6=>Pz.trm s N ⟨j4,m⟩=.ok (z6.1.e,z6.2)∧Pz.Good s ⟨j4,m⟩ z6.2) (fun z6=>[Rb 114 p s z6.2.at_ z6.2.nd,.pub zN,okP zB.Ok z6.1]) _ (fun f4=>Pz.trm s N ⟨j4,m⟩=.no f4) (fun _=>rfl) (S9 [0,1,2,3,4]) (fun _=>rfl) wn rfl rfl call97 rfl (fun w1 Pb hG=>ih p s j4 m d Pb w1 hG qO qO qO qO qO) ?_ fun z6 hz6=>?_
  ·intro f4 hf4
   refine zR (zx (vP (zx (zV fun w1 hM=>?_))))
   have hY:=Pz.bin_next hI1.1 (Pz.minus1 (by rw [he2,g1]) (by rw [he5,h2])) qD hf4
   rw [Pz.then_no] at hY
   exact hM.zd f4 (by simp only [Pz.then_ok,Pz.then_no,Pz.St.go,lgc,Pz.xpr,Pz.sumOf,he1,hY])
  obtain ⟨x3,j5,m3⟩:=z6
  have he6:Pz.trm s N ⟨j4,m⟩=.ok (x3.e,⟨j5,m3⟩):=hz6.1
  have ga3:j5≤s.size:=hz6.2.at_
  have gm3:m≤m3:=hz6.2.mono
  have gn3:m3≤100:=hz6.2.most (show m≤100 by omega)
  refine zz fun b7=>?_
  refine (go 8) ?_
  refine zy zu ([x,x3]:List zB) wn underlying57 inf59 rfl rfl rfl rfl qD qD rfl fun b25=>?_
  refine (go 1) ?_
  refine y6 0 2 encExprX rfl rfl (fp2) (vt (fun _ h=>h.exprG (k:=4) (n:=0) (r:=0) (wd:=⟨#[45]⟩) (ms:=⟨none,0,[]⟩) (bs:=⟨none,0,[]⟩) (ks:=⟨(some ⟨b25,0,none⟩),2,([x,x3]:List zB)⟩) (fun _ _=>zD.zt _ _ _ _) (fun _ _=>zD.zt _ _ _ _) (fun _ pp=>pp.sl 0 rfl) (fun _ pp x hx=>by simp only [List.mem_cons,List.not_mem_nil,or_false] at hx; rcases hx with rfl | rfl <;> first | exact pp.at_ 6 _ rfl | exact pp.at_ 4 _ rfl) (by first | decide | omega) (fun x hx=>by cases hx) (fun x hx=>by cases hx)) (zZ (α:=Unit) (PT:=111) [Rb 114 p s j5 m3,.pub zN] [okP zB.Ok (zB.mk 4 0 0 ⟨#[45]⟩ ⟨none,0,[]⟩ ⟨none,0,[]⟩ ⟨(some ⟨b25,0,none⟩),2,([x,x3]:List zB)⟩),slP 7 zu (.slice (some ⟨b25,0,none⟩) 2 2) ([x,x3]:List zB),.blk b7 [iV x3.kind,iV x3.n,iV x3.range,.string x3.word,.slice x3.ms.A x3.ms.l.length x3.ms.c,.slice x3.by_.A x3.by_.l.length x3.by_.c,.slice x3.kids.A x3.kids.l.length x3.kids.c] 59,okP zB.Ok x3,.blk b5 [iV x.kind,iV x.n,iV x.range,.string x.word,.slice x.ms.A x.ms.l.length x.ms.c,.slice x.by_.A x.by_.l.length x.by_.c,.slice x.kids.A x.kids.l.length x.kids.c] 59,okP zB.Ok x,.blk b4 Zx 59] (fun _:Unit=>.agg (List.toArray [iV 4,iV 0,iV 0,.string ⟨#[45]⟩,Zs,Zs,.slice (some ⟨b25,0,none⟩) 2 2])) (fun z7=>m3 + 1≤100) (fun z7=>[Rb 114 p s j5 (m3 + 1),.pub zN]) _ (fun f5=>Pz.node ⟨j5,m3⟩=.no f5) (fun _=>rfl) (S9 [3,4,0,1,2,5,6,7,8]) (fun _=>rfl) wn rfl rfl call99 rfl (fun w1 Pb hG=>vk p s j5 m3 4 0 0 ⟨#[45]⟩ none 0 0 none 0 0 (some ⟨b25,0,none⟩) 2 2 Pb w1 hG qO qO qO) ?_ fun z7 hz7=>?_))
  ·intro f5 hf5
   refine zx (vP (zx (zV fun w1 hM=>?_)))
   have hY:=Pz.bin_next hI1.1 (Pz.minus1 (by rw [he2,g1]) (by rw [he5,h2])) qD he6
   simp only [Pz.then_ok,hf5,Pz.then_no] at hY
   exact hM.zd f5 (by simp only [Pz.then_ok,Pz.then_no,Pz.St.go,lgc,Pz.xpr,Pz.sumOf,he1,hY])
  have he7:Pz.node ⟨j5,m3⟩=.ok ⟨j5,m3 + 1⟩:=Pz.node_yes hz7
  refine (go 1) ?_
  refine zU (yG (yY (zB.mk 4 0 0 ⟨#[45]⟩ ⟨none,0,[]⟩ ⟨none,0,[]⟩ ⟨(some ⟨b25,0,none⟩),2,([x,x3]:List zB)⟩) j5 (m3 + 1) (q - 1) (sc rfl (sc rfl (sc rfl (sc rfl sn)))) (S9 [6,0,1,2,8]) ?_ ?_))
  ·have hY:=Pz.bin_next hI1.1 (Pz.minus1 (by rw [he2,g1]) (by rw [he5,h2])) qD he6
   simp only [Pz.then_ok,he7] at hY
   exact ⟨hY.trans (by rw [show q - 1 + 1=q by omega]; rfl),by omega,by omega,by omega,by omega⟩
  omega
 have g2:bo2=false:=by simpa using h2
 refine (go 12) (zY results52 fun w1 hM=>?_)
 have h9:Pz.xpr s N ⟨i,n⟩=.ok (x.e,⟨j4,m⟩):=by simp only [Pz.then_ok,Pz.then_no,Pz.St.go,lgc,Pz.xpr,Pz.sumOf,he1,Pz.bin_done hI1.1 (Pz.plus0 (by rw [he2,g1]) (by rw [he5,g2]))]
 exact hM.vZ ((x,⟨j4,m⟩):zB × Pz.St) rfl ⟨h9,(Pz.xpr_fine s N _ hi).ok_ h9⟩ (fun h=>h.sel [0,1,3] qD rfl)
theorem trm_of {N:Nat} (ih:FacC N):TrmC N:=fun p s i n d Pb w hG hi hs hn hd hd1=>c_term p s i n d N Pb w hG hi hs hn hd hd1 ih
theorem xpr_of {N:Nat} (ih:TrmC N):XprC N:=fun p s i n d Pb w hG hi hs hn hd hd1=>c_expr p s i n d N Pb w hG hi hs hn hd hd1 ih
theorem fac_all:∀ N,FacC N
  | 0=>fun p s i n d Pb w hG hi hs hn hd hd1=>c_factor p s i n d 0 Pb w hG hi hs hn hd hd1 (fun M h=>by omega)
  | N + 1=>fun p s i n d Pb w hG hi hs hn hd hd1=>c_factor p s i n d (N + 1) Pb w hG hi hs hn hd hd1 (fun M h=>by obtain rfl:N=M:=qO; exact xpr_of (trm_of (fac_all N)))
theorem xpr_all (N:Nat):XprC N:=xpr_of (trm_of (fac_all N))
end
section
namespace Ex
set_option linter.unusedVariables false
@[reducible] def dfr (f:Nat) (cap:List Value):Deferred:={ target:=.fn (.func f) cap.toArray,args:=#[] }
section
variable {P:Program} {N:Nat} {D:List Deferred} {E E':Env} {S S':World→Prop} {Q:Exit→Act→World→Prop} {K:Act→World→Prop} {w0 w w':World} {M:Fp} {L A A' R L':List Own} {Pb:Nat→Prop}
  {ops:Array Oper} {rest:List Oper} {d:Nat} {ty T PT:TypeId} {pos:String} {aft:Array Edge} {g:Option (Nat × Bool)} {v u:Value} {x y:Operand}
theorem fstartD {f:Nat} {fn:Func} {c:Code} {vals:List Value} {w:World} {R:Ending→World→Prop} (hf:P.funcs[f]?=some fn) (hb:fn.body=some c) (hn:fn.ntmps=N) (hl:Nat.ble vals.length N=true)
    (hS:S w) (h:WC P N [] c (bodyPostD P fn R) (envOf 0 vals) S):Calls P f vals.toArray w R:=by
  refine calls_of_wp_defers hf hb (h w hS _ ⟨rfl,?_,fun t v hv=>?_⟩)
  · have:=Nat.le_of_ble_eq_true hl
    simp [hn]; omega
  · rw [look_envOf,if_neg qO] at hv
    simp only [Nat.sub_zero] at hv
    have hlt:t < vals.length:=(List.getElem?_eq_some_iff.1 hv).1
    rw [Array.getElem?_append_left (by simpa using hlt)]
    simpa using hv
theorem c_seqD {x y:Code} (h:∀ K:Act→World→Prop,(∀ D' E S,WC P N D' y Q E S→∀ w,S w→∀ a,Has N D' a E→K a w)→WC P N D x (Exit.then K Q) E S):WC P N D (.seq x y) Q E S :=
  fun w hw a ha=>wp_seq (h (fun a w=>y.wp P Q a w) (fun _ _ _ h' w' hw' a' ha'=>h' w' hw' a' ha') w hw a ha)
theorem l_defer {f:Nat} {cap:List Value} (hw:Want N D ops E g true) (hx:ev E x=some (.func (.func f) #[] cap.toArray)) (h:WL P N (dfr f cap::D) ops Q rest E S):WL P N D ops Q (⟨none,.defer { callee:=.value x,args:=#[],argTypes:=#[] },ty,pos,aft,g⟩::rest) E S:=fun w hS a ha=>by
  unfold wpList
  rw [if_pos (hw _ rfl a ha)]
  left
  unfold Oper.wp
  rw [show (execOp a.eval ⟨none,.defer { callee:=.value x,args:=#[],argTypes:=#[] },ty,pos,aft,g⟩).run P w=.ok (.defer (dfr f cap)) w from by unfold execOp; simp [ha.eval hx,resolve,Deferred.ofValue,dfr],Oper.upon_defer]
  exact h w hS _ ⟨by show _::a.defers=_; rw [ha.d],ha.n,ha.h⟩
section
variable {fn:Func} {R:Ending→World→Prop} {f:Nat} {cap:List Value} {r1 r2:ResultVar} {v1 v2:Value} {chain chain':List PanicEntry}
theorem res2 {a:Act} {w:World} (hr:fn.results=#[r1,r2]) (hv1:ResV P N D E S r1 v1) (hv2:ResV P N D E S r2 v2) (hS:S w) (ha:Has N D a E):(results fn a.tmps).run P w=.ok (.tuple #[v1,v2]) w:=by
  rw [results_eq,hr]; simp [hv1 w hS a ha,hv2 w hS a ha]
theorem e_retD0 {e:Exit} (he:e=.ret∨e=.normal) (hr:fn.results=#[r1,r2]) (hv1:ResV P N [] E S r1 v1) (hv2:ResV P N [] E S r2 v2) (hR:∀ w,S w→R (.returned (.tuple #[v1,v2])) w):WE N [] (bodyPostD P fn R) e E S:=fun w hS a ha=>by
  have h1:Leaves P fn a.tmps R a.defers .returning w:=by rw [ha.d]; exact ⟨_,res2 hr hv1 hv2 hS ha,hR w hS⟩
  rcases he with rfl | rfl <;> exact h1
theorem leave1 {a:Act} {w:World} {u u':FrameMode} (hu:u≠.run) (hcall:∀ vs w,(callFunc f vs).run P w=.ok (.enter f vs) w) (hu':settle u'=.returning)
    (hc:CallsD P f cap.toArray u w (fun e u2 w'=>u2=u'∧(∃ v,e=.returned v)∧S' w')) (hr:fn.results=#[r1,r2]) (hv1:ResV P N D E S' r1 v1) (hv2:ResV P N D E S' r2 v2) (hR:∀ w,S' w→R (.returned (.tuple #[v1,v2])) w) (ha:Has N D a E) (hD:D=[dfr f cap]):Leaves P fn a.tmps R a.defers u w:=by
  have hd:=ha.d
  rw [hd,hD]
  refine leaves_cons hu (f:=f) (args:=cap.toArray) (by simp [invoke,hcall]) (hc.mono ?_)
  rintro e u2 w2 ⟨rfl,⟨v,rfl⟩,hS2⟩
  show Leaves P fn a.tmps R [] (settle _) w2
  rw [hu']
  exact ⟨_,res2 hr hv1 hv2 hS2 ha,hR w2 hS2⟩
theorem e_retD {e:Exit} (he:e=.ret∨e=.normal) (hcall:∀ vs w,(callFunc f vs).run P w=.ok (.enter f vs) w) (hc:∀ w,S w→CallsD P f cap.toArray .returning w (fun e u' w'=>u'=.returning∧(∃ v,e=.returned v)∧S' w'))
    (hr:fn.results=#[r1,r2]) (hv1:ResV P N [dfr f cap] E S' r1 v1) (hv2:ResV P N [dfr f cap] E S' r2 v2) (hR:∀ w,S' w→R (.returned (.tuple #[v1,v2])) w):WE N [dfr f cap] (bodyPostD P fn R) e E S:=fun w hS a ha=>by
  have h1:=leave1 (u:=.returning) qS hcall (u':=.returning) rfl (hc w hS) hr hv1 hv2 hR ha rfl
  rcases he with rfl | rfl <;> exact h1
theorem jT (hcall:∀ vs w,(callFunc f vs).run P w=.ok (.enter f vs) w) (hc:∀ w,S w→CallsD P f cap.toArray (.panicking chain) w (fun e u' w'=>u'=.panicking chain'∧(∃ v,e=.returned v)∧S' w')) (hu:settle (.panicking chain')=.returning)
    (hr:fn.results=#[r1,r2]) (hv1:ResV P N [dfr f cap] E S' r1 v1) (hv2:ResV P N [dfr f cap] E S' r2 v2) (hR:∀ w,S' w→R (.returned (.tuple #[v1,v2])) w):WE N [dfr f cap] (bodyPostD P fn R) (.panic chain) E S:=fun w hS a ha =>
  leave1 (u:=.panicking chain) qS hcall hu (hc w hS) hr hv1 hv2 hR ha rfl
end
theorem dgive {α:Type} {f:Nat} {cap:List Value} {u u2:FrameMode} (A R:List Own) (mk:α→Value) (A' L':List Own) (hL':A'++R=L') (hA:∀ w,Mem w0 M L w→Mem w0 M (A++R) w) (hq:A'.all (fun o=>o.mut || o.isPub)=true)
    (hc:∀ w Pb,Mem w ⟨fpOf A,Pb⟩ A w→CallsD P f cap.toArray u w (fun e u' w'=>u'=u2∧RetA w A Pb mk (fun _=>True) (fun _=>A') e w')):∀ w,Mem w0 M L w→CallsD P f cap.toArray u w (fun e u' w'=>u'=u2∧(∃ v,e=.returned v)∧Mem w0 M L' w'):=fun w hS=>by
  have hS':=hA w hS
  obtain ⟨Pb,pp⟩:=hS'.pb
  refine (hc w Pb (hS'.give pp)).mono ?_
  rintro e u' w' ⟨hu,z,rfl,_,hk⟩
  exact ⟨hu,⟨_,rfl⟩,by rw [← hL']; exact hS'.take pp hk hq⟩
theorem didle {f:Nat} {cap:List Value} (hc:∀ w,Mem w0 M L w→CallsD P f cap.toArray .returning w (fun e u' w'=>u'=.returning∧RetA w [] (fun _=>False) (fun _:Unit=>.tuple #[]) (fun _=>True) (fun _=>[]) e w')):∀ w,Mem w0 M L w→CallsD P f cap.toArray .returning w (fun e u' w'=>u'=.returning∧(∃ v,e=.returned v)∧Mem w0 M L w'):=fun w hS=>by
  refine (hc w hS).mono ?_
  rintro e u' w' ⟨hu,z,rfl,_,hk⟩
  exact ⟨hu,⟨_,rfl⟩,hS.keep (hk.fr.mono fun b hb hm=>by obtain ⟨o,ho,_⟩:=hm; cases ho)⟩
theorem memNil (w:World):Mem w ⟨fpOf [],fun _=>False⟩ [] w:=Mem.start w _
theorem dstart {f:Nat} {fn:Func} {id:Nat} {c:Code} {vals:List Value} {w:World} {R:Ending→World→Prop} {u u':FrameMode} {rv:Value} (hf:P.funcs[f]?=some fn) (hb:fn.body=some (.seq (.region id #[⟨some d,.call { callee:=.builtin .recover,args:=#[],argTypes:=#[] },ty,pos,aft,none⟩] false) c)) (hn:fn.ntmps=N) (hl:Nat.ble vals.length N=true) (hd:Nat.blt d N=true)
    (hu:(u=.returning∧u'=.returning∧rv=.nilIface)∨∃ older,u=.panicking ({ v:=rv,recovered:=false }::older)∧u'=.panicking ({ v:=rv,recovered:=true }::older))
    (hS:S w) (h:WC P N [] c (bodyPost P fn R) ((d,rv)::envOf 0 vals) S):CallsD P f vals.toArray u w (fun e u2 w'=>u2=u'∧R e w'):=by
  refine callsD_of_wpS hf hb fun c₀ cs hcu=>?_
  have ha:Has N [] ({ tmps:=vals.toArray++Array.replicate (fn.ntmps - vals.toArray.size) undef,defers:=[] }:Act) (envOf 0 vals):=by
    refine ⟨rfl,?_,fun t v hv=>?_⟩
    · have:=Nat.le_of_ble_eq_true hl
      simp [hn]; omega
    · rw [look_envOf,if_neg qO] at hv
      simp only [Nat.sub_zero] at hv
      have hlt:t < vals.length:=(List.getElem?_eq_some_iff.1 hv).1
      rw [Array.getElem?_append_left (by simpa using hlt)]
      simpa using hv
  refine wpS_seq (wpS_region ?_)
  have hrest:∀ cs':List Frame,cs'={ c₀ with mode:=u' }::cs→∀ (a:Act),Has N [] a ((d,rv)::envOf 0 vals)→c.wpS P (bodyPostS P fn c₀ cs fun e u2 w'=>u2=u'∧R e w') a cs' w:=fun cs' hcs a ha=>by
    refine wpS_of_wp (Code.wp_mono ?_ (h w hS a ha))
    intro e a' w' hq
    cases e with
    | normal=>obtain ⟨h1,v,h2,h3⟩:=hq; exact ⟨h1,u',hcs,v,h2,rfl,h3⟩
    | ret=>obtain ⟨h1,v,h2,h3⟩:=hq; exact ⟨h1,u',hcs,v,h2,rfl,h3⟩
    | panic ch=>obtain ⟨h1,h2⟩:=hq; exact ⟨h1,u',hcs,rfl,h2⟩
    | outgrown=>exact ⟨u',rfl,hq⟩
    | exit i=>exact hq
    | goto i=>exact hq
  have hrun:∀ a:Act,(execOp a.eval ⟨some d,.call { callee:=.builtin .recover,args:=#[],argTypes:=#[] },ty,pos,aft,none⟩).run P w=.ok .recover w:=fun a=>by
    unfold execOp; simp [resolve,invoke,builtin]
  rw [show List.range (#[(⟨some d,.call { callee:=.builtin .recover,args:=#[],argTypes:=#[] },ty,pos,aft,none⟩:Oper)]).size=[0] from rfl]
  simp only [wpOpsS,List.getElem?_toArray,List.getElem?_cons_zero,Region.wanted,if_true,hrun]
  rcases hu with ⟨rfl,rfl,rfl⟩ | ⟨older,rfl,rfl⟩
  · have hr:recoverD (c₀::cs)=none:=by simp [recoverD,hcu]
    simp only [hr]
    exact hrest _ (by rw [← hcu]) _ (ha.put _ hd)
  · have hr:recoverD (c₀::cs)=some (rv,{ c₀ with mode:=.panicking ({ v:=rv,recovered:=true }::older) }::cs):=by simp [recoverD,hcu]
    simp only [hr]
    exact hrest _ rfl _ (ha.put _ hd)
end
end Ex
end
section
open _root_.Go.Proofs.Tryz
open Ex
attribute [local irreducible] WC WL WQ WE WS
set_option linter.unusedVariables false
set_option linter.unusedSimpArgs false
theorem jB (b2 b3:Nat) (v0 v1 v2 v3 v4 v5 v6 u0 u1:Value) (er at_:Int) (Pb:Nat→Prop) (w:World) (hG:Mem w ⟨fpOf [.blk b2 [v0,v1,v2,v3,v4,v5,v6] 59,.blk b3 [u0,u1] 61],Pb⟩ [.blk b2 [v0,v1,v2,v3,v4,v5,v6] 59,.blk b3 [u0,u1] 61] w)  :
    CallsD prog 51 #[.pointer (some ⟨b2,0,none⟩),.pointer (some ⟨b3,0,none⟩)] (.panicking [{ v:=.iface 111 (.agg (List.toArray [iV er,iV at_])),recovered:=false }]) w (fun e u2 w2=>u2=.panicking [{ v:=.iface 111 (.agg (List.toArray [iV er,iV at_])),recovered:=true }]∧(RetA w [.blk b2 [v0,v1,v2,v3,v4,v5,v6] 59,.blk b3 [u0,u1] 61] Pb (fun _:Unit=>.tuple #[]) (fun _=>True) (fun _=>[.blk b2 [iV 0,iV 0,iV 0,.string (⟨#[]⟩:ByteArray),Zs,Zs,Zs] 59,.blk b3 [iV er,iV at_] 61])) e w2):=by
 refine dstart (N:=14) (vals:=[.pointer (some ⟨b2,0,none⟩),.pointer (some ⟨b3,0,none⟩)]) (S:=Mem w ⟨fpOf [.blk b2 [v0,v1,v2,v3,v4,v5,v6] 59,.blk b3 [u0,u1] 61],Pb⟩ [.blk b2 [v0,v1,v2,v3,v4,v5,v6] 59,.blk b3 [u0,u1] 61]) func51 rfl rfl rfl rfl (.inr ⟨[],rfl,rfl⟩) hG (vU (jv fun _ hK1=>zb (r_ieq rfl (.inr ⟨_,_,rfl⟩) underlying20) (yv hK1 (yc rfl rfl (jv fun _ hK2=>zb (r_tassert rfl underlying111) (zb (uS rfl rfl) (zb (uS rfl rfl) (yv hK2 (y8 rfl rfl ?_)))))))))
 refine jv fun _ hK3=>uz wn inf111 rfl fun b3_1=>ut 0 wn rfl rfl rfl inf111 rfl rfl rfl (yv hK3 (yK (Mem w ⟨fpOf [.blk b2 [v0,v1,v2,v3,v4,v5,v6] 59,.blk b3 [u0,u1] 61],Pb⟩ [.blk b3_1 [iV er,iV at_] 111]) mix (fun _ h=>h.drew) rfl (yJ 2 [0,1,2] [0] rfl fun KS hKS=>uo (uy Zx pl59 inf59 rfl rfl) (uo (ud rfl fld111_0) (uo (jY 0 [iV er,iV at_] rfl rfl rfl rfl agg61 inf61) (zi hKS (zf 1 3 (zg (i:=3) rfl fun KN hKN=>?_))))))))
 refine ut 1 wn rfl rfl rfl inf59 rfl rfl rfl (l_hk hKN [0] (zf 0 4 (zg (i:=4) rfl fun KN hKN=>ut 2 wn rfl rfl rfl inf61 rfl rfl rfl (l_hk hKN [0] (zw (by kernel_rfl) (yG (uk (.inr rfl) results51  fun w1 hM=>?_)))))))
 exact hM.yV () rfl trivial (fun h=>h.sel [1,2] qD rfl)
theorem c_idle (b2 b3:Nat) (Pb:Nat→Prop) (w:World) (hG:Mem w ⟨fpOf [],Pb⟩ [] w)  :
    CallsD prog 51 #[.pointer (some ⟨b2,0,none⟩),.pointer (some ⟨b3,0,none⟩)] .returning w (fun e u2 w2=>u2=.returning∧(RetA w [] Pb (fun _:Unit=>.tuple #[]) (fun _=>True) (fun _=>[])) e w2):=by
 refine dstart (N:=14) (vals:=[.pointer (some ⟨b2,0,none⟩),.pointer (some ⟨b3,0,none⟩)]) (S:=Mem w ⟨fpOf [],Pb⟩ []) func51 rfl rfl rfl rfl (.inl ⟨rfl,rfl,rfl⟩) hG (vU (jv fun _ hK1=>zb (r_ieq rfl (.inl rfl) underlying20) (yv hK1 (y8 rfl rfl (zl (vY rfl (zU (yG (uk (.inr rfl) results51  fun w1 hM=>?_)))))))))
 exact hM.yV () rfl trivial (fun h=>h.sel [] qD rfl)
theorem c_shapeB (x:zB) {w0 w:World} {M:Fp} {L:List Own} {hp b TB i j k:Nat} (hM:Mem w0 M L w) (hi:L[i]?=some (.blk hp [iV 0] 119)) (hj:L[j]?=some (.blk b (zu x) TB)) (hij:Nat.beq i j=false) (hk:L[k]?=some (okP zB.Ok x)) :
    Calls prog 55 #[.pointer (some ⟨hp,0,none⟩),.pointer (some ⟨b,0,none⟩),iV 1] w (RetM w hp 119 (iV (Lg.shape x.e 1 0).1) [iV (Lg.shape x.e 1 0).2]):=by
 obtain ⟨Pb,pp⟩:=hM.pb
 have hb:=(hM.ok j _ hj).2.1 b rfl
 have hne:b≠hp:=fun e=>hM.dj i j _ _ hi hj (Nat.ne_of_beq_eq_false hij) (.inl rfl) hp rfl (show hp=b from e.symm)
 refine c_shape x hp 0 ⟨b,0,none⟩ 1 (fun q=>q < w.heap.size∧q≠hp) w (hM.blk hi) (fun q hq=>hq) ⟨⟨hb,hne⟩,fun u v hv=>?_⟩ (zB.Ok.loc x Pb _ w w (fun q hq=>⟨pp.lt q hq,fun e=>pp.dj i _ hi rfl q hq e⟩) (fun _ _=>rfl) (pp.at_ k _ hk)) qO qO qO
 rw [add_lit]
 have:=hM.cell (j:=0 + u) hj
 rw [this]; simpa using hv
set_option maxHeartbeats 1000000 in
theorem c_parse (s:ByteArray) (P0:Nat→Prop) (w:World) (hP0:∀ b,P0 b→b < w.heap.size) (hE:zN P0 w)  :
    Calls prog 23 #[.string s] w (RetE w P0 (fun z:zB × Pz.F=>.tuple #[.agg (zu z.1).toArray,.agg #[iV z.2.1,iV z.2.2]]) (fun z=>Pz.parse s=(z.1.e,z.2)) (fun z S=>zB.Ok S z.1)):=by
 refine fstartD (N:=35) (vals:=[.string s]) (S:=Mem w ⟨no,P0⟩ [.pub zN]) func23 rfl rfl rfl (Mem.ofDatsP hP0 (dc (dp zN.loc hE) dn)) ?_
 refine (go 2) (zz fun b2=>zz fun b3=>?_)
 refine (go 10) (zX (fun h1=>?_) fun h1=>?_)
 ·refine (go 2) ?_
  refine zb (uy Zx pl59 inf59 rfl rfl) ?_
  refine (go 7) ?_
  refine e_retD0 (.inl rfl) results23 (yz 1 rfl rfl agg59 inf59 rfl) (yz 0 rfl rfl agg61 inf61 rfl) fun w1 hM=>?_
  exact hM.vT ((zB.mk 0 0 0 ⟨#[]⟩ ⟨none,0,[]⟩ ⟨none,0,[]⟩ ⟨none,0,[]⟩),(4,0)) rfl (Pz.parse_big h1) fun Pb pp=>Pz.okZero Pb w1
 refine (go 2) ?_
 refine c_seqD fun _ hK5=>?_
 refine (go 1) ?_
 refine zb (yf rfl rfl) (l_defer wn rfl ?_)
 refine (go 1) ?_
 refine uw (hK5 _) ?_
 refine (go 4) (yu fun b13=>?_)
 refine (go 6) ?_
 refine zZ (α:=zB × Pz.St) (PT:=111) [.blk b13 [.string s,iV 0,iV 0] 114,.pub zN] [.blk b3 [iV 0,iV 0] 61,.blk b2 Zx 59] (fun z:zB × Pz.St=>.agg (zu z.1).toArray) (fun z1=>Pz.xpr s 20 ⟨0,0⟩=.ok (z1.1.e,z1.2)∧Pz.Good s ⟨0,0⟩ z1.2) (fun z1=>[Rb 114 b13 s z1.2.at_ z1.2.nd,.pub zN,okP zB.Ok z1.1]) _ (fun f1=>Pz.xpr s 20 ⟨0,0⟩=.no f1) (fun _=>rfl) (S9 [0,3,1,2]) (fun _=>rfl) wn rfl rfl call52 rfl (fun w1 Pb hG=>(xpr_all 20) b13 s 0 0 1 Pb w1 hG qO qO qO qO qO) ?_ fun z1 hz1=>?_
 ·intro f1 hf1
  refine zR (jT call51 (dgive [.blk b2 Zx 59,.blk b3 [iV 0,iV 0] 61] [] (fun _:Unit=>.tuple #[]) [.blk b2 [iV 0,iV 0,iV 0,.string (⟨#[]⟩:ByteArray),Zs,Zs,Zs] 59,.blk b3 [iV f1.1,iV f1.2] 61] [.blk b2 [iV 0,iV 0,iV 0,.string (⟨#[]⟩:ByteArray),Zs,Zs,Zs] 59,.blk b3 [iV f1.1,iV f1.2] 61] rfl (S9 [1,0]) rfl (fun w1 Pb hG=>jB b2 b3 (iV 0) (iV 0) (iV 0) (.string ⟨#[]⟩) (Zs) (Zs) (Zs) (iV 0) (iV 0) f1.1 f1.2 Pb w1 hG)) rfl results23 (yz 0 rfl rfl agg59 inf59 rfl) (yz 1 rfl rfl agg61 inf61 rfl) fun w1 hM=>?_)
  exact hM.vT ((zB.mk 0 0 0 ⟨#[]⟩ ⟨none,0,[]⟩ ⟨none,0,[]⟩ ⟨none,0,[]⟩),f1) rfl (Pz.parse_no h1 hf1) fun Pb pp=>Pz.okZero Pb w1
 obtain ⟨x1,j1,m1⟩:=z1
 have he1:Pz.xpr s 20 ⟨0,0⟩=.ok (x1.e,⟨j1,m1⟩):=hz1.1
 have ga1:j1≤s.size:=hz1.2.at_
 have gm1:0≤m1:=hz1.2.mono
 have gn1:m1≤100:=hz1.2.most (show 0≤100 by omega)
 refine (go 6) ?_
 refine yM (α:=Nat) [Rb 114 b13 s j1 m1,.pub zN] [okP zB.Ok x1,.blk b3 [iV 0,iV 0] 61,.blk b2 [iV x1.kind,iV x1.n,iV x1.range,.string x1.word,.slice x1.ms.A x1.ms.l.length x1.ms.c,.slice x1.by_.A x1.by_.l.length x1.by_.c,.slice x1.kids.A x1.kids.l.length x1.kids.c] 59] (fun _=>.tuple #[]) (fun j2=>(Pz.blank s j1=j2∧j1≤j2∧j2≤s.size)) (fun j2=>[Rb 114 b13 s j2 m1,.pub zN]) _ (fun _=>rfl) (S9 [0,1,2,3,4]) (fun _=>rfl) wn rfl rfl call53 rfl (fun w1 Pb hG=>vj b13 s j1 m1 Pb w1 hG qO qO) fun j2 hz2=>?_
 obtain ⟨hz2e,hz2a,hz2b⟩:=hz2
 refine (go 14) (zX (fun h2=>?_) fun h2=>?_)
 ·refine (go 2) ?_
  refine zZ (α:=Unit) (PT:=111) [Rb 114 b13 s j2 m1,.pub zN] [okP zB.Ok x1,.blk b3 [iV 0,iV 0] 61,.blk b2 [iV x1.kind,iV x1.n,iV x1.range,.string x1.word,.slice x1.ms.A x1.ms.l.length x1.ms.c,.slice x1.by_.A x1.by_.l.length x1.by_.c,.slice x1.kids.A x1.kids.l.length x1.kids.c] 59] (fun _:Unit=>.tuple #[]) (fun z2=>False) (fun z2=>[Rb 114 b13 s j2 m1,.pub zN]) _ (fun f2=>f2=(2,(j2:Int))) (fun _=>rfl) (S9 [0,1,2,3,4]) (fun _=>rfl) wn rfl rfl call54 rfl (fun w1 Pb hG=>yi b13 s j2 m1 2 Pb w1 hG) ?_ fun z2 hz3=>?_
  ·intro f2 hf2
   refine zR (jT call51 (dgive [.blk b2 [iV x1.kind,iV x1.n,iV x1.range,.string x1.word,.slice x1.ms.A x1.ms.l.length x1.ms.c,.slice x1.by_.A x1.by_.l.length x1.by_.c,.slice x1.kids.A x1.kids.l.length x1.kids.c] 59,.blk b3 [iV 0,iV 0] 61] [okP zB.Ok x1] (fun _:Unit=>.tuple #[]) [.blk b2 [iV 0,iV 0,iV 0,.string (⟨#[]⟩:ByteArray),Zs,Zs,Zs] 59,.blk b3 [iV f2.1,iV f2.2] 61] [.blk b2 [iV 0,iV 0,iV 0,.string (⟨#[]⟩:ByteArray),Zs,Zs,Zs] 59,.blk b3 [iV f2.1,iV f2.2] 61,okP zB.Ok x1] rfl (S9 [2,1,0]) rfl (fun w1 Pb hG=>jB b2 b3 (iV x1.kind) (iV x1.n) (iV x1.range) (.string x1.word) (.slice x1.ms.A x1.ms.l.length x1.ms.c) (.slice x1.by_.A x1.by_.l.length x1.by_.c) (.slice x1.kids.A x1.kids.l.length x1.kids.c) (iV 0) (iV 0) f2.1 f2.2 Pb w1 hG)) rfl results23 (yz 0 rfl rfl agg59 inf59 rfl) (yz 1 rfl rfl agg61 inf61 rfl) fun w1 hM=>?_)
   exact hM.vT ((zB.mk 0 0 0 ⟨#[]⟩ ⟨none,0,[]⟩ ⟨none,0,[]⟩ ⟨none,0,[]⟩),f2) rfl (by rw [hf2]; exact Pz.parse_form h1 he1 hz2e qO) fun Pb pp=>Pz.okZero Pb w1
  exact hz3.elim
 refine (go 6) (yu fun b28=>?_)
 refine u6 0 (v:=iV (Lg.shape x1.e 1 0).1) (cs':=[iV (Lg.shape x1.e 1 0).2]) wn rfl rfl call55 rfl (fun w1 Pb hM pp=>c_shapeB x1 (TB:=59) hM (i:=0) rfl (j:=5) rfl rfl (k:=3) rfl) ?_
 refine (go 3) (zX (fun h3=>?_) fun h3=>?_)
 ·refine (go 2) ?_
  refine zZ (α:=Unit) (PT:=111) [Rb 114 b13 s j2 m1,.pub zN] [.blk b28 [iV ((Lg.shape x1.e 1 0).2)] 119,okP zB.Ok x1,.blk b3 [iV 0,iV 0] 61,.blk b2 [iV x1.kind,iV x1.n,iV x1.range,.string x1.word,.slice x1.ms.A x1.ms.l.length x1.ms.c,.slice x1.by_.A x1.by_.l.length x1.by_.c,.slice x1.kids.A x1.kids.l.length x1.kids.c] 59] (fun _:Unit=>.tuple #[]) (fun z3=>False) (fun z3=>[Rb 114 b13 s j2 m1,.pub zN]) _ (fun f3=>f3=(4,(j2:Int))) (fun _=>rfl) (S9 [1,2,0,3,4,5]) (fun _=>rfl) wn rfl rfl call54 rfl (fun w1 Pb hG=>yi b13 s j2 m1 4 Pb w1 hG) ?_ fun z3 hz4=>?_
  ·intro f3 hf3
   refine zR (jT call51 (dgive [.blk b2 [iV x1.kind,iV x1.n,iV x1.range,.string x1.word,.slice x1.ms.A x1.ms.l.length x1.ms.c,.slice x1.by_.A x1.by_.l.length x1.by_.c,.slice x1.kids.A x1.kids.l.length x1.kids.c] 59,.blk b3 [iV 0,iV 0] 61] [.blk b28 [iV ((Lg.shape x1.e 1 0).2)] 119,okP zB.Ok x1] (fun _:Unit=>.tuple #[]) [.blk b2 [iV 0,iV 0,iV 0,.string (⟨#[]⟩:ByteArray),Zs,Zs,Zs] 59,.blk b3 [iV f3.1,iV f3.2] 61] [.blk b2 [iV 0,iV 0,iV 0,.string (⟨#[]⟩:ByteArray),Zs,Zs,Zs] 59,.blk b3 [iV f3.1,iV f3.2] 61,.blk b28 [iV ((Lg.shape x1.e 1 0).2)] 119,okP zB.Ok x1] rfl (S9 [3,2,0,1]) rfl (fun w1 Pb hG=>jB b2 b3 (iV x1.kind) (iV x1.n) (iV x1.range) (.string x1.word) (.slice x1.ms.A x1.ms.l.length x1.ms.c) (.slice x1.by_.A x1.by_.l.length x1.by_.c) (.slice x1.kids.A x1.kids.l.length x1.kids.c) (iV 0) (iV 0) f3.1 f3.2 Pb w1 hG)) rfl results23 (yz 0 rfl rfl agg59 inf59 rfl) (yz 1 rfl rfl agg61 inf61 rfl) fun w1 hM=>?_)
   exact hM.vT ((zB.mk 0 0 0 ⟨#[]⟩ ⟨none,0,[]⟩ ⟨none,0,[]⟩ ⟨none,0,[]⟩),f3) rfl (by rw [hf3]; exact Pz.parse_much h1 he1 hz2e qO h3) fun Pb pp=>Pz.okZero Pb w1
  exact hz4.elim
 refine (go 3) ?_
 refine yK (Mem w ⟨no,P0⟩ [.blk b28 [iV ((Lg.shape x1.e 1 0).2)] 119,Rb 114 b13 s j2 m1,.pub zN,okP zB.Ok x1,.blk b3 [iV 0,iV 0] 61,.blk b2 [iV x1.kind,iV x1.n,iV x1.range,.string x1.word,.slice x1.ms.A x1.ms.l.length x1.ms.c,.slice x1.by_.A x1.by_.l.length x1.by_.c,.slice x1.kids.A x1.kids.l.length x1.kids.c] 59]) mix (fun _ h=>h.drew) rfl (uD (f:=2) [0,1] rfl rfl (by kernel_rfl) (by kernel_rfl) (fun _ h=>h) fun KS hKS=>?_)
 refine (go 2) ?_
 refine zi hKS (zf 1 2 (za (i:=2) rfl fun KN hKN hPN=>?_))
 refine (go 2) ?_
 refine hKN _ _ (fun _ h=>h) (zf 0 3 (za (i:=3) rfl fun KN hKN hPN=>?_))
 refine (go 2) ?_
 refine hKN _ _ (fun _ h=>h) ?_
 refine zw (by kernel_rfl) ((go 1) ?_)
 refine (go 1) ?_
 refine e_retD (.inl rfl) call51 (didle fun w1 hM=>c_idle b2 b3 (fun _=>False) w1 (memNil w1)) results23 (yz 5 rfl rfl agg59 inf59 rfl) (yz 4 rfl rfl agg61 inf61 rfl) fun w1 hM=>?_
 exact hM.vT (x1,(0,0)) rfl (Pz.parse_ok h1 he1 hz2e qO h3) fun Pb pp=>pp.at_ 3 _ rfl
end
section
open _root_.Go.Proofs.Tryz
open Ex
attribute [local irreducible] WC WL WQ WE WS
set_option linter.unusedVariables false
set_option linter.unusedSimpArgs false
theorem winG_ask {x:zq} (hok:∀ s ∈ x.zA.l,s.sr.l.length≤1048576) (hlen:x.zA.l.length≤8) (S:Nat→Prop) (box bp cost:Nat):WinG prog 116 #[.pointer (some ⟨box,0,none⟩),.pointer (some ⟨cost,0,none⟩)] (fun n=>.blk cost [iV n] 3) S (Lent 91 93 S box bp x) (Bs.look (x.zA.l.map zC.e)) (Bs.cost (x.zA.l.map zC.e)) :=
  ⟨call116,fun n=>.inl rfl,fun n m b h=>h,fun ms a b n w Pb hG ha hb=>by simpa using c_bask1 box bp cost x S ms a b n Pb w hG hok hlen⟩
set_option maxHeartbeats 1000000 in
theorem c_bask (bp:Nat) (x:zq) (dad:Addr) (d:zn) (Pb:Nat→Prop) (w:World) (hG:Mem w ⟨fpOf [.blk bp [.slice x.zA.A x.zA.l.length x.zA.c,iV x.zO] 93,Row (.slice x.zA.A x.zA.l.length x.zA.c) 50 9 zW x.zA.l,allP zC.Ok x.zA.l,celP dad [iV d.kind,iV d.tier,iV d.to,.slice d.sr.A d.sr.l.length d.sr.c,iV d.zM.time,iV d.zM.value,.string d.text],okP zn.Ok d,.pub zN],Pb⟩ [.blk bp [.slice x.zA.A x.zA.l.length x.zA.c,iV x.zO] 93,Row (.slice x.zA.A x.zA.l.length x.zA.c) 50 9 zW x.zA.l,allP zC.Ok x.zA.l,celP dad [iV d.kind,iV d.tier,iV d.to,.slice d.sr.A d.sr.l.length d.sr.c,iV d.zM.time,iV d.zM.value,.string d.text],okP zn.Ok d,.pub zN] w) (hi:Bs.Inv x.e 120) :
    Calls prog 69 #[.pointer (some ⟨bp,0,none⟩),.pointer (some ((Addr.add dad 0).add 0))] w (RetA w [.blk bp [.slice x.zA.A x.zA.l.length x.zA.c,iV x.zO] 93,Row (.slice x.zA.A x.zA.l.length x.zA.c) 50 9 zW x.zA.l,allP zC.Ok x.zA.l,celP dad [iV d.kind,iV d.tier,iV d.to,.slice d.sr.A d.sr.l.length d.sr.c,iV d.zM.time,iV d.zM.value,.string d.text],okP zn.Ok d,.pub zN] Pb (fun z:zq × zj=>.agg (vF z.2).toArray) (fun z=>(z.1.e,z.2.e)=(x.e,Bs.ask x.e d.e)) (fun z=>[okP zj.Ok z.2,.blk bp [.slice z.1.zA.A z.1.zA.l.length z.1.zA.c,iV z.1.zO] 93,Row (.slice z.1.zA.A z.1.zA.l.length z.1.zA.c) 50 9 zW z.1.zA.l,allP zC.Ok z.1.zA.l,celP dad (vS d),okP zn.Ok d,.pub zN])):=by
 have hwf:∀ y ∈ x.zA.l,zC.Wf y:=fun y hy=>((hG.yR (i:=2) rfl) y hy).wf
 have hwd:=(hG.yR (i:=4) rfl).wf
 obtain ⟨hsc,hsm,hsA⟩:=row_wf (hG.row (i:=1) rfl)
 have hlen:=len_k hi
 refine zr (N:=54) (vals:=[.pointer (some ⟨bp,0,none⟩),.pointer (some ((Addr.add dad 0).add 0))]) func69 hG ?_
 refine (go 2) (jj fun b2=>zz fun b4=>?_)
 refine (go 8) ?_
 refine yh (β:=zB × Pz.F) (fun z=>.tuple #[.agg (zu z.1).toArray,.agg #[iV z.2.1,iV z.2.2]]) (fun z=>Pz.parse d.text=(z.1.e,z.2)) (fun z S=>zB.Ok S z.1) (fun z=>zB.Ok.loc z.1) wn rfl call23 rfl (fun w1 Pb hM pp=>c_parse d.text Pb w1 pp.lt (pp.at_ 7 _ rfl)) fun z1 hz1=>?_
 obtain ⟨x1,er1,at1⟩:=z1
 have hq1:Pz.parse d.text=(x1.e,(er1,at1)):=hz1
 refine yw 0 rfl (fun S w h=>zB.Ok.wf h) fun hw1=>?_
 refine (go 3) (zz fun b5=>zz fun b6=>?_)
 refine (go 12) (zX (fun h1=>?_) fun h1=>?_)
 ·refine (go 12) (zY results69 fun w1 hM=>?_)
  have hM:=hM.yT (zj.Ok.loc (⟨er1,at1,⟨none,0,[]⟩,0⟩:zj)) fun Pb pp=>⟨zD.zt _ _ _ _,fun c hc=>(by cases hc)⟩
  exact hM.yV (x,⟨er1,at1,⟨none,0,[]⟩,0⟩) rfl (ask_1 hq1 h1) (fun h=>h.sel [0,6,7,8,9,10,11] qD rfl)
 refine (go 10) ?_
 refine yP wn rfl call57 rfl (fun w1 hM=>c_check x1 d.to (In w1) w1 (fun _ h=>h) (hM.yR (i:=2) rfl)) ?_
 refine (go 9) (zX (fun h2=>?_) fun h2=>?_)
 ·refine (go 9) (zY results69 fun w1 hM=>?_)
  have hM:=hM.yT (zj.Ok.loc (noX (Mn.check x1.e d.to):zj)) fun Pb pp=>noX_ok _ _ _
  exact hM.yV (x,noX (Mn.check x1.e d.to)) rfl (ask_2 hq1 h1 h2) (fun h=>h.sel [0,6,7,8,9,10,11] qD rfl)
 have hck:=Mn.check_right (Classical.not_not.1 h2)
 refine (go 4) (l_aO fun b8=>?_)
 refine (go 4) ?_
 refine yK (Mem w ⟨fpOf [.blk bp [.slice x.zA.A x.zA.l.length x.zA.c,iV x.zO] 93,Row (.slice x.zA.A x.zA.l.length x.zA.c) 50 9 zW x.zA.l,allP zC.Ok x.zA.l,celP dad [iV d.kind,iV d.tier,iV d.to,.slice d.sr.A d.sr.l.length d.sr.c,iV d.zM.time,iV d.zM.value,.string d.text],okP zn.Ok d,.pub zN],Pb⟩ [.blk b6 [iV er1,iV at1] 61,.blk b5 [iV x1.kind,iV x1.n,iV x1.range,.string x1.word,.slice x1.ms.A x1.ms.l.length x1.ms.c,.slice x1.by_.A x1.by_.l.length x1.by_.c,.slice x1.kids.A x1.kids.l.length x1.kids.c] 59,okP zB.Ok x1,.blk b4 [iV 0,iV 0,Zs,iV 0] 34,.blk b2 [.pointer (some ⟨bp,0,none⟩)] 91,.blk bp [.slice x.zA.A x.zA.l.length x.zA.c,iV x.zO] 93,Row (.slice x.zA.A x.zA.l.length x.zA.c) 50 9 zW x.zA.l,allP zC.Ok x.zA.l,celP dad [iV d.kind,iV d.tier,iV d.to,.slice d.sr.A d.sr.l.length d.sr.c,iV d.zM.time,iV d.zM.value,.string d.text],okP zn.Ok d,.pub zN]) mix (fun _ h=>h.drew) rfl (yJ 6 [0,1,2,3,4,5] [1,2,3,4,5,6,7,8,9,10,11] rfl fun KS hKS=>?_)
 refine (go 5) ?_
 refine uo (yf rfl rfl) (zi hKS (zf 5 6 (zg (i:=6) rfl fun KN hKN=>l_lend (e:=x1) (n:=0) (n':=(Mn.evalN (Bs.look (x.zA.l.map zC.e)) (Bs.cost (x.zA.l.map zC.e)) d.to x1.e 0)) (T1:=91) (T2:=93) (T3:=50) (TI:=3) [.blk b6 [iV er1,iV at1] 61,.blk b5 [iV x1.kind,iV x1.n,iV x1.range,.string x1.word,.slice x1.ms.A x1.ms.l.length x1.ms.c,.slice x1.by_.A x1.by_.l.length x1.by_.c,.slice x1.kids.A x1.kids.l.length x1.kids.c] 59,.blk b4 [iV 0,iV 0,Zs,iV 0] 34,celP dad [iV d.kind,iV d.tier,iV d.to,.slice d.sr.A d.sr.l.length d.sr.c,iV d.zM.time,iV d.zM.value,.string d.text],okP zn.Ok d,.pub zN] (celsV (Mn.out (Mn.eval (Bs.look (x.zA.l.map zC.e)) d.to x1.e)).2) (fun z=>z.l.map zE.e=(Mn.out (Mn.eval (Bs.look (x.zA.l.map zC.e)) d.to x1.e)).1) CelsX.Ok (S9 [0,3,5,6,7,8,1,2,4,9,10,11]) wn rfl rfl call58 rfl (fun S w1 Pb hG=>c_geval _ _ _ _ _ _ _ _ _ x1 Pb w1 hG (winG_ask (shelf_lens hi) hlen _ _ _ _) (Bs.good_look hi) hck.2 hck.1) fun z2 hz2=>yw 0 rfl (fun S w h=>CelsX.Ok.wf h) fun hw2=>ze (fun _ h=>h.celsY 0 rfl) ?_)))
 obtain ⟨hc1,hm1,hA1⟩:=hw2.cells
 refine (go 1) ?_
 refine hKN _ _ (S9 [9,10,4,11,5,6,7,8,12,13,14]) (yJ 0 [7,8,9,10,11] [9,10,4,11,5,6,7,8,12,13,14] rfl fun KS hKS=>?_)
 refine (go 5) ?_
 refine zi hKS ?_
 refine zw (by kernel_rfl) ((go 1) ?_)
 refine (go 7) (zX (fun h3=>?_) fun h3=>?_)
 ·refine (go 9) (zY results69 fun w1 hM=>?_)
  have hM:=hM.yT (zj.Ok.loc (noX ((Mn.out (Mn.eval (Bs.look (x.zA.l.map zC.e)) d.to x1.e)).2):zj)) fun Pb pp=>noX_ok _ _ _
  exact hM.yV (x,noX ((Mn.out (Mn.eval (Bs.look (x.zA.l.map zC.e)) d.to x1.e)).2)) rfl (ask_3 hq1 h1 h2 h3) (fun h=>h.sel [0,7,8,9,13,14,15] qD rfl)
 refine (go 11) (zY results69 fun w1 hM=>?_)
 have hM:=hM.yT (zj.Ok.loc (⟨0,0,z2,(Mn.evalN (Bs.look (x.zA.l.map zC.e)) (Bs.cost (x.zA.l.map zC.e)) d.to x1.e 0)⟩:zj)) fun Pb pp=>⟨pp.sl 0 rfl,pp.at_ 1 _ rfl⟩
 exact hM.yV (x,⟨0,0,z2,(Mn.evalN (Bs.look (x.zA.l.map zC.e)) (Bs.cost (x.zA.l.map zC.e)) d.to x1.e 0)⟩) rfl (ask_4 hq1 h1 h2 h3 hz2) (fun h=>h.sel [0,7,8,9,13,14,15] qD rfl)
end
section
open _root_.Go.Proofs.Tryz
open Ex
attribute [local irreducible] WC WL WQ WE WS
set_option linter.unusedVariables false
set_option linter.unusedSimpArgs false
theorem do1_fn (ba dad:Addr) (d:zn):ShFn prog 71 #[.pointer (some ba)] (DoAt ba dad d) (fun s=>Sh.forget s d.tier d.to) :=
  ⟨call71,DoAt.loc _ _ _,fun s w Pb hP hs hC=>by simpa using c_do1 s ba dad d Pb w hP hs hC.box hC.cel hC.ok⟩
theorem do2_fn (ba dad:Addr) (d:zn):ShFn prog 73 #[.pointer (some ba)] (DoAt ba dad d) (fun s=>Sh.roll s d.to) :=
  ⟨call73,DoAt.loc _ _ _,fun s w Pb hP hs hC=>by simpa using c_do2 s ba dad d Pb w hP hs hC.box hC.cel hC.ok⟩
set_option maxHeartbeats 1000000 in
theorem c_bdo (bp:Nat) (x:zq) (dad:Addr) (d:zn) (Pb:Nat→Prop) (w:World) (hG:Mem w ⟨fpOf [.blk bp [.slice x.zA.A x.zA.l.length x.zA.c,iV x.zO] 93,Row (.slice x.zA.A x.zA.l.length x.zA.c) 50 9 zW x.zA.l,allP zC.Ok x.zA.l,celP dad [iV d.kind,iV d.tier,iV d.to,.slice d.sr.A d.sr.l.length d.sr.c,iV d.zM.time,iV d.zM.value,.string d.text],okP zn.Ok d,.pub zN],Pb⟩ [.blk bp [.slice x.zA.A x.zA.l.length x.zA.c,iV x.zO] 93,Row (.slice x.zA.A x.zA.l.length x.zA.c) 50 9 zW x.zA.l,allP zC.Ok x.zA.l,celP dad [iV d.kind,iV d.tier,iV d.to,.slice d.sr.A d.sr.l.length d.sr.c,iV d.zM.time,iV d.zM.value,.string d.text],okP zn.Ok d,.pub zN] w) (hi:Bs.Inv x.e 120) :
    Calls prog 37 #[.pointer (some ⟨bp,0,none⟩),.pointer (some ((Addr.add dad 0).add 0))] w (RetA w [.blk bp [.slice x.zA.A x.zA.l.length x.zA.c,iV x.zO] 93,Row (.slice x.zA.A x.zA.l.length x.zA.c) 50 9 zW x.zA.l,allP zC.Ok x.zA.l,celP dad [iV d.kind,iV d.tier,iV d.to,.slice d.sr.A d.sr.l.length d.sr.c,iV d.zM.time,iV d.zM.value,.string d.text],okP zn.Ok d,.pub zN] Pb (fun z:zq × zj=>.agg (vF z.2).toArray) (fun z=>(z.1.e,z.2.e)=Bs.one x.e d.e) (fun z=>[okP zj.Ok z.2,.blk bp [.slice z.1.zA.A z.1.zA.l.length z.1.zA.c,iV z.1.zO] 93,Row (.slice z.1.zA.A z.1.zA.l.length z.1.zA.c) 50 9 zW z.1.zA.l,allP zC.Ok z.1.zA.l,celP dad (vS d),okP zn.Ok d,.pub zN])):=by
 have hwf:∀ y ∈ x.zA.l,zC.Wf y:=fun y hy=>((hG.yR (i:=2) rfl) y hy).wf
 have hwd:=(hG.yR (i:=4) rfl).wf
 obtain ⟨hsc,hsm,hsA⟩:=row_wf (hG.row (i:=1) rfl)
 have hlen:=len_k hi
 have hh0:=hi.hor
 have hh1:x.e.zO=x.zO:=rfl
 refine zr (N:=86) (vals:=[.pointer (some ⟨bp,0,none⟩),.pointer (some ((Addr.add dad 0).add 0))]) func37 hG ?_
 refine (go 2) (jj fun b3=>zz fun b4=>?_)
 refine (go 18) (zX (fun h1=>?_) fun h1=>?_)
 ·refine (go 4) ?_
  refine yM (α:=zq × zj) [.blk bp [.slice x.zA.A x.zA.l.length x.zA.c,iV x.zO] 93,Row (.slice x.zA.A x.zA.l.length x.zA.c) 50 9 zW x.zA.l,allP zC.Ok x.zA.l,celP dad [iV d.kind,iV d.tier,iV d.to,.slice d.sr.A d.sr.l.length d.sr.c,iV d.zM.time,iV d.zM.value,.string d.text],okP zn.Ok d] [.blk b4 [iV 0,iV 0,Zs,iV 0] 34,.blk b3 [.pointer (some ((Addr.add dad 0).add 0))] 95,.pub zN] (fun z:zq × zj=>.agg (vF z.2).toArray) (fun z1=>(z1.1.e,z1.2.e)=Bs.add x.e d.e) (fun z1=>[okP zj.Ok z1.2,.blk bp [.slice z1.1.zA.A z1.1.zA.l.length z1.1.zA.c,iV z1.1.zO] 93,Row (.slice z1.1.zA.A z1.1.zA.l.length z1.1.zA.c) 50 9 zW z1.1.zA.l,allP zC.Ok z1.1.zA.l,celP dad [iV d.kind,iV d.tier,iV d.to,.slice d.sr.A d.sr.l.length d.sr.c,iV d.zM.time,iV d.zM.value,.string d.text],okP zn.Ok d]) _ (fun _=>rfl) (S9 [2,3,4,5,6,0,1,7]) (fun _=>rfl) wn rfl rfl call68 rfl (fun w1 Pb hG=>c_badd bp x dad d Pb w1 hG hi) fun z1 hz1=>?_
  refine (go 6) (zY results37 fun w1 hM=>?_)
  exact hM.yV z1 rfl (one_1 h1 hz1) (fun h=>h.sel [0,1,2,3,4,5,8] qD rfl)
 refine (go 6) (zX (fun h2=>?_) fun h2=>?_)
 ·refine (go 4) ?_
  refine yM (α:=zq × zj) [.blk bp [.slice x.zA.A x.zA.l.length x.zA.c,iV x.zO] 93,Row (.slice x.zA.A x.zA.l.length x.zA.c) 50 9 zW x.zA.l,allP zC.Ok x.zA.l,celP dad [iV d.kind,iV d.tier,iV d.to,.slice d.sr.A d.sr.l.length d.sr.c,iV d.zM.time,iV d.zM.value,.string d.text],okP zn.Ok d,.pub zN] [.blk b4 [iV 0,iV 0,Zs,iV 0] 34,.blk b3 [.pointer (some ((Addr.add dad 0).add 0))] 95] (fun z:zq × zj=>.agg (vF z.2).toArray) (fun z2=>(z2.1.e,z2.2.e)=(x.e,Bs.ask x.e d.e)) (fun z2=>[okP zj.Ok z2.2,.blk bp [.slice z2.1.zA.A z2.1.zA.l.length z2.1.zA.c,iV z2.1.zO] 93,Row (.slice z2.1.zA.A z2.1.zA.l.length z2.1.zA.c) 50 9 zW z2.1.zA.l,allP zC.Ok z2.1.zA.l,celP dad [iV d.kind,iV d.tier,iV d.to,.slice d.sr.A d.sr.l.length d.sr.c,iV d.zM.time,iV d.zM.value,.string d.text],okP zn.Ok d,.pub zN]) _ (fun _=>rfl) (S9 [2,3,4,5,6,7,0,1]) (fun _=>rfl) wn rfl rfl call69 rfl (fun w1 Pb hG=>c_bask bp x dad d Pb w1 hG hi) fun z2 hz2=>?_
  refine (go 6) (zY results37 fun w1 hM=>?_)
  exact hM.yV z2 rfl (one_2 h1 h2 hz2) (fun h=>h.sel [0,1,2,3,4,5,6] qD rfl)
 refine (go 7) (zX (fun h3=>?_) fun h3=>?_)
 ·refine (go 2) ?_
  refine y8 rfl (decide_eq_true h3) ?_
  refine (go 12) (yN 29 (fun h4=>?_) fun h4=>?_)
  ·refine (go 17) (zY results37 fun w1 hM=>?_)
   have hM:=hM.yT (zj.Ok.loc (noX 3)) fun Pb pp=>noX_ok _ _ _
   exact hM.yV (x,noX 3) rfl (one_4 h1 h2 (.inl h3) qO) (fun h=>h.sel [0,3,4,5,6,7,8] qD rfl)
  refine (go 8) (zX (fun h5=>?_) fun h5=>?_)
  ·refine (go 8) (zY results37 fun w1 hM=>?_)
   have hM:=hM.yT (zj.Ok.loc (noX 3)) fun Pb pp=>noX_ok _ _ _
   exact hM.yV (x,noX 3) rfl (one_4 h1 h2 (.inl h3) qO) (fun h=>h.sel [0,3,4,5,6,7,8] qD rfl)
  refine (go 12) ?_
  refine yc rfl (decide_eq_false qO) ?_
  refine (go 5) ?_
  refine zb (yf rfl rfl) (l_sealB2 1 2 3 rfl rfl rfl rfl rfl onlyB (ze (fun _ h=>h.yT (DoAt.loc ⟨b3,0,none⟩ dad d) fun Pb pp=>⟨pp.at_ 1 _ rfl,pp.at_ 5 _ rfl,pp.at_ 6 _ rfl⟩) (yM (α:=zq) [.blk bp [.slice x.zA.A x.zA.l.length x.zA.c,iV x.zO] 93,Row (.slice x.zA.A x.zA.l.length x.zA.c) 50 9 zW x.zA.l,allP zC.Ok x.zA.l,.pub (DoAt ⟨b3,0,none⟩ dad d)] [.blk b4 [iV 0,iV 0,Zs,iV 0] 34,celP ⟨b3,0,none⟩ [.pointer (some ((Addr.add dad 0).add 0))],celP dad [iV d.kind,iV d.tier,iV d.to,.slice d.sr.A d.sr.l.length d.sr.c,iV d.zM.time,iV d.zM.value,.string d.text],okP zn.Ok d,.pub zN] (fun _=>iV (Bs.each (fun s=>Sh.roll s d.to) x.e.zA).2) (fun z3=>z3.e=if (Bs.each (fun s=>Sh.roll s d.to) x.e.zA).2≠0 then x.e else ⟨(Bs.each (fun s=>Sh.roll s d.to) x.e.zA).1,x.zO⟩) (fun z3=>[.blk bp [.slice z3.zA.A z3.zA.l.length z3.zA.c,iV z3.zO] 93,Row (.slice z3.zA.A z3.zA.l.length z3.zA.c) 50 9 zW z3.zA.l,allP zC.Ok z3.zA.l,.pub (DoAt ⟨b3,0,none⟩ dad d)]) _ (fun _=>rfl) (S9 [3,4,5,0,1,2,6,7,8]) (fun _=>rfl) wn rfl rfl call70 rfl (fun w1 Pb hG=>c_each bp x 73 #[.pointer (some ⟨b3,0,none⟩)] (DoAt ⟨b3,0,none⟩ dad d) (fun s=>Sh.roll s d.to) Pb w1 hG (do2_fn _ _ _) hlen) fun z3 hz3=>?_)))
  have hh1:=hor_of hz3
  refine (go 10) (zX (fun h6=>?_) fun h6=>?_)
  ·refine uH 20 ?_
   refine (go 16) ?_
   refine yk (jI (show _=(Sh.mx z3.zO (d.to - (d.to % 10))) from rfl) (ua rfl rfl)) ?_
   refine (go 15) (zY results37 fun w1 hM=>?_)
   have hM:=hM.yT (zj.Ok.loc (noX ((Bs.each (fun s=>Sh.roll s d.to) x.e.zA).2))) fun Pb pp=>noX_ok _ _ _
   exact hM.yV (⟨z3.zA,Sh.mx z3.zO (d.to - d.to % 10)⟩,noX ((Bs.each (fun s=>Sh.roll s d.to) x.e.zA).2)) rfl (one_8 h1 h2 h3 qO h6 hz3) (fun h=>h.sel [0,1,2,3,7,8,9] qD rfl)
  refine (go 10) (zY results37 fun w1 hM=>?_)
  have hM:=hM.yT (zj.Ok.loc (noX ((Bs.each (fun s=>Sh.roll s d.to) x.e.zA).2))) fun Pb pp=>noX_ok _ _ _
  exact hM.yV (z3,noX ((Bs.each (fun s=>Sh.roll s d.to) x.e.zA).2)) rfl (one_7 h1 h2 h3 qO h6 hz3) (fun h=>h.sel [0,1,2,3,7,8,9] qD rfl)
 refine (go 5) (zX (fun h7=>?_) fun h7=>?_)
 ·refine (go 12) (yN 29 (fun h8=>?_) fun h8=>?_)
  ·refine (go 17) (zY results37 fun w1 hM=>?_)
   have hM:=hM.yT (zj.Ok.loc (noX 3)) fun Pb pp=>noX_ok _ _ _
   exact hM.yV (x,noX 3) rfl (one_4 h1 h2 (.inr h7) qO) (fun h=>h.sel [0,3,4,5,6,7,8] qD rfl)
  refine (go 8) (zX (fun h9=>?_) fun h9=>?_)
  ·refine (go 8) (zY results37 fun w1 hM=>?_)
   have hM:=hM.yT (zj.Ok.loc (noX 3)) fun Pb pp=>noX_ok _ _ _
   exact hM.yV (x,noX 3) rfl (one_4 h1 h2 (.inr h7) qO) (fun h=>h.sel [0,3,4,5,6,7,8] qD rfl)
  refine (go 12) ?_
  refine y8 rfl (decide_eq_true h7) ?_
  refine (go 9) (yN 47 (fun h10=>?_) fun h10=>?_)
  ·refine (go 18) (zY results37 fun w1 hM=>?_)
   have hM:=hM.yT (zj.Ok.loc (noX 1)) fun Pb pp=>noX_ok _ _ _
   exact hM.yV (x,noX 1) rfl (one_5 h1 h2 h7 qO qO) (fun h=>h.sel [0,3,4,5,6,7,8] qD rfl)
  refine (go 8) (zX (fun h11=>?_) fun h11=>?_)
  ·refine (go 9) (zY results37 fun w1 hM=>?_)
   have hM:=hM.yT (zj.Ok.loc (noX 1)) fun Pb pp=>noX_ok _ _ _
   exact hM.yV (x,noX 1) rfl (one_5 h1 h2 h7 qO qO) (fun h=>h.sel [0,3,4,5,6,7,8] qD rfl)
  refine (go 5) ?_
  refine zb (yf rfl rfl) (l_sealB2 1 2 3 rfl rfl rfl rfl rfl onlyB (ze (fun _ h=>h.yT (DoAt.loc ⟨b3,0,none⟩ dad d) fun Pb pp=>⟨pp.at_ 1 _ rfl,pp.at_ 5 _ rfl,pp.at_ 6 _ rfl⟩) (yM (α:=zq) [.blk bp [.slice x.zA.A x.zA.l.length x.zA.c,iV x.zO] 93,Row (.slice x.zA.A x.zA.l.length x.zA.c) 50 9 zW x.zA.l,allP zC.Ok x.zA.l,.pub (DoAt ⟨b3,0,none⟩ dad d)] [.blk b4 [iV 0,iV 0,Zs,iV 0] 34,celP ⟨b3,0,none⟩ [.pointer (some ((Addr.add dad 0).add 0))],celP dad [iV d.kind,iV d.tier,iV d.to,.slice d.sr.A d.sr.l.length d.sr.c,iV d.zM.time,iV d.zM.value,.string d.text],okP zn.Ok d,.pub zN] (fun _=>iV (Bs.each (fun s=>Sh.forget s d.tier d.to) x.e.zA).2) (fun z4=>z4.e=if (Bs.each (fun s=>Sh.forget s d.tier d.to) x.e.zA).2≠0 then x.e else ⟨(Bs.each (fun s=>Sh.forget s d.tier d.to) x.e.zA).1,x.zO⟩) (fun z4=>[.blk bp [.slice z4.zA.A z4.zA.l.length z4.zA.c,iV z4.zO] 93,Row (.slice z4.zA.A z4.zA.l.length z4.zA.c) 50 9 zW z4.zA.l,allP zC.Ok z4.zA.l,.pub (DoAt ⟨b3,0,none⟩ dad d)]) _ (fun _=>rfl) (S9 [3,4,5,0,1,2,6,7,8]) (fun _=>rfl) wn rfl rfl call70 rfl (fun w1 Pb hG=>c_each bp x 71 #[.pointer (some ⟨b3,0,none⟩)] (DoAt ⟨b3,0,none⟩ dad d) (fun s=>Sh.forget s d.tier d.to) Pb w1 hG (do1_fn _ _ _) hlen) fun z4 hz4=>?_)))
  have hh2:=hor_of hz4
  refine (go 6) (zY results37 fun w1 hM=>?_)
  have hM:=hM.yT (zj.Ok.loc (noX ((Bs.each (fun s=>Sh.forget s d.tier d.to) x.e.zA).2))) fun Pb pp=>noX_ok _ _ _
  exact hM.yV (z4,noX ((Bs.each (fun s=>Sh.forget s d.tier d.to) x.e.zA).2)) rfl (one_6 h1 h2 h7 qO qO hz4) (fun h=>h.sel [0,1,2,3,7,8,9] qD rfl)
 refine (go 9) (zY results37 fun w1 hM=>?_)
 have hM:=hM.yT (zj.Ok.loc (noX 1)) fun Pb pp=>noX_ok _ _ _
 exact hM.yV (x,noX 1) rfl (one_3 h1 h2 qO) (fun h=>h.sel [0,3,4,5,6,7,8] qD rfl)
end
section
open _root_.Go.Proofs.Tryz
open Ex
attribute [local irreducible] WC WL WQ WE WS
set_option linter.unusedVariables false
set_option linter.unusedSimpArgs false
set_option maxHeartbeats 1000000 in
theorem jU (lv:Value) (l:List zn) (P0:Nat→Prop) (w:World) (hP0:∀ b,P0 b→b < w.heap.size) (hl:zD P0 7 vS lv l w) (hla:∀ x ∈ l,zn.Ok P0 x w) (hE:zN P0 w)  :
    Calls prog 14 #[lv] w (RetE w P0 (fun z:zq × SlX zj=>.tuple #[.agg (jC z.1).toArray,.slice z.2.A z.2.l.length z.2.c,iV (Bs.play (l.map zn.e)).2.2]) (fun z=>(z.1.e,z.2.l.map zj.e)=((Bs.play (l.map zn.e)).1,(Bs.play (l.map zn.e)).2.1)) (fun z S w=>zq.Ok S z.1 w∧AnssX.Ok S z.2 w)):=by
 have hwl:∀ x ∈ l,zn.Wf x:=fun x hx=>(hla x hx).wf
 obtain ⟨lA,lc,rfl,hlc,hlm,hlA⟩:=hl.form
 refine zr (N:=33) func14 (Mem.ofDatsP hP0 (dc (dlp hl) (dc (dp (all_loc zn.Ok.loc _) hla) (dc (dp zN.loc hE) dn)))) ?_
 refine (go 2) (zz fun b2=>?_)
 refine (go 12) (zX (fun h1=>?_) fun h1=>?_)
 ·refine (go 10) (u7 results14 fun w1 hM=>?_)
  have hb9:=play_many h1
  exact hM.vT ((⟨⟨none,0,[]⟩,0⟩,⟨none,0,[]⟩):zq × SlX zj) (by rw [hb9]; rfl) (by rw [hb9]; rfl) fun Pb pp=>⟨⟨zD.zt _ _ _ _,fun c hc=>(by cases hc)⟩,⟨zD.zt _ _ _ _,fun c hc=>(by cases hc)⟩⟩
 refine (go 5) (yu fun b13=>?_)
 refine (go 5) ?_
 refine yD (vF:zj→List Value) 34 4 (ze (fun _ h=>h.all0 zj.Ok.loc) ?_)
 refine (go 12) ?_
 refine um (fun _ h=>h.vQ zC 50 9 zW) (uu (fun _ h=>h.all0 zC.Ok.loc) (vK (fun (k:Nat) (x:zq) (zs:List zj) (ov:Value)=>[(0,.slice lA l.length lc),(2,.pointer (some ⟨b2,0,none⟩)),(5,.pointer (some ⟨b13,0,none⟩)),(6,ov),(15,iV l.length),(16,iV k)]) (fun (k:Nat) (x:zq) (zs:List zj) (ov:Value)=>[allP zC.Ok x.zA.l,Row (.slice x.zA.A x.zA.l.length x.zA.c) 50 9 zW x.zA.l,allP zj.Ok zs,Row ov 34 4 vF zs,.blk b13 [.slice x.zA.A x.zA.l.length x.zA.c,iV x.zO] 93,.blk b2 [Zs,iV 0] 25,slP 7 vS (.slice lA l.length lc) l,allP zn.Ok l,.pub zN]) (fun (k:Nat) (x:zq) (zs:List zj) (ov:Value)=>k≤l.length∧(∀ y ∈ zs,zj.Wf y)∧Bs.run Bs.zero ((l.take k).map zn.e)=(x.e,zs.map zj.e)∧zs.length=k) (fun (k:Nat) (x:zq) (zs:List zj) (ov:Value)=>l.length - k) 0 (⟨⟨none,0,[]⟩,0⟩:zq) [] (Zs) (sc rfl (sc rfl (sc rfl (sc rfl (sc rfl (sc (ji qO) sn)))))) (fun _ h=>h) ?_ (fun k x zs ov hI1=>?_)))
 ·exact ⟨Nat.zero_le _,fun x hx=>(by cases hx),rfl,rfl⟩
 have hwz:=hI1.2.1
 have hzl:=hI1.2.2.2
 refine yU 3 (l:=zs) rfl fun A1 cp1 hv1 hc1 hm1 hA1=>?_
 subst hv1
 refine (go 6) (zX (fun h2=>?_) fun h2=>?_)
 ·refine (go 15) ?_
  obtain ⟨ad1,s1,hd1,hs1⟩:=elx hlA k
  refine (go 1) ?_
  have hiv1:Bs.Inv x.e 120:=inv_at hI1.2.2.1 qO
  refine ze (fun _ h=>h.celAt 6 rfl hd1 hs1) ?_
  have hw1:=hwl _ (List.mem_of_getElem? hs1)
  refine ze (fun _ h=>h.one 8 zn.Ok.loc rfl hs1) (ze (fun _ h=>h.dup 10 rfl rfl) (yM (α:=zq × zj) [.blk b13 [.slice x.zA.A x.zA.l.length x.zA.c,iV x.zO] 93,Row (.slice x.zA.A x.zA.l.length x.zA.c) 50 9 zW x.zA.l,allP zC.Ok x.zA.l,celP (Addr.add ad1 (k * 7)) [iV s1.kind,iV s1.tier,iV s1.to,.slice s1.sr.A s1.sr.l.length s1.sr.c,iV s1.zM.time,iV s1.zM.value,.string s1.text],okP zn.Ok s1,.pub zN] [allP zj.Ok zs,Row (.slice A1 zs.length cp1) 34 4 vF zs,.blk b2 [Zs,iV 0] 25,slP 7 vS (.slice lA l.length lc) l,allP zn.Ok l,.pub zN] (fun z:zq × zj=>.agg (vF z.2).toArray) (fun z1=>(z1.1.e,z1.2.e)=Bs.one x.e s1.e) (fun z1=>[okP zj.Ok z1.2,.blk b13 [.slice z1.1.zA.A z1.1.zA.l.length z1.1.zA.c,iV z1.1.zO] 93,Row (.slice z1.1.zA.A z1.1.zA.l.length z1.1.zA.c) 50 9 zW z1.1.zA.l,allP zC.Ok z1.1.zA.l,celP (Addr.add ad1 (k * 7)) [iV s1.kind,iV s1.tier,iV s1.to,.slice s1.sr.A s1.sr.l.length s1.sr.c,iV s1.zM.time,iV s1.zM.value,.string s1.text],okP zn.Ok s1,.pub zN]) _ (fun _=>rfl) (S9 [7,4,3,2,1,0,5,6,8,9,10,11]) (fun _=>rfl) wn rfl rfl call37 rfl (fun w1 Pb hG=>c_bdo b13 x (Addr.add ad1 (k * 7)) s1 Pb w1 hG hiv1) fun z1 hz1=>yw 0 rfl (fun S w h=>zj.Ok.wf h) fun hw2=>zy vF ([z1.2]:List zj) wn underlying26 inf34 rfl rfl rfl rfl qD qD rfl fun b25=>yI 9 zs ([z1.2]:List zj) encAnsX wn rfl rfl rfl (fun _ hM=>(RowSl encAnsX hM 0 rfl)) underlying26 inf34 rfl rfl (by simp only [qL]; omega) rfl fun A2 cp2 hc2 hm2 hA2=>ze (fun _ h=>h.allSnoc 8 1 zj.Ok.loc rfl rfl) ?_))
  have hw3:∀ x ∈ (zs++([z1.2]:List zj)),zj.Wf x:=fun x hx=>(List.mem_append.1 hx).elim (hwz x) fun h=>by rw [List.mem_singleton.1 h]; exact hw2
  refine (go 7) ?_
  refine zU (yY (k + 1) z1.1 (zs++([z1.2]:List zj)) (.slice A2 ((zs++([z1.2]:List zj)).length) cp2) (sc rfl (sc rfl (sc rfl (sc rfl (sc rfl (sc (ji qO) sn)))))) (S9 [5,4,0,10,3,11,12,13,8]) ?_ ?_)
  ·exact ⟨by omega,hw3,play_next hs1 hI1.2.2.1 hz1,by rw [List.length_append,List.length_singleton]; omega⟩
  omega
 refine (go 18) (u7 results14 fun w1 hM=>?_)
 have hb9:=play_end hI1.2.2.1 qO qO
 have hM:=hM.zk encShelfX (i:=1) rfl rfl
 have hM:=hM.zk encAnsX (i:=3) rfl rfl
 exact hM.vT ((x,⟨A1,cp1,zs⟩):zq × SlX zj) (by rw [hb9]; first | done | rfl) (by rw [hb9]) fun Pb pp=>⟨⟨pp.sl 1 rfl,pp.at_ 0 _ rfl⟩,⟨pp.sl 3 rfl,pp.at_ 2 _ rfl⟩⟩
end
section
namespace Sh
section
variable {z:Shelf} {all:List Sample} {f g t:Int}
theorem pick_raw (hr:z.zS=0) (h0:0≤g) (ht:g < t) (h1:t≤1000000):¬ (pick z g t).tier < 0:=by
  by_cases c2:g + Roll.step 2≤t∧may z ⟨2,g,g + Roll.step 2⟩
  · rw [pick_2 c2.1 c2.2]; simp
  by_cases c1:g + Roll.step 1≤t∧may z ⟨1,g,g + Roll.step 1⟩
  · rw [pick_1 c2 c1.1 c1.2]; simp
  have hmn:mn (g - g % 10 + 10) t≤t:=mn_le _ _
  have hgm:g < mn (g - g % 10 + 10) t:=by unfold mn; split <;> omega
  rw [pick_0 c2 c1 hmn ((may0 (by simp only; omega) rfl).2 (by simp only; omega))]; simp
theorem chooseL_raw (hr:z.zS=0) (h1:t≤1000000):∀ (n:Nat) (g:Int) (out:List Part),(t - g).toNat≤n→0≤g→chooseL z g t out≠none
  | n, g, out, hn, h0 => by
    by_cases c:g < t
    · have p1:=pick_raw hr h0 c h1
      rw [chooseL_next c p1]
      have hto:=pick_to p1
      match n,hn with
      | 0,hn=>omega
      | n + 1,hn=>exact chooseL_raw hr h1 n _ _ qO qO
    · rw [chooseL_end c]; simp
theorem choose_raw (ho:OK z) (hr:z.zS=0) (h0:0≤f) (h2:f≤t) (h1:t≤1000000):(choose z f t).2=0:=by
  have:=chooseL_raw hr h1 (t - f).toNat f [] (Nat.le_refl _) h0
  rw [choose,if_neg (by simp [ho.wrong]),if_neg qO]
  cases h:chooseL z f t [] with
  | none=>exact absurd h this
  | some l=>rfl
theorem costs_nn (ho:OK z) (l:List Part):0≤costs z l:=by
  induction l using List.reverseRecOn' with
  | nil=>exact Int.le_refl _
  | snoc l p ih=>rw [costs_snoc]; have:=(partCost_rng ho p).1; omega
theorem raw_only (h:Keep z all) (hf:z.zF=0):∀ (l:List Part) (f t:Int),covers z l f t=true→costs z l=(Roll.inT all f t).length:=by
  intro l
  induction l using List.reverseRecOn' with
  | nil =>
    intro f t hc
    rw [covers_nil] at hc
    subst hc
    have:Roll.inT all f f=[]:=Roll.win_self (Int.le_refl _)
    rw [this]; rfl
  | snoc l p ih =>
    intro f t hc
    obtain ⟨c1,c2,c3⟩:=(covers_snoc l f t).1 hc
    have i2:=ih f p.frm c1
    have hlt:=may_lt c2
    obtain ⟨r1,r2,r3⟩:=may_rng h.ok c2
    obtain ⟨⟨g1,g2,g3,g4⟩,_,g10,g11,g12,g13,g14⟩:=h.ok.rng
    have hle:=covers_le l _ _ c1
    have e:Roll.inT all f t=Roll.inT all f p.frm++Roll.inT all p.frm p.to:=by
      rw [← c3]; exact Roll.win_split hle qO h.rises.inc
    have h0:p.tier=0:=by
      rcases may_tier c2 with k | k | k
      · exact k
      · rw [may1 qO k] at c2; omega
      · rw [may2 qO k] at c2; omega
    have hc2:=c2
    rw [may0 qO h0] at hc2
    have k2:partCost z p=(Roll.inT all p.frm p.to).length:=by rw [(partSum_0 (z:=z) (p:=p) qO qO).2,h.raw,Roll.inT_from hc2.1]
    rw [costs_snoc,i2,k2,e,List.length_append]; push_cast; rfl
end
end Sh
namespace Mn
open Ex
mutual
def nwin:Expr→Nat
  | .mk k _ _ _ _ _ ks=>if k=2 then 1 else nwins ks
def nwins:List Expr→Nat
  | []=>0
  | x::xs=>nwin x + nwins xs
end
mutual
theorem shape_win:∀ (e:Expr) (d c:Int),(Lg.shape e d c).1=0→c + nwin e≤(Lg.shape e d c).2
  | .mk kind n range word ms by_ kids, d, c, h => by
    rw [Lg.shape] at h ⊢
    split at h
    · cases h
    split at h
    · cases h
    split at h
    · cases h
    split at h
    · rename_i h2; exact absurd h h2
    rename_i a1 a2 a3 a4
    rw [if_neg a1,if_neg a2,if_neg a3,if_neg a4]
    have h3:=shapes_win kids (d + 1) (c + 1) h
    rw [nwin]
    split
    · have:(0:Int)≤nwins kids:=Int.natCast_nonneg _
      omega
    · omega
theorem shapes_win:∀ (l:List Expr) (d c:Int),(Lg.shapes l d c).1=0→c + nwins l≤(Lg.shapes l d c).2
  | [],d,c,h=>by rw [Lg.shapes,nwins]; simp
  | x :: xs, d, c, h => by
    rw [Lg.shapes] at h ⊢
    split at h
    · rename_i h2; exact absurd h h2
    rename_i h2
    rw [if_neg h2,nwins]
    have h3:=shape_win x d c (Classical.not_not.1 h2)
    have h4:=shapes_win xs d _ h
    push_cast; omega
end
theorem win_few {e:Expr} {t:Int} (h:check e t=0):nwin e≤100:=by
  unfold check at h
  split at h
  · rename_i h1; exact absurd h h1
  rename_i h1
  have h2:=Classical.not_not.1 h1
  have h3:=shape_win e 1 0 h2
  have h4:=(Lg.shape_le e 1 0 (Int.le_refl _) qD h2).2
  omega
def Cheap (sk sk':Sk):Prop:=∀ m a b (c c':Int),0≤c→c≤c'→c'≤1000000→0≤sk m a b c∧sk m a b c≤sk' m a b c'∧sk' m a b c'≤c' + 1000
mutual
theorem evalN_le {lk:Look} {sk sk':Sk} (hs:Cheap sk sk') (t:Int):∀ (e:Expr) (c c':Int),0≤c→c≤c'→c' + 1000 * nwin e≤1000000→0≤evalN lk sk t e c∧evalN lk sk t e c≤evalN lk sk' t e c'∧evalN lk sk' t e c'≤c' + 1000 * nwin e
  | .mk k n r w ms bs ks, c, c', h0, h1, h2 => by
    rw [nwin] at h2 ⊢
    rw [evalN,evalN]
    by_cases k1:k=1
    · rw [if_pos k1,if_pos k1]; omega
    rw [if_neg k1,if_neg k1]
    by_cases k2:k=2
    · rw [if_pos k2] at h2
      rw [if_pos k2,if_pos k2,if_pos k2]
      have:=hs ms (frm t r) t c c' h0 h1 qO
      omega
    · rw [if_neg k2] at h2
      rw [if_neg k2,if_neg k2,if_neg k2]
      exact evalsN_le hs t ks c c' h0 h1 h2
theorem evalsN_le {lk:Look} {sk sk':Sk} (hs:Cheap sk sk') (t:Int):∀ (l:List Expr) (c c':Int),0≤c→c≤c'→c' + 1000 * nwins l≤1000000→0≤evalsN lk sk t l c∧evalsN lk sk t l c≤evalsN lk sk' t l c'∧evalsN lk sk' t l c'≤c' + 1000 * nwins l
  | [],c,c',h0,h1,h2=>by rw [evalsN,evalsN,nwins]; omega
  | x :: xs, c, c', h0, h1, h2 => by
    rw [nwins] at h2 ⊢
    push_cast at h2 ⊢
    rw [evalsN,evalsN]
    obtain ⟨a1,a2,a3⟩:=evalN_le (lk:=lk) hs t x c c' h0 h1 qO
    by_cases h3:(eval lk t x).2≠0
    · rw [if_pos h3,if_pos h3]; omega
    · rw [if_neg h3,if_neg h3]
      obtain ⟨b1,b2,b3⟩:=evalsN_le (lk:=lk) hs t xs _ _ a1 a2 qO
      omega
end
end Mn
namespace Bs
open Ex Sh
set_option linter.unusedVariables false
structure Like (n:Nat) (s s':Shelf):Prop where
  ser:s.zK=s'.zK
  all:∃ all,Keep s all∧Keep s' all∧all.length≤n
  whole:s.zS=0∧s'.zS=0∧s'.zF=0
theorem Like.up {n m:Nat} {s s':Shelf} (h:Like n s s') (hm:n≤m):Like m s s':=⟨h.ser,by obtain ⟨a,h1,h2,h3⟩:=h.all; exact ⟨a,h1,h2,by omega⟩,h.whole⟩
def twin (n:Nat):List Shelf→List Shelf→Prop
  | [],[]=>True
  | s::r,s'::r'=>Like n s s'∧twin n r r'
  | _,_=>False
theorem twin_up {n m:Nat} (hm:n≤m):∀ {l l':List Shelf},twin n l l'→twin m l l'
  | [],[],_=>trivial
  | [],_::_,h=>h.elim
  | _::_,[],h=>h.elim
  | s::r,s'::r',h=>⟨h.1.up hm,twin_up hm h.2⟩
theorem twin_key {n:Nat}:∀ {l l':List Shelf},twin n l l'→l.map key=l'.map key
  | [],[],_=>rfl
  | [],_::_,h=>h.elim
  | _::_,[],h=>h.elim
  | s :: r, s' :: r', h => by
    rw [List.map_cons,List.map_cons,twin_key h.2]
    have:key s=key s':=by unfold key; rw [h.1.ser]
    rw [this]
theorem twin_len {n:Nat} {l l':List Shelf} (h:twin n l l'):l.length=l'.length:=by
  have:=congrArg List.length (twin_key h); simpa using this
theorem twin_get {n:Nat}:∀ {l l':List Shelf} {i:Nat} {s:Shelf},twin n l l'→l[i]?=some s→∃ s',l'[i]?=some s'∧Like n s s'
  | [],[],i,s,_,h=>by simp at h
  | [],_::_,_,_,h,_=>h.elim
  | _::_,[],_,_,h,_=>h.elim
  | x :: r, x' :: r', 0, s, h, hs => by
    obtain rfl:x=s:=by simpa using hs
    exact ⟨x',rfl,h.1⟩
  | x :: r, x' :: r', i + 1, s, h, hs => by
    obtain ⟨s',h1,h2⟩:=twin_get (i:=i) h.2 (by simpa using hs)
    exact ⟨s',by simpa using h1,h2⟩
theorem twin_set {n:Nat} {z z':Shelf} (hz:Like n z z'):∀ {l l':List Shelf} (i:Nat),twin n l l'→twin n (l.set i z) (l'.set i z')
  | [],[],i,_=>trivial
  | [],_::_,_,h=>h.elim
  | _::_,[],_,h=>h.elim
  | x::r,x'::r',0,h=>⟨hz,h.2⟩
  | x::r,x'::r',i + 1,h=>⟨h.1,twin_set hz i h.2⟩
theorem twin_ins {n:Nat} {z z':Shelf} (hz:Like n z z'):∀ {l l':List Shelf} (i:Nat),twin n l l'→twin n (l.take i++z::l.drop i) (l'.take i++z'::l'.drop i)
  | [],[],i,_=>by simp only [List.take_nil,List.drop_nil,List.nil_append]; exact ⟨hz,trivial⟩
  | [],_::_,_,h=>h.elim
  | _::_,[],_,h=>h.elim
  | x::r,x'::r',0,h=>⟨hz,h⟩
  | x::r,x'::r',i + 1,h=>⟨h.1,twin_ins hz i h.2⟩
theorem like_read {n:Nat} {s s':Shelf} (h:Like n s s') (a b:Int):(Sh.choose s a b).2=(Sh.choose s' a b).2∧((Sh.choose s a b).2=0→(Sh.read s (Sh.choose s a b).1).1=(Sh.read s' (Sh.choose s' a b).1).1∧(Sh.read s (Sh.choose s a b).1).2.2=0∧(Sh.read s' (Sh.choose s' a b).1).2.2=0 ∧
    0≤(Sh.read s (Sh.choose s a b).1).2.1∧(Sh.read s (Sh.choose s a b).1).2.1≤(Sh.read s' (Sh.choose s' a b).1).2.1∧(Sh.read s' (Sh.choose s' a b).1).2.1≤n):=by
  obtain ⟨all,k1,k2,hn⟩:=h.all
  obtain ⟨w1,w2,w3⟩:=h.whole
  by_cases hr:a < 0∨b < a∨1000000 < b
  · have e1:=choose_range (z:=s) (by simp [k1.ok.wrong]) hr
    have e2:=choose_range (z:=s') (by simp [k2.ok.wrong]) hr
    rw [e1,e2]
    exact ⟨rfl,fun h=>absurd h qD⟩
  · have c1:=choose_raw k1.ok w1 (f:=a) (t:=b) qO qO qO
    have c2:=choose_raw k2.ok w2 (f:=a) (t:=b) qO qO qO
    refine ⟨by rw [c1,c2],fun _=>?_⟩
    obtain ⟨a1,a2,a3,a4⟩:=read_is k1 c1
    obtain ⟨b1,b2,b3,b4⟩:=read_is k2 c2
    have hc:=raw_only k2 w3 _ _ _ (choose_cov c2).2.1
    have hl:=Roll.inT_len all a b
    have hz:=costs_nn k1.ok (Sh.choose s a b).1
    exact ⟨by rw [a1,b1],a2,b2,by rw [a3]; exact hz,by rw [a3,b3,hc]; exact a4,by rw [b3,hc]; omega⟩
theorem twin_look {n:Nat}:∀ {l l':List Shelf},twin n l l'→∀ m a b,look l m a b=look l' m a b
  | [],[],_,_,_,_=>rfl
  | [],_::_,h,_,_,_=>h.elim
  | _::_,[],h,_,_,_=>h.elim
  | s :: r, s' :: r', h, m, a, b => by
    have ih:=twin_look h.2 m a b
    obtain ⟨e1,e2⟩:=like_read h.1 a b
    rw [look,look,← h.1.ser,ih,← e1]
    by_cases h1:¬ zI.yB s.zK m=true
    · rw [if_pos h1,if_pos h1]
    rw [if_neg h1,if_neg h1]
    by_cases h2:(Sh.choose s a b).2≠0
    · rw [if_pos h2,if_pos h2]
    rw [if_neg h2,if_neg h2]
    obtain ⟨f1,f2,f3,_⟩:=e2 (Classical.not_not.1 h2)
    rw [f1,f2,f3]
theorem twin_cost {n:Nat} (hn:n≤120):∀ {l l':List Shelf},twin n l l'→∀ m a b (c c':Int),0≤c→c≤c'→c' + 120 * l.length≤2000000→0≤cost l m a b c∧cost l m a b c≤cost l' m a b c'∧cost l' m a b c'≤c' + 120 * l.length
  | [],[],_,m,a,b,c,c',h0,h1,h2=>by rw [cost,cost]; omega
  | [],_::_,h,_,_,_,_,_,_,_,_=>h.elim
  | _::_,[],h,_,_,_,_,_,_,_,_=>h.elim
  | s :: r, s' :: r', h, m, a, b, c, c', h0, h1, h2 => by
    obtain ⟨e1,e2⟩:=like_read h.1 a b
    rw [List.length_cons] at h2 ⊢
    push_cast at h2 ⊢
    rw [cost,cost,← h.1.ser,← e1]
    by_cases h3:¬ zI.yB s.zK m=true
    · rw [if_pos h3,if_pos h3]
      have:=twin_cost hn h.2 m a b c c' h0 h1 qO; omega
    rw [if_neg h3,if_neg h3]
    by_cases h4:(Sh.choose s a b).2≠0
    · rw [if_pos h4,if_pos h4]; omega
    rw [if_neg h4,if_neg h4]
    obtain ⟨_,f2,f3,f4,f5,f6⟩:=e2 (Classical.not_not.1 h4)
    rw [if_neg (by simp [f2]),if_neg (by simp [f3])]
    have w1:wr (c + (Sh.read s (Sh.choose s a b).1).2.1)=c + (Sh.read s (Sh.choose s a b).1).2.1:=wrap_in qO
    have w2:wr (c' + (Sh.read s' (Sh.choose s' a b).1).2.1)=c' + (Sh.read s' (Sh.choose s' a b).1).2.1:=wrap_in qO
    rw [w1,w2]
    have:=twin_cost hn h.2 m a b (c + (Sh.read s (Sh.choose s a b).1).2.1) (c' + (Sh.read s' (Sh.choose s' a b).1).2.1) qO qO qO
    omega
structure Twin (n:Nat) (b b':Base):Prop where
  sh:twin n b.zA b'.zA
  hor:0≤b.zO∧b.zO≤1000000∧b.zO % 10=0
  hor':b'.zO=0
theorem Twin.up {n m:Nat} {b b':Base} (h:Twin n b b') (hm:n≤m):Twin m b b':=⟨twin_up hm h.sh,h.hor,h.hor'⟩
theorem like_append {n:Nat} {s s':Shelf} {x:Sample} (h:Like n s s') (h9:(append s x).2≠9):(append s' x).2=(append s x).2∧((append s x).2=0→Like (n + 1) (append s x).1 (append s' x).1):=by
  obtain ⟨all,k1,k2,hn⟩:=h.all
  obtain ⟨w1,w2,w3⟩:=h.whole
  have u1:¬ wrong s≠0:=by simp [k1.ok.wrong]
  have u2:¬ wrong s'≠0:=by simp [k2.ok.wrong]
  have hraw:s'.raw=s.raw:=by rw [k1.raw,k2.raw,w1,w2]
  by_cases c1:(Codec.wrong [x]).err≠0
  · rw [append_bad u1 c1,append_bad u2 c1]; exact ⟨rfl,fun h=>absurd h c1⟩
  by_cases c2:x.time < s.zF∨late s.raw x=true
  · rw [append_late u1 c1 c2] at h9; exact absurd rfl h9
  have c2':¬ (x.time < s'.zF∨late s'.raw x=true):=by
    have:=(Codec.one_right (Classical.not_not.1 c1)).1
    rw [hraw,w3]
    rintro (g | g)
    · omega
    · exact c2 (.inr g)
  by_cases c3:(s.raw.length:Int)=500
  · rw [append_many u1 c1 c2 c3,append_many u2 c1 c2' (by rw [hraw]; exact c3)]; exact ⟨rfl,fun h=>absurd h qD⟩
  have e1:=append_ok u1 c1 c2 c3
  have e2:=append_ok u2 c1 c2' (by rw [hraw]; exact c3)
  have z1:(append s x).2=0:=by rw [e1]
  have z2:(append s' x).2=0:=by rw [e2]
  refine ⟨by rw [z1,z2],fun _=>⟨by rw [e1,e2]; exact h.ser,⟨all++[x],k1.append z1,k2.append z2,by rw [List.length_append,List.length_singleton]; omega⟩,by rw [e1,e2]; exact ⟨w1,w2,w3⟩⟩⟩
theorem like_fresh {t:List Label} {h:Int} (hw:zI.wrong t=0) (h0:0≤h) (h1:h≤1000000):Like 0 (fresh t h) (fresh t 0):=by
  obtain ⟨f1,f2,f3,f4⟩:=fresh_keep hw h0 h1
  obtain ⟨g1,g2,g3,g4⟩:=fresh_keep hw (Int.le_refl 0) qD
  refine ⟨by rw [f3,g3],⟨[],f1,g1,by simp⟩,by rw [fresh_is hw h0 h1]; rfl,by rw [fresh_is hw (Int.le_refl 0) qD]; rfl,by rw [g4]; rfl⟩
theorem like_roll {n:Nat} {s s':Shelf} {to:Int} (h:Like n s s') (hr:(roll s to).2=0):Like n (roll s to).1 s':=by
  obtain ⟨all,k1,k2,hn⟩:=h.all
  obtain ⟨_,_,_,_,_,e⟩:=roll_done hr
  exact ⟨by rw [e]; exact h.ser,⟨all,k1.roll hr,k2,hn⟩,by rw [e]; exact h.whole⟩
theorem twin_add {n:Nat} {b b':Base} {d:Do} (h:Twin n b b') (hasc:Mn.Asc (b.zA.map key)) (h9:(add b d).2.err≠9):(add b' d).2=(add b d).2∧Twin (n + 1) (add b d).1 (add b' d).1:=by
  have hu:=h.up (show n≤n + 1 by omega)
  have hk:=twin_key h.sh
  have ht:there b'.zA d.sr=there b.zA d.sr:=by unfold there; rw [hk]
  have hp:place b'.zA d.sr=place b.zA d.sr:=by unfold place; rw [hk]
  have hl:=twin_len h.sh
  unfold add at h9 ⊢
  rw [ht,hp,← hl]
  by_cases h1:zI.wrong d.sr≠0
  · rw [if_pos h1,if_pos h1]; exact ⟨rfl,hu⟩
  rw [if_neg h1] at h9 ⊢; rw [if_neg h1]
  by_cases h2:(Codec.wrong [d.zM]).err≠0
  · rw [if_pos h2,if_pos h2]; exact ⟨rfl,hu⟩
  rw [if_neg h2] at h9 ⊢; rw [if_neg h2]
  by_cases h3:d.zM.time < b.zO
  · rw [if_pos h3] at h9; exact absurd rfl h9
  rw [if_neg h3] at h9 ⊢
  have h0:=(Codec.one_right (Classical.not_not.1 h2)).1
  rw [if_neg (show ¬ d.zM.time < b'.zO by rw [h.hor']; omega)]
  by_cases h4:there b.zA d.sr=true
  · rw [if_pos h4] at h9 ⊢; rw [if_pos h4]
    obtain ⟨s,hs,hser⟩:=has_at hasc h4
    obtain ⟨s',hs',hlk⟩:=twin_get h.sh hs
    rw [hs] at h9 ⊢
    rw [hs']
    simp only at h9 ⊢
    by_cases h5:(append s d.zM).2≠0
    · rw [if_pos h5] at h9 ⊢
      obtain ⟨e1,_⟩:=like_append hlk h9
      rw [if_pos (by rw [e1]; exact h5),e1]
      exact ⟨rfl,hu⟩
    · obtain ⟨e1,e2⟩:=like_append (x:=d.zM) hlk (by rw [Classical.not_not.1 h5]; decide)
      rw [if_neg h5,if_neg (by rw [e1]; exact h5)]
      exact ⟨rfl,twin_set (e2 (Classical.not_not.1 h5)) _ hu.sh,h.hor,h.hor'⟩
  rw [if_neg h4] at h9 ⊢; rw [if_neg h4]
  by_cases h5:b.zA.length=8
  · rw [if_pos h5,if_pos h5]; exact ⟨rfl,hu⟩
  rw [if_neg h5] at h9 ⊢; rw [if_neg h5]
  have hlk:=like_fresh (Classical.not_not.1 h1) h.hor.1 h.hor.2.1
  rw [h.hor']
  by_cases h6:(append (fresh d.sr b.zO) d.zM).2≠0
  · rw [if_pos h6] at h9 ⊢
    obtain ⟨e1,_⟩:=like_append hlk h9
    rw [if_pos (by rw [e1]; exact h6),e1]
    exact ⟨rfl,hu⟩
  · obtain ⟨e1,e2⟩:=like_append (x:=d.zM) hlk (by rw [Classical.not_not.1 h6]; decide)
    rw [if_neg h6,if_neg (by rw [e1]; exact h6)]
    exact ⟨rfl,twin_ins ((e2 (Classical.not_not.1 h6)).up qO) _ hu.sh,h.hor,rfl⟩
theorem twin_ask {b b':Base} {d:Do} (h:Twin 120 b b') (hl:b.zA.length≤8):(ask b' d).err=(ask b d).err∧(ask b' d).cells=(ask b d).cells∧(ask b d).cost≤(ask b' d).cost:=by
  have hk:look b'.zA=look b.zA:=funext fun m=>funext fun x=>funext fun y=>(twin_look h.sh m x y).symm
  unfold ask asked
  rw [hk]
  by_cases h1:(Pz.parse d.text).2.1≠0
  · rw [if_pos h1,if_pos h1]; exact ⟨rfl,rfl,Int.le_refl _⟩
  rw [if_neg h1,if_neg h1]
  by_cases h2:Mn.check (Pz.parse d.text).1 d.to≠0
  · rw [if_pos h2,if_pos h2]; exact ⟨rfl,rfl,Int.le_refl _⟩
  rw [if_neg h2,if_neg h2]
  by_cases h3:(Mn.out (Mn.eval (look b.zA) d.to (Pz.parse d.text).1)).2≠0
  · rw [if_pos h3,if_pos h3]; exact ⟨rfl,rfl,Int.le_refl _⟩
  rw [if_neg h3,if_neg h3]
  have hw:=Mn.win_few (Classical.not_not.1 h2)
  have hc:Mn.Cheap (cost b.zA) (cost b'.zA):=fun m x y c c' g0 g1 g2=>by
    have:=twin_cost (Nat.le_refl 120) h.sh m x y c c' g0 g1 qO
    omega
  exact ⟨rfl,rfl,(Mn.evalN_le (lk:=look b.zA) hc d.to (Pz.parse d.text).1 0 0 (Int.le_refl _) (Int.le_refl _) qO).2.1⟩
def Alike (x y:Ans):Prop:=y.err=x.err∧y.cells=x.cells∧x.cost≤y.cost
theorem Alike.of {x y:Ans} (h:y=x):Alike x y:=by subst h; exact ⟨rfl,rfl,Int.le_refl _⟩
theorem twin_one {n:Nat} {b b':Base} {d:Do} (h:Twin n b b') (hi:Inv b n) (hn:n≤120) (h3:d.kind≠3) (h9:(one b d).2.err≠9):(d.kind=2→Twin (n + 1) (one b d).1 b')∧(d.kind≠2→Twin (n + 1) (one b d).1 (one b' d).1∧Alike (one b d).2 (one b' d).2):=by
  have hu:=h.up (show n≤n + 1 by omega)
  constructor
  · intro h2
    unfold one
    rw [if_neg qO,if_neg qO,if_neg qO]
    by_cases h4:d.to < 0∨1000000 < d.to
    · rw [if_pos h4]; exact hu
    rw [if_neg h4,if_neg h3,rollAll]
    by_cases h5:(each (fun s=>roll s d.to) b.zA).2≠0
    · rw [if_pos h5]; exact hu
    rw [if_neg h5]
    obtain ⟨e1,e2⟩:=each_ok (Classical.not_not.1 h5)
    have hv:=(inv_roll (n:=n) hi (to:=d.to) qO qO).hor
    rw [rollAll,if_neg h5] at hv
    refine ⟨?_,hv,h.hor'⟩
    show twin (n + 1) (each (fun s=>roll s d.to) b.zA).1 b'.zA
    rw [e1]
    have key:∀ {l l':List Shelf},twin (n + 1) l l'→(∀ s ∈ l,(roll s d.to).2=0)→twin (n + 1) (l.map fun s=>(roll s d.to).1) l':=by
      intro l
      induction l with
      | nil => intro l' hl _; cases l' with
        | nil=>trivial
        | cons=>exact hl.elim
      | cons s r ih => intro l' hl hs; cases l' with
        | nil=>exact hl.elim
        | cons s' r'=>exact ⟨like_roll hl.1 (hs s List.mem_cons_self),ih hl.2 fun z hz=>hs z (List.mem_cons_of_mem _ hz)⟩
    exact key hu.sh e2
  · intro h2
    unfold one at h9 ⊢
    by_cases h1:d.kind=1
    · rw [if_pos h1] at h9 ⊢; rw [if_pos h1]
      obtain ⟨a1,a2⟩:=twin_add h hi.asc h9
      exact ⟨a2,.of a1⟩
    rw [if_neg h1,if_neg h1]
    by_cases h4:d.kind=4
    · rw [if_pos h4,if_pos h4]
      exact ⟨hu,twin_ask (h.up hn) hi.len⟩
    rw [if_neg h4,if_neg h4,if_pos qO,if_pos qO]
    exact ⟨hu,.of rfl⟩
def pairs:List Do→List Ans→List Ans→Prop
  | [],_,_=>True
  | d::l,x::a,c=>if d.kind=2 then pairs l a c else ∃ y r,c=y::r∧Alike x y∧pairs l a r
  | _::_,[],_=>False
def unrolled (l:List Do):List Do:=l.filter fun d=>decide (d.kind≠2)
theorem rolled_run:∀ (l:List Do) {b b':Base} {n:Nat},Twin n b b'→Inv b n→n + l.length≤120→(∀ d ∈ l,d.kind≠3)→(∀ x ∈ (run b l).2,x.err≠9)→pairs l (run b l).2 (run b' (unrolled l)).2
  | [],_,_,_,_,_,_,_,_=>trivial
  | d :: r, b, b', n, h, hi, hn, h3, h9 => by
    rw [List.length_cons] at hn
    have h3':∀ x ∈ r,x.kind≠3:=fun x hx=>h3 x (List.mem_cons_of_mem _ hx)
    rw [run] at h9 ⊢
    have h9a:=h9 _ List.mem_cons_self
    have h9':∀ x ∈ (run (one b d).1 r).2,x.err≠9:=fun x hx=>h9 x (List.mem_cons_of_mem _ hx)
    obtain ⟨t1,t2⟩:=twin_one h hi qO (h3 d List.mem_cons_self) h9a
    have hi':=inv_one (d:=d) hi
    by_cases h2:d.kind=2
    · have e:unrolled (d::r)=unrolled r:=by unfold unrolled; rw [List.filter_cons,if_neg (by simp [h2])]
      rw [e,pairs,if_pos h2]
      exact rolled_run r (t1 h2) hi' qO h3' h9'
    · have e:unrolled (d::r)=d::unrolled r:=by unfold unrolled; rw [List.filter_cons,if_pos (by simp [h2])]
      rw [e,run,pairs,if_neg h2]
      exact ⟨_,_,rfl,(t2 h2).2,rolled_run r (t2 h2).1 hi' qO h3' h9'⟩
theorem twin_zero:Twin 0 zero zero:=⟨trivial,by decide,rfl⟩
def idxs:Int→List Do→List Int
  | _,[]=>[]
  | i,d::r=>if d.kind=2 then idxs (i + 1) r else i::idxs (i + 1) r
theorem idxs_snoc (d:Do):∀ (l:List Do) (i:Int),idxs i (l++[d])=idxs i l++if d.kind=2 then [] else [i + l.length]
  | [], i => by
    show (if d.kind=2 then idxs (i + 1) [] else i::idxs (i + 1) [])=[]++_
    split <;> simp [idxs]
  | x :: l, i => by
    have ih:=idxs_snoc d l (i + 1)
    rw [List.cons_append,idxs,idxs,ih]
    have e:i + 1 + (l.length:Int)=i + ((x::l).length:Int):=by rw [List.length_cons]; push_cast; omega
    rw [e]
    split <;> simp
theorem pairs_at:∀ {l:List Do} {a c:List Ans} {s:Int} {k:Nat} {i:Int},pairs l a c→(idxs s l)[k]?=some i→∃ j:Nat,i=s + j∧∃ x y,a[j]?=some x∧c[k]?=some y∧Alike x y
  | [],_,_,_,_,_,_,h=>by simp [idxs] at h
  | d::r,[],_,_,_,_,h,_=>h.elim
  | d :: r, x :: a, c, s, k, i, h, hk => by
    rw [pairs] at h
    rw [idxs] at hk
    by_cases h2:d.kind=2
    · rw [if_pos h2] at h hk
      obtain ⟨j,h4,u,v,h5,h6,h7⟩:=pairs_at h hk
      exact ⟨j + 1,by push_cast; omega,u,v,by simpa using h5,h6,h7⟩
    · rw [if_neg h2] at h hk
      obtain ⟨y,c',rfl,g1,g2⟩:=h
      cases k with
      | zero =>
        obtain rfl:s=i:=by simpa using hk
        exact ⟨0,by simp,x,y,rfl,rfl,g1⟩
      | succ k =>
        obtain ⟨j,h4,u,v,h5,h6,h7⟩:=pairs_at g2 (by simpa using hk)
        exact ⟨j + 1,by push_cast; omega,u,v,by simpa using h5,by simpa using h6,h7⟩
theorem unrolled_len (l:List Do):(unrolled l).length≤l.length:=List.length_filter_le ..
theorem play_unrolled {l:List Do} (h0:¬ (play l).2.2≠0) (h3:∀ d ∈ l,d.kind≠3) (h9:∀ x ∈ (play l).2.1,x.err≠9):(play (unrolled l)).2.2=0∧pairs l (play l).2.1 (play (unrolled l)).2.1:=by
  have hl:¬ 120 < l.length:=fun g=>h0 (by unfold play; rw [if_pos g]; decide)
  have hm:¬ 120 < (unrolled l).length:=by have:=unrolled_len l; omega
  have e1:play l=((run zero l).1,(run zero l).2,0):=by unfold play; rw [if_neg hl]
  have e2:play (unrolled l)=((run zero (unrolled l)).1,(run zero (unrolled l)).2,0):=by unfold play; rw [if_neg hm]
  rw [e1] at h9
  rw [e1,e2]
  exact ⟨rfl,rolled_run l twin_zero inv_zero qO h3 h9⟩
section
variable {l gs:List zn} {ats:List Int} {k:Nat} {d:zn} {z y:zq × SlX zj}
theorem unrolled_at (hd:l[k]?=some d):unrolled ((l.take (k + 1)).map zn.e)=unrolled ((l.take k).map zn.e)++(if d.kind=2 then [] else [d.e]):=by
  rw [List.take_add_one,hd,Option.toList_some,List.map_append,List.map_cons,List.map_nil]
  unfold unrolled
  rw [List.filter_append,List.filter_cons,List.filter_nil]
  by_cases h2:d.kind=2
  · rw [if_pos h2,if_neg (by show ¬ decide (d.kind≠2)=true; simp [h2])]
  · rw [if_neg h2,if_pos (by show decide (d.kind≠2)=true; simp [h2])]
theorem idxs_at (hd:l[k]?=some d):idxs 0 ((l.take (k + 1)).map zn.e)=idxs 0 ((l.take k).map zn.e)++(if d.kind=2 then [] else [(k:Int)]):=by
  have hk:=(List.getElem?_eq_some_iff.1 hd).1
  rw [List.take_add_one,hd,Option.toList_some,List.map_append,List.map_cons,List.map_nil,idxs_snoc,List.length_map,List.length_take,show min k l.length=k by omega,show (0:Int) + (k:Int)=k by omega]; rfl
theorem rolled_yes (hd:l[k]?=some d) (hg:gs.map zn.e=unrolled ((l.take k).map zn.e)) (ha:ats=idxs 0 ((l.take k).map zn.e)) (h2:d.kind≠2):(gs++[d]).map zn.e=unrolled ((l.take (k + 1)).map zn.e)∧ats++[(k:Int)]=idxs 0 ((l.take (k + 1)).map zn.e):=by
  rw [unrolled_at hd,idxs_at hd,if_neg h2,if_neg h2,List.map_append,hg,ha]; exact ⟨rfl,rfl⟩
theorem rolled_no (hd:l[k]?=some d) (hg:gs.map zn.e=unrolled ((l.take k).map zn.e)) (ha:ats=idxs 0 ((l.take k).map zn.e)) (h2:d.kind=2):gs.map zn.e=unrolled ((l.take (k + 1)).map zn.e)∧ats=idxs 0 ((l.take (k + 1)).map zn.e):=by
  rw [unrolled_at hd,idxs_at hd,if_pos h2,if_pos h2,List.append_nil,List.append_nil]; exact ⟨hg,ha⟩
theorem all_more {α:Type} {p:α→Prop} {l:List α} {k:Nat} {x:α} (h:∀ y ∈ l.take k,p y) (hx:l[k]?=some x) (hp:p x):∀ y ∈ l.take (k + 1),p y:=fun y hy=>by
  rw [List.take_add_one,hx,Option.toList_some] at hy
  rcases List.mem_append.1 hy with h1 | h1
  · exact h y h1
  · rw [List.mem_singleton.1 h1]; exact hp
theorem rolled_x (hz:(z.1.e,z.2.l.map zj.e)=((play (l.map zn.e)).1,(play (l.map zn.e)).2.1)) (h0:¬ (play (l.map zn.e)).2.2≠0) (hg:gs.map zn.e=unrolled ((l.take k).map zn.e)) (ha:ats=idxs 0 ((l.take k).map zn.e)) (hk:l.length≤k) (hlz:z.2.l.length=l.length)
    (h3:∀ d ∈ l.take k,d.kind≠3) (h9:∀ x ∈ z.2.l.take k,x.err≠9) (hy:(y.1.e,y.2.l.map zj.e)=((play (gs.map zn.e)).1,(play (gs.map zn.e)).2.1)) :
    (play (gs.map zn.e)).2.2=0∧∀ (q:Nat) (i:Int),ats[q]?=some i→∃ j:Nat,i=j∧∃ x u,z.2.l[j]?=some x∧y.2.l[q]?=some u∧u.err=x.err∧u.cells.l.map zE.e=x.cells.l.map zE.e∧x.cost≤u.cost:=by
  rw [List.take_of_length_le hk] at hg ha h3
  rw [List.take_of_length_le qO] at h9
  have ez:=(Prod.mk.inj hz).2
  have ey:=(Prod.mk.inj hy).2
  obtain ⟨p1,p2⟩:=play_unrolled h0 (fun d hd=>by obtain ⟨x,hx,rfl⟩:=List.mem_map.1 hd; exact h3 x hx) (fun x hx=>by rw [← ez] at hx; obtain ⟨u,hu,rfl⟩:=List.mem_map.1 hx; exact h9 u hu)
  rw [← hg] at p1 p2
  rw [← ez,← ey] at p2
  refine ⟨p1,fun q i hq=>?_⟩
  rw [ha] at hq
  obtain ⟨j,e1,x,u,hx,hu,g1,g2,g3⟩:=pairs_at p2 hq
  rw [List.getElem?_map] at hx hu
  cases hx':z.2.l[j]? with
  | none=>rw [hx'] at hx; cases hx
  | some x' =>
    cases hu':y.2.l[q]? with
    | none=>rw [hu'] at hu; cases hu
    | some u' =>
      rw [hx'] at hx; rw [hu'] at hu
      obtain rfl:x'.e=x:=by simpa using hx
      obtain rfl:u'.e=u:=by simpa using hu
      exact ⟨j,by omega,x',u',hx',rfl,g1,g2,g3⟩
end
end Bs
end
section
open _root_.Go.Proofs.Tryz
open Ex
attribute [local irreducible] WC WL WQ WE WS
set_option linter.unusedVariables false
set_option linter.unusedSimpArgs false
theorem c_badd9 (h:ByteArray) (t:Int) (v:Int) (P0:Nat→Prop) (w:World) (hP0:∀ b,P0 b→b < w.heap.size)  :
    Calls prog 40 #[.string h,iV t,iV v] w (RetE w P0 (fun z:zn=>.agg (vS z).toArray) (fun z=>z.e=Bs.addD h t v) (fun z S=>zn.Ok S z)):=by
 refine zr (N:=14) func40 (Mem.ofDatsP hP0 dn) ?_
 refine (go 2) (zz fun b6=>?_)
 refine (go 6) ?_
 refine zy zQ ([(⟨⟨#[104,111,115,116]⟩,h⟩:Label)]:List Label) wn underlying39 inf74 rfl rfl rfl rfl qD qD rfl fun b9=>?_
 refine (go 8) (zY results40 fun w1 hM=>?_)
 have hM:=hM.zk encLabel (i:=0) rfl rfl
 exact hM.vT (zn.mk 1 0 0 ⟨(some ⟨b9,0,none⟩),1,([(⟨⟨#[104,111,115,116]⟩,h⟩:Label)]:List Label)⟩ ⟨t,v⟩ ⟨#[]⟩) rfl rfl fun Pb pp=>⟨pp.sl 0 rfl⟩
set_option maxHeartbeats 1000000 in
theorem c_alive9 (P0:Nat→Prop) (w:World) (hP0:∀ b,P0 b→b < w.heap.size) (hE:zN P0 w)  :
    Calls prog 18 #[] w (Ret w (.bool true)):=by
 refine zr (N:=52) func18 (Mem.ofDatsP hP0 (dc (dp zN.loc hE) dn)) ?_
 refine (go 7) ?_
 refine yh (β:=zn) (fun z=>.agg (vS z).toArray) (fun z=>z.e=Bs.addD ⟨#[120]⟩ 5 7) (fun z S=>zn.Ok S z) (fun z=>zn.Ok.loc z) wn rfl call40 rfl (fun w1 Pb hM pp=>c_badd9 ⟨#[120]⟩ 5 7 Pb w1 pp.lt) fun z1 hz1=>yw 0 rfl (fun S w h=>zn.Ok.wf h) fun hw1=>yh (β:=zn) (fun z=>.agg (vS z).toArray) (fun z=>z.e=Bs.addD ⟨#[121]⟩ 6 8) (fun z S=>zn.Ok S z) (fun z=>zn.Ok.loc z) wn rfl call40 rfl (fun w1 Pb hM pp=>c_badd9 ⟨#[121]⟩ 6 8 Pb w1 pp.lt) fun z2 hz2=>yw 0 rfl (fun S w h=>zn.Ok.wf h) fun hw2=>?_
 refine (go 2) ?_
 refine zy vS ([z1,z2,(zn.mk 2 0 100 ⟨none,0,[]⟩ ⟨0,0⟩ ⟨#[]⟩),(zn.mk 4 0 60 ⟨none,0,[]⟩ ⟨0,0⟩ ⟨#[97,108,108,32,115,117,109,32,40,115,117,109,40,123,125,91,54,48,93,41,41]⟩)]:List zn) wn underlying22 inf43 rfl rfl rfl rfl qD qD rfl fun b9=>ze (fun _ h=>h.all0 zn.Ok.loc) (ze (fun _ h=>h.allSnoc 0 3 zn.Ok.loc rfl rfl) (ze (fun _ h=>h.allSnoc 0 3 zn.Ok.loc rfl rfl) (ze (fun _ h=>h.yT (zn.Ok.loc (zn.mk 2 0 100 ⟨none,0,[]⟩ ⟨0,0⟩ ⟨#[]⟩)) fun Pb pp=>⟨zD.zt _ _ _ _⟩) (yw 0 rfl (fun S w h=>zn.Ok.wf h) fun hw3=>ze (fun _ h=>h.allSnoc 1 0 zn.Ok.loc rfl rfl) (ze (fun _ h=>h.yT (zn.Ok.loc (zn.mk 4 0 60 ⟨none,0,[]⟩ ⟨0,0⟩ ⟨#[97,108,108,32,115,117,109,32,40,115,117,109,40,123,125,91,54,48,93,41,41]⟩)) fun Pb pp=>⟨zD.zt _ _ _ _⟩) (yw 0 rfl (fun S w h=>zn.Ok.wf h) fun hw4=>ze (fun _ h=>h.allSnoc 1 0 zn.Ok.loc rfl rfl) (jN 7 encDoX rfl rfl (yh (β:=zq × SlX zj) (fun z=>.tuple #[.agg (jC z.1).toArray,.slice z.2.A z.2.l.length z.2.c,iV (Bs.play (([z1,z2,(zn.mk 2 0 100 ⟨none,0,[]⟩ ⟨0,0⟩ ⟨#[]⟩),(zn.mk 4 0 60 ⟨none,0,[]⟩ ⟨0,0⟩ ⟨#[97,108,108,32,115,117,109,32,40,115,117,109,40,123,125,91,54,48,93,41,41]⟩)]:List zn).map zn.e)).2.2]) (fun z=>(z.1.e,z.2.l.map zj.e)=((Bs.play (([z1,z2,(zn.mk 2 0 100 ⟨none,0,[]⟩ ⟨0,0⟩ ⟨#[]⟩),(zn.mk 4 0 60 ⟨none,0,[]⟩ ⟨0,0⟩ ⟨#[97,108,108,32,115,117,109,32,40,115,117,109,40,123,125,91,54,48,93,41,41]⟩)]:List zn).map zn.e)).1,(Bs.play (([z1,z2,(zn.mk 2 0 100 ⟨none,0,[]⟩ ⟨0,0⟩ ⟨#[]⟩),(zn.mk 4 0 60 ⟨none,0,[]⟩ ⟨0,0⟩ ⟨#[97,108,108,32,115,117,109,32,40,115,117,109,40,123,125,91,54,48,93,41,41]⟩)]:List zn).map zn.e)).2.1)) (fun z S w=>PlayOk z S w) (fun z=>PlayOk.loc z) wn rfl call14 rfl (fun w1 Pb hM pp=>jU _ ([z1,z2,(zn.mk 2 0 100 ⟨none,0,[]⟩ ⟨0,0⟩ ⟨#[]⟩),(zn.mk 4 0 60 ⟨none,0,[]⟩ ⟨0,0⟩ ⟨#[97,108,108,32,115,117,109,32,40,115,117,109,40,123,125,91,54,48,93,41,41]⟩)]:List zn) Pb w1 pp.lt (pp.sl 7 rfl) (pp.at_ 0 _ rfl) (pp.at_ 10 _ rfl)) fun z3 hz3=>?_))))))))
 refine yw 0 rfl (fun S w h=>PlayOk.wf h) fun hw5=>ze (fun _ h=>h.playX 0 rfl) ?_
 obtain ⟨hc1,hm1,hA1⟩:=hw5.2.sl
 obtain ⟨hal1,hal2,hal3,hal4⟩:=Bs.alive9_x (l:=([z1,z2,(zn.mk 2 0 100 ⟨none,0,[]⟩ ⟨0,0⟩ ⟨#[]⟩),(zn.mk 4 0 60 ⟨none,0,[]⟩ ⟨0,0⟩ ⟨#[97,108,108,32,115,117,109,32,40,115,117,109,40,123,125,91,54,48,93,41,41]⟩)]:List zn)) (show [zn.e z1,zn.e z2,zn.e (zn.mk 2 0 100 ⟨none,0,[]⟩ ⟨0,0⟩ ⟨#[]⟩),zn.e (zn.mk 4 0 60 ⟨none,0,[]⟩ ⟨0,0⟩ ⟨#[97,108,108,32,115,117,109,32,40,115,117,109,40,123,125,91,54,48,93,41,41]⟩)]=Bs.topL9 from by rw [hz1,hz2]; rfl) hz3
 refine (go 4) (zz fun b1=>?_)
 refine (go 10) ?_
 refine ul (t:=16) rfl hal1 ?_
 refine (go 5) ?_
 refine ul (t:=21) rfl qO ?_
 refine (go 6) ?_
 refine ul (t:=27) rfl qO ?_
 refine (go 1) ?_
 obtain ⟨ad1,s1,hd1,hs1⟩:=elx hA1 3
 refine (go 2) ?_
 obtain ⟨hv9,hc9⟩:=hal4 _ hs1
 have hn9:=congrArg List.length hv9
 simp only [List.length_map,List.length_cons,List.length_nil] at hn9
 refine (go 5) ?_
 refine ul (t:=35) rfl qO ?_
 refine (go 4) ?_
 have hw6:=hw5.2.all _ (List.mem_of_getElem? hs1)
 refine ze (fun _ h=>h.one 2 zj.Ok.loc rfl hs1) (ze (fun _ h=>h.ansX 0 rfl) ?_)
 obtain ⟨hc2,hm2,hA2⟩:=hw6.cells
 obtain ⟨ad2,s2,hd2,hs2⟩:=elx hA2 0
 refine (go 6) ?_
 refine ul (t:=45) rfl (Bs.val9_x hv9 hs2) ?_
 refine (go 10) (zY results18 fun w1 hM=>?_)
 exact zP (by first | rfl | simp [hc9]) hM
end
section
open _root_.Go.Proofs.Tryz
open Ex
attribute [local irreducible] WC WL WQ WE WS
set_option linter.unusedVariables false
set_option linter.unusedSimpArgs false
set_option maxHeartbeats 2000000 in
theorem law_BaseRolled (lv:Value) (l:List zn) (P0:Nat→Prop) (w:World) (hP0:∀ b,P0 b→b < w.heap.size) (hl:zD P0 7 vS lv l w) (hla:∀ x ∈ l,zn.Ok P0 x w) (hE:zN P0 w)  :
    Calls prog 4 #[lv] w (Ret w (.bool true)):=by
 have hwl:∀ x ∈ l,zn.Wf x:=fun x hx=>(hla x hx).wf
 obtain ⟨lA,lc,rfl,hlc,hlm,hlA⟩:=hl.form
 refine zr (N:=108) func4 (Mem.ofDatsP hP0 (dc (dlp hl) (dc (dp (all_loc zn.Ok.loc _) hla) (dc (dp zN.loc hE) dn)))) ?_
 refine (go 8) ?_
 refine yH call18 wn rfl (fun w1 hM=>c_alive9 (In w1) w1 (fun _ h=>h) (hM.yR (i:=2) rfl)) (zb (yC rfl) ?_)
 refine (go 8) ?_
 refine yh (β:=zq × SlX zj) (fun z=>.tuple #[.agg (jC z.1).toArray,.slice z.2.A z.2.l.length z.2.c,iV (Bs.play (l.map zn.e)).2.2]) (fun z=>(z.1.e,z.2.l.map zj.e)=((Bs.play (l.map zn.e)).1,(Bs.play (l.map zn.e)).2.1)) (fun z S w=>PlayOk z S w) (fun z=>PlayOk.loc z) wn rfl call14 rfl (fun w1 Pb hM pp=>jU _ l Pb w1 pp.lt (pp.sl 0 rfl) (pp.at_ 1 _ rfl) (pp.at_ 2 _ rfl)) fun z1 hz1=>yw 0 rfl (fun S w h=>PlayOk.wf h) fun hw1=>ze (fun _ h=>h.playX 0 rfl) ?_
 obtain ⟨hc1,hm1,hA1⟩:=hw1.2.sl
 refine (go 4) (zz fun b3=>?_)
 refine (go 12) (zX (fun h1=>?_) fun h1=>?_)
 ·refine (go 7) (zY results4 fun w1 hM=>?_)
  exact zP rfl hM
 have hlz:=Bs.play_len hz1 h1
 have hlm:=Bs.play_bound h1
 refine (go 4) ?_
 refine yD (vS:zn→List Value) 43 7 (ze (fun _ h=>h.all0 zn.Ok.loc) ?_)
 refine (go 5) ?_
 refine yD (intE:Int→List Value) 3 1 ?_
 refine (go 12) ?_
 refine uM (fun (k:Nat) (gs:List zn) (ats:List Int) (gv:Value) (av:Value)=>[(4,.slice z1.2.A z1.2.l.length z1.2.c),(6,gv),(7,av),(24,.slice lA l.length lc),(25,iV l.length),(26,iV k)]) (fun (k:Nat) (gs:List zn) (ats:List Int) (gv:Value) (av:Value)=>[Row av 3 1 intE ats,allP zn.Ok gs,Row gv 43 7 vS gs,.blk b3 [.slice z1.1.zA.A z1.1.zA.l.length z1.1.zA.c,iV z1.1.zO] 25,slP 4 vF (.slice z1.2.A z1.2.l.length z1.2.c) z1.2.l,allP zj.Ok z1.2.l,okP zq.Ok z1.1,.pub (PlayOk z1),slP 7 vS (.slice lA l.length lc) l,allP zn.Ok l,.pub zN]) (fun (k:Nat) (gs:List zn) (ats:List Int) (gv:Value) (av:Value)=>k≤l.length∧(∀ y ∈ gs,zn.Wf y)∧gs.map zn.e=Bs.unrolled ((l.take k).map zn.e)∧ats=Bs.idxs 0 ((l.take k).map zn.e)∧gs.length≤k∧ats.length≤k∧(∀ d ∈ l.take k,d.kind≠3)∧(∀ x ∈ z1.2.l.take k,x.err≠9)) (fun (k:Nat) (gs:List zn) (ats:List Int) (gv:Value) (av:Value)=>l.length - k) 0 [] [] (Zs) (Zs) (sc rfl (sc rfl (sc rfl (sc rfl (sc rfl (sc (ji qO) sn)))))) (fun _ h=>h) ?_ (fun k gs ats gv av hI1=>?_)
 ·exact ⟨Nat.zero_le _,fun x hx=>(by cases hx),rfl,rfl,Nat.le_refl _,Nat.le_refl _,fun x hx=>(by cases hx),fun x hx=>(by cases hx)⟩
 have hwg:=hI1.2.1
 have hgl:=hI1.2.2.2.2.1
 have hal9:=hI1.2.2.2.2.2.1
 refine yU 2 (l:=gs) rfl fun A1 cp1 hv1 hc2 hm2 hA2=>?_
 subst hv1
 refine yU 0 (l:=ats) rfl fun A2 cp2 hv2 hc3 hm3 hA3=>?_
 subst hv2
 refine (go 6) (zX (fun h2=>?_) fun h2=>?_)
 ·refine (go 7) ?_
  obtain ⟨ad1,s1,hd1,hs1⟩:=elx hlA k
  refine (go 2) (zz fun b9=>?_)
  refine (go 11) (yN 34 (fun h3=>?_) fun h3=>?_)
  ·refine (go 22) (zY results4 fun w1 hM=>?_)
   exact zP rfl hM
  refine (go 2) ?_
  obtain ⟨ad2,s2,hd2,hs2⟩:=elx hA1 k
  refine (go 7) (zX (fun h4=>?_) fun h4=>?_)
  ·refine (go 12) (zY results4 fun w1 hM=>?_)
   exact zP rfl hM
  refine (go 9) (zX (fun h5=>?_) fun h5=>?_)
  ·refine (go 3) ?_
   refine zy vS ([s1]:List zn) wn underlying22 inf43 rfl rfl rfl rfl qD qD rfl fun b47=>yI 4 gs ([s1]:List zn) encDoX wn rfl rfl rfl (fun _ hM=>(RowSl encDoX hM 0 rfl)) underlying22 inf43 rfl rfl (by simp only [qL]; omega) rfl fun A3 cp3 hc4 hm4 hA4=>?_
   have hw3:=hwl _ (List.mem_of_getElem? hs1)
   refine ze (fun _ h=>h.one 11 zn.Ok.loc rfl hs1) (ze (fun _ h=>h.allSnoc 4 0 zn.Ok.loc rfl rfl) ?_)
   have hw2:∀ x ∈ (gs++([s1]:List zn)),zn.Wf x:=fun x hx=>(List.mem_append.1 hx).elim (hwg x) fun h=>by rw [List.mem_singleton.1 h]; exact hw3
   refine (go 2) ?_
   refine zy intE ([(k:Int)]:List Int) wn underlying37 inf3 rfl rfl rfl rfl qD qD rfl fun b51=>yI 5 ats ([(k:Int)]:List Int) encInt wn rfl rfl rfl (fun _ hM=>(RowSl encInt hM 0 rfl)) underlying37 inf3 rfl rfl (by simp only [qL]; omega) rfl fun A4 cp4 hc5 hm5 hA5=>?_
   refine (go 8) ?_
   refine zU (yW (k + 1) (gs++([s1]:List zn)) (ats++([(k:Int)]:List Int)) (.slice A3 ((gs++([s1]:List zn)).length) cp3) (.slice A4 ((ats++([(k:Int)]:List Int)).length) cp4) (sc rfl (sc rfl (sc rfl (sc rfl (sc rfl (sc (ji qO) sn)))))) (S9 [5,1,7,8,9,10,11,12,13,14,15]) ?_ ?_)
   ·exact ⟨by omega,hw2,(Bs.rolled_yes hs1 hI1.2.2.1 hI1.2.2.2.1 qO).1,(Bs.rolled_yes hs1 hI1.2.2.1 hI1.2.2.2.1 qO).2,(by first | omega | (simp only [qL]; omega)),(by first | omega | (simp only [qL]; omega)),Bs.all_more hI1.2.2.2.2.2.2.1 hs1 qO,Bs.all_more hI1.2.2.2.2.2.2.2 hs2 qO⟩
   omega
  refine (go 6) ?_
  refine zU (yW (k + 1) gs ats (.slice A1 gs.length cp1) (.slice A2 ats.length cp2) (sc rfl (sc rfl (sc rfl (sc rfl (sc rfl (sc (ji qO) sn)))))) (S9 [1,2,3,4,5,6,7,8,9,10,11]) ?_ ?_)
  ·exact ⟨by omega,hwg,(Bs.rolled_no hs1 hI1.2.2.1 hI1.2.2.2.1 qO).1,(Bs.rolled_no hs1 hI1.2.2.1 hI1.2.2.2.1 qO).2,(by first | omega | (simp only [qL]; omega)),(by first | omega | (simp only [qL]; omega)),Bs.all_more hI1.2.2.2.2.2.2.1 hs1 qO,Bs.all_more hI1.2.2.2.2.2.2.2 hs2 qO⟩
  omega
 refine (go 8) ?_
 refine jN 2 encDoX rfl rfl (yh (β:=zq × SlX zj) (fun z=>.tuple #[.agg (jC z.1).toArray,.slice z.2.A z.2.l.length z.2.c,iV (Bs.play (gs.map zn.e)).2.2]) (fun z=>(z.1.e,z.2.l.map zj.e)=((Bs.play (gs.map zn.e)).1,(Bs.play (gs.map zn.e)).2.1)) (fun z S w=>PlayOk z S w) (fun z=>PlayOk.loc z) wn rfl call14 rfl (fun w1 Pb hM pp=>jU _ gs Pb w1 pp.lt (pp.sl 2 rfl) (pp.at_ 1 _ rfl) (pp.at_ 10 _ rfl)) fun z2 hz2=>yw 0 rfl (fun S w h=>PlayOk.wf h) fun hw4=>ze (fun _ h=>h.playX 0 rfl) ?_)
 obtain ⟨hc6,hm6,hA6⟩:=hw4.2.sl
 have hk9:=Bs.rolled_x hz1 h1 hI1.2.2.1 hI1.2.2.2.1 qO hlz hI1.2.2.2.2.2.2.1 hI1.2.2.2.2.2.2.2 hz2
 refine (go 4) (zz fun b10=>?_)
 refine (go 12) ?_
 refine yc rfl (decide_eq_false (fun g=>g hk9.1)) ?_
 refine (go 11) ?_
 refine yE (fun (q:Nat)=>[(4,.slice z1.2.A z1.2.l.length z1.2.c),(11,.slice z2.2.A z2.2.l.length z2.2.c),(62,.slice A2 ats.length cp2),(63,iV ats.length),(64,iV q)]) (fun (q:Nat)=>[.blk b10 [.slice z2.1.zA.A z2.1.zA.l.length z2.1.zA.c,iV z2.1.zO] 25,slP 4 vF (.slice z2.2.A z2.2.l.length z2.2.c) z2.2.l,allP zj.Ok z2.2.l,okP zq.Ok z2.1,.pub (PlayOk z2),Row (.slice A2 ats.length cp2) 3 1 intE ats,allP zn.Ok gs,slP 7 vS (.slice A1 gs.length cp1) gs,.blk b3 [.slice z1.1.zA.A z1.1.zA.l.length z1.1.zA.c,iV z1.1.zO] 25,slP 4 vF (.slice z1.2.A z1.2.l.length z1.2.c) z1.2.l,allP zj.Ok z1.2.l,okP zq.Ok z1.1,.pub (PlayOk z1),slP 7 vS (.slice lA l.length lc) l,allP zn.Ok l,.pub zN]) (fun (q:Nat)=>q≤ats.length) (fun (q:Nat)=>ats.length - q) 0 (sc rfl (sc rfl (sc rfl (sc rfl (sc (ji qO) sn))))) (fun _ h=>h) ?_ (fun q hI2=>?_)
 ·exact Nat.zero_le _
 refine (go 6) (zX (fun h6=>?_) fun h6=>?_)
 ·refine (go 7) ?_
  obtain ⟨ad3,s3,hd3,hs3⟩:=elx hA3 q
  refine (go 1) ?_
  obtain ⟨j9,hj9,x9,u9,hx9,hu9,he9,hc9,hn9⟩:=hk9.2 _ _ hs3
  have hx9l:=(List.getElem?_eq_some_iff.1 hx9).1
  have hu9l:=(List.getElem?_eq_some_iff.1 hu9).1
  refine zb (uB 5 encInt rfl rfl hd3 hs3 rfl flat3) ?_
  refine (go 8) ?_
  obtain ⟨ad4,hd4⟩:=hA6 (ne_nil (i:=q) qI)
  refine (go 5) ?_
  obtain ⟨ad5,hd5⟩:=hA1 (ne_nil (i:=j9) qI)
  refine yk (yx (i:=j9) rfl hd5 rfl qO qI underlying26 inf34) ?_
  refine (go 4) ?_
  refine q_litf (t:=80) rfl (fun g=>g he9) ?_
  refine (go 7) ?_
  refine vd (yx (i:=j9) rfl hd5 rfl qO qI underlying26 inf34) ?_
  refine (go 2) ?_
  have hw5:=hw4.2.all _ (List.mem_of_getElem? hu9)
  refine ub (fun _ h=>h.one 2 zj.Ok.loc rfl hu9) (fun _ h=>h.drop1) (ub (fun _ h=>h.ansX 0 rfl) (fun _ h=>h.drop1.drop1) ?_)
  obtain ⟨hc7,hm7,hA7⟩:=hw5.cells
  have hw6:=hw1.2.all _ (List.mem_of_getElem? hx9)
  refine ub (fun _ h=>h.one 13 zj.Ok.loc rfl hx9) (fun _ h=>h.drop1) (ub (fun _ h=>h.ansX 0 rfl) (fun _ h=>h.drop1.drop1) ?_)
  obtain ⟨hc8,hm8,hA8⟩:=hw6.cells
  refine yP (wg rfl rfl rfl) rfl call19 rfl (fun w1 hM=>c_sameCells _ u9.cells.l _ x9.cells.l (In w1) w1 (fun _ h=>h) (hM.slp 3 rfl) (hM.yR (i:=4) rfl) (hM.slp 0 rfl) (hM.yR (i:=1) rfl)) ?_
  refine (go 3) ?_
  refine q_litf (t:=94) rfl (fun g=>g hc9) ?_
  refine (go 2) ?_
  refine vd (yx (i:=j9) rfl hd5 rfl qO qI underlying26 inf34) ?_
  refine (go 11) ?_
  refine yc rfl (decide_eq_false qO) ?_
  refine (go 6) ?_
  refine zU (zh (q + 1) (sc rfl (sc rfl (sc rfl (sc rfl (sc (ji qO) sn))))) (S9 [6,7,8,9,10,11,12,13,14,15,16,17,18,19,20,21]) ?_ ?_)
  ·omega
  omega
 refine (go 11) (zY results4 fun w1 hM=>?_)
 exact zP rfl hM
end
section
open Go.ChangeShapes Go.WideShapes Go.ChangeAt Go.RowKit
namespace Ex
theorem Tryz.own_:ownKnob Tryz.prog.godebug=none:=by kernel_rfl
theorem Tryz.laid_:laidOutB Tryz.prog=true:=by kernel_rfl
section
variable {H:Type} {enc:TypeId × Value→H} {P:Program}
theorem trodAll_stays (hl:laidOutB P=true) {W W':World} {sp':Nat→Bool} (hsame:Fr no W W'):∀ {ts:List TypeId} {vs:List Value} {ds:List (DataW H)} {ps:List MemPlace},(∀ t ∈ ts,P.readableRec t=true∧t < P.types.size) →
    DataW.TrodAll enc P W 0 (fun _=>true) true ts vs ds ps→(∀ p ∈ ps,p.block < W.heap.size)→(∀ p ∈ ps,sp' p.block=true)→DataW.TrodAll enc P W' 0 sp' true ts vs ds ps
  | [],[],[],_,_,h,_,_=>h
  | t :: ts, v :: vs, d :: ds, _, hr, ⟨p, q, h1, h2, e⟩, hlt, hs =>
    ⟨p,q,WideElems.Trod_stays hl (hr t (List.mem_cons_self ..)).1 (hr t (List.mem_cons_self ..)).2 h1 (fun x hx=>(Fr.below hsame).same (hlt x (by rw [e]; exact List.mem_append_left _ hx))) (fun x hx=>hs x (by rw [e]; exact List.mem_append_left _ hx)),
      trodAll_stays hl hsame (fun t ht=>hr t (List.mem_cons_of_mem _ ht)) h2 (fun x hx=>hlt x (by rw [e]; exact List.mem_append_right _ hx)) (fun x hx=>hs x (by rw [e]; exact List.mem_append_right _ hx)),e⟩
theorem post_true {f:Func} {s:ChangeSpec} {W W':World} {args:Array Value} {ds gs:List (DataW H)} {before:List MemPlace} {bt:TypeId} (hl:laidOutB P=true) (hr:∀ t ∈ f.params.toList,P.readableRec t=true∧t < P.types.size)
    (hres:f.resultTypes=#[bt]) (hb:P.underlying bt=some .bool) (hvars:s.vars=[]) (hW:DataW.Whole enc P f.params.toList s.vars false W args.toList ds gs before)
    (hs:∀ ds:List (DataW H),ds.length=f.params.size→(s.fn H ds).results=[.lit (.bool true)]∧(s.fn H ds).args=ds∧(s.fn H ds).vars=[]) (hf:Fr no W W') :
    s.post enc P f false true false false W args (.bool true) W':=by
  have hlt:=hW.lt
  have hW0:=hW
  obtain ⟨p,q,hA,hV,rfl,hfz,hnd⟩:=hW
  rw [hvars] at hV
  obtain ⟨rfl,rfl⟩:=trodVars_none hV
  have hlen:∀ {ts:List TypeId} {vs:List Value} {ds:List (DataW H)} {ps:List MemPlace},DataW.TrodAll enc P W 0 (fun _=>true) true ts vs ds ps→ds.length=ts.length:=by
    intro ts
    induction ts with
    | nil=>intro vs ds ps h; cases vs <;> cases ds <;> simp_all [DataW.TrodAll]
    | cons t ts ih =>
      intro vs ds ps h
      cases vs <;> cases ds <;> try (simp [DataW.TrodAll] at h; done)
      obtain ⟨_,_,_,h2,_⟩:=h
      simp [ih h2]
  obtain ⟨e1,e2,e3⟩:=hs ds (by rw [hlen hA]; simp)
  refine ⟨ds,[],_,[],p,[],hW0,?_,?_,?_,?_,fun h=>by cases h⟩
  · rw [List.append_nil,e1,hres]
    exact trodAll_mk1 (shut_bool hb true)
  · rw [List.append_nil,e2]
    exact trodAll_stays hl hf hr hA (fun x hx=>hlt x (by simpa using hx)) (fun x hx=>by simpa using hlt x (by simpa using hx))
  · rw [List.append_nil,e3,hvars]
    exact rfl
  · exact (Fr.below hf).frame _
end
def ok64 (n:Int):Prop:=-9223372036854775808≤n∧n≤9223372036854775807
theorem ok64_wf {n:Int} (h:(Lit.int .i64 n).wf=true):ok64 n:=by
  simpa [Lit.wf,IntKind.min,IntKind.max,IntKind.signed,IntKind.bits,ok64] using h
def RdF (P:Program) (t:TypeId) {α:Type} (e:α→List Value) (ok:α→Prop):Prop :=
  ∀ {H:Type} (enc:TypeId × Value→H) (w:World) (base:Nat) (sp:Nat→Bool) (held:Bool) (fuel:Nat) (cs:List Value) (x:DataW H × List MemPlace),
    DataW.trod enc P w base sp held fuel t cs=some x→∃ a,cs=e a∧ok a
theorem rd_int {P:Program} {t:TypeId} (h:P.underlying t=some (.int .i64)):RdF P t intE ok64:=fun _ _ _ _ _ _ _ _ hx=>by
  obtain ⟨n,e,_,hw⟩:=DataW.trod_int h hx
  exact ⟨n,e,ok64_wf hw⟩
def okStr (s:ByteArray):Prop:=s.size≤maxLen
theorem rd_str {P:Program} {t:TypeId} (h:P.underlying t=some .string):RdF P t strE okStr:=fun _ _ _ _ _ _ _ _ hx=>by
  obtain ⟨s,e,_,hw⟩:=DataW.trod_string h hx
  exact ⟨s,e,hw⟩
theorem st_fld {H:Type} {enc:TypeId × Value→H} {P:Program} {w:World} {base:Nat} {sp:Nat→Bool} {held:Bool} {fuel:Nat} {t:TypeId} {cs:List Value} {x:DataW H × List MemPlace} {fs:Array Field} (ht:P.underlying t=some (.struct fs))
    (h:DataW.trod enc P w base sp held fuel t cs=some x):cs.length=P.cellsOf t∧∃ n,∀ (j:Nat) (f:Field),fs[j]?=some f→∃ y,DataW.trod enc P w base sp held n f.type ((cs.drop f.offset).take (P.cellsOf f.type))=some y:=by
  obtain ⟨xs,n,_,_,hl,hlen,hg⟩:=DataW.trod_struct ht h
  refine ⟨hl,n,fun j f hj=>?_⟩
  have hjl:j < xs.length:=by rw [hlen]; exact (Array.getElem?_eq_some_iff.1 hj).1
  exact ⟨xs[j],(hg j f hj).trans (List.getElem?_eq_getElem hjl)⟩
end Ex
end
section
open Go.ChangeShapes Go.WideShapes Go.ChangeAt Go.RowKit
namespace Ex
set_option linter.unusedSimpArgs false
theorem list2 {l:List Value} (h:l.length=2):∃ c0 c1,l=[c0,c1]:=by
  match l,h with
  | [c0,c1],_=>exact ⟨_,_,rfl⟩
theorem list7 {l:List Value} (h:l.length=7):∃ c0 c1 c2 c3 c4 c5 c6,l=[c0,c1,c2,c3,c4,c5,c6]:=by
  match l,h with
  | [c0,c1,c2,c3,c4,c5,c6],_=>exact ⟨_,_,_,_,_,_,_,rfl⟩
def okSample (s:Sample):Prop:=ok64 s.time∧ok64 s.value
def okLabel (s:Label):Prop:=okStr s.key∧okStr s.val
theorem rdSample:RdF Tryz.prog 41 zT okSample:=fun {H} en w base sp held fuel cs x hx=>by
  obtain ⟨hl,n,hf⟩:=st_fld Tryz.underlying41 hx
  rw [show Tryz.prog.cellsOf 41=2 from by kernel_rfl] at hl
  obtain ⟨c0,c1,rfl⟩:=list2 hl
  obtain ⟨y0,hy0⟩:=hf 0 _ rfl
  replace hy0:DataW.trod en Tryz.prog w base sp held n 3 (List.take (Tryz.prog.cellsOf 3) (List.drop 0 _))=some y0:=hy0
  rw [show Tryz.prog.cellsOf 3=1 from by kernel_rfl] at hy0
  obtain ⟨a0,e0,o0⟩:=rd_int Tryz.underlying3 en w base sp held n _ _ hy0
  have e0':[c0]=intE a0:=e0
  simp only [strE,intE,List.cons.injEq,and_true] at e0'
  subst e0'
  obtain ⟨y1,hy1⟩:=hf 1 _ rfl
  replace hy1:DataW.trod en Tryz.prog w base sp held n 3 (List.take (Tryz.prog.cellsOf 3) (List.drop 1 _))=some y1:=hy1
  rw [show Tryz.prog.cellsOf 3=1 from by kernel_rfl] at hy1
  obtain ⟨a1,e1,o1⟩:=rd_int Tryz.underlying3 en w base sp held n _ _ hy1
  have e1':[c1]=intE a1:=e1
  simp only [strE,intE,List.cons.injEq,and_true] at e1'
  subst e1'
  exact ⟨⟨a0,a1⟩,rfl,⟨o0,o1⟩⟩
theorem rdLabel:RdF Tryz.prog 74 zQ okLabel:=fun {H} en w base sp held fuel cs x hx=>by
  obtain ⟨hl,n,hf⟩:=st_fld Tryz.underlying74 hx
  rw [show Tryz.prog.cellsOf 74=2 from by kernel_rfl] at hl
  obtain ⟨c0,c1,rfl⟩:=list2 hl
  obtain ⟨y0,hy0⟩:=hf 0 _ rfl
  replace hy0:DataW.trod en Tryz.prog w base sp held n 9 (List.take (Tryz.prog.cellsOf 9) (List.drop 0 _))=some y0:=hy0
  rw [show Tryz.prog.cellsOf 9=1 from by kernel_rfl] at hy0
  obtain ⟨a0,e0,o0⟩:=rd_str Tryz.underlying9 en w base sp held n _ _ hy0
  have e0':[c0]=strE a0:=e0
  simp only [strE,intE,List.cons.injEq,and_true] at e0'
  subst e0'
  obtain ⟨y1,hy1⟩:=hf 1 _ rfl
  replace hy1:DataW.trod en Tryz.prog w base sp held n 9 (List.take (Tryz.prog.cellsOf 9) (List.drop 1 _))=some y1:=hy1
  rw [show Tryz.prog.cellsOf 9=1 from by kernel_rfl] at hy1
  obtain ⟨a1,e1,o1⟩:=rd_str Tryz.underlying9 en w base sp held n _ _ hy1
  have e1':[c1]=strE a1:=e1
  simp only [strE,intE,List.cons.injEq,and_true] at e1'
  subst e1'
  exact ⟨⟨a0,a1⟩,rfl,⟨o0,o1⟩⟩
end Ex
end
section
open Go.ChangeShapes Go.WideShapes Go.ChangeAt Go.RowKit
namespace Ex
theorem rdx_slice {H:Type} {enc:TypeId × Value→H} {P:Program} {t et:TypeId} {α:Type} {e:α→List Value} {ok:α→Prop} {k fuel:Nat} {W:World} {sp:Nat→Bool} {held:Bool} (hr:∀ n,n < fuel→∀ cs x,DataW.trod enc P W 0 sp held n et cs=some x→∃ a,cs=e a∧ok a) (ht:P.underlying t=some (.slice et)) (hk:P.cellsOf et=k) (hk0:0 < k) (he:∀ a,(e a).length=k) {cs:List Value} {x:DataW H × List MemPlace}
    (hf:DataW.trod enc P W 0 sp held fuel t cs=some x):∃ s:SlX α,cs=[.slice s.A s.l.length s.c]∧zD (In W) k e (.slice s.A s.l.length s.c) s.l W∧∀ a ∈ s.l,ok a:=by
  rcases DataW.trod_slice ht hf with ⟨h0,_⟩ | ⟨a,n,cap,elems,rest,m,hfu,hcs,hx0,_,hl,hm,hlen,hel,hs1,hs2⟩
  · exact ⟨⟨none,0,[]⟩,h0,zD.zt _ _ _ _,by simp⟩
  · have hex:∀ i,i < n→∃ x:α,ok x∧∀ (j:Nat) (u:Value),(e x)[j]?=some u→W.cell? ((a.add (i * k)).add j)=some u:=by
      intro i hin
      have h1:=hel i hin
      rw [List.getElem?_eq_getElem qO,Option.bind_eq_some_iff] at h1
      obtain ⟨cs',hc,ht'⟩:=h1
      rw [hk] at hc
      obtain ⟨x,ex,ox⟩:=hr m qO _ _ ht'
      obtain ⟨_,hcl,hat⟩:=World.cells?_some hc
      refine ⟨x,ox,fun j u hu=>?_⟩
      rw [ex] at hat
      have hj:j < k:=by rw [← he x]; exact (List.getElem?_eq_some_iff.1 hu).1
      exact (hat j hj).trans hu
    obtain ⟨l,hlen',hl'⟩:∃ l:List α,l.length=n∧∀ i x,l[i]?=some x→ok x∧∀ (j:Nat) (u:Value),(e x)[j]?=some u→W.cell? ((a.add (i * k)).add j)=some u:=by
      clear hel hlen hl hcs hs1 hs2 hx0
      induction n with
      | zero=>exact ⟨[],rfl,by simp⟩
      | succ n ih =>
        obtain ⟨l,h1,h2⟩:=ih (fun i hin=>hex i qO)
        obtain ⟨x,hx⟩:=hex n qO
        refine ⟨l++[x],by simp [h1],fun i y hy=>?_⟩
        rw [List.getElem?_append] at hy
        split at hy
        · exact h2 i y hy
        · rename_i hge
          have hin:i=n:=by
            have:i - l.length < [x].length:=(List.getElem?_eq_some_iff.1 hy).1
            simp at this; omega
          subst hin
          simp [h1] at hy
          subst hy
          exact hx
    refine ⟨⟨some a,cap,l⟩,by rw [hcs,hlen'],⟨some a,cap,rfl,by show l.length≤cap; omega,hm,fun hne=>⟨a,rfl,?_,fun i x hx=>(hl' i x hx).2⟩⟩,fun y hy=>?_⟩
    · obtain ⟨y,hy⟩:=List.exists_mem_of_ne_nil l hne
      obtain ⟨i,hi',rfl⟩:=List.getElem_of_mem hy
      have h1:=(hl' i l[i] (List.getElem?_eq_getElem hi')).2 0 ((e l[i])[0]'(by rw [he]; exact hk0)) (List.getElem?_eq_getElem _)
      have:=block_lt_of_cell h1
      rwa [add_block,add_block] at this
    · obtain ⟨i,hi',rfl⟩:=List.getElem_of_mem hy
      exact (hl' i _ (List.getElem?_eq_getElem hi')).1
def LenX {H:Type} (d:DataW H) (n:Nat):Prop:=(d=.nil∧n=0)∨∃ es sp,d=.slice es sp∧es.length=n
def AllX {H:Type} {α:Type} (ok:α→DataW H→Prop) (d:DataW H) (l:List α):Prop:=∃ ds:List (DataW H),((d=.nil∧ds=[])∨∃ sp,d=.slice ds sp)∧ds.length=l.length∧∀ (i:Nat) (a:α) (e:DataW H),l[i]?=some a→ds[i]?=some e→ok a e
theorem AllX.len {H:Type} {α:Type} {ok:α→DataW H→Prop} {d:DataW H} {l:List α} (h:AllX ok d l):LenX d l.length:=by
  obtain ⟨ds,h1,h2,_⟩:=h
  rcases h1 with ⟨h1,rfl⟩ | ⟨sp,h1⟩
  · exact .inl ⟨h1,h2.symm⟩
  · exact .inr ⟨_,_,h1,h2⟩
theorem AllX.all {H:Type} {α:Type} {ok:α→DataW H→Prop} {d:DataW H} {l:List α} (h:AllX ok d l):∀ a ∈ l,∃ e,ok a e∧∃ ds sp,d=.slice ds sp∧e ∈ ds:=fun a ha=>by
  obtain ⟨ds,h1,h2,h3⟩:=h
  obtain ⟨i,hi⟩:=List.mem_iff_getElem?.1 ha
  have hlt:=(List.getElem?_eq_some_iff.1 hi).1
  have hd:ds[i]?=some (ds[i]'qO):=List.getElem?_eq_getElem _
  refine ⟨_,h3 i a _ hi hd,ds,?_⟩
  rcases h1 with ⟨_,rfl⟩ | ⟨sp,h1⟩
  · exfalso; have h2:0=l.length:=h2; omega
  · exact ⟨sp,h1,List.mem_of_getElem? hd⟩
theorem stx_fld {H:Type} {enc:TypeId × Value→H} {P:Program} {w:World} {base:Nat} {sp:Nat→Bool} {held:Bool} {fuel:Nat} {t:TypeId} {cs:List Value} {x:DataW H × List MemPlace} {fs:Array Field} (ht:P.underlying t=some (.struct fs))
    (h:DataW.trod enc P w base sp held fuel t cs=some x):cs.length=P.cellsOf t∧∃ n,fuel=n + 1∧∀ (j:Nat) (f:Field),fs[j]?=some f→∃ y,DataW.trod enc P w base sp held n f.type ((cs.drop f.offset).take (P.cellsOf f.type))=some y:=by
  obtain ⟨xs,n,hn,_,hl,hlen,hg⟩:=DataW.trod_struct ht h
  refine ⟨hl,n,hn,fun j f hj=>?_⟩
  have hjl:j < xs.length:=by rw [hlen]; exact (Array.getElem?_eq_some_iff.1 hj).1
  exact ⟨xs[j],(hg j f hj).trans (List.getElem?_eq_getElem hjl)⟩
def RdX (P:Program) (t:TypeId) {α:Type} (e:α→List Value) (ok:α→World→Prop):Prop :=
  ∀ {H:Type} (enc:TypeId × Value→H) (W:World) (sp:Nat→Bool) (held:Bool) (fuel:Nat) (cs:List Value) (x:DataW H × List MemPlace),DataW.trod enc P W 0 sp held fuel t cs=some x→∃ a,cs=e a∧ok a W
theorem RdF.x {P:Program} {t:TypeId} {α:Type} {e:α→List Value} {ok:α→Prop} (h:RdF P t e ok):RdX P t e (fun a _=>ok a):=fun enc W sp held fuel cs x hx=>h enc W 0 sp held fuel cs x hx
theorem open_xs {H:Type} {enc:TypeId × Value→H} {P:Program} {t et:TypeId} {α:Type} {e:α→List Value} {ok:α→World→Prop} {k:Nat} (hr:RdX P et e ok) (ht:P.underlying t=some (.slice et)) (hk:P.cellsOf et=k) (hk0:0 < k) (he:∀ a,(e a).length=k) {W:World} {sp:Nat→Bool} {held:Bool} {v:Value} {d:DataW H} {p:List MemPlace}
    (hv:∃ A n c,v=.slice A n c) (h:DataW.Trod enc P W 0 sp held t v d p):∃ l:List α,zD (In W) k e v l W∧∀ a ∈ l,ok a W:=by
  obtain ⟨fuel,hf⟩:=h
  obtain ⟨A,n,c,rfl⟩:=hv
  obtain ⟨s,h1,h2,h3⟩:=rdx_slice (ok:=fun a=>ok a W) (fun n _ cs x hx=>hr enc W sp held n cs x hx) ht hk hk0 he hf
  have h1:[Value.slice A n c]=[.slice s.A s.l.length s.c]:=h1
  injection h1 with h1
  exact ⟨s.l,by rw [h1]; exact h2,h3⟩
end Ex
end
section
open Go.ChangeShapes Go.WideShapes Go.ChangeAt Go.RowKit
namespace Ex
set_option linter.unusedVariables false
set_option linter.unusedSimpArgs false
theorem rdDoX:RdX Tryz.prog 43 vS (fun a W=>zn.Ok (In W) a W):=fun {H} en W sp held fuel=>by
  intro cs x hx
  obtain ⟨hl,n,hn,hf⟩:=stx_fld Tryz.underlying43 hx
  rw [show Tryz.prog.cellsOf 43=7 from by kernel_rfl] at hl
  obtain ⟨c0,c1,c2,c3,c4,c5,c6,rfl⟩:=list7 hl
  obtain ⟨y0,hy0⟩:=hf 0 _ rfl
  replace hy0:DataW.trod en Tryz.prog W 0 sp held n 3 (List.take (Tryz.prog.cellsOf 3) (List.drop 0 _))=some y0:=hy0
  rw [show Tryz.prog.cellsOf 3=1 from by kernel_rfl] at hy0
  obtain ⟨a0,e0,o0⟩:=rd_int Tryz.underlying3 en W 0 sp held n _ _ hy0
  have e0':[c0]=intE a0:=e0
  simp only [strE,intE,List.cons.injEq,and_true] at e0'
  subst e0'
  obtain ⟨y1,hy1⟩:=hf 1 _ rfl
  replace hy1:DataW.trod en Tryz.prog W 0 sp held n 3 (List.take (Tryz.prog.cellsOf 3) (List.drop 1 _))=some y1:=hy1
  rw [show Tryz.prog.cellsOf 3=1 from by kernel_rfl] at hy1
  obtain ⟨a1,e1,o1⟩:=rd_int Tryz.underlying3 en W 0 sp held n _ _ hy1
  have e1':[c1]=intE a1:=e1
  simp only [strE,intE,List.cons.injEq,and_true] at e1'
  subst e1'
  obtain ⟨y2,hy2⟩:=hf 2 _ rfl
  replace hy2:DataW.trod en Tryz.prog W 0 sp held n 3 (List.take (Tryz.prog.cellsOf 3) (List.drop 2 _))=some y2:=hy2
  rw [show Tryz.prog.cellsOf 3=1 from by kernel_rfl] at hy2
  obtain ⟨a2,e2,o2⟩:=rd_int Tryz.underlying3 en W 0 sp held n _ _ hy2
  have e2':[c2]=intE a2:=e2
  simp only [strE,intE,List.cons.injEq,and_true] at e2'
  subst e2'
  obtain ⟨y3,hy3⟩:=hf 3 _ rfl
  replace hy3:DataW.trod en Tryz.prog W 0 sp held n 39 (List.take (Tryz.prog.cellsOf 39) (List.drop 3 _))=some y3:=hy3
  rw [show Tryz.prog.cellsOf 39=1 from by kernel_rfl] at hy3
  replace hy3:DataW.trod en Tryz.prog W 0 sp held n 39 [c3]=some y3:=hy3
  obtain ⟨s3,e3,f3,o3⟩:=rdx_slice (e:=zQ) (ok:=okLabel) (k:=2) (fun m _ cs x hx=>RdF.x rdLabel en W sp held m cs x hx) Tryz.underlying39 (by kernel_rfl) qD (fun _=>rfl) hy3
  injection e3 with e3
  subst e3
  obtain ⟨y4,hy4⟩:=hf 4 _ rfl
  replace hy4:DataW.trod en Tryz.prog W 0 sp held n 41 (List.take (Tryz.prog.cellsOf 41) (List.drop 4 _))=some y4:=hy4
  rw [show Tryz.prog.cellsOf 41=2 from by kernel_rfl] at hy4
  obtain ⟨a4,e4,o4⟩:=rdSample en W 0 sp held n _ _ hy4
  have e4':[c4,c5]=zT a4:=e4
  simp only [zT,List.cons.injEq,and_true] at e4'
  obtain ⟨rfl,rfl⟩:=e4'
  obtain ⟨y5,hy5⟩:=hf 5 _ rfl
  replace hy5:DataW.trod en Tryz.prog W 0 sp held n 9 (List.take (Tryz.prog.cellsOf 9) (List.drop 6 _))=some y5:=hy5
  rw [show Tryz.prog.cellsOf 9=1 from by kernel_rfl] at hy5
  obtain ⟨a5,e5,o5⟩:=rd_str Tryz.underlying9 en W 0 sp held n _ _ hy5
  have e5':[c6]=strE a5:=e5
  simp only [strE,intE,List.cons.injEq,and_true] at e5'
  subst e5'
  exact ⟨⟨a0,a1,a2,s3,a4,a5⟩,rfl,⟨f3⟩⟩
end Ex
end
end Go.Proofs.YtgojhpocpajmlaaGreatDoor
