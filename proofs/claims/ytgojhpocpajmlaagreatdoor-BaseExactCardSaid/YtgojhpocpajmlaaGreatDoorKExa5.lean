/- Laws and walks for the proof of BaseExact, packed by program; each theorem bears its own conditions. -/
import Derived.Defers
import Derived.Recover
import Derived.Test.YtgojhpocpajmlaaGreatDoorRows
import Derived.Carry
import Derived.Deep.Slices
import Derived.Test.YtgojhpocpajmlaaGreatDoorKExa4
namespace Go.Proofs.YtgojhpocpajmlaaGreatDoor
section
open _root_.Go.Proofs.Tryz
open Ex
attribute [local irreducible] WC WL WQ WE WS
set_option linter.unusedVariables false
set_option linter.unusedSimpArgs false
set_option maxHeartbeats 1000000 in
theorem c_window (p:Nat) (s:ByteArray) (i:Nat) (n:Int) (word:ByteArray) (Pb:Nat→Prop) (w:World) (hG:Mem w ⟨fpOf [Rb 114 p s i n,.pub zP],Pb⟩ [Rb 114 p s i n,.pub zP] w) (hi:i≤s.size) (hs:s.size≤2000) (hn:0≤n∧n≤100) (hwd:word.size≤12) :
    Calls prog 183 #[.pointer (some ⟨p,0,none⟩),.string word] w (RetX w [Rb 114 p s i n,.pub zP] Pb 111 (fun z:zB × Pz.St=>.agg (zx z.1).toArray) (fun z=>Pz.window s word ⟨i,n⟩=.ok (z.1.e,z.2)∧Pz.Good s ⟨i,n⟩ z.2) (fun z=>[Rb 114 p s z.2.at_ z.2.nd,.pub zP,okP zB.Ok z.1]) (fun f=>Pz.window s word ⟨i,n⟩=.no f)):=by
 refine zt (N:=46) func183 hG ?_
 refine (go 2) (zw fun b4=>?_)
 refine (go 5) ?_
 refine za (α:=Pz.St) (PT:=111) [Rb 114 p s i n,.pub zP] [.blk b4 Zx 59] (fun z:Pz.St=>.tuple #[]) (fun z1=>Pz.must s ⟨#[40]⟩ ⟨i,n⟩=.ok z1∧Pz.Good s ⟨i,n⟩ z1) (fun z1=>[Rb 114 p s z1.at_ z1.nd,.pub zP]) _ (fun f1=>Pz.must s ⟨#[40]⟩ ⟨i,n⟩=.no f1) (fun _=>rfl) (S9 [1,2,0]) (fun _=>rfl) wn rfl rfl call179 rfl (fun w1 Pb hG=>y6 p s i n ⟨#[40]⟩ Pb w1 hG qO qO qO ) ?_ fun z1 hz1=>?_
 ·intro f1 hf1
  refine zU (zW fun w1 hM=>?_)
  exact hM.zi f1 (by first | (simp only [Pz.then_ok,Pz.then_no,Pz.St.go,lgc,Pz.window,zB.e,zB.es,hf1]; done) | simp [Pz.then_ok,Pz.then_no,Pz.St.go,lgc,Pz.window,zB.e,zB.es,hf1])
 obtain ⟨j1,m1⟩:=z1
 have he1:Pz.must s ⟨#[40]⟩ ⟨i,n⟩=.ok ⟨j1,m1⟩:=hz1.1
 have ga1:j1≤s.size:=hz1.2.at_
 have gm1:n≤m1:=hz1.2.mono
 have gn1:m1≤100:=hz1.2.most (show n≤100 by omega)
 refine (go 5) ?_
 refine za (α:=Pz.St) (PT:=111) [Rb 114 p s j1 m1,.pub zP] [.blk b4 Zx 59] (fun z:Pz.St=>.tuple #[]) (fun z2=>Pz.must s ⟨#[123]⟩ ⟨j1,m1⟩=.ok z2∧Pz.Good s ⟨j1,m1⟩ z2) (fun z2=>[Rb 114 p s z2.at_ z2.nd,.pub zP]) _ (fun f2=>Pz.must s ⟨#[123]⟩ ⟨j1,m1⟩=.no f2) (fun _=>rfl) (S9 [0,1,2]) (fun _=>rfl) wn rfl rfl call179 rfl (fun w1 Pb hG=>y6 p s j1 m1 ⟨#[123]⟩ Pb w1 hG qO qO qO ) ?_ fun z2 hz2=>?_
 ·intro f2 hf2
  refine zU (zW fun w1 hM=>?_)
  exact hM.zi f2 (by first | (simp only [Pz.then_ok,Pz.then_no,Pz.St.go,lgc,Pz.window,zB.e,zB.es,he1,hf2]; done) | simp [Pz.then_ok,Pz.then_no,Pz.St.go,lgc,Pz.window,zB.e,zB.es,he1,hf2])
 obtain ⟨j2,m2⟩:=z2
 have he2:Pz.must s ⟨#[123]⟩ ⟨j1,m1⟩=.ok ⟨j2,m2⟩:=hz2.1
 have ga2:j2≤s.size:=hz2.2.at_
 have gm2:m1≤m2:=hz2.2.mono
 have gn2:m2≤100:=hz2.2.most (show m1≤100 by omega)
 refine (go 6) (zw fun b5=>?_)
 refine (go 5) ?_
 refine ut (fun _ h=>h.vO Match 179 3 zz) (uQ (fun (ms:List Match) (k:Nat) (m:Int) (q:Nat) (rv:Value)=>[(0,.pointer (some ⟨p,0,none⟩)),(4,.pointer (some ⟨b4,0,none⟩)),(5,.pointer (some ⟨b5,0,none⟩))]) (fun (ms:List Match) (k:Nat) (m:Int) (q:Nat) (rv:Value)=>[Row rv 179 3 zz ms,.blk b5 [iV 2,iV 0,iV 0,.string word,rv,Zs,Zs] 59,Rb 114 p s k m,.pub zP,.blk b4 Zx 59]) (fun (ms:List Match) (k:Nat) (m:Int) (q:Nat) (rv:Value)=>Pz.winL s 6 [] ⟨j2,m2⟩=Pz.winL s (q + 1) ms ⟨k,m⟩∧ms.length + q=5∧k≤s.size∧m2≤m∧m≤100) (fun (ms:List Match) (k:Nat) (m:Int) (q:Nat) (rv:Value)=>q) [] j2 m2 5 (Zs) (sc rfl (sc rfl (sc rfl sn))) (fun _ h=>h) ?_ (fun ms k m q rv hI1=>?_))
 ·exact ⟨rfl,rfl,by omega,by omega,by omega⟩
 refine yU 0 (l:=ms) rfl fun A1 cp1 hv1 hc1 hm1 hA1=>?_
 subst hv1
 refine (go 4) ?_
 refine yR (α:=(Bool × Nat)) [Rb 114 p s k m,.pub zP] [Row (.slice A1 ms.length cp1) 179 3 zz ms,.blk b5 [iV 2,iV 0,iV 0,.string word,.slice A1 ms.length cp1,Zs,Zs] 59,.blk b4 Zx 59] (fun z:Bool × Nat=>.bool z.1) (fun z3=>(Pz.eat s ⟨#[125]⟩ k=z3∧k≤z3.2∧z3.2≤s.size)) (fun z3=>[Rb 114 p s z3.2 m,.pub zP]) _ (fun _=>rfl) (S9 [2,3,0,1,4]) (fun _=>rfl) wn rfl rfl call98 rfl (fun w1 Pb hG=>vy p s k m ⟨#[125]⟩ Pb w1 hG qO qO) fun z3 hz3=>?_
 obtain ⟨bo1,j3⟩:=z3
 have he3:Pz.eat s ⟨#[125]⟩ k=(bo1,j3):=hz3.1
 have hz3a:k≤j3:=hz3.2.1
 have hz3b:j3≤s.size:=hz3.2.2
 refine vE (.bool bo1) (zc (yI rfl) ?_)
 refine (go 2) (yf (fun h1=>?_) fun h1=>?_)
 ·have g1:bo1=false:=by simpa using h1
  have hx1:=Pz.win_more hI1.1 (by rw [he3,g1])
  refine (go 12) (zX (fun h2=>?_) fun h2=>?_)
  ·refine (go 2) ?_
   refine za (α:=Pz.St) (PT:=111) [Rb 114 p s j3 m,.pub zP] [Row (.slice A1 ms.length cp1) 179 3 zz ms,.blk b5 [iV 2,iV 0,iV 0,.string word,.slice A1 ms.length cp1,Zs,Zs] 59,.blk b4 Zx 59] (fun z:Pz.St=>.tuple #[]) (fun z4=>Pz.must s ⟨#[44]⟩ ⟨j3,m⟩=.ok z4∧Pz.Good s ⟨j3,m⟩ z4) (fun z4=>[Rb 114 p s z4.at_ z4.nd,.pub zP]) _ (fun f3=>Pz.must s ⟨#[44]⟩ ⟨j3,m⟩=.no f3) (fun _=>rfl) (S9 [0,1,2,3,4]) (fun _=>rfl) wn rfl rfl call179 rfl (fun w1 Pb hG=>y6 p s j3 m ⟨#[44]⟩ Pb w1 hG qO qO qO ) ?_ fun z4 hz4=>?_
   ·intro f3 hf3
    refine zU (yD (yW (yD (zU (zW fun w1 hM=>?_)))))
    have hY:=hx1.trans (by rw [Pz.win_sep' h2 hf3,Pz.then_no])
    exact hM.zi f3 (by simp only [Pz.then_ok,Pz.then_no,Pz.St.go,lgc,Pz.window,zB.e,zB.es,he1,he2,he3,g1,hY])
   obtain ⟨j4,m3⟩:=z4
   have he4:Pz.must s ⟨#[44]⟩ ⟨j3,m⟩=.ok ⟨j4,m3⟩:=hz4.1
   have ga3:j4≤s.size:=hz4.2.at_
   have gm3:m≤m3:=hz4.2.mono
   have gn3:m3≤100:=hz4.2.most (show m≤100 by omega)
   refine (go 11) (zX (fun h3=>?_) fun h3=>?_)
   ·refine (go 2) ?_
    refine za (α:=Unit) (PT:=111) [Rb 114 p s j4 m3,.pub zP] [Row (.slice A1 ms.length cp1) 179 3 zz ms,.blk b5 [iV 2,iV 0,iV 0,.string word,.slice A1 ms.length cp1,Zs,Zs] 59,.blk b4 Zx 59] (fun _:Unit=>.tuple #[]) (fun z5=>False) (fun z5=>[Rb 114 p s j4 m3,.pub zP]) _ (fun f4=>f4=(5,(j4:Int))) (fun _=>rfl) (S9 [0,1,2,3,4]) (fun _=>rfl) wn rfl rfl call54 rfl (fun w1 Pb hG=>yl p s j4 m3 5 Pb w1 hG) ?_ fun z5 hz5=>?_
    ·intro f4 hf4
     refine zU (yD (yW (yD (zU (zW fun w1 hM=>?_)))))
     have hY:=Pz.win_many hx1 (Pz.win_sep' h2 he4) h3
     exact hM.zi f4 (by simp only [Pz.then_ok,Pz.then_no,Pz.St.go,lgc,Pz.window,zB.e,zB.es,he1,he2,he3,g1,he4,hY,hf4])
    exact hz5.elim
   refine (go 2) ?_
   refine yL (Mem w ⟨fpOf [Rb 114 p s i n,.pub zP],Pb⟩ [.pub zP,.blk b4 Zx 59]) mix (fun _ h=>h.drew) rfl (yJ 6 [0,2] [1,4] rfl fun KS hKS=>?_)
   refine (go 2) ?_
   refine zk hKS (yT (f:=5) (i:=1) (j:=3) rfl (by kernel_rfl) ?_ ?_)
   ·refine ze (i:=1) rfl fun KN hKN hPN=>?_
    refine (go 2) ?_
    refine hKN _ _ (S9 [1,4]) (zg 4 3 (ze (i:=3) rfl fun KN hKN hPN=>za (α:=Match × Pz.St) (PT:=111) [Rb 114 p s j4 m3,.pub zP] [Row (.slice A1 ms.length cp1) 179 3 zz ms,.blk b5 [iV 2,iV 0,iV 0,.string word,.slice A1 ms.length cp1,Zs,Zs] 59,.blk b4 Zx 59] (fun z:Match × Pz.St=>.agg (zz z.1).toArray) (fun z6=>Pz.match_ s ⟨j4,m3⟩=.ok z6∧Pz.Good s ⟨j4,m3⟩ z6.2) (fun z6=>[Rb 114 p s z6.2.at_ z6.2.nd,.pub zP]) _ (fun f5=>Pz.match_ s ⟨j4,m3⟩=.no f5) (fun _=>rfl) (S9 [0,1,2,3,4]) (fun _=>rfl) wn rfl rfl call213 rfl (fun w1 Pb hG=>uV p s j4 m3  Pb w1 hG qO qO qO ) ?_ fun z6 hz6=>?_))
    ·intro f5 hf5
     refine yr hPN (yD (yW (yD (zU (zW fun w1 hM=>?_)))))
     have hY:=Pz.win_next hx1 (Pz.win_sep' h2 he4) h3 hf5
     rw [Pz.then_no] at hY
     exact hM.zi f5 (by simp only [Pz.then_ok,Pz.then_no,Pz.St.go,lgc,Pz.window,zB.e,zB.es,he1,he2,he3,g1,he4,hY])
    obtain ⟨mt1,j5,m4⟩:=z6
    have he5:Pz.match_ s ⟨j4,m3⟩=.ok (mt1,⟨j5,m4⟩):=hz6.1
    have ga4:j5≤s.size:=hz6.2.at_
    have gm4:m3≤m4:=hz6.2.mono
    have gn4:m4≤100:=hz6.2.most (show m3≤100 by omega)
    refine (go 1) ?_
    refine hKN _ _ (S9 [1,4]) (zg 3 4 (ze (i:=4) rfl fun KN hKN hPN=>zu zz ([mt1]:List Match) wn underlying55 inf179 rfl rfl rfl rfl qD qD rfl fun b31=>?_))
    refine (go 1) ?_
    refine hKN _ _ (S9 [2,5]) (zg 2 5 (ze (i:=5) rfl fun KN hKN hPN=>yE 3 ms ([mt1]:List Match) encMatch wn rfl rfl rfl (fun _ hM=>(RowSl encMatch hM 0 rfl)) underlying55 inf179 rfl rfl (by simp only [qL]; omega) rfl fun A2 cp2 hc2 hm2 hA2=>?_))
    refine (go 1) ?_
    refine hKN _ _ (S9 [2,5]) (yJ 1 [6] [2,5] rfl fun KS hKS=>?_)
    refine (go 1) ?_
    refine zk hKS (zg 0 7 (ze (i:=7) rfl fun KN hKN hPN=>?_))
    refine (go 2) ?_
    refine hKN _ _ (S9 [2,5]) (zr (by kernel_rfl) (yM (yY (ms++([mt1]:List Match)) j5 m4 (q - 1) (.slice A2 ((ms++([mt1]:List Match)).length) cp2) (sc rfl (sc rfl (sc rfl sn))) (S9 [3,4,1,2,5]) ?_ ?_)))
    ·have hY:=Pz.win_next hx1 (Pz.win_sep' h2 he4) h3 he5
     rw [Pz.then_ok] at hY
     exact ⟨hY.trans (by rw [show q - 1 + 1=q by omega]),by simp only [qL]; omega,by omega,by omega,by omega⟩
    omega
   refine ze (i:=3) rfl fun KN hKN hPN=>za (α:=Match × Pz.St) (PT:=111) [Rb 114 p s j4 m3,.pub zP] [Row (.slice A1 ms.length cp1) 179 3 zz ms,.blk b5 [iV 2,iV 0,iV 0,.string word,.slice A1 ms.length cp1,Zs,Zs] 59,.blk b4 Zx 59] (fun z:Match × Pz.St=>.agg (zz z.1).toArray) (fun z7=>Pz.match_ s ⟨j4,m3⟩=.ok z7∧Pz.Good s ⟨j4,m3⟩ z7.2) (fun z7=>[Rb 114 p s z7.2.at_ z7.2.nd,.pub zP]) _ (fun f6=>Pz.match_ s ⟨j4,m3⟩=.no f6) (fun _=>rfl) (S9 [0,1,2,3,4]) (fun _=>rfl) wn rfl rfl call213 rfl (fun w1 Pb hG=>uV p s j4 m3  Pb w1 hG qO qO qO ) ?_ fun z7 hz7=>?_
   ·intro f6 hf6
    refine yr hPN (yD (yW (yD (zU (zW fun w1 hM=>?_)))))
    have hY:=Pz.win_next hx1 (Pz.win_sep' h2 he4) h3 hf6
    rw [Pz.then_no] at hY
    exact hM.zi f6 (by simp only [Pz.then_ok,Pz.then_no,Pz.St.go,lgc,Pz.window,zB.e,zB.es,he1,he2,he3,g1,he4,hY])
   obtain ⟨mt2,j6,m5⟩:=z7
   have he6:Pz.match_ s ⟨j4,m3⟩=.ok (mt2,⟨j6,m5⟩):=hz7.1
   have ga5:j6≤s.size:=hz7.2.at_
   have gm5:m3≤m5:=hz7.2.mono
   have gn5:m5≤100:=hz7.2.most (show m3≤100 by omega)
   refine (go 1) ?_
   refine hKN _ _ (S9 [1,4]) (yT (f:=4) (i:=1) (j:=4) rfl (by kernel_rfl) ?_ ?_)
   ·refine ze (i:=1) rfl fun KN hKN hPN=>?_
    refine (go 2) ?_
    refine hKN _ _ (S9 [1,4]) (zg 3 4 (ze (i:=4) rfl fun KN hKN hPN=>zu zz ([mt2]:List Match) wn underlying55 inf179 rfl rfl rfl rfl qD qD rfl fun b31=>?_))
    refine (go 1) ?_
    refine hKN _ _ (S9 [2,5]) (zg 2 5 (ze (i:=5) rfl fun KN hKN hPN=>yE 3 ms ([mt2]:List Match) encMatch wn rfl rfl rfl (fun _ hM=>(RowSl encMatch hM 0 rfl)) underlying55 inf179 rfl rfl (by simp only [qL]; omega) rfl fun A3 cp3 hc3 hm3 hA3=>?_))
    refine (go 1) ?_
    refine hKN _ _ (S9 [2,5]) (yJ 1 [6] [2,5] rfl fun KS hKS=>?_)
    refine (go 1) ?_
    refine zk hKS (zg 0 7 (ze (i:=7) rfl fun KN hKN hPN=>?_))
    refine (go 2) ?_
    refine hKN _ _ (S9 [2,5]) (zr (by kernel_rfl) (yM (yY (ms++([mt2]:List Match)) j6 m5 (q - 1) (.slice A3 ((ms++([mt2]:List Match)).length) cp3) (sc rfl (sc rfl (sc rfl sn))) (S9 [3,4,1,2,5]) ?_ ?_)))
    ·have hY:=Pz.win_next hx1 (Pz.win_sep' h2 he4) h3 he6
     rw [Pz.then_ok] at hY
     exact ⟨hY.trans (by rw [show q - 1 + 1=q by omega]),by simp only [qL]; omega,by omega,by omega,by omega⟩
    omega
   refine ze (i:=4) rfl fun KN hKN hPN=>zu zz ([mt2]:List Match) wn underlying55 inf179 rfl rfl rfl rfl qD qD rfl fun b31=>?_
   refine (go 1) ?_
   refine hKN _ _ (S9 [2,5]) (zg 3 1 (ze (i:=1) rfl fun KN hKN hPN=>?_))
   refine (go 2) ?_
   refine hKN _ _ (S9 [2,5]) (zg 2 5 (ze (i:=5) rfl fun KN hKN hPN=>yE 3 ms ([mt2]:List Match) encMatch wn rfl rfl rfl (fun _ hM=>(RowSl encMatch hM 0 rfl)) underlying55 inf179 rfl rfl (by simp only [qL]; omega) rfl fun A4 cp4 hc4 hm4 hA4=>?_))
   refine (go 1) ?_
   refine hKN _ _ (S9 [2,5]) (yJ 1 [6] [2,5] rfl fun KS hKS=>?_)
   refine (go 1) ?_
   refine zk hKS (zg 0 7 (ze (i:=7) rfl fun KN hKN hPN=>?_))
   refine (go 2) ?_
   refine hKN _ _ (S9 [2,5]) (zr (by kernel_rfl) (yM (yY (ms++([mt2]:List Match)) j6 m5 (q - 1) (.slice A4 ((ms++([mt2]:List Match)).length) cp4) (sc rfl (sc rfl (sc rfl sn))) (S9 [3,4,1,2,5]) ?_ ?_)))
   ·have hY:=Pz.win_next hx1 (Pz.win_sep' h2 he4) h3 he6
    rw [Pz.then_ok] at hY
    exact ⟨hY.trans (by rw [show q - 1 + 1=q by omega]),by simp only [qL]; omega,by omega,by omega,by omega⟩
   omega
  refine (go 11) (zX (fun h4=>?_) fun h4=>?_)
  ·refine (go 2) ?_
   refine za (α:=Unit) (PT:=111) [Rb 114 p s j3 m,.pub zP] [Row (.slice A1 ms.length cp1) 179 3 zz ms,.blk b5 [iV 2,iV 0,iV 0,.string word,.slice A1 ms.length cp1,Zs,Zs] 59,.blk b4 Zx 59] (fun _:Unit=>.tuple #[]) (fun z8=>False) (fun z8=>[Rb 114 p s j3 m,.pub zP]) _ (fun f7=>f7=(5,(j3:Int))) (fun _=>rfl) (S9 [0,1,2,3,4]) (fun _=>rfl) wn rfl rfl call54 rfl (fun w1 Pb hG=>yl p s j3 m 5 Pb w1 hG) ?_ fun z8 hz8=>?_
   ·intro f7 hf7
    refine zU (yD (yW (yD (zU (zW fun w1 hM=>?_)))))
    have hY:=Pz.win_many hx1 (Pz.win_sep h2) h4
    exact hM.zi f7 (by simp only [Pz.then_ok,Pz.then_no,Pz.St.go,lgc,Pz.window,zB.e,zB.es,he1,he2,he3,g1,hY,hf7])
   exact hz8.elim
  refine (go 2) ?_
  refine yL (Mem w ⟨fpOf [Rb 114 p s i n,.pub zP],Pb⟩ [.pub zP,.blk b4 Zx 59]) mix (fun _ h=>h.drew) rfl (yJ 6 [0,2] [1,4] rfl fun KS hKS=>?_)
  refine (go 2) ?_
  refine zk hKS (yT (f:=5) (i:=1) (j:=3) rfl (by kernel_rfl) ?_ ?_)
  ·refine ze (i:=1) rfl fun KN hKN hPN=>?_
   refine (go 2) ?_
   refine hKN _ _ (S9 [1,4]) (zg 4 3 (ze (i:=3) rfl fun KN hKN hPN=>za (α:=Match × Pz.St) (PT:=111) [Rb 114 p s j3 m,.pub zP] [Row (.slice A1 ms.length cp1) 179 3 zz ms,.blk b5 [iV 2,iV 0,iV 0,.string word,.slice A1 ms.length cp1,Zs,Zs] 59,.blk b4 Zx 59] (fun z:Match × Pz.St=>.agg (zz z.1).toArray) (fun z9=>Pz.match_ s ⟨j3,m⟩=.ok z9∧Pz.Good s ⟨j3,m⟩ z9.2) (fun z9=>[Rb 114 p s z9.2.at_ z9.2.nd,.pub zP]) _ (fun f8=>Pz.match_ s ⟨j3,m⟩=.no f8) (fun _=>rfl) (S9 [0,1,2,3,4]) (fun _=>rfl) wn rfl rfl call213 rfl (fun w1 Pb hG=>uV p s j3 m  Pb w1 hG qO qO qO ) ?_ fun z9 hz9=>?_))
   ·intro f8 hf8
    refine yr hPN (yD (yW (yD (zU (zW fun w1 hM=>?_)))))
    have hY:=Pz.win_next hx1 (Pz.win_sep h2) h4 hf8
    rw [Pz.then_no] at hY
    exact hM.zi f8 (by simp only [Pz.then_ok,Pz.then_no,Pz.St.go,lgc,Pz.window,zB.e,zB.es,he1,he2,he3,g1,hY])
   obtain ⟨mt3,j7,m6⟩:=z9
   have he7:Pz.match_ s ⟨j3,m⟩=.ok (mt3,⟨j7,m6⟩):=hz9.1
   have ga6:j7≤s.size:=hz9.2.at_
   have gm6:m≤m6:=hz9.2.mono
   have gn6:m6≤100:=hz9.2.most (show m≤100 by omega)
   refine (go 1) ?_
   refine hKN _ _ (S9 [1,4]) (zg 3 4 (ze (i:=4) rfl fun KN hKN hPN=>zu zz ([mt3]:List Match) wn underlying55 inf179 rfl rfl rfl rfl qD qD rfl fun b31=>?_))
   refine (go 1) ?_
   refine hKN _ _ (S9 [2,5]) (zg 2 5 (ze (i:=5) rfl fun KN hKN hPN=>yE 3 ms ([mt3]:List Match) encMatch wn rfl rfl rfl (fun _ hM=>(RowSl encMatch hM 0 rfl)) underlying55 inf179 rfl rfl (by simp only [qL]; omega) rfl fun A5 cp5 hc5 hm5 hA5=>?_))
   refine (go 1) ?_
   refine hKN _ _ (S9 [2,5]) (yJ 1 [6] [2,5] rfl fun KS hKS=>?_)
   refine (go 1) ?_
   refine zk hKS (zg 0 7 (ze (i:=7) rfl fun KN hKN hPN=>?_))
   refine (go 2) ?_
   refine hKN _ _ (S9 [2,5]) (zr (by kernel_rfl) (yM (yY (ms++([mt3]:List Match)) j7 m6 (q - 1) (.slice A5 ((ms++([mt3]:List Match)).length) cp5) (sc rfl (sc rfl (sc rfl sn))) (S9 [3,4,1,2,5]) ?_ ?_)))
   ·have hY:=Pz.win_next hx1 (Pz.win_sep h2) h4 he7
    rw [Pz.then_ok] at hY
    exact ⟨hY.trans (by rw [show q - 1 + 1=q by omega]),by simp only [qL]; omega,by omega,by omega,by omega⟩
   omega
  refine ze (i:=3) rfl fun KN hKN hPN=>za (α:=Match × Pz.St) (PT:=111) [Rb 114 p s j3 m,.pub zP] [Row (.slice A1 ms.length cp1) 179 3 zz ms,.blk b5 [iV 2,iV 0,iV 0,.string word,.slice A1 ms.length cp1,Zs,Zs] 59,.blk b4 Zx 59] (fun z:Match × Pz.St=>.agg (zz z.1).toArray) (fun z10=>Pz.match_ s ⟨j3,m⟩=.ok z10∧Pz.Good s ⟨j3,m⟩ z10.2) (fun z10=>[Rb 114 p s z10.2.at_ z10.2.nd,.pub zP]) _ (fun f9=>Pz.match_ s ⟨j3,m⟩=.no f9) (fun _=>rfl) (S9 [0,1,2,3,4]) (fun _=>rfl) wn rfl rfl call213 rfl (fun w1 Pb hG=>uV p s j3 m  Pb w1 hG qO qO qO ) ?_ fun z10 hz10=>?_
  ·intro f9 hf9
   refine yr hPN (yD (yW (yD (zU (zW fun w1 hM=>?_)))))
   have hY:=Pz.win_next hx1 (Pz.win_sep h2) h4 hf9
   rw [Pz.then_no] at hY
   exact hM.zi f9 (by simp only [Pz.then_ok,Pz.then_no,Pz.St.go,lgc,Pz.window,zB.e,zB.es,he1,he2,he3,g1,hY])
  obtain ⟨mt4,j8,m7⟩:=z10
  have he8:Pz.match_ s ⟨j3,m⟩=.ok (mt4,⟨j8,m7⟩):=hz10.1
  have ga7:j8≤s.size:=hz10.2.at_
  have gm7:m≤m7:=hz10.2.mono
  have gn7:m7≤100:=hz10.2.most (show m≤100 by omega)
  refine (go 1) ?_
  refine hKN _ _ (S9 [1,4]) (yT (f:=4) (i:=1) (j:=4) rfl (by kernel_rfl) ?_ ?_)
  ·refine ze (i:=1) rfl fun KN hKN hPN=>?_
   refine (go 2) ?_
   refine hKN _ _ (S9 [1,4]) (zg 3 4 (ze (i:=4) rfl fun KN hKN hPN=>zu zz ([mt4]:List Match) wn underlying55 inf179 rfl rfl rfl rfl qD qD rfl fun b31=>?_))
   refine (go 1) ?_
   refine hKN _ _ (S9 [2,5]) (zg 2 5 (ze (i:=5) rfl fun KN hKN hPN=>yE 3 ms ([mt4]:List Match) encMatch wn rfl rfl rfl (fun _ hM=>(RowSl encMatch hM 0 rfl)) underlying55 inf179 rfl rfl (by simp only [qL]; omega) rfl fun A6 cp6 hc6 hm6 hA6=>?_))
   refine (go 1) ?_
   refine hKN _ _ (S9 [2,5]) (yJ 1 [6] [2,5] rfl fun KS hKS=>?_)
   refine (go 1) ?_
   refine zk hKS (zg 0 7 (ze (i:=7) rfl fun KN hKN hPN=>?_))
   refine (go 2) ?_
   refine hKN _ _ (S9 [2,5]) (zr (by kernel_rfl) (yM (yY (ms++([mt4]:List Match)) j8 m7 (q - 1) (.slice A6 ((ms++([mt4]:List Match)).length) cp6) (sc rfl (sc rfl (sc rfl sn))) (S9 [3,4,1,2,5]) ?_ ?_)))
   ·have hY:=Pz.win_next hx1 (Pz.win_sep h2) h4 he8
    rw [Pz.then_ok] at hY
    exact ⟨hY.trans (by rw [show q - 1 + 1=q by omega]),by simp only [qL]; omega,by omega,by omega,by omega⟩
   omega
  refine ze (i:=4) rfl fun KN hKN hPN=>zu zz ([mt4]:List Match) wn underlying55 inf179 rfl rfl rfl rfl qD qD rfl fun b31=>?_
  refine (go 1) ?_
  refine hKN _ _ (S9 [2,5]) (zg 3 1 (ze (i:=1) rfl fun KN hKN hPN=>?_))
  refine (go 2) ?_
  refine hKN _ _ (S9 [2,5]) (zg 2 5 (ze (i:=5) rfl fun KN hKN hPN=>yE 3 ms ([mt4]:List Match) encMatch wn rfl rfl rfl (fun _ hM=>(RowSl encMatch hM 0 rfl)) underlying55 inf179 rfl rfl (by simp only [qL]; omega) rfl fun A7 cp7 hc7 hm7 hA7=>?_))
  refine (go 1) ?_
  refine hKN _ _ (S9 [2,5]) (yJ 1 [6] [2,5] rfl fun KS hKS=>?_)
  refine (go 1) ?_
  refine zk hKS (zg 0 7 (ze (i:=7) rfl fun KN hKN hPN=>?_))
  refine (go 2) ?_
  refine hKN _ _ (S9 [2,5]) (zr (by kernel_rfl) (yM (yY (ms++([mt4]:List Match)) j8 m7 (q - 1) (.slice A7 ((ms++([mt4]:List Match)).length) cp7) (sc rfl (sc rfl (sc rfl sn))) (S9 [3,4,1,2,5]) ?_ ?_)))
  ·have hY:=Pz.win_next hx1 (Pz.win_sep h2) h4 he8
   rw [Pz.then_ok] at hY
   exact ⟨hY.trans (by rw [show q - 1 + 1=q by omega]),by simp only [qL]; omega,by omega,by omega,by omega⟩
  omega
 have g2:bo1=true:=by simpa using h1
 have hx2:=Pz.win_done hI1.1 (by rw [he3,g2])
 refine (go 8) ?_
 refine za (α:=Pz.St) (PT:=111) [Rb 114 p s j3 m,.pub zP] [Row (.slice A1 ms.length cp1) 179 3 zz ms,.blk b5 [iV 2,iV 0,iV 0,.string word,.slice A1 ms.length cp1,Zs,Zs] 59,.blk b4 Zx 59] (fun z:Pz.St=>.tuple #[]) (fun z11=>Pz.must s ⟨#[91]⟩ ⟨j3,m⟩=.ok z11∧Pz.Good s ⟨j3,m⟩ z11) (fun z11=>[Rb 114 p s z11.at_ z11.nd,.pub zP]) _ (fun f10=>Pz.must s ⟨#[91]⟩ ⟨j3,m⟩=.no f10) (fun _=>rfl) (S9 [0,1,2,3,4]) (fun _=>rfl) wn rfl rfl call179 rfl (fun w1 Pb hG=>y6 p s j3 m ⟨#[91]⟩ Pb w1 hG qO qO qO ) ?_ fun z11 hz11=>?_
 ·intro f10 hf10
  refine zU (zW fun w1 hM=>?_)
  exact hM.zi f10 (by first | (simp only [Pz.then_ok,Pz.then_no,Pz.St.go,lgc,Pz.window,zB.e,zB.es,he1,he2,he3,g2,hx2,h1,hf10]; done) | simp [Pz.then_ok,Pz.then_no,Pz.St.go,lgc,Pz.window,zB.e,zB.es,he1,he2,he3,g2,hx2,h1,hf10])
 obtain ⟨j9,m8⟩:=z11
 have he9:Pz.must s ⟨#[91]⟩ ⟨j3,m⟩=.ok ⟨j9,m8⟩:=hz11.1
 have ga8:j9≤s.size:=hz11.2.at_
 have gm8:m≤m8:=hz11.2.mono
 have gn8:m8≤100:=hz11.2.most (show m≤100 by omega)
 refine (go 5) ?_
 refine za (α:=Int × Pz.St) (PT:=111) [Rb 114 p s j9 m8,.pub zP] [Row (.slice A1 ms.length cp1) 179 3 zz ms,.blk b5 [iV 2,iV 0,iV 0,.string word,.slice A1 ms.length cp1,Zs,Zs] 59,.blk b4 Zx 59] (fun z:Int × Pz.St=>iV z.1) (fun z12=>Pz.num s 1 100000 ⟨j9,m8⟩=.ok z12∧Pz.Good s ⟨j9,m8⟩ z12.2) (fun z12=>[Rb 114 p s z12.2.at_ z12.2.nd,.pub zP]) _ (fun f11=>Pz.num s 1 100000 ⟨j9,m8⟩=.no f11) (fun _=>rfl) (S9 [0,1,2,3,4]) (fun _=>rfl) wn rfl rfl call182 rfl (fun w1 Pb hG=>c_num p s j9 m8 1 100000 Pb w1 hG qO qO qO qO) ?_ fun z12 hz12=>?_
 ·intro f11 hf11
  refine zU (zW fun w1 hM=>?_)
  exact hM.zi f11 (by first | (simp only [Pz.then_ok,Pz.then_no,Pz.St.go,lgc,Pz.window,zB.e,zB.es,he1,he2,he3,g2,hx2,he9,h1,hf11]; done) | simp [Pz.then_ok,Pz.then_no,Pz.St.go,lgc,Pz.window,zB.e,zB.es,he1,he2,he3,g2,hx2,he9,h1,hf11])
 obtain ⟨v1,j10,m9⟩:=z12
 have he10:Pz.num s 1 100000 ⟨j9,m8⟩=.ok (v1,⟨j10,m9⟩):=hz12.1
 have ga9:j10≤s.size:=hz12.2.at_
 have gm9:m8≤m9:=hz12.2.mono
 have gn9:m9≤100:=hz12.2.most (show m8≤100 by omega)
 refine (go 7) ?_
 refine za (α:=Pz.St) (PT:=111) [Rb 114 p s j10 m9,.pub zP] [Row (.slice A1 ms.length cp1) 179 3 zz ms,.blk b5 [iV 2,iV 0,iV v1,.string word,.slice A1 ms.length cp1,Zs,Zs] 59,.blk b4 Zx 59] (fun z:Pz.St=>.tuple #[]) (fun z13=>Pz.must s ⟨#[93]⟩ ⟨j10,m9⟩=.ok z13∧Pz.Good s ⟨j10,m9⟩ z13) (fun z13=>[Rb 114 p s z13.at_ z13.nd,.pub zP]) _ (fun f12=>Pz.must s ⟨#[93]⟩ ⟨j10,m9⟩=.no f12) (fun _=>rfl) (S9 [0,1,2,3,4]) (fun _=>rfl) wn rfl rfl call179 rfl (fun w1 Pb hG=>y6 p s j10 m9 ⟨#[93]⟩ Pb w1 hG qO qO qO ) ?_ fun z13 hz13=>?_
 ·intro f12 hf12
  refine zU (zW fun w1 hM=>?_)
  exact hM.zi f12 (by first | (simp only [Pz.then_ok,Pz.then_no,Pz.St.go,lgc,Pz.window,zB.e,zB.es,he1,he2,he3,g2,hx2,he9,he10,h1,hf12]; done) | simp [Pz.then_ok,Pz.then_no,Pz.St.go,lgc,Pz.window,zB.e,zB.es,he1,he2,he3,g2,hx2,he9,he10,h1,hf12])
 obtain ⟨j11,m10⟩:=z13
 have he11:Pz.must s ⟨#[93]⟩ ⟨j10,m9⟩=.ok ⟨j11,m10⟩:=hz13.1
 have ga10:j11≤s.size:=hz13.2.at_
 have gm10:m9≤m10:=hz13.2.mono
 have gn10:m10≤100:=hz13.2.most (show m9≤100 by omega)
 refine (go 5) ?_
 refine za (α:=Pz.St) (PT:=111) [Rb 114 p s j11 m10,.pub zP] [Row (.slice A1 ms.length cp1) 179 3 zz ms,.blk b5 [iV 2,iV 0,iV v1,.string word,.slice A1 ms.length cp1,Zs,Zs] 59,.blk b4 Zx 59] (fun z:Pz.St=>.tuple #[]) (fun z14=>Pz.must s ⟨#[41]⟩ ⟨j11,m10⟩=.ok z14∧Pz.Good s ⟨j11,m10⟩ z14) (fun z14=>[Rb 114 p s z14.at_ z14.nd,.pub zP]) _ (fun f13=>Pz.must s ⟨#[41]⟩ ⟨j11,m10⟩=.no f13) (fun _=>rfl) (S9 [0,1,2,3,4]) (fun _=>rfl) wn rfl rfl call179 rfl (fun w1 Pb hG=>y6 p s j11 m10 ⟨#[41]⟩ Pb w1 hG qO qO qO ) ?_ fun z14 hz14=>?_
 ·intro f13 hf13
  refine zU (zW fun w1 hM=>?_)
  exact hM.zi f13 (by first | (simp only [Pz.then_ok,Pz.then_no,Pz.St.go,lgc,Pz.window,zB.e,zB.es,he1,he2,he3,g2,hx2,he9,he10,he11,h1,hf13]; done) | simp [Pz.then_ok,Pz.then_no,Pz.St.go,lgc,Pz.window,zB.e,zB.es,he1,he2,he3,g2,hx2,he9,he10,he11,h1,hf13])
 obtain ⟨j12,m11⟩:=z14
 have he12:Pz.must s ⟨#[41]⟩ ⟨j11,m10⟩=.ok ⟨j12,m11⟩:=hz14.1
 have ga11:j12≤s.size:=hz14.2.at_
 have gm11:m10≤m11:=hz14.2.mono
 have gn11:m11≤100:=hz14.2.most (show m10≤100 by omega)
 refine (go 6) ?_
 refine vC 2 0 encMatch rfl rfl (fp2) (v8 (fun _ h=>h.exprG (k:=2) (n:=0) (r:=v1) (wd:=word) (ms:=⟨A1,cp1,ms⟩) (bs:=⟨none,0,[]⟩) (ks:=⟨none,0,[]⟩) (fun _ pp=>pp.sl 2 rfl) (fun _ _=>zD.zy _ _ _ _) (fun _ _=>zD.zy _ _ _ _) (fun _ _ x hx=>by cases hx) (by first | decide | omega) (fun x hx=>by have:=Pz.winL_size 6 (by show _≤s.size; omega) hx2 (fun _ h=>by cases h) x hx; omega) (fun x hx=>by cases hx)) (za (α:=Unit) (PT:=111) [Rb 114 p s j12 m11,.pub zP] [okP zB.Ok (zB.mk 2 0 v1 word ⟨A1,cp1,ms⟩ ⟨none,0,[]⟩ ⟨none,0,[]⟩),slP 3 zz (.slice A1 ms.length cp1) ms,.blk b5 [iV 2,iV 0,iV v1,.string word,.slice A1 ms.length cp1,Zs,Zs] 59,.blk b4 Zx 59] (fun _:Unit=>.agg (List.toArray [iV 2,iV 0,iV v1,.string word,.slice A1 ms.length cp1,Zs,Zs])) (fun z15=>m11 + 1≤100) (fun z15=>[Rb 114 p s j12 (m11 + 1),.pub zP]) _ (fun f14=>Pz.node ⟨j12,m11⟩=.no f14) (fun _=>rfl) (S9 [1,2,0,3,4,5]) (fun _=>rfl) wn rfl rfl call99 rfl (fun w1 Pb hG=>vt p s j12 m11 2 0 v1 word A1 ms.length cp1 none 0 0 none 0 0 Pb w1 hG qO qO qO) ?_ fun z15 hz15=>?_))
 ·intro f14 hf14
  refine zU (zW fun w1 hM=>?_)
  exact hM.zi f14 (by first | (simp only [Pz.then_ok,Pz.then_no,Pz.St.go,lgc,Pz.window,zB.e,zB.es,he1,he2,he3,g2,hx2,he9,he10,he11,he12,h1,hf14]; done) | simp [Pz.then_ok,Pz.then_no,Pz.St.go,lgc,Pz.window,zB.e,zB.es,he1,he2,he3,g2,hx2,he9,he10,he11,he12,h1,hf14])
 have he13:Pz.node ⟨j12,m11⟩=.ok ⟨j12,m11 + 1⟩:=Pz.node_yes hz15
 refine (go 4) (zZ results183 fun w1 hM=>?_)
 have h9:Pz.window s word ⟨i,n⟩=.ok ((zB.mk 2 0 v1 word ⟨A1,cp1,ms⟩ ⟨none,0,[]⟩ ⟨none,0,[]⟩).e,⟨j12,(m11 + 1)⟩):=by first | (simp only [Pz.then_ok,Pz.then_no,Pz.St.go,lgc,Pz.window,zB.e,zB.es,he1,he2,he3,g2,hx2,he9,he10,he11,he12,he13,h1]; done) | simp [Pz.then_ok,Pz.then_no,Pz.St.go,lgc,Pz.window,zB.e,zB.es,he1,he2,he3,g2,hx2,he9,he10,he11,he12,he13,h1]
 exact hM.vg (((zB.mk 2 0 v1 word ⟨A1,cp1,ms⟩ ⟨none,0,[]⟩ ⟨none,0,[]⟩),⟨j12,(m11 + 1)⟩):zB × Pz.St) rfl ⟨h9,(Pz.window_fine _ hi).ok_ h9⟩ (fun h=>h.sel [0,1,2] qD rfl)
def FacC (N:Nat):Prop:=∀ (p:Nat) (s:ByteArray) (i:Nat) (n d:Int) (Pb:Nat→Prop) (w:World) (hG:Mem w ⟨fpOf [Rb 114 p s i n,.pub zP],Pb⟩ [Rb 114 p s i n,.pub zP] w) (hi:i≤s.size) (hs:s.size≤2000) (hn:0≤n∧n≤100) (hd:d + (N:Int)=21) (hd1:1≤d),
    Calls prog 147 #[.pointer (some ⟨p,0,none⟩),iV d] w (RetX w [Rb 114 p s i n,.pub zP] Pb 111 (fun z:zB × Pz.St=>.agg (zx z.1).toArray) (fun z=>Pz.fac s N ⟨i,n⟩=.ok (z.1.e,z.2)∧Pz.Good s ⟨i,n⟩ z.2) (fun z=>[Rb 114 p s z.2.at_ z.2.nd,.pub zP,okP zB.Ok z.1]) (fun f=>Pz.fac s N ⟨i,n⟩=.no f))
def TrmC (N:Nat):Prop:=∀ (p:Nat) (s:ByteArray) (i:Nat) (n d:Int) (Pb:Nat→Prop) (w:World) (hG:Mem w ⟨fpOf [Rb 114 p s i n,.pub zP],Pb⟩ [Rb 114 p s i n,.pub zP] w) (hi:i≤s.size) (hs:s.size≤2000) (hn:0≤n∧n≤100) (hd:d + (N:Int)=21) (hd1:1≤d),
    Calls prog 97 #[.pointer (some ⟨p,0,none⟩),iV d] w (RetX w [Rb 114 p s i n,.pub zP] Pb 111 (fun z:zB × Pz.St=>.agg (zx z.1).toArray) (fun z=>Pz.trm s N ⟨i,n⟩=.ok (z.1.e,z.2)∧Pz.Good s ⟨i,n⟩ z.2) (fun z=>[Rb 114 p s z.2.at_ z.2.nd,.pub zP,okP zB.Ok z.1]) (fun f=>Pz.trm s N ⟨i,n⟩=.no f))
def XprC (N:Nat):Prop:=∀ (p:Nat) (s:ByteArray) (i:Nat) (n d:Int) (Pb:Nat→Prop) (w:World) (hG:Mem w ⟨fpOf [Rb 114 p s i n,.pub zP],Pb⟩ [Rb 114 p s i n,.pub zP] w) (hi:i≤s.size) (hs:s.size≤2000) (hn:0≤n∧n≤100) (hd:d + (N:Int)=21) (hd1:1≤d),
    Calls prog 52 #[.pointer (some ⟨p,0,none⟩),iV d] w (RetX w [Rb 114 p s i n,.pub zP] Pb 111 (fun z:zB × Pz.St=>.agg (zx z.1).toArray) (fun z=>Pz.xpr s N ⟨i,n⟩=.ok (z.1.e,z.2)∧Pz.Good s ⟨i,n⟩ z.2) (fun z=>[Rb 114 p s z.2.at_ z.2.nd,.pub zP,okP zB.Ok z.1]) (fun f=>Pz.xpr s N ⟨i,n⟩=.no f))
set_option maxHeartbeats 20000000 in
theorem c_all (p:Nat) (s:ByteArray) (i:Nat) (n:Int) (d:Int) (N:Nat) (Pb:Nat→Prop) (w:World) (hG:Mem w ⟨fpOf [Rb 114 p s i n,.pub zP],Pb⟩ [Rb 114 p s i n,.pub zP] w) (hi:i≤s.size) (hs:s.size≤2000) (hn:0≤n∧n≤100) (hd:d + 1 + (N:Int)=21) (hd1:1≤d) (ih:XprC N) :
    Calls prog 181 #[.pointer (some ⟨p,0,none⟩),iV d] w (RetX w [Rb 114 p s i n,.pub zP] Pb 111 (fun z:zB × Pz.St=>.agg (zx z.1).toArray) (fun z=>Pz.all s (Pz.xpr s N) ⟨i,n⟩=.ok (z.1.e,z.2)∧Pz.Good s ⟨i,n⟩ z.2) (fun z=>[Rb 114 p s z.2.at_ z.2.nd,.pub zP,okP zB.Ok z.1]) (fun f=>Pz.all s (Pz.xpr s N) ⟨i,n⟩=.no f)):=by
 refine zt (N:=85) func181 hG ?_
 refine (go 2) (zw fun b4=>?_)
 refine (go 5) ?_
 refine yR (α:=Nat) [Rb 114 p s i n,.pub zP] [.blk b4 Zx 59] (fun _=>.tuple #[]) (fun j1=>(Pz.blank s i=j1∧i≤j1∧j1≤s.size)) (fun j1=>[Rb 114 p s j1 n,.pub zP]) _ (fun _=>rfl) (S9 [1,2,0]) (fun _=>rfl) wn rfl rfl call53 rfl (fun w1 Pb hG=>vq p s i n Pb w1 hG qO qO) fun j1 hz1=>?_
 obtain ⟨hz1e,hz1a,hz1b⟩:=hz1
 refine (go 14) ?_
 refine za (α:=ByteArray × Pz.St) (PT:=111) [Rb 114 p s j1 n,.pub zP] [.blk b4 Zx 59] (fun z:ByteArray × Pz.St=>.string z.1) (fun z1=>Pz.name s ⟨j1,n⟩=.ok z1∧Pz.Good s ⟨j1,n⟩ z1.2) (fun z1=>[Rb 114 p s z1.2.at_ z1.2.nd,.pub zP]) _ (fun f1=>Pz.name s ⟨j1,n⟩=.no f1) (fun _=>rfl) (S9 [0,1,2]) (fun _=>rfl) wn rfl rfl call211 rfl (fun w1 Pb hG=>vJ p s j1 n  Pb w1 hG qO qO qO ) ?_ fun z1 hz2=>?_
 ·intro f1 hf1
  refine zU (zW fun w1 hM=>?_)
  exact hM.zi f1 (by first | (simp only [Pz.then_ok,Pz.then_no,Pz.St.go,lgc,Pz.all,Pz.bys,Pz.allTail,zB.e,zB.es,hz1e,hf1]; done) | simp [Pz.then_ok,Pz.then_no,Pz.St.go,lgc,Pz.all,Pz.bys,Pz.allTail,zB.e,zB.es,hz1e,hf1])
 obtain ⟨wd1,j2,m1⟩:=z1
 have he1:Pz.name s ⟨j1,n⟩=.ok (wd1,⟨j2,m1⟩):=hz2.1
 have ga1:j2≤s.size:=hz2.2.at_
 have gm1:n≤m1:=hz2.2.mono
 have gn1:m1≤100:=hz2.2.most (show n≤100 by omega)
 have wz1:wd1.size≤12:=Pz.name_size (t:=⟨j1,n⟩) (show j1≤_ by omega) he1
 refine vE (.string wd1) ?_
 refine (go 1) (zw fun b6=>?_)
 refine (go 5) ?_
 refine yL (Mem w ⟨fpOf [Rb 114 p s i n,.pub zP],Pb⟩ [.blk b6 [iV 3,iV 0,iV 0,.string wd1,Zs,Zs,Zs] 59,Rb 114 p s j2 m1,.pub zP,.blk b4 Zx 59]) mix (fun _ h=>h.drew) rfl (uA (f:=3) [1,2] rfl rfl (by kernel_rfl) (by kernel_rfl) (fun _ h=>h) fun KS hKS=>?_)
 refine (go 2) ?_
 refine zk hKS (zg 2 0 (ze (i:=0) rfl fun KN hKN hPN=>vR Lg.totals wn rfl call151 rfl (fun w1 hM=>c_Totals  w1) fun A1 cp1 hc1 hm1 hA1=>?_))
 refine (go 1) ?_
 refine hKN _ _ (S9 [1,2,3,4]) (zg 1 3 (ze (i:=3) rfl fun KN hKN hPN=>yK call150 wn rfl (fun w1 hM=>vY _ Lg.totals wd1 w1 (RowSl encString hM 0 rfl)) ?_))
 refine (go 1) ?_
 refine hKN _ _ (S9 [1,2,3,4]) (yJ 0 [4] [1,2,3,4] rfl fun KS hKS=>?_)
 refine (go 1) ?_
 refine zk hKS ?_
 refine zr (by kernel_rfl) ((go 1) (zX (fun h1=>?_) fun h1=>?_))
 ·refine (go 11) ?_
  refine za (α:=Unit) (PT:=111) [Rb 114 p s j1 m1,.pub zP] [Row (.slice A1 Lg.totals.length cp1) 9 1 strE Lg.totals,.blk b6 [iV 3,iV 0,iV 0,.string wd1,Zs,Zs,Zs] 59,.blk b4 Zx 59] (fun _:Unit=>.tuple #[]) (fun z2=>False) (fun z2=>[Rb 114 p s j1 m1,.pub zP]) _ (fun f2=>f2=(7,(j1:Int))) (fun _=>rfl) (S9 [2,3,0,1,4]) (fun _=>rfl) wn rfl rfl call54 rfl (fun w1 Pb hG=>yl p s j1 m1 7 Pb w1 hG) ?_ fun z2 hz3=>?_
  ·intro f2 hf2
   refine zU (zW fun w1 hM=>?_)
   exact hM.zi f2 (by first | (simp only [Pz.then_ok,Pz.then_no,Pz.St.go,lgc,Pz.all,Pz.bys,Pz.allTail,zB.e,zB.es,hz1e,he1,h1,hf2]; done) | simp [Pz.then_ok,Pz.then_no,Pz.St.go,lgc,Pz.all,Pz.bys,Pz.allTail,zB.e,zB.es,hz1e,he1,h1,hf2])
  exact hz3.elim
 refine (go 5) ?_
 refine yR (α:=Nat) [Rb 114 p s j2 m1,.pub zP] [Row (.slice A1 Lg.totals.length cp1) 9 1 strE Lg.totals,.blk b6 [iV 3,iV 0,iV 0,.string wd1,Zs,Zs,Zs] 59,.blk b4 Zx 59] (fun _=>.tuple #[]) (fun j3=>(Pz.blank s j2=j3∧j2≤j3∧j3≤s.size)) (fun j3=>[Rb 114 p s j3 m1,.pub zP]) _ (fun _=>rfl) (S9 [2,3,0,1,4]) (fun _=>rfl) wn rfl rfl call53 rfl (fun w1 Pb hG=>vq p s j2 m1 Pb w1 hG qO qO) fun j3 hz4=>?_
 obtain ⟨hz4e,hz4a,hz4b⟩:=hz4
 refine (go 15) ?_
 refine za (α:=ByteArray × Pz.St) (PT:=111) [Rb 114 p s j3 m1,.pub zP] [Row (.slice A1 Lg.totals.length cp1) 9 1 strE Lg.totals,.blk b6 [iV 3,iV 0,iV 0,.string wd1,Zs,Zs,Zs] 59,.blk b4 Zx 59] (fun z:ByteArray × Pz.St=>.string z.1) (fun z3=>Pz.word s ⟨j3,m1⟩=.ok z3∧Pz.Good s ⟨j3,m1⟩ z3.2) (fun z3=>[Rb 114 p s z3.2.at_ z3.2.nd,.pub zP]) _ (fun f3=>Pz.word s ⟨j3,m1⟩=.no f3) (fun _=>rfl) (S9 [0,1,2,3,4]) (fun _=>rfl) wn rfl rfl call180 rfl (fun w1 Pb hG=>jY p s j3 m1  Pb w1 hG qO qO qO ) ?_ fun z3 hz5=>?_
 ·intro f3 hf3
  refine zU (zU (zW fun w1 hM=>?_))
  exact hM.zi f3 (by first | (simp only [Pz.then_ok,Pz.then_no,Pz.St.go,lgc,Pz.all,Pz.bys,Pz.allTail,zB.e,zB.es,hz1e,he1,hz4e,h1,hf3]; done) | simp [Pz.then_ok,Pz.then_no,Pz.St.go,lgc,Pz.all,Pz.bys,Pz.allTail,zB.e,zB.es,hz1e,he1,hz4e,h1,hf3])
 obtain ⟨wd2,j4,m2⟩:=z3
 have he2:Pz.word s ⟨j3,m1⟩=.ok (wd2,⟨j4,m2⟩):=hz5.1
 have ga2:j4≤s.size:=hz5.2.at_
 have gm2:m1≤m2:=hz5.2.mono
 have gn2:m2≤100:=hz5.2.most (show m1≤100 by omega)
 have wz2:wd2.size≤12:=Pz.word_size (t:=⟨j3,m1⟩) (show j3≤_ by omega) he2
 refine vE (.string wd2) ?_
 refine (go 8) (yP 38 (fun h2=>?_) fun h2=>?_)
 ·have g1:(wd2=⟨#[]⟩)=False:=eq_false h2
  refine (go 5) (zX (fun h3=>?_) fun h3=>?_)
  ·have g2:(wd2=⟨#[98,121]⟩)=False:=eq_false h3
   refine (go 11) ?_
   refine za (α:=Unit) (PT:=111) [Rb 114 p s j3 m2,.pub zP] [Row (.slice A1 Lg.totals.length cp1) 9 1 strE Lg.totals,.blk b6 [iV 3,iV 0,iV 0,.string wd1,Zs,Zs,Zs] 59,.blk b4 Zx 59] (fun _:Unit=>.tuple #[]) (fun z4=>False) (fun z4=>[Rb 114 p s j3 m2,.pub zP]) _ (fun f4=>f4=(2,(j3:Int))) (fun _=>rfl) (S9 [0,1,2,3,4]) (fun _=>rfl) wn rfl rfl call54 rfl (fun w1 Pb hG=>yl p s j3 m2 2 Pb w1 hG) ?_ fun z4 hz6=>?_
   ·intro f4 hf4
    refine zU (zW fun w1 hM=>?_)
    exact hM.zi f4 (by first | (simp only [Pz.then_ok,Pz.then_no,Pz.St.go,lgc,Pz.all,Pz.bys,Pz.allTail,zB.e,zB.es,hz1e,he1,hz4e,he2,g1,g2,h1,hf4]; done) | simp [Pz.then_ok,Pz.then_no,Pz.St.go,lgc,Pz.all,Pz.bys,Pz.allTail,zB.e,zB.es,hz1e,he1,hz4e,he2,g1,g2,h1,hf4])
   exact hz6.elim
  have g3:(wd2=⟨#[98,121]⟩)=True:=eq_true (Classical.not_not.1 h3)
  refine (go 6) ?_
  refine vG rfl (decide_eq_true (Classical.not_not.1 h3)) ?_
  refine (go 1) ?_
  refine yL (Mem w ⟨fpOf [Rb 114 p s i n,.pub zP],Pb⟩ [.pub zP,Row (.slice A1 Lg.totals.length cp1) 9 1 strE Lg.totals,.blk b4 Zx 59]) mix (fun _ h=>h.drew) rfl (yJ 6 [0,2] [1,2,4] rfl fun KS hKS=>?_)
  refine (go 2) ?_
  refine zk hKS (yT (f:=5) (i:=1) (j:=3) rfl (by kernel_rfl) ?_ ?_)
  ·refine ze (i:=1) rfl fun KN hKN hPN=>?_
   refine (go 2) ?_
   refine hKN _ _ (S9 [1,2,4]) (zg 4 3 (ze (i:=3) rfl fun KN hKN hPN=>za (α:=ByteArray × Pz.St) (PT:=111) [Rb 114 p s j4 m2,.pub zP] [Row (.slice A1 Lg.totals.length cp1) 9 1 strE Lg.totals,.blk b6 [iV 3,iV 0,iV 0,.string wd1,Zs,Zs,Zs] 59,.blk b4 Zx 59] (fun z:ByteArray × Pz.St=>.string z.1) (fun z5=>Pz.name s ⟨j4,m2⟩=.ok z5∧Pz.Good s ⟨j4,m2⟩ z5.2) (fun z5=>[Rb 114 p s z5.2.at_ z5.2.nd,.pub zP]) _ (fun f5=>Pz.name s ⟨j4,m2⟩=.no f5) (fun _=>rfl) (S9 [0,1,2,3,4]) (fun _=>rfl) wn rfl rfl call211 rfl (fun w1 Pb hG=>vJ p s j4 m2  Pb w1 hG qO qO qO ) ?_ fun z5 hz7=>?_))
   ·intro f5 hf5
    refine yr hPN (zU (zU (zW fun w1 hM=>?_)))
    exact hM.zi f5 (by first | (simp only [Pz.then_ok,Pz.then_no,Pz.St.go,lgc,Pz.all,Pz.bys,Pz.allTail,zB.e,zB.es,hz1e,he1,hz4e,he2,g1,g3,h1,hf5]; done) | simp [Pz.then_ok,Pz.then_no,Pz.St.go,lgc,Pz.all,Pz.bys,Pz.allTail,zB.e,zB.es,hz1e,he1,hz4e,he2,g1,g3,h1,hf5])
   obtain ⟨wd3,j5,m3⟩:=z5
   have he3:Pz.name s ⟨j4,m2⟩=.ok (wd3,⟨j5,m3⟩):=hz7.1
   have ga3:j5≤s.size:=hz7.2.at_
   have gm3:m2≤m3:=hz7.2.mono
   have gn3:m3≤100:=hz7.2.most (show m2≤100 by omega)
   have wz3:wd3.size≤12:=Pz.name_size (t:=⟨j4,m2⟩) (show j4≤_ by omega) he3
   refine vE (.string wd3) ?_
   refine (go 1) ?_
   refine hKN _ _ (S9 [1,2,4]) (zg 3 4 (ze (i:=4) rfl fun KN hKN hPN=>zu strE ([wd3]:List ByteArray) wn underlying56 inf9 rfl rfl rfl rfl qD qD rfl fun b54=>?_))
   refine (go 1) ?_
   refine hKN _ _ (S9 [2,3,5]) (zg 2 5 (ze (i:=5) rfl fun KN hKN hPN=>yG (strE:ByteArray→List Value) 9 1 (yE 0 ([]:List ByteArray) ([wd3]:List ByteArray) encString wn rfl rfl rfl (fun _ hM=>(RowSl encString hM 1 rfl)) underlying56 inf9 rfl rfl (by simp only [qL]; omega) rfl fun A2 cp2 hc2 hm2 hA2=>?_)))
   refine (go 1) ?_
   refine hKN _ _ (S9 [3,4,6]) (yJ 1 [6] [3,4,6] rfl fun KS hKS=>?_)
   refine (go 1) ?_
   refine zk hKS (zg 0 7 (ze (i:=7) rfl fun KN hKN hPN=>?_))
   refine (go 2) ?_
   refine hKN _ _ (S9 [3,4,6]) ?_
   refine zr (by kernel_rfl) ((go 1) ?_)
   refine (go 1) ?_
   refine uQ (fun (l:List ByteArray) (k:Nat) (m:Int) (q:Nat) (rv:Value)=>[(0,.pointer (some ⟨p,0,none⟩)),(1,iV d),(4,.pointer (some ⟨b4,0,none⟩)),(6,.pointer (some ⟨b6,0,none⟩))]) (fun (l:List ByteArray) (k:Nat) (m:Int) (q:Nat) (rv:Value)=>[Row rv 9 1 strE l,Row (.slice (some ⟨b54,0,none⟩) 1 1) 9 1 strE ([wd3]:List ByteArray),Rb 114 p s k m,.pub zP,Row (.slice A1 Lg.totals.length cp1) 9 1 strE Lg.totals,.blk b6 [iV 3,iV 0,iV 0,.string wd1,Zs,rv,Zs] 59,.blk b4 Zx 59]) (fun (l:List ByteArray) (k:Nat) (m:Int) (q:Nat) (rv:Value)=>Pz.byL s 5 [wd3] ⟨j5,m3⟩=Pz.byL s (q + 1) l ⟨k,m⟩∧l.length + q=5∧l.length≤4∧k≤s.size∧m3≤m∧m≤100) (fun (l:List ByteArray) (k:Nat) (m:Int) (q:Nat) (rv:Value)=>q) (([]:List ByteArray)++([wd3]:List ByteArray)) j5 m3 4 (.slice A2 ((([]:List ByteArray)++([wd3]:List ByteArray)).length) cp2) (sc rfl (sc rfl (sc rfl (sc rfl sn)))) (fun _ h=>h) ?_ (fun l k m q rv hI1=>?_)
   ·exact ⟨rfl,rfl,by simp,by omega,by omega,by omega⟩
   refine yU 0 (l:=l) rfl fun A3 cp3 hv1 hc3 hm3 hA3=>?_
   subst hv1
   refine (go 4) ?_
   refine yR (α:=(Bool × Nat)) [Rb 114 p s k m,.pub zP] [Row (.slice A3 l.length cp3) 9 1 strE l,Row (.slice (some ⟨b54,0,none⟩) 1 1) 9 1 strE ([wd3]:List ByteArray),Row (.slice A1 Lg.totals.length cp1) 9 1 strE Lg.totals,.blk b6 [iV 3,iV 0,iV 0,.string wd1,Zs,.slice A3 l.length cp3,Zs] 59,.blk b4 Zx 59] (fun z:Bool × Nat=>.bool z.1) (fun z6=>(Pz.eat s ⟨#[44]⟩ k=z6∧k≤z6.2∧z6.2≤s.size)) (fun z6=>[Rb 114 p s z6.2 m,.pub zP]) _ (fun _=>rfl) (S9 [2,3,0,1,4,5,6]) (fun _=>rfl) wn rfl rfl call98 rfl (fun w1 Pb hG=>vy p s k m ⟨#[44]⟩ Pb w1 hG qO qO) fun z6 hz8=>?_
   obtain ⟨bo1,j6⟩:=z6
   have he4:Pz.eat s ⟨#[44]⟩ k=(bo1,j6):=hz8.1
   have hz8a:k≤j6:=hz8.2.1
   have hz8b:j6≤s.size:=hz8.2.2
   refine vE (.bool bo1) ?_
   refine (go 2) (yf (fun h4=>?_) fun h4=>?_)
   ·have hx1:=hI1.1
    refine (go 12) (zX (fun h5=>?_) fun h5=>?_)
    ·refine (go 2) ?_
     refine za (α:=Unit) (PT:=111) [Rb 114 p s j6 m,.pub zP] [Row (.slice A3 l.length cp3) 9 1 strE l,Row (.slice (some ⟨b54,0,none⟩) 1 1) 9 1 strE ([wd3]:List ByteArray),Row (.slice A1 Lg.totals.length cp1) 9 1 strE Lg.totals,.blk b6 [iV 3,iV 0,iV 0,.string wd1,Zs,.slice A3 l.length cp3,Zs] 59,.blk b4 Zx 59] (fun _:Unit=>.tuple #[]) (fun z7=>False) (fun z7=>[Rb 114 p s j6 m,.pub zP]) _ (fun f6=>f6=(5,(j6:Int))) (fun _=>rfl) (S9 [0,1,2,3,4,5,6]) (fun _=>rfl) wn rfl rfl call54 rfl (fun w1 Pb hG=>yl p s j6 m 5 Pb w1 hG) ?_ fun z7 hz9=>?_
     ·intro f6 hf6
      refine zU (yD (yW (yD (zU (zW fun w1 hM=>?_)))))
      have hY:=Pz.by_many hx1 (by rw [he4,h4]) h5
      exact hM.zi f6 (by simp only [Pz.then_ok,Pz.then_no,Pz.St.go,lgc,Pz.all,Pz.bys,Pz.allTail,zB.e,zB.es,hz1e,he1,hz4e,he2,g1,g3,he3,he4,h1,hY,hf6])
     exact hz9.elim
    refine (go 2) ?_
    refine yL (Mem w ⟨fpOf [Rb 114 p s i n,.pub zP],Pb⟩ [.pub zP,Row (.slice (some ⟨b54,0,none⟩) 1 1) 9 1 strE ([wd3]:List ByteArray),Row (.slice A1 Lg.totals.length cp1) 9 1 strE Lg.totals,.blk b4 Zx 59]) mix (fun _ h=>h.drew) rfl (yJ 6 [0,2] [1,3,4,6] rfl fun KS hKS=>?_)
    refine (go 2) ?_
    refine zk hKS (yT (f:=5) (i:=1) (j:=3) rfl (by kernel_rfl) ?_ ?_)
    ·refine ze (i:=1) rfl fun KN hKN hPN=>?_
     refine (go 2) ?_
     refine hKN _ _ (S9 [1,3,4,6]) (zg 4 3 (ze (i:=3) rfl fun KN hKN hPN=>za (α:=ByteArray × Pz.St) (PT:=111) [Rb 114 p s j6 m,.pub zP] [Row (.slice A3 l.length cp3) 9 1 strE l,Row (.slice (some ⟨b54,0,none⟩) 1 1) 9 1 strE ([wd3]:List ByteArray),Row (.slice A1 Lg.totals.length cp1) 9 1 strE Lg.totals,.blk b6 [iV 3,iV 0,iV 0,.string wd1,Zs,.slice A3 l.length cp3,Zs] 59,.blk b4 Zx 59] (fun z:ByteArray × Pz.St=>.string z.1) (fun z8=>Pz.name s ⟨j6,m⟩=.ok z8∧Pz.Good s ⟨j6,m⟩ z8.2) (fun z8=>[Rb 114 p s z8.2.at_ z8.2.nd,.pub zP]) _ (fun f7=>Pz.name s ⟨j6,m⟩=.no f7) (fun _=>rfl) (S9 [0,1,2,3,4,5,6]) (fun _=>rfl) wn rfl rfl call211 rfl (fun w1 Pb hG=>vJ p s j6 m  Pb w1 hG qO qO qO ) ?_ fun z8 hz10=>?_))
     ·intro f7 hf7
      refine yr hPN (yD (yW (yD (zU (zW fun w1 hM=>?_)))))
      have hY:=Pz.by_next hx1 (by rw [he4,h4]) h5 hf7
      rw [Pz.then_no] at hY
      exact hM.zi f7 (by simp only [Pz.then_ok,Pz.then_no,Pz.St.go,lgc,Pz.all,Pz.bys,Pz.allTail,zB.e,zB.es,hz1e,he1,hz4e,he2,g1,g3,he3,he4,h1,hY])
     obtain ⟨wd4,j7,m4⟩:=z8
     have he5:Pz.name s ⟨j6,m⟩=.ok (wd4,⟨j7,m4⟩):=hz10.1
     have ga4:j7≤s.size:=hz10.2.at_
     have gm4:m≤m4:=hz10.2.mono
     have gn4:m4≤100:=hz10.2.most (show m≤100 by omega)
     have wz4:wd4.size≤12:=Pz.name_size (t:=⟨j6,m⟩) (show j6≤_ by omega) he5
     refine vE (.string wd4) ?_
     refine (go 1) ?_
     refine hKN _ _ (S9 [1,3,4,6]) (zg 3 4 (ze (i:=4) rfl fun KN hKN hPN=>zu strE ([wd4]:List ByteArray) wn underlying56 inf9 rfl rfl rfl rfl qD qD rfl fun b69=>?_))
     refine (go 1) ?_
     refine hKN _ _ (S9 [2,4,5,7]) (zg 2 5 (ze (i:=5) rfl fun KN hKN hPN=>yE 3 l ([wd4]:List ByteArray) encString wn rfl rfl rfl (fun _ hM=>(RowSl encString hM 0 rfl)) underlying56 inf9 rfl rfl (by simp only [qL]; omega) rfl fun A4 cp4 hc4 hm4 hA4=>?_))
     refine (go 1) ?_
     refine hKN _ _ (S9 [2,4,5,7]) (yJ 1 [6] [2,4,5,7] rfl fun KS hKS=>?_)
     refine (go 1) ?_
     refine zk hKS (zg 0 7 (ze (i:=7) rfl fun KN hKN hPN=>?_))
     refine (go 2) ?_
     refine hKN _ _ (S9 [2,4,5,7]) (zr (by kernel_rfl) (yM (yY (l++([wd4]:List ByteArray)) j7 m4 (q - 1) (.slice A4 ((l++([wd4]:List ByteArray)).length) cp4) (sc rfl (sc rfl (sc rfl (sc rfl sn)))) (S9 [3,4,1,2,5,6,7]) ?_ ?_)))
     ·have hY:=Pz.by_next hx1 (by rw [he4,h4]) h5 he5
      rw [Pz.then_ok] at hY
      exact ⟨hY.trans (by rw [show q - 1 + 1=q by omega]),by simp only [qL]; omega,by simp only [qL]; omega,by omega,by omega,by omega⟩
     omega
    refine ze (i:=3) rfl fun KN hKN hPN=>za (α:=ByteArray × Pz.St) (PT:=111) [Rb 114 p s j6 m,.pub zP] [Row (.slice A3 l.length cp3) 9 1 strE l,Row (.slice (some ⟨b54,0,none⟩) 1 1) 9 1 strE ([wd3]:List ByteArray),Row (.slice A1 Lg.totals.length cp1) 9 1 strE Lg.totals,.blk b6 [iV 3,iV 0,iV 0,.string wd1,Zs,.slice A3 l.length cp3,Zs] 59,.blk b4 Zx 59] (fun z:ByteArray × Pz.St=>.string z.1) (fun z9=>Pz.name s ⟨j6,m⟩=.ok z9∧Pz.Good s ⟨j6,m⟩ z9.2) (fun z9=>[Rb 114 p s z9.2.at_ z9.2.nd,.pub zP]) _ (fun f8=>Pz.name s ⟨j6,m⟩=.no f8) (fun _=>rfl) (S9 [0,1,2,3,4,5,6]) (fun _=>rfl) wn rfl rfl call211 rfl (fun w1 Pb hG=>vJ p s j6 m  Pb w1 hG qO qO qO ) ?_ fun z9 hz11=>?_
    ·intro f8 hf8
     refine yr hPN (yD (yW (yD (zU (zW fun w1 hM=>?_)))))
     have hY:=Pz.by_next hx1 (by rw [he4,h4]) h5 hf8
     rw [Pz.then_no] at hY
     exact hM.zi f8 (by simp only [Pz.then_ok,Pz.then_no,Pz.St.go,lgc,Pz.all,Pz.bys,Pz.allTail,zB.e,zB.es,hz1e,he1,hz4e,he2,g1,g3,he3,he4,h1,hY])
    obtain ⟨wd5,j8,m5⟩:=z9
    have he6:Pz.name s ⟨j6,m⟩=.ok (wd5,⟨j8,m5⟩):=hz11.1
    have ga5:j8≤s.size:=hz11.2.at_
    have gm5:m≤m5:=hz11.2.mono
    have gn5:m5≤100:=hz11.2.most (show m≤100 by omega)
    have wz5:wd5.size≤12:=Pz.name_size (t:=⟨j6,m⟩) (show j6≤_ by omega) he6
    refine vE (.string wd5) ?_
    refine (go 1) ?_
    refine hKN _ _ (S9 [1,3,4,6]) (yT (f:=4) (i:=1) (j:=4) rfl (by kernel_rfl) ?_ ?_)
    ·refine ze (i:=1) rfl fun KN hKN hPN=>?_
     refine (go 2) ?_
     refine hKN _ _ (S9 [1,3,4,6]) (zg 3 4 (ze (i:=4) rfl fun KN hKN hPN=>zu strE ([wd5]:List ByteArray) wn underlying56 inf9 rfl rfl rfl rfl qD qD rfl fun b69=>?_))
     refine (go 1) ?_
     refine hKN _ _ (S9 [2,4,5,7]) (zg 2 5 (ze (i:=5) rfl fun KN hKN hPN=>yE 3 l ([wd5]:List ByteArray) encString wn rfl rfl rfl (fun _ hM=>(RowSl encString hM 0 rfl)) underlying56 inf9 rfl rfl (by simp only [qL]; omega) rfl fun A5 cp5 hc5 hm5 hA5=>?_))
     refine (go 1) ?_
     refine hKN _ _ (S9 [2,4,5,7]) (yJ 1 [6] [2,4,5,7] rfl fun KS hKS=>?_)
     refine (go 1) ?_
     refine zk hKS (zg 0 7 (ze (i:=7) rfl fun KN hKN hPN=>?_))
     refine (go 2) ?_
     refine hKN _ _ (S9 [2,4,5,7]) (zr (by kernel_rfl) (yM (yY (l++([wd5]:List ByteArray)) j8 m5 (q - 1) (.slice A5 ((l++([wd5]:List ByteArray)).length) cp5) (sc rfl (sc rfl (sc rfl (sc rfl sn)))) (S9 [3,4,1,2,5,6,7]) ?_ ?_)))
     ·have hY:=Pz.by_next hx1 (by rw [he4,h4]) h5 he6
      rw [Pz.then_ok] at hY
      exact ⟨hY.trans (by rw [show q - 1 + 1=q by omega]),by simp only [qL]; omega,by simp only [qL]; omega,by omega,by omega,by omega⟩
     omega
    refine ze (i:=4) rfl fun KN hKN hPN=>zu strE ([wd5]:List ByteArray) wn underlying56 inf9 rfl rfl rfl rfl qD qD rfl fun b69=>?_
    refine (go 1) ?_
    refine hKN _ _ (S9 [2,4,5,7]) (zg 3 1 (ze (i:=1) rfl fun KN hKN hPN=>?_))
    refine (go 2) ?_
    refine hKN _ _ (S9 [2,4,5,7]) (zg 2 5 (ze (i:=5) rfl fun KN hKN hPN=>yE 3 l ([wd5]:List ByteArray) encString wn rfl rfl rfl (fun _ hM=>(RowSl encString hM 0 rfl)) underlying56 inf9 rfl rfl (by simp only [qL]; omega) rfl fun A6 cp6 hc6 hm6 hA6=>?_))
    refine (go 1) ?_
    refine hKN _ _ (S9 [2,4,5,7]) (yJ 1 [6] [2,4,5,7] rfl fun KS hKS=>?_)
    refine (go 1) ?_
    refine zk hKS (zg 0 7 (ze (i:=7) rfl fun KN hKN hPN=>?_))
    refine (go 2) ?_
    refine hKN _ _ (S9 [2,4,5,7]) (zr (by kernel_rfl) (yM (yY (l++([wd5]:List ByteArray)) j8 m5 (q - 1) (.slice A6 ((l++([wd5]:List ByteArray)).length) cp6) (sc rfl (sc rfl (sc rfl (sc rfl sn)))) (S9 [3,4,1,2,5,6,7]) ?_ ?_)))
    ·have hY:=Pz.by_next hx1 (by rw [he4,h4]) h5 he6
     rw [Pz.then_ok] at hY
     exact ⟨hY.trans (by rw [show q - 1 + 1=q by omega]),by simp only [qL]; omega,by simp only [qL]; omega,by omega,by omega,by omega⟩
    omega
   have g4:bo1=false:=by simpa using h4
   have hx2:=Pz.by_done hI1.1 (by rw [he4,g4])
   refine (go 8) ?_
   refine za (α:=Pz.St) (PT:=111) [Rb 114 p s j6 m,.pub zP] [Row (.slice A3 l.length cp3) 9 1 strE l,Row (.slice (some ⟨b54,0,none⟩) 1 1) 9 1 strE ([wd3]:List ByteArray),Row (.slice A1 Lg.totals.length cp1) 9 1 strE Lg.totals,.blk b6 [iV 3,iV 0,iV 0,.string wd1,Zs,.slice A3 l.length cp3,Zs] 59,.blk b4 Zx 59] (fun z:Pz.St=>.tuple #[]) (fun z10=>Pz.must s ⟨#[40]⟩ ⟨j6,m⟩=.ok z10∧Pz.Good s ⟨j6,m⟩ z10) (fun z10=>[Rb 114 p s z10.at_ z10.nd,.pub zP]) _ (fun f9=>Pz.must s ⟨#[40]⟩ ⟨j6,m⟩=.no f9) (fun _=>rfl) (S9 [0,1,2,3,4,5,6]) (fun _=>rfl) wn rfl rfl call179 rfl (fun w1 Pb hG=>y6 p s j6 m ⟨#[40]⟩ Pb w1 hG qO qO qO ) ?_ fun z10 hz12=>?_
   ·intro f9 hf9
    refine zU (zW fun w1 hM=>?_)
    exact hM.zi f9 (by first | (simp only [Pz.then_ok,Pz.then_no,Pz.St.go,lgc,Pz.all,Pz.bys,Pz.allTail,zB.e,zB.es,hz1e,he1,hz4e,he2,g1,g3,he3,he4,g4,hx2,h1,h4,hf9]; done) | simp [Pz.then_ok,Pz.then_no,Pz.St.go,lgc,Pz.all,Pz.bys,Pz.allTail,zB.e,zB.es,hz1e,he1,hz4e,he2,g1,g3,he3,he4,g4,hx2,h1,h4,hf9])
   obtain ⟨j9,m6⟩:=z10
   have he7:Pz.must s ⟨#[40]⟩ ⟨j6,m⟩=.ok ⟨j9,m6⟩:=hz12.1
   have ga6:j9≤s.size:=hz12.2.at_
   have gm6:m≤m6:=hz12.2.mono
   have gn6:m6≤100:=hz12.2.most (show m≤100 by omega)
   refine (go 7) ?_
   refine za (α:=zB × Pz.St) (PT:=111) [Rb 114 p s j9 m6,.pub zP] [Row (.slice A3 l.length cp3) 9 1 strE l,Row (.slice (some ⟨b54,0,none⟩) 1 1) 9 1 strE ([wd3]:List ByteArray),Row (.slice A1 Lg.totals.length cp1) 9 1 strE Lg.totals,.blk b6 [iV 3,iV 0,iV 0,.string wd1,Zs,.slice A3 l.length cp3,Zs] 59,.blk b4 Zx 59] (fun z:zB × Pz.St=>.agg (zx z.1).toArray) (fun z11=>Pz.xpr s N ⟨j9,m6⟩=.ok (z11.1.e,z11.2)∧Pz.Good s ⟨j9,m6⟩ z11.2) (fun z11=>[Rb 114 p s z11.2.at_ z11.2.nd,.pub zP,okP zB.Ok z11.1]) _ (fun f10=>Pz.xpr s N ⟨j9,m6⟩=.no f10) (fun _=>rfl) (S9 [0,1,2,3,4,5,6]) (fun _=>rfl) wn rfl rfl call52 rfl (fun w1 Pb hG=>ih p s j9 m6 (d + 1) Pb w1 hG qO qO qO qO qO) ?_ fun z11 hz13=>?_
   ·intro f10 hf10
    refine zU (zW fun w1 hM=>?_)
    exact hM.zi f10 (by first | (simp only [Pz.then_ok,Pz.then_no,Pz.St.go,lgc,Pz.all,Pz.bys,Pz.allTail,zB.e,zB.es,hz1e,he1,hz4e,he2,g1,g3,he3,he4,g4,hx2,he7,h1,h4,hf10]; done) | simp [Pz.then_ok,Pz.then_no,Pz.St.go,lgc,Pz.all,Pz.bys,Pz.allTail,zB.e,zB.es,hz1e,he1,hz4e,he2,g1,g3,he3,he4,g4,hx2,he7,h1,h4,hf10])
   obtain ⟨x1,j10,m7⟩:=z11
   have he8:Pz.xpr s N ⟨j9,m6⟩=.ok (x1.e,⟨j10,m7⟩):=hz13.1
   have ga7:j10≤s.size:=hz13.2.at_
   have gm7:m6≤m7:=hz13.2.mono
   have gn7:m7≤100:=hz13.2.most (show m6≤100 by omega)
   refine zu zx ([x1]:List zB) wn underlying57 inf59 rfl rfl rfl rfl qD qD rfl fun b78=>?_
   refine (go 7) ?_
   refine za (α:=Pz.St) (PT:=111) [Rb 114 p s j10 m7,.pub zP] [Row (.slice (some ⟨b78,0,none⟩) 1 1) 59 7 zx ([x1]:List zB),okP zB.Ok x1,Row (.slice A3 l.length cp3) 9 1 strE l,Row (.slice (some ⟨b54,0,none⟩) 1 1) 9 1 strE ([wd3]:List ByteArray),Row (.slice A1 Lg.totals.length cp1) 9 1 strE Lg.totals,.blk b6 [iV 3,iV 0,iV 0,.string wd1,Zs,.slice A3 l.length cp3,.slice (some ⟨b78,0,none⟩) 1 1] 59,.blk b4 Zx 59] (fun z:Pz.St=>.tuple #[]) (fun z12=>Pz.must s ⟨#[41]⟩ ⟨j10,m7⟩=.ok z12∧Pz.Good s ⟨j10,m7⟩ z12) (fun z12=>[Rb 114 p s z12.at_ z12.nd,.pub zP]) _ (fun f11=>Pz.must s ⟨#[41]⟩ ⟨j10,m7⟩=.no f11) (fun _=>rfl) (S9 [1,2,0,3,4,5,6,7,8]) (fun _=>rfl) wn rfl rfl call179 rfl (fun w1 Pb hG=>y6 p s j10 m7 ⟨#[41]⟩ Pb w1 hG qO qO qO ) ?_ fun z12 hz14=>?_
   ·intro f11 hf11
    refine zU (zW fun w1 hM=>?_)
    exact hM.zi f11 (by first | (simp only [Pz.then_ok,Pz.then_no,Pz.St.go,lgc,Pz.all,Pz.bys,Pz.allTail,zB.e,zB.es,hz1e,he1,hz4e,he2,g1,g3,he3,he4,g4,hx2,he7,he8,h1,h4,hf11]; done) | simp [Pz.then_ok,Pz.then_no,Pz.St.go,lgc,Pz.all,Pz.bys,Pz.allTail,zB.e,zB.es,hz1e,he1,hz4e,he2,g1,g3,he3,he4,g4,hx2,he7,he8,h1,h4,hf11])
   obtain ⟨j11,m8⟩:=z12
   have he9:Pz.must s ⟨#[41]⟩ ⟨j10,m7⟩=.ok ⟨j11,m8⟩:=hz14.1
   have ga8:j11≤s.size:=hz14.2.at_
   have gm8:m7≤m8:=hz14.2.mono
   have gn8:m8≤100:=hz14.2.most (show m7≤100 by omega)
   refine (go 6) ?_
   refine vC 4 0 encString rfl rfl (fp2) (vC 2 0 encExprX rfl rfl (fp2) (v8 (fun _ h=>h.exprG (k:=3) (n:=0) (r:=0) (wd:=wd1) (ms:=⟨none,0,[]⟩) (bs:=⟨A3,cp3,l⟩) (ks:=⟨(some ⟨b78,0,none⟩),1,([x1]:List zB)⟩) (fun _ _=>zD.zy _ _ _ _) (fun _ pp=>pp.sl 4 rfl) (fun _ pp=>pp.sl 2 rfl) (fun _ pp x hx=>by simp only [List.mem_cons,List.not_mem_nil,or_false] at hx; rcases hx with rfl <;> first | exact pp.at_ 3 _ rfl) (by first | decide | omega) (fun x hx=>by cases hx) (fun x hx=>by have:=Pz.byL_size 5 (by show _≤s.size; omega) hx2 (fun y hy=>by rw [List.mem_singleton.1 hy]; omega) x hx; omega)) (za (α:=Unit) (PT:=111) [Rb 114 p s j11 m8,.pub zP] [okP zB.Ok (zB.mk 3 0 0 wd1 ⟨none,0,[]⟩ ⟨A3,cp3,l⟩ ⟨(some ⟨b78,0,none⟩),1,([x1]:List zB)⟩),slP 7 zx (.slice (some ⟨b78,0,none⟩) 1 1) ([x1]:List zB),okP zB.Ok x1,slP 1 strE (.slice A3 l.length cp3) l,Row (.slice (some ⟨b54,0,none⟩) 1 1) 9 1 strE ([wd3]:List ByteArray),Row (.slice A1 Lg.totals.length cp1) 9 1 strE Lg.totals,.blk b6 [iV 3,iV 0,iV 0,.string wd1,Zs,.slice A3 l.length cp3,.slice (some ⟨b78,0,none⟩) 1 1] 59,.blk b4 Zx 59] (fun _:Unit=>.agg (List.toArray [iV 3,iV 0,iV 0,.string wd1,Zs,.slice A3 l.length cp3,.slice (some ⟨b78,0,none⟩) 1 1])) (fun z13=>m8 + 1≤100) (fun z13=>[Rb 114 p s j11 (m8 + 1),.pub zP]) _ (fun f12=>Pz.node ⟨j11,m8⟩=.no f12) (fun _=>rfl) (S9 [1,2,0,3,4,5,6,7,8,9]) (fun _=>rfl) wn rfl rfl call99 rfl (fun w1 Pb hG=>vt p s j11 m8 3 0 0 wd1 none 0 0 A3 l.length cp3 (some ⟨b78,0,none⟩) 1 1 Pb w1 hG qO qO qO) ?_ fun z13 hz15=>?_)))
   ·intro f12 hf12
    refine zU (zW fun w1 hM=>?_)
    exact hM.zi f12 (by first | (simp only [Pz.then_ok,Pz.then_no,Pz.St.go,lgc,Pz.all,Pz.bys,Pz.allTail,zB.e,zB.es,hz1e,he1,hz4e,he2,g1,g3,he3,he4,g4,hx2,he7,he8,he9,h1,h4,hf12]; done) | simp [Pz.then_ok,Pz.then_no,Pz.St.go,lgc,Pz.all,Pz.bys,Pz.allTail,zB.e,zB.es,hz1e,he1,hz4e,he2,g1,g3,he3,he4,g4,hx2,he7,he8,he9,h1,h4,hf12])
   have he10:Pz.node ⟨j11,m8⟩=.ok ⟨j11,m8 + 1⟩:=Pz.node_yes hz15
   refine (go 4) (zZ results181 fun w1 hM=>?_)
   have h9:Pz.all s (Pz.xpr s N) ⟨i,n⟩=.ok ((zB.mk 3 0 0 wd1 ⟨none,0,[]⟩ ⟨A3,cp3,l⟩ ⟨(some ⟨b78,0,none⟩),1,([x1]:List zB)⟩).e,⟨j11,(m8 + 1)⟩):=by first | (simp only [Pz.then_ok,Pz.then_no,Pz.St.go,lgc,Pz.all,Pz.bys,Pz.allTail,zB.e,zB.es,hz1e,he1,hz4e,he2,g1,g3,he3,he4,g4,hx2,he7,he8,he9,he10,h1,h4]; done) | simp [Pz.then_ok,Pz.then_no,Pz.St.go,lgc,Pz.all,Pz.bys,Pz.allTail,zB.e,zB.es,hz1e,he1,hz4e,he2,g1,g3,he3,he4,g4,hx2,he7,he8,he9,he10,h1,h4]
   exact hM.vg (((zB.mk 3 0 0 wd1 ⟨none,0,[]⟩ ⟨A3,cp3,l⟩ ⟨(some ⟨b78,0,none⟩),1,([x1]:List zB)⟩),⟨j11,(m8 + 1)⟩):zB × Pz.St) rfl ⟨h9,(Pz.all_fine (Pz.xpr_fine s N) hi).ok_ h9⟩ (fun h=>h.sel [0,1,2] qD rfl)
  refine ze (i:=3) rfl fun KN hKN hPN=>za (α:=ByteArray × Pz.St) (PT:=111) [Rb 114 p s j4 m2,.pub zP] [Row (.slice A1 Lg.totals.length cp1) 9 1 strE Lg.totals,.blk b6 [iV 3,iV 0,iV 0,.string wd1,Zs,Zs,Zs] 59,.blk b4 Zx 59] (fun z:ByteArray × Pz.St=>.string z.1) (fun z14=>Pz.name s ⟨j4,m2⟩=.ok z14∧Pz.Good s ⟨j4,m2⟩ z14.2) (fun z14=>[Rb 114 p s z14.2.at_ z14.2.nd,.pub zP]) _ (fun f13=>Pz.name s ⟨j4,m2⟩=.no f13) (fun _=>rfl) (S9 [0,1,2,3,4]) (fun _=>rfl) wn rfl rfl call211 rfl (fun w1 Pb hG=>vJ p s j4 m2  Pb w1 hG qO qO qO ) ?_ fun z14 hz16=>?_
  ·intro f13 hf13
   refine yr hPN (zU (zU (zW fun w1 hM=>?_)))
   exact hM.zi f13 (by first | (simp only [Pz.then_ok,Pz.then_no,Pz.St.go,lgc,Pz.all,Pz.bys,Pz.allTail,zB.e,zB.es,hz1e,he1,hz4e,he2,g1,g3,h1,hf13]; done) | simp [Pz.then_ok,Pz.then_no,Pz.St.go,lgc,Pz.all,Pz.bys,Pz.allTail,zB.e,zB.es,hz1e,he1,hz4e,he2,g1,g3,h1,hf13])
  obtain ⟨wd6,j12,m9⟩:=z14
  have he11:Pz.name s ⟨j4,m2⟩=.ok (wd6,⟨j12,m9⟩):=hz16.1
  have ga9:j12≤s.size:=hz16.2.at_
  have gm9:m2≤m9:=hz16.2.mono
  have gn9:m9≤100:=hz16.2.most (show m2≤100 by omega)
  have wz6:wd6.size≤12:=Pz.name_size (t:=⟨j4,m2⟩) (show j4≤_ by omega) he11
  refine vE (.string wd6) ?_
  refine (go 1) ?_
  refine hKN _ _ (S9 [1,2,4]) (yT (f:=4) (i:=1) (j:=4) rfl (by kernel_rfl) ?_ ?_)
  ·refine ze (i:=1) rfl fun KN hKN hPN=>?_
   refine (go 2) ?_
   refine hKN _ _ (S9 [1,2,4]) (zg 3 4 (ze (i:=4) rfl fun KN hKN hPN=>zu strE ([wd6]:List ByteArray) wn underlying56 inf9 rfl rfl rfl rfl qD qD rfl fun b54=>?_))
   refine (go 1) ?_
   refine hKN _ _ (S9 [2,3,5]) (zg 2 5 (ze (i:=5) rfl fun KN hKN hPN=>yG (strE:ByteArray→List Value) 9 1 (yE 0 ([]:List ByteArray) ([wd6]:List ByteArray) encString wn rfl rfl rfl (fun _ hM=>(RowSl encString hM 1 rfl)) underlying56 inf9 rfl rfl (by simp only [qL]; omega) rfl fun A7 cp7 hc7 hm7 hA7=>?_)))
   refine (go 1) ?_
   refine hKN _ _ (S9 [3,4,6]) (yJ 1 [6] [3,4,6] rfl fun KS hKS=>?_)
   refine (go 1) ?_
   refine zk hKS (zg 0 7 (ze (i:=7) rfl fun KN hKN hPN=>?_))
   refine (go 2) ?_
   refine hKN _ _ (S9 [3,4,6]) ?_
   refine zr (by kernel_rfl) ((go 1) ?_)
   refine (go 1) ?_
   refine uQ (fun (l:List ByteArray) (k:Nat) (m:Int) (q:Nat) (rv:Value)=>[(0,.pointer (some ⟨p,0,none⟩)),(1,iV d),(4,.pointer (some ⟨b4,0,none⟩)),(6,.pointer (some ⟨b6,0,none⟩))]) (fun (l:List ByteArray) (k:Nat) (m:Int) (q:Nat) (rv:Value)=>[Row rv 9 1 strE l,Row (.slice (some ⟨b54,0,none⟩) 1 1) 9 1 strE ([wd6]:List ByteArray),Rb 114 p s k m,.pub zP,Row (.slice A1 Lg.totals.length cp1) 9 1 strE Lg.totals,.blk b6 [iV 3,iV 0,iV 0,.string wd1,Zs,rv,Zs] 59,.blk b4 Zx 59]) (fun (l:List ByteArray) (k:Nat) (m:Int) (q:Nat) (rv:Value)=>Pz.byL s 5 [wd6] ⟨j12,m9⟩=Pz.byL s (q + 1) l ⟨k,m⟩∧l.length + q=5∧l.length≤4∧k≤s.size∧m9≤m∧m≤100) (fun (l:List ByteArray) (k:Nat) (m:Int) (q:Nat) (rv:Value)=>q) (([]:List ByteArray)++([wd6]:List ByteArray)) j12 m9 4 (.slice A7 ((([]:List ByteArray)++([wd6]:List ByteArray)).length) cp7) (sc rfl (sc rfl (sc rfl (sc rfl sn)))) (fun _ h=>h) ?_ (fun l k m q rv hI2=>?_)
   ·exact ⟨rfl,rfl,by simp,by omega,by omega,by omega⟩
   refine yU 0 (l:=l) rfl fun A8 cp8 hv2 hc8 hm8 hA8=>?_
   subst hv2
   refine (go 4) ?_
   refine yR (α:=(Bool × Nat)) [Rb 114 p s k m,.pub zP] [Row (.slice A8 l.length cp8) 9 1 strE l,Row (.slice (some ⟨b54,0,none⟩) 1 1) 9 1 strE ([wd6]:List ByteArray),Row (.slice A1 Lg.totals.length cp1) 9 1 strE Lg.totals,.blk b6 [iV 3,iV 0,iV 0,.string wd1,Zs,.slice A8 l.length cp8,Zs] 59,.blk b4 Zx 59] (fun z:Bool × Nat=>.bool z.1) (fun z15=>(Pz.eat s ⟨#[44]⟩ k=z15∧k≤z15.2∧z15.2≤s.size)) (fun z15=>[Rb 114 p s z15.2 m,.pub zP]) _ (fun _=>rfl) (S9 [2,3,0,1,4,5,6]) (fun _=>rfl) wn rfl rfl call98 rfl (fun w1 Pb hG=>vy p s k m ⟨#[44]⟩ Pb w1 hG qO qO) fun z15 hz17=>?_
   obtain ⟨bo2,j13⟩:=z15
   have he12:Pz.eat s ⟨#[44]⟩ k=(bo2,j13):=hz17.1
   have hz17a:k≤j13:=hz17.2.1
   have hz17b:j13≤s.size:=hz17.2.2
   refine vE (.bool bo2) ?_
   refine (go 2) (yf (fun h6=>?_) fun h6=>?_)
   ·have hx3:=hI2.1
    refine (go 12) (zX (fun h7=>?_) fun h7=>?_)
    ·refine (go 2) ?_
     refine za (α:=Unit) (PT:=111) [Rb 114 p s j13 m,.pub zP] [Row (.slice A8 l.length cp8) 9 1 strE l,Row (.slice (some ⟨b54,0,none⟩) 1 1) 9 1 strE ([wd6]:List ByteArray),Row (.slice A1 Lg.totals.length cp1) 9 1 strE Lg.totals,.blk b6 [iV 3,iV 0,iV 0,.string wd1,Zs,.slice A8 l.length cp8,Zs] 59,.blk b4 Zx 59] (fun _:Unit=>.tuple #[]) (fun z16=>False) (fun z16=>[Rb 114 p s j13 m,.pub zP]) _ (fun f14=>f14=(5,(j13:Int))) (fun _=>rfl) (S9 [0,1,2,3,4,5,6]) (fun _=>rfl) wn rfl rfl call54 rfl (fun w1 Pb hG=>yl p s j13 m 5 Pb w1 hG) ?_ fun z16 hz18=>?_
     ·intro f14 hf14
      refine zU (yD (yW (yD (zU (zW fun w1 hM=>?_)))))
      have hY:=Pz.by_many hx3 (by rw [he12,h6]) h7
      exact hM.zi f14 (by simp only [Pz.then_ok,Pz.then_no,Pz.St.go,lgc,Pz.all,Pz.bys,Pz.allTail,zB.e,zB.es,hz1e,he1,hz4e,he2,g1,g3,he11,he12,h1,hY,hf14])
     exact hz18.elim
    refine (go 2) ?_
    refine yL (Mem w ⟨fpOf [Rb 114 p s i n,.pub zP],Pb⟩ [.pub zP,Row (.slice (some ⟨b54,0,none⟩) 1 1) 9 1 strE ([wd6]:List ByteArray),Row (.slice A1 Lg.totals.length cp1) 9 1 strE Lg.totals,.blk b4 Zx 59]) mix (fun _ h=>h.drew) rfl (yJ 6 [0,2] [1,3,4,6] rfl fun KS hKS=>?_)
    refine (go 2) ?_
    refine zk hKS (yT (f:=5) (i:=1) (j:=3) rfl (by kernel_rfl) ?_ ?_)
    ·refine ze (i:=1) rfl fun KN hKN hPN=>?_
     refine (go 2) ?_
     refine hKN _ _ (S9 [1,3,4,6]) (zg 4 3 (ze (i:=3) rfl fun KN hKN hPN=>za (α:=ByteArray × Pz.St) (PT:=111) [Rb 114 p s j13 m,.pub zP] [Row (.slice A8 l.length cp8) 9 1 strE l,Row (.slice (some ⟨b54,0,none⟩) 1 1) 9 1 strE ([wd6]:List ByteArray),Row (.slice A1 Lg.totals.length cp1) 9 1 strE Lg.totals,.blk b6 [iV 3,iV 0,iV 0,.string wd1,Zs,.slice A8 l.length cp8,Zs] 59,.blk b4 Zx 59] (fun z:ByteArray × Pz.St=>.string z.1) (fun z17=>Pz.name s ⟨j13,m⟩=.ok z17∧Pz.Good s ⟨j13,m⟩ z17.2) (fun z17=>[Rb 114 p s z17.2.at_ z17.2.nd,.pub zP]) _ (fun f15=>Pz.name s ⟨j13,m⟩=.no f15) (fun _=>rfl) (S9 [0,1,2,3,4,5,6]) (fun _=>rfl) wn rfl rfl call211 rfl (fun w1 Pb hG=>vJ p s j13 m  Pb w1 hG qO qO qO ) ?_ fun z17 hz19=>?_))
     ·intro f15 hf15
      refine yr hPN (yD (yW (yD (zU (zW fun w1 hM=>?_)))))
      have hY:=Pz.by_next hx3 (by rw [he12,h6]) h7 hf15
      rw [Pz.then_no] at hY
      exact hM.zi f15 (by simp only [Pz.then_ok,Pz.then_no,Pz.St.go,lgc,Pz.all,Pz.bys,Pz.allTail,zB.e,zB.es,hz1e,he1,hz4e,he2,g1,g3,he11,he12,h1,hY])
     obtain ⟨wd7,j14,m10⟩:=z17
     have he13:Pz.name s ⟨j13,m⟩=.ok (wd7,⟨j14,m10⟩):=hz19.1
     have ga10:j14≤s.size:=hz19.2.at_
     have gm10:m≤m10:=hz19.2.mono
     have gn10:m10≤100:=hz19.2.most (show m≤100 by omega)
     have wz7:wd7.size≤12:=Pz.name_size (t:=⟨j13,m⟩) (show j13≤_ by omega) he13
     refine vE (.string wd7) ?_
     refine (go 1) ?_
     refine hKN _ _ (S9 [1,3,4,6]) (zg 3 4 (ze (i:=4) rfl fun KN hKN hPN=>zu strE ([wd7]:List ByteArray) wn underlying56 inf9 rfl rfl rfl rfl qD qD rfl fun b69=>?_))
     refine (go 1) ?_
     refine hKN _ _ (S9 [2,4,5,7]) (zg 2 5 (ze (i:=5) rfl fun KN hKN hPN=>yE 3 l ([wd7]:List ByteArray) encString wn rfl rfl rfl (fun _ hM=>(RowSl encString hM 0 rfl)) underlying56 inf9 rfl rfl (by simp only [qL]; omega) rfl fun A9 cp9 hc9 hm9 hA9=>?_))
     refine (go 1) ?_
     refine hKN _ _ (S9 [2,4,5,7]) (yJ 1 [6] [2,4,5,7] rfl fun KS hKS=>?_)
     refine (go 1) ?_
     refine zk hKS (zg 0 7 (ze (i:=7) rfl fun KN hKN hPN=>?_))
     refine (go 2) ?_
     refine hKN _ _ (S9 [2,4,5,7]) (zr (by kernel_rfl) (yM (yY (l++([wd7]:List ByteArray)) j14 m10 (q - 1) (.slice A9 ((l++([wd7]:List ByteArray)).length) cp9) (sc rfl (sc rfl (sc rfl (sc rfl sn)))) (S9 [3,4,1,2,5,6,7]) ?_ ?_)))
     ·have hY:=Pz.by_next hx3 (by rw [he12,h6]) h7 he13
      rw [Pz.then_ok] at hY
      exact ⟨hY.trans (by rw [show q - 1 + 1=q by omega]),by simp only [qL]; omega,by simp only [qL]; omega,by omega,by omega,by omega⟩
     omega
    refine ze (i:=3) rfl fun KN hKN hPN=>za (α:=ByteArray × Pz.St) (PT:=111) [Rb 114 p s j13 m,.pub zP] [Row (.slice A8 l.length cp8) 9 1 strE l,Row (.slice (some ⟨b54,0,none⟩) 1 1) 9 1 strE ([wd6]:List ByteArray),Row (.slice A1 Lg.totals.length cp1) 9 1 strE Lg.totals,.blk b6 [iV 3,iV 0,iV 0,.string wd1,Zs,.slice A8 l.length cp8,Zs] 59,.blk b4 Zx 59] (fun z:ByteArray × Pz.St=>.string z.1) (fun z18=>Pz.name s ⟨j13,m⟩=.ok z18∧Pz.Good s ⟨j13,m⟩ z18.2) (fun z18=>[Rb 114 p s z18.2.at_ z18.2.nd,.pub zP]) _ (fun f16=>Pz.name s ⟨j13,m⟩=.no f16) (fun _=>rfl) (S9 [0,1,2,3,4,5,6]) (fun _=>rfl) wn rfl rfl call211 rfl (fun w1 Pb hG=>vJ p s j13 m  Pb w1 hG qO qO qO ) ?_ fun z18 hz20=>?_
    ·intro f16 hf16
     refine yr hPN (yD (yW (yD (zU (zW fun w1 hM=>?_)))))
     have hY:=Pz.by_next hx3 (by rw [he12,h6]) h7 hf16
     rw [Pz.then_no] at hY
     exact hM.zi f16 (by simp only [Pz.then_ok,Pz.then_no,Pz.St.go,lgc,Pz.all,Pz.bys,Pz.allTail,zB.e,zB.es,hz1e,he1,hz4e,he2,g1,g3,he11,he12,h1,hY])
    obtain ⟨wd8,j15,m11⟩:=z18
    have he14:Pz.name s ⟨j13,m⟩=.ok (wd8,⟨j15,m11⟩):=hz20.1
    have ga11:j15≤s.size:=hz20.2.at_
    have gm11:m≤m11:=hz20.2.mono
    have gn11:m11≤100:=hz20.2.most (show m≤100 by omega)
    have wz8:wd8.size≤12:=Pz.name_size (t:=⟨j13,m⟩) (show j13≤_ by omega) he14
    refine vE (.string wd8) ?_
    refine (go 1) ?_
    refine hKN _ _ (S9 [1,3,4,6]) (yT (f:=4) (i:=1) (j:=4) rfl (by kernel_rfl) ?_ ?_)
    ·refine ze (i:=1) rfl fun KN hKN hPN=>?_
     refine (go 2) ?_
     refine hKN _ _ (S9 [1,3,4,6]) (zg 3 4 (ze (i:=4) rfl fun KN hKN hPN=>zu strE ([wd8]:List ByteArray) wn underlying56 inf9 rfl rfl rfl rfl qD qD rfl fun b69=>?_))
     refine (go 1) ?_
     refine hKN _ _ (S9 [2,4,5,7]) (zg 2 5 (ze (i:=5) rfl fun KN hKN hPN=>yE 3 l ([wd8]:List ByteArray) encString wn rfl rfl rfl (fun _ hM=>(RowSl encString hM 0 rfl)) underlying56 inf9 rfl rfl (by simp only [qL]; omega) rfl fun A10 cp10 hc10 hm10 hA10=>?_))
     refine (go 1) ?_
     refine hKN _ _ (S9 [2,4,5,7]) (yJ 1 [6] [2,4,5,7] rfl fun KS hKS=>?_)
     refine (go 1) ?_
     refine zk hKS (zg 0 7 (ze (i:=7) rfl fun KN hKN hPN=>?_))
     refine (go 2) ?_
     refine hKN _ _ (S9 [2,4,5,7]) (zr (by kernel_rfl) (yM (yY (l++([wd8]:List ByteArray)) j15 m11 (q - 1) (.slice A10 ((l++([wd8]:List ByteArray)).length) cp10) (sc rfl (sc rfl (sc rfl (sc rfl sn)))) (S9 [3,4,1,2,5,6,7]) ?_ ?_)))
     ·have hY:=Pz.by_next hx3 (by rw [he12,h6]) h7 he14
      rw [Pz.then_ok] at hY
      exact ⟨hY.trans (by rw [show q - 1 + 1=q by omega]),by simp only [qL]; omega,by simp only [qL]; omega,by omega,by omega,by omega⟩
     omega
    refine ze (i:=4) rfl fun KN hKN hPN=>zu strE ([wd8]:List ByteArray) wn underlying56 inf9 rfl rfl rfl rfl qD qD rfl fun b69=>?_
    refine (go 1) ?_
    refine hKN _ _ (S9 [2,4,5,7]) (zg 3 1 (ze (i:=1) rfl fun KN hKN hPN=>?_))
    refine (go 2) ?_
    refine hKN _ _ (S9 [2,4,5,7]) (zg 2 5 (ze (i:=5) rfl fun KN hKN hPN=>yE 3 l ([wd8]:List ByteArray) encString wn rfl rfl rfl (fun _ hM=>(RowSl encString hM 0 rfl)) underlying56 inf9 rfl rfl (by simp only [qL]; omega) rfl fun A11 cp11 hc11 hm11 hA11=>?_))
    refine (go 1) ?_
    refine hKN _ _ (S9 [2,4,5,7]) (yJ 1 [6] [2,4,5,7] rfl fun KS hKS=>?_)
    refine (go 1) ?_
    refine zk hKS (zg 0 7 (ze (i:=7) rfl fun KN hKN hPN=>?_))
    refine (go 2) ?_
    refine hKN _ _ (S9 [2,4,5,7]) (zr (by kernel_rfl) (yM (yY (l++([wd8]:List ByteArray)) j15 m11 (q - 1) (.slice A11 ((l++([wd8]:List ByteArray)).length) cp11) (sc rfl (sc rfl (sc rfl (sc rfl sn)))) (S9 [3,4,1,2,5,6,7]) ?_ ?_)))
    ·have hY:=Pz.by_next hx3 (by rw [he12,h6]) h7 he14
     rw [Pz.then_ok] at hY
     exact ⟨hY.trans (by rw [show q - 1 + 1=q by omega]),by simp only [qL]; omega,by simp only [qL]; omega,by omega,by omega,by omega⟩
    omega
   have g5:bo2=false:=by simpa using h6
   have hx4:=Pz.by_done hI2.1 (by rw [he12,g5])
   refine (go 8) ?_
   refine za (α:=Pz.St) (PT:=111) [Rb 114 p s j13 m,.pub zP] [Row (.slice A8 l.length cp8) 9 1 strE l,Row (.slice (some ⟨b54,0,none⟩) 1 1) 9 1 strE ([wd6]:List ByteArray),Row (.slice A1 Lg.totals.length cp1) 9 1 strE Lg.totals,.blk b6 [iV 3,iV 0,iV 0,.string wd1,Zs,.slice A8 l.length cp8,Zs] 59,.blk b4 Zx 59] (fun z:Pz.St=>.tuple #[]) (fun z19=>Pz.must s ⟨#[40]⟩ ⟨j13,m⟩=.ok z19∧Pz.Good s ⟨j13,m⟩ z19) (fun z19=>[Rb 114 p s z19.at_ z19.nd,.pub zP]) _ (fun f17=>Pz.must s ⟨#[40]⟩ ⟨j13,m⟩=.no f17) (fun _=>rfl) (S9 [0,1,2,3,4,5,6]) (fun _=>rfl) wn rfl rfl call179 rfl (fun w1 Pb hG=>y6 p s j13 m ⟨#[40]⟩ Pb w1 hG qO qO qO ) ?_ fun z19 hz21=>?_
   ·intro f17 hf17
    refine zU (zW fun w1 hM=>?_)
    exact hM.zi f17 (by first | (simp only [Pz.then_ok,Pz.then_no,Pz.St.go,lgc,Pz.all,Pz.bys,Pz.allTail,zB.e,zB.es,hz1e,he1,hz4e,he2,g1,g3,he11,he12,g5,hx4,h1,h6,hf17]; done) | simp [Pz.then_ok,Pz.then_no,Pz.St.go,lgc,Pz.all,Pz.bys,Pz.allTail,zB.e,zB.es,hz1e,he1,hz4e,he2,g1,g3,he11,he12,g5,hx4,h1,h6,hf17])
   obtain ⟨j16,m12⟩:=z19
   have he15:Pz.must s ⟨#[40]⟩ ⟨j13,m⟩=.ok ⟨j16,m12⟩:=hz21.1
   have ga12:j16≤s.size:=hz21.2.at_
   have gm12:m≤m12:=hz21.2.mono
   have gn12:m12≤100:=hz21.2.most (show m≤100 by omega)
   refine (go 7) ?_
   refine za (α:=zB × Pz.St) (PT:=111) [Rb 114 p s j16 m12,.pub zP] [Row (.slice A8 l.length cp8) 9 1 strE l,Row (.slice (some ⟨b54,0,none⟩) 1 1) 9 1 strE ([wd6]:List ByteArray),Row (.slice A1 Lg.totals.length cp1) 9 1 strE Lg.totals,.blk b6 [iV 3,iV 0,iV 0,.string wd1,Zs,.slice A8 l.length cp8,Zs] 59,.blk b4 Zx 59] (fun z:zB × Pz.St=>.agg (zx z.1).toArray) (fun z20=>Pz.xpr s N ⟨j16,m12⟩=.ok (z20.1.e,z20.2)∧Pz.Good s ⟨j16,m12⟩ z20.2) (fun z20=>[Rb 114 p s z20.2.at_ z20.2.nd,.pub zP,okP zB.Ok z20.1]) _ (fun f18=>Pz.xpr s N ⟨j16,m12⟩=.no f18) (fun _=>rfl) (S9 [0,1,2,3,4,5,6]) (fun _=>rfl) wn rfl rfl call52 rfl (fun w1 Pb hG=>ih p s j16 m12 (d + 1) Pb w1 hG qO qO qO qO qO) ?_ fun z20 hz22=>?_
   ·intro f18 hf18
    refine zU (zW fun w1 hM=>?_)
    exact hM.zi f18 (by first | (simp only [Pz.then_ok,Pz.then_no,Pz.St.go,lgc,Pz.all,Pz.bys,Pz.allTail,zB.e,zB.es,hz1e,he1,hz4e,he2,g1,g3,he11,he12,g5,hx4,he15,h1,h6,hf18]; done) | simp [Pz.then_ok,Pz.then_no,Pz.St.go,lgc,Pz.all,Pz.bys,Pz.allTail,zB.e,zB.es,hz1e,he1,hz4e,he2,g1,g3,he11,he12,g5,hx4,he15,h1,h6,hf18])
   obtain ⟨x2,j17,m13⟩:=z20
   have he16:Pz.xpr s N ⟨j16,m12⟩=.ok (x2.e,⟨j17,m13⟩):=hz22.1
   have ga13:j17≤s.size:=hz22.2.at_
   have gm13:m12≤m13:=hz22.2.mono
   have gn13:m13≤100:=hz22.2.most (show m12≤100 by omega)
   refine zu zx ([x2]:List zB) wn underlying57 inf59 rfl rfl rfl rfl qD qD rfl fun b78=>?_
   refine (go 7) ?_
   refine za (α:=Pz.St) (PT:=111) [Rb 114 p s j17 m13,.pub zP] [Row (.slice (some ⟨b78,0,none⟩) 1 1) 59 7 zx ([x2]:List zB),okP zB.Ok x2,Row (.slice A8 l.length cp8) 9 1 strE l,Row (.slice (some ⟨b54,0,none⟩) 1 1) 9 1 strE ([wd6]:List ByteArray),Row (.slice A1 Lg.totals.length cp1) 9 1 strE Lg.totals,.blk b6 [iV 3,iV 0,iV 0,.string wd1,Zs,.slice A8 l.length cp8,.slice (some ⟨b78,0,none⟩) 1 1] 59,.blk b4 Zx 59] (fun z:Pz.St=>.tuple #[]) (fun z21=>Pz.must s ⟨#[41]⟩ ⟨j17,m13⟩=.ok z21∧Pz.Good s ⟨j17,m13⟩ z21) (fun z21=>[Rb 114 p s z21.at_ z21.nd,.pub zP]) _ (fun f19=>Pz.must s ⟨#[41]⟩ ⟨j17,m13⟩=.no f19) (fun _=>rfl) (S9 [1,2,0,3,4,5,6,7,8]) (fun _=>rfl) wn rfl rfl call179 rfl (fun w1 Pb hG=>y6 p s j17 m13 ⟨#[41]⟩ Pb w1 hG qO qO qO ) ?_ fun z21 hz23=>?_
   ·intro f19 hf19
    refine zU (zW fun w1 hM=>?_)
    exact hM.zi f19 (by first | (simp only [Pz.then_ok,Pz.then_no,Pz.St.go,lgc,Pz.all,Pz.bys,Pz.allTail,zB.e,zB.es,hz1e,he1,hz4e,he2,g1,g3,he11,he12,g5,hx4,he15,he16,h1,h6,hf19]; done) | simp [Pz.then_ok,Pz.then_no,Pz.St.go,lgc,Pz.all,Pz.bys,Pz.allTail,zB.e,zB.es,hz1e,he1,hz4e,he2,g1,g3,he11,he12,g5,hx4,he15,he16,h1,h6,hf19])
   obtain ⟨j18,m14⟩:=z21
   have he17:Pz.must s ⟨#[41]⟩ ⟨j17,m13⟩=.ok ⟨j18,m14⟩:=hz23.1
   have ga14:j18≤s.size:=hz23.2.at_
   have gm14:m13≤m14:=hz23.2.mono
   have gn14:m14≤100:=hz23.2.most (show m13≤100 by omega)
   refine (go 6) ?_
   refine vC 4 0 encString rfl rfl (fp2) (vC 2 0 encExprX rfl rfl (fp2) (v8 (fun _ h=>h.exprG (k:=3) (n:=0) (r:=0) (wd:=wd1) (ms:=⟨none,0,[]⟩) (bs:=⟨A8,cp8,l⟩) (ks:=⟨(some ⟨b78,0,none⟩),1,([x2]:List zB)⟩) (fun _ _=>zD.zy _ _ _ _) (fun _ pp=>pp.sl 4 rfl) (fun _ pp=>pp.sl 2 rfl) (fun _ pp x hx=>by simp only [List.mem_cons,List.not_mem_nil,or_false] at hx; rcases hx with rfl <;> first | exact pp.at_ 3 _ rfl) (by first | decide | omega) (fun x hx=>by cases hx) (fun x hx=>by have:=Pz.byL_size 5 (by show _≤s.size; omega) hx4 (fun y hy=>by rw [List.mem_singleton.1 hy]; omega) x hx; omega)) (za (α:=Unit) (PT:=111) [Rb 114 p s j18 m14,.pub zP] [okP zB.Ok (zB.mk 3 0 0 wd1 ⟨none,0,[]⟩ ⟨A8,cp8,l⟩ ⟨(some ⟨b78,0,none⟩),1,([x2]:List zB)⟩),slP 7 zx (.slice (some ⟨b78,0,none⟩) 1 1) ([x2]:List zB),okP zB.Ok x2,slP 1 strE (.slice A8 l.length cp8) l,Row (.slice (some ⟨b54,0,none⟩) 1 1) 9 1 strE ([wd6]:List ByteArray),Row (.slice A1 Lg.totals.length cp1) 9 1 strE Lg.totals,.blk b6 [iV 3,iV 0,iV 0,.string wd1,Zs,.slice A8 l.length cp8,.slice (some ⟨b78,0,none⟩) 1 1] 59,.blk b4 Zx 59] (fun _:Unit=>.agg (List.toArray [iV 3,iV 0,iV 0,.string wd1,Zs,.slice A8 l.length cp8,.slice (some ⟨b78,0,none⟩) 1 1])) (fun z22=>m14 + 1≤100) (fun z22=>[Rb 114 p s j18 (m14 + 1),.pub zP]) _ (fun f20=>Pz.node ⟨j18,m14⟩=.no f20) (fun _=>rfl) (S9 [1,2,0,3,4,5,6,7,8,9]) (fun _=>rfl) wn rfl rfl call99 rfl (fun w1 Pb hG=>vt p s j18 m14 3 0 0 wd1 none 0 0 A8 l.length cp8 (some ⟨b78,0,none⟩) 1 1 Pb w1 hG qO qO qO) ?_ fun z22 hz24=>?_)))
   ·intro f20 hf20
    refine zU (zW fun w1 hM=>?_)
    exact hM.zi f20 (by first | (simp only [Pz.then_ok,Pz.then_no,Pz.St.go,lgc,Pz.all,Pz.bys,Pz.allTail,zB.e,zB.es,hz1e,he1,hz4e,he2,g1,g3,he11,he12,g5,hx4,he15,he16,he17,h1,h6,hf20]; done) | simp [Pz.then_ok,Pz.then_no,Pz.St.go,lgc,Pz.all,Pz.bys,Pz.allTail,zB.e,zB.es,hz1e,he1,hz4e,he2,g1,g3,he11,he12,g5,hx4,he15,he16,he17,h1,h6,hf20])
   have he18:Pz.node ⟨j18,m14⟩=.ok ⟨j18,m14 + 1⟩:=Pz.node_yes hz24
   refine (go 4) (zZ results181 fun w1 hM=>?_)
   have h9:Pz.all s (Pz.xpr s N) ⟨i,n⟩=.ok ((zB.mk 3 0 0 wd1 ⟨none,0,[]⟩ ⟨A8,cp8,l⟩ ⟨(some ⟨b78,0,none⟩),1,([x2]:List zB)⟩).e,⟨j18,(m14 + 1)⟩):=by first | (simp only [Pz.then_ok,Pz.then_no,Pz.St.go,lgc,Pz.all,Pz.bys,Pz.allTail,zB.e,zB.es,hz1e,he1,hz4e,he2,g1,g3,he11,he12,g5,hx4,he15,he16,he17,he18,h1,h6]; done) | simp [Pz.then_ok,Pz.then_no,Pz.St.go,lgc,Pz.all,Pz.bys,Pz.allTail,zB.e,zB.es,hz1e,he1,hz4e,he2,g1,g3,he11,he12,g5,hx4,he15,he16,he17,he18,h1,h6]
   exact hM.vg (((zB.mk 3 0 0 wd1 ⟨none,0,[]⟩ ⟨A8,cp8,l⟩ ⟨(some ⟨b78,0,none⟩),1,([x2]:List zB)⟩),⟨j18,(m14 + 1)⟩):zB × Pz.St) rfl ⟨h9,(Pz.all_fine (Pz.xpr_fine s N) hi).ok_ h9⟩ (fun h=>h.sel [0,1,2] qD rfl)
  refine ze (i:=4) rfl fun KN hKN hPN=>zu strE ([wd6]:List ByteArray) wn underlying56 inf9 rfl rfl rfl rfl qD qD rfl fun b54=>?_
  refine (go 1) ?_
  refine hKN _ _ (S9 [2,3,5]) (zg 3 1 (ze (i:=1) rfl fun KN hKN hPN=>?_))
  refine (go 2) ?_
  refine hKN _ _ (S9 [2,3,5]) (zg 2 5 (ze (i:=5) rfl fun KN hKN hPN=>yG (strE:ByteArray→List Value) 9 1 (yE 0 ([]:List ByteArray) ([wd6]:List ByteArray) encString wn rfl rfl rfl (fun _ hM=>(RowSl encString hM 1 rfl)) underlying56 inf9 rfl rfl (by simp only [qL]; omega) rfl fun A12 cp12 hc12 hm12 hA12=>?_)))
  refine (go 1) ?_
  refine hKN _ _ (S9 [3,4,6]) (yJ 1 [6] [3,4,6] rfl fun KS hKS=>?_)
  refine (go 1) ?_
  refine zk hKS (zg 0 7 (ze (i:=7) rfl fun KN hKN hPN=>?_))
  refine (go 2) ?_
  refine hKN _ _ (S9 [3,4,6]) ?_
  refine zr (by kernel_rfl) ((go 1) ?_)
  refine (go 1) ?_
  refine uQ (fun (l:List ByteArray) (k:Nat) (m:Int) (q:Nat) (rv:Value)=>[(0,.pointer (some ⟨p,0,none⟩)),(1,iV d),(4,.pointer (some ⟨b4,0,none⟩)),(6,.pointer (some ⟨b6,0,none⟩))]) (fun (l:List ByteArray) (k:Nat) (m:Int) (q:Nat) (rv:Value)=>[Row rv 9 1 strE l,Row (.slice (some ⟨b54,0,none⟩) 1 1) 9 1 strE ([wd6]:List ByteArray),Rb 114 p s k m,.pub zP,Row (.slice A1 Lg.totals.length cp1) 9 1 strE Lg.totals,.blk b6 [iV 3,iV 0,iV 0,.string wd1,Zs,rv,Zs] 59,.blk b4 Zx 59]) (fun (l:List ByteArray) (k:Nat) (m:Int) (q:Nat) (rv:Value)=>Pz.byL s 5 [wd6] ⟨j12,m9⟩=Pz.byL s (q + 1) l ⟨k,m⟩∧l.length + q=5∧l.length≤4∧k≤s.size∧m9≤m∧m≤100) (fun (l:List ByteArray) (k:Nat) (m:Int) (q:Nat) (rv:Value)=>q) (([]:List ByteArray)++([wd6]:List ByteArray)) j12 m9 4 (.slice A12 ((([]:List ByteArray)++([wd6]:List ByteArray)).length) cp12) (sc rfl (sc rfl (sc rfl (sc rfl sn)))) (fun _ h=>h) ?_ (fun l k m q rv hI3=>?_)
  ·exact ⟨rfl,rfl,by simp,by omega,by omega,by omega⟩
  refine yU 0 (l:=l) rfl fun A13 cp13 hv3 hc13 hm13 hA13=>?_
  subst hv3
  refine (go 4) ?_
  refine yR (α:=(Bool × Nat)) [Rb 114 p s k m,.pub zP] [Row (.slice A13 l.length cp13) 9 1 strE l,Row (.slice (some ⟨b54,0,none⟩) 1 1) 9 1 strE ([wd6]:List ByteArray),Row (.slice A1 Lg.totals.length cp1) 9 1 strE Lg.totals,.blk b6 [iV 3,iV 0,iV 0,.string wd1,Zs,.slice A13 l.length cp13,Zs] 59,.blk b4 Zx 59] (fun z:Bool × Nat=>.bool z.1) (fun z23=>(Pz.eat s ⟨#[44]⟩ k=z23∧k≤z23.2∧z23.2≤s.size)) (fun z23=>[Rb 114 p s z23.2 m,.pub zP]) _ (fun _=>rfl) (S9 [2,3,0,1,4,5,6]) (fun _=>rfl) wn rfl rfl call98 rfl (fun w1 Pb hG=>vy p s k m ⟨#[44]⟩ Pb w1 hG qO qO) fun z23 hz25=>?_
  obtain ⟨bo3,j19⟩:=z23
  have he19:Pz.eat s ⟨#[44]⟩ k=(bo3,j19):=hz25.1
  have hz25a:k≤j19:=hz25.2.1
  have hz25b:j19≤s.size:=hz25.2.2
  refine vE (.bool bo3) ?_
  refine (go 2) (yf (fun h8=>?_) fun h8=>?_)
  ·have hx5:=hI3.1
   refine (go 12) (zX (fun h9=>?_) fun h9=>?_)
   ·refine (go 2) ?_
    refine za (α:=Unit) (PT:=111) [Rb 114 p s j19 m,.pub zP] [Row (.slice A13 l.length cp13) 9 1 strE l,Row (.slice (some ⟨b54,0,none⟩) 1 1) 9 1 strE ([wd6]:List ByteArray),Row (.slice A1 Lg.totals.length cp1) 9 1 strE Lg.totals,.blk b6 [iV 3,iV 0,iV 0,.string wd1,Zs,.slice A13 l.length cp13,Zs] 59,.blk b4 Zx 59] (fun _:Unit=>.tuple #[]) (fun z24=>False) (fun z24=>[Rb 114 p s j19 m,.pub zP]) _ (fun f21=>f21=(5,(j19:Int))) (fun _=>rfl) (S9 [0,1,2,3,4,5,6]) (fun _=>rfl) wn rfl rfl call54 rfl (fun w1 Pb hG=>yl p s j19 m 5 Pb w1 hG) ?_ fun z24 hz26=>?_
    ·intro f21 hf21
     refine zU (yD (yW (yD (zU (zW fun w1 hM=>?_)))))
     have hY:=Pz.by_many hx5 (by rw [he19,h8]) h9
     exact hM.zi f21 (by simp only [Pz.then_ok,Pz.then_no,Pz.St.go,lgc,Pz.all,Pz.bys,Pz.allTail,zB.e,zB.es,hz1e,he1,hz4e,he2,g1,g3,he11,he19,h1,hY,hf21])
    exact hz26.elim
   refine (go 2) ?_
   refine yL (Mem w ⟨fpOf [Rb 114 p s i n,.pub zP],Pb⟩ [.pub zP,Row (.slice (some ⟨b54,0,none⟩) 1 1) 9 1 strE ([wd6]:List ByteArray),Row (.slice A1 Lg.totals.length cp1) 9 1 strE Lg.totals,.blk b4 Zx 59]) mix (fun _ h=>h.drew) rfl (yJ 6 [0,2] [1,3,4,6] rfl fun KS hKS=>?_)
   refine (go 2) ?_
   refine zk hKS (yT (f:=5) (i:=1) (j:=3) rfl (by kernel_rfl) ?_ ?_)
   ·refine ze (i:=1) rfl fun KN hKN hPN=>?_
    refine (go 2) ?_
    refine hKN _ _ (S9 [1,3,4,6]) (zg 4 3 (ze (i:=3) rfl fun KN hKN hPN=>za (α:=ByteArray × Pz.St) (PT:=111) [Rb 114 p s j19 m,.pub zP] [Row (.slice A13 l.length cp13) 9 1 strE l,Row (.slice (some ⟨b54,0,none⟩) 1 1) 9 1 strE ([wd6]:List ByteArray),Row (.slice A1 Lg.totals.length cp1) 9 1 strE Lg.totals,.blk b6 [iV 3,iV 0,iV 0,.string wd1,Zs,.slice A13 l.length cp13,Zs] 59,.blk b4 Zx 59] (fun z:ByteArray × Pz.St=>.string z.1) (fun z25=>Pz.name s ⟨j19,m⟩=.ok z25∧Pz.Good s ⟨j19,m⟩ z25.2) (fun z25=>[Rb 114 p s z25.2.at_ z25.2.nd,.pub zP]) _ (fun f22=>Pz.name s ⟨j19,m⟩=.no f22) (fun _=>rfl) (S9 [0,1,2,3,4,5,6]) (fun _=>rfl) wn rfl rfl call211 rfl (fun w1 Pb hG=>vJ p s j19 m  Pb w1 hG qO qO qO ) ?_ fun z25 hz27=>?_))
    ·intro f22 hf22
     refine yr hPN (yD (yW (yD (zU (zW fun w1 hM=>?_)))))
     have hY:=Pz.by_next hx5 (by rw [he19,h8]) h9 hf22
     rw [Pz.then_no] at hY
     exact hM.zi f22 (by simp only [Pz.then_ok,Pz.then_no,Pz.St.go,lgc,Pz.all,Pz.bys,Pz.allTail,zB.e,zB.es,hz1e,he1,hz4e,he2,g1,g3,he11,he19,h1,hY])
    obtain ⟨wd9,j20,m15⟩:=z25
    have he20:Pz.name s ⟨j19,m⟩=.ok (wd9,⟨j20,m15⟩):=hz27.1
    have ga15:j20≤s.size:=hz27.2.at_
    have gm15:m≤m15:=hz27.2.mono
    have gn15:m15≤100:=hz27.2.most (show m≤100 by omega)
    have wz9:wd9.size≤12:=Pz.name_size (t:=⟨j19,m⟩) (show j19≤_ by omega) he20
    refine vE (.string wd9) ?_
    refine (go 1) ?_
    refine hKN _ _ (S9 [1,3,4,6]) (zg 3 4 (ze (i:=4) rfl fun KN hKN hPN=>zu strE ([wd9]:List ByteArray) wn underlying56 inf9 rfl rfl rfl rfl qD qD rfl fun b69=>?_))
    refine (go 1) ?_
    refine hKN _ _ (S9 [2,4,5,7]) (zg 2 5 (ze (i:=5) rfl fun KN hKN hPN=>yE 3 l ([wd9]:List ByteArray) encString wn rfl rfl rfl (fun _ hM=>(RowSl encString hM 0 rfl)) underlying56 inf9 rfl rfl (by simp only [qL]; omega) rfl fun A14 cp14 hc14 hm14 hA14=>?_))
    refine (go 1) ?_
    refine hKN _ _ (S9 [2,4,5,7]) (yJ 1 [6] [2,4,5,7] rfl fun KS hKS=>?_)
    refine (go 1) ?_
    refine zk hKS (zg 0 7 (ze (i:=7) rfl fun KN hKN hPN=>?_))
    refine (go 2) ?_
    refine hKN _ _ (S9 [2,4,5,7]) (zr (by kernel_rfl) (yM (yY (l++([wd9]:List ByteArray)) j20 m15 (q - 1) (.slice A14 ((l++([wd9]:List ByteArray)).length) cp14) (sc rfl (sc rfl (sc rfl (sc rfl sn)))) (S9 [3,4,1,2,5,6,7]) ?_ ?_)))
    ·have hY:=Pz.by_next hx5 (by rw [he19,h8]) h9 he20
     rw [Pz.then_ok] at hY
     exact ⟨hY.trans (by rw [show q - 1 + 1=q by omega]),by simp only [qL]; omega,by simp only [qL]; omega,by omega,by omega,by omega⟩
    omega
   refine ze (i:=3) rfl fun KN hKN hPN=>za (α:=ByteArray × Pz.St) (PT:=111) [Rb 114 p s j19 m,.pub zP] [Row (.slice A13 l.length cp13) 9 1 strE l,Row (.slice (some ⟨b54,0,none⟩) 1 1) 9 1 strE ([wd6]:List ByteArray),Row (.slice A1 Lg.totals.length cp1) 9 1 strE Lg.totals,.blk b6 [iV 3,iV 0,iV 0,.string wd1,Zs,.slice A13 l.length cp13,Zs] 59,.blk b4 Zx 59] (fun z:ByteArray × Pz.St=>.string z.1) (fun z26=>Pz.name s ⟨j19,m⟩=.ok z26∧Pz.Good s ⟨j19,m⟩ z26.2) (fun z26=>[Rb 114 p s z26.2.at_ z26.2.nd,.pub zP]) _ (fun f23=>Pz.name s ⟨j19,m⟩=.no f23) (fun _=>rfl) (S9 [0,1,2,3,4,5,6]) (fun _=>rfl) wn rfl rfl call211 rfl (fun w1 Pb hG=>vJ p s j19 m  Pb w1 hG qO qO qO ) ?_ fun z26 hz28=>?_
   ·intro f23 hf23
    refine yr hPN (yD (yW (yD (zU (zW fun w1 hM=>?_)))))
    have hY:=Pz.by_next hx5 (by rw [he19,h8]) h9 hf23
    rw [Pz.then_no] at hY
    exact hM.zi f23 (by simp only [Pz.then_ok,Pz.then_no,Pz.St.go,lgc,Pz.all,Pz.bys,Pz.allTail,zB.e,zB.es,hz1e,he1,hz4e,he2,g1,g3,he11,he19,h1,hY])
   obtain ⟨wd10,j21,m16⟩:=z26
   have he21:Pz.name s ⟨j19,m⟩=.ok (wd10,⟨j21,m16⟩):=hz28.1
   have ga16:j21≤s.size:=hz28.2.at_
   have gm16:m≤m16:=hz28.2.mono
   have gn16:m16≤100:=hz28.2.most (show m≤100 by omega)
   have wz10:wd10.size≤12:=Pz.name_size (t:=⟨j19,m⟩) (show j19≤_ by omega) he21
   refine vE (.string wd10) ?_
   refine (go 1) ?_
   refine hKN _ _ (S9 [1,3,4,6]) (yT (f:=4) (i:=1) (j:=4) rfl (by kernel_rfl) ?_ ?_)
   ·refine ze (i:=1) rfl fun KN hKN hPN=>?_
    refine (go 2) ?_
    refine hKN _ _ (S9 [1,3,4,6]) (zg 3 4 (ze (i:=4) rfl fun KN hKN hPN=>zu strE ([wd10]:List ByteArray) wn underlying56 inf9 rfl rfl rfl rfl qD qD rfl fun b69=>?_))
    refine (go 1) ?_
    refine hKN _ _ (S9 [2,4,5,7]) (zg 2 5 (ze (i:=5) rfl fun KN hKN hPN=>yE 3 l ([wd10]:List ByteArray) encString wn rfl rfl rfl (fun _ hM=>(RowSl encString hM 0 rfl)) underlying56 inf9 rfl rfl (by simp only [qL]; omega) rfl fun A15 cp15 hc15 hm15 hA15=>?_))
    refine (go 1) ?_
    refine hKN _ _ (S9 [2,4,5,7]) (yJ 1 [6] [2,4,5,7] rfl fun KS hKS=>?_)
    refine (go 1) ?_
    refine zk hKS (zg 0 7 (ze (i:=7) rfl fun KN hKN hPN=>?_))
    refine (go 2) ?_
    refine hKN _ _ (S9 [2,4,5,7]) (zr (by kernel_rfl) (yM (yY (l++([wd10]:List ByteArray)) j21 m16 (q - 1) (.slice A15 ((l++([wd10]:List ByteArray)).length) cp15) (sc rfl (sc rfl (sc rfl (sc rfl sn)))) (S9 [3,4,1,2,5,6,7]) ?_ ?_)))
    ·have hY:=Pz.by_next hx5 (by rw [he19,h8]) h9 he21
     rw [Pz.then_ok] at hY
     exact ⟨hY.trans (by rw [show q - 1 + 1=q by omega]),by simp only [qL]; omega,by simp only [qL]; omega,by omega,by omega,by omega⟩
    omega
   refine ze (i:=4) rfl fun KN hKN hPN=>zu strE ([wd10]:List ByteArray) wn underlying56 inf9 rfl rfl rfl rfl qD qD rfl fun b69=>?_
   refine (go 1) ?_
   refine hKN _ _ (S9 [2,4,5,7]) (zg 3 1 (ze (i:=1) rfl fun KN hKN hPN=>?_))
   refine (go 2) ?_
   refine hKN _ _ (S9 [2,4,5,7]) (zg 2 5 (ze (i:=5) rfl fun KN hKN hPN=>yE 3 l ([wd10]:List ByteArray) encString wn rfl rfl rfl (fun _ hM=>(RowSl encString hM 0 rfl)) underlying56 inf9 rfl rfl (by simp only [qL]; omega) rfl fun A16 cp16 hc16 hm16 hA16=>?_))
   refine (go 1) ?_
   refine hKN _ _ (S9 [2,4,5,7]) (yJ 1 [6] [2,4,5,7] rfl fun KS hKS=>?_)
   refine (go 1) ?_
   refine zk hKS (zg 0 7 (ze (i:=7) rfl fun KN hKN hPN=>?_))
   refine (go 2) ?_
   refine hKN _ _ (S9 [2,4,5,7]) (zr (by kernel_rfl) (yM (yY (l++([wd10]:List ByteArray)) j21 m16 (q - 1) (.slice A16 ((l++([wd10]:List ByteArray)).length) cp16) (sc rfl (sc rfl (sc rfl (sc rfl sn)))) (S9 [3,4,1,2,5,6,7]) ?_ ?_)))
   ·have hY:=Pz.by_next hx5 (by rw [he19,h8]) h9 he21
    rw [Pz.then_ok] at hY
    exact ⟨hY.trans (by rw [show q - 1 + 1=q by omega]),by simp only [qL]; omega,by simp only [qL]; omega,by omega,by omega,by omega⟩
   omega
  have g6:bo3=false:=by simpa using h8
  have hx6:=Pz.by_done hI3.1 (by rw [he19,g6])
  refine (go 8) ?_
  refine za (α:=Pz.St) (PT:=111) [Rb 114 p s j19 m,.pub zP] [Row (.slice A13 l.length cp13) 9 1 strE l,Row (.slice (some ⟨b54,0,none⟩) 1 1) 9 1 strE ([wd6]:List ByteArray),Row (.slice A1 Lg.totals.length cp1) 9 1 strE Lg.totals,.blk b6 [iV 3,iV 0,iV 0,.string wd1,Zs,.slice A13 l.length cp13,Zs] 59,.blk b4 Zx 59] (fun z:Pz.St=>.tuple #[]) (fun z27=>Pz.must s ⟨#[40]⟩ ⟨j19,m⟩=.ok z27∧Pz.Good s ⟨j19,m⟩ z27) (fun z27=>[Rb 114 p s z27.at_ z27.nd,.pub zP]) _ (fun f24=>Pz.must s ⟨#[40]⟩ ⟨j19,m⟩=.no f24) (fun _=>rfl) (S9 [0,1,2,3,4,5,6]) (fun _=>rfl) wn rfl rfl call179 rfl (fun w1 Pb hG=>y6 p s j19 m ⟨#[40]⟩ Pb w1 hG qO qO qO ) ?_ fun z27 hz29=>?_
  ·intro f24 hf24
   refine zU (zW fun w1 hM=>?_)
   exact hM.zi f24 (by first | (simp only [Pz.then_ok,Pz.then_no,Pz.St.go,lgc,Pz.all,Pz.bys,Pz.allTail,zB.e,zB.es,hz1e,he1,hz4e,he2,g1,g3,he11,he19,g6,hx6,h1,h8,hf24]; done) | simp [Pz.then_ok,Pz.then_no,Pz.St.go,lgc,Pz.all,Pz.bys,Pz.allTail,zB.e,zB.es,hz1e,he1,hz4e,he2,g1,g3,he11,he19,g6,hx6,h1,h8,hf24])
  obtain ⟨j22,m17⟩:=z27
  have he22:Pz.must s ⟨#[40]⟩ ⟨j19,m⟩=.ok ⟨j22,m17⟩:=hz29.1
  have ga17:j22≤s.size:=hz29.2.at_
  have gm17:m≤m17:=hz29.2.mono
  have gn17:m17≤100:=hz29.2.most (show m≤100 by omega)
  refine (go 7) ?_
  refine za (α:=zB × Pz.St) (PT:=111) [Rb 114 p s j22 m17,.pub zP] [Row (.slice A13 l.length cp13) 9 1 strE l,Row (.slice (some ⟨b54,0,none⟩) 1 1) 9 1 strE ([wd6]:List ByteArray),Row (.slice A1 Lg.totals.length cp1) 9 1 strE Lg.totals,.blk b6 [iV 3,iV 0,iV 0,.string wd1,Zs,.slice A13 l.length cp13,Zs] 59,.blk b4 Zx 59] (fun z:zB × Pz.St=>.agg (zx z.1).toArray) (fun z28=>Pz.xpr s N ⟨j22,m17⟩=.ok (z28.1.e,z28.2)∧Pz.Good s ⟨j22,m17⟩ z28.2) (fun z28=>[Rb 114 p s z28.2.at_ z28.2.nd,.pub zP,okP zB.Ok z28.1]) _ (fun f25=>Pz.xpr s N ⟨j22,m17⟩=.no f25) (fun _=>rfl) (S9 [0,1,2,3,4,5,6]) (fun _=>rfl) wn rfl rfl call52 rfl (fun w1 Pb hG=>ih p s j22 m17 (d + 1) Pb w1 hG qO qO qO qO qO) ?_ fun z28 hz30=>?_
  ·intro f25 hf25
   refine zU (zW fun w1 hM=>?_)
   exact hM.zi f25 (by first | (simp only [Pz.then_ok,Pz.then_no,Pz.St.go,lgc,Pz.all,Pz.bys,Pz.allTail,zB.e,zB.es,hz1e,he1,hz4e,he2,g1,g3,he11,he19,g6,hx6,he22,h1,h8,hf25]; done) | simp [Pz.then_ok,Pz.then_no,Pz.St.go,lgc,Pz.all,Pz.bys,Pz.allTail,zB.e,zB.es,hz1e,he1,hz4e,he2,g1,g3,he11,he19,g6,hx6,he22,h1,h8,hf25])
  obtain ⟨x3,j23,m18⟩:=z28
  have he23:Pz.xpr s N ⟨j22,m17⟩=.ok (x3.e,⟨j23,m18⟩):=hz30.1
  have ga18:j23≤s.size:=hz30.2.at_
  have gm18:m17≤m18:=hz30.2.mono
  have gn18:m18≤100:=hz30.2.most (show m17≤100 by omega)
  refine zu zx ([x3]:List zB) wn underlying57 inf59 rfl rfl rfl rfl qD qD rfl fun b78=>?_
  refine (go 7) ?_
  refine za (α:=Pz.St) (PT:=111) [Rb 114 p s j23 m18,.pub zP] [Row (.slice (some ⟨b78,0,none⟩) 1 1) 59 7 zx ([x3]:List zB),okP zB.Ok x3,Row (.slice A13 l.length cp13) 9 1 strE l,Row (.slice (some ⟨b54,0,none⟩) 1 1) 9 1 strE ([wd6]:List ByteArray),Row (.slice A1 Lg.totals.length cp1) 9 1 strE Lg.totals,.blk b6 [iV 3,iV 0,iV 0,.string wd1,Zs,.slice A13 l.length cp13,.slice (some ⟨b78,0,none⟩) 1 1] 59,.blk b4 Zx 59] (fun z:Pz.St=>.tuple #[]) (fun z29=>Pz.must s ⟨#[41]⟩ ⟨j23,m18⟩=.ok z29∧Pz.Good s ⟨j23,m18⟩ z29) (fun z29=>[Rb 114 p s z29.at_ z29.nd,.pub zP]) _ (fun f26=>Pz.must s ⟨#[41]⟩ ⟨j23,m18⟩=.no f26) (fun _=>rfl) (S9 [1,2,0,3,4,5,6,7,8]) (fun _=>rfl) wn rfl rfl call179 rfl (fun w1 Pb hG=>y6 p s j23 m18 ⟨#[41]⟩ Pb w1 hG qO qO qO ) ?_ fun z29 hz31=>?_
  ·intro f26 hf26
   refine zU (zW fun w1 hM=>?_)
   exact hM.zi f26 (by first | (simp only [Pz.then_ok,Pz.then_no,Pz.St.go,lgc,Pz.all,Pz.bys,Pz.allTail,zB.e,zB.es,hz1e,he1,hz4e,he2,g1,g3,he11,he19,g6,hx6,he22,he23,h1,h8,hf26]; done) | simp [Pz.then_ok,Pz.then_no,Pz.St.go,lgc,Pz.all,Pz.bys,Pz.allTail,zB.e,zB.es,hz1e,he1,hz4e,he2,g1,g3,he11,he19,g6,hx6,he22,he23,h1,h8,hf26])
  obtain ⟨j24,m19⟩:=z29
  have he24:Pz.must s ⟨#[41]⟩ ⟨j23,m18⟩=.ok ⟨j24,m19⟩:=hz31.1
  have ga19:j24≤s.size:=hz31.2.at_
  have gm19:m18≤m19:=hz31.2.mono
  have gn19:m19≤100:=hz31.2.most (show m18≤100 by omega)
  refine (go 6) ?_
  refine vC 4 0 encString rfl rfl (fp2) (vC 2 0 encExprX rfl rfl (fp2) (v8 (fun _ h=>h.exprG (k:=3) (n:=0) (r:=0) (wd:=wd1) (ms:=⟨none,0,[]⟩) (bs:=⟨A13,cp13,l⟩) (ks:=⟨(some ⟨b78,0,none⟩),1,([x3]:List zB)⟩) (fun _ _=>zD.zy _ _ _ _) (fun _ pp=>pp.sl 4 rfl) (fun _ pp=>pp.sl 2 rfl) (fun _ pp x hx=>by simp only [List.mem_cons,List.not_mem_nil,or_false] at hx; rcases hx with rfl <;> first | exact pp.at_ 3 _ rfl) (by first | decide | omega) (fun x hx=>by cases hx) (fun x hx=>by have:=Pz.byL_size 5 (by show _≤s.size; omega) hx6 (fun y hy=>by rw [List.mem_singleton.1 hy]; omega) x hx; omega)) (za (α:=Unit) (PT:=111) [Rb 114 p s j24 m19,.pub zP] [okP zB.Ok (zB.mk 3 0 0 wd1 ⟨none,0,[]⟩ ⟨A13,cp13,l⟩ ⟨(some ⟨b78,0,none⟩),1,([x3]:List zB)⟩),slP 7 zx (.slice (some ⟨b78,0,none⟩) 1 1) ([x3]:List zB),okP zB.Ok x3,slP 1 strE (.slice A13 l.length cp13) l,Row (.slice (some ⟨b54,0,none⟩) 1 1) 9 1 strE ([wd6]:List ByteArray),Row (.slice A1 Lg.totals.length cp1) 9 1 strE Lg.totals,.blk b6 [iV 3,iV 0,iV 0,.string wd1,Zs,.slice A13 l.length cp13,.slice (some ⟨b78,0,none⟩) 1 1] 59,.blk b4 Zx 59] (fun _:Unit=>.agg (List.toArray [iV 3,iV 0,iV 0,.string wd1,Zs,.slice A13 l.length cp13,.slice (some ⟨b78,0,none⟩) 1 1])) (fun z30=>m19 + 1≤100) (fun z30=>[Rb 114 p s j24 (m19 + 1),.pub zP]) _ (fun f27=>Pz.node ⟨j24,m19⟩=.no f27) (fun _=>rfl) (S9 [1,2,0,3,4,5,6,7,8,9]) (fun _=>rfl) wn rfl rfl call99 rfl (fun w1 Pb hG=>vt p s j24 m19 3 0 0 wd1 none 0 0 A13 l.length cp13 (some ⟨b78,0,none⟩) 1 1 Pb w1 hG qO qO qO) ?_ fun z30 hz32=>?_)))
  ·intro f27 hf27
   refine zU (zW fun w1 hM=>?_)
   exact hM.zi f27 (by first | (simp only [Pz.then_ok,Pz.then_no,Pz.St.go,lgc,Pz.all,Pz.bys,Pz.allTail,zB.e,zB.es,hz1e,he1,hz4e,he2,g1,g3,he11,he19,g6,hx6,he22,he23,he24,h1,h8,hf27]; done) | simp [Pz.then_ok,Pz.then_no,Pz.St.go,lgc,Pz.all,Pz.bys,Pz.allTail,zB.e,zB.es,hz1e,he1,hz4e,he2,g1,g3,he11,he19,g6,hx6,he22,he23,he24,h1,h8,hf27])
  have he25:Pz.node ⟨j24,m19⟩=.ok ⟨j24,m19 + 1⟩:=Pz.node_yes hz32
  refine (go 4) (zZ results181 fun w1 hM=>?_)
  have h9:Pz.all s (Pz.xpr s N) ⟨i,n⟩=.ok ((zB.mk 3 0 0 wd1 ⟨none,0,[]⟩ ⟨A13,cp13,l⟩ ⟨(some ⟨b78,0,none⟩),1,([x3]:List zB)⟩).e,⟨j24,(m19 + 1)⟩):=by first | (simp only [Pz.then_ok,Pz.then_no,Pz.St.go,lgc,Pz.all,Pz.bys,Pz.allTail,zB.e,zB.es,hz1e,he1,hz4e,he2,g1,g3,he11,he19,g6,hx6,he22,he23,he24,he25,h1,h8]; done) | simp [Pz.then_ok,Pz.then_no,Pz.St.go,lgc,Pz.all,Pz.bys,Pz.allTail,zB.e,zB.es,hz1e,he1,hz4e,he2,g1,g3,he11,he19,g6,hx6,he22,he23,he24,he25,h1,h8]
  exact hM.vg (((zB.mk 3 0 0 wd1 ⟨none,0,[]⟩ ⟨A13,cp13,l⟩ ⟨(some ⟨b78,0,none⟩),1,([x3]:List zB)⟩),⟨j24,(m19 + 1)⟩):zB × Pz.St) rfl ⟨h9,(Pz.all_fine (Pz.xpr_fine s N) hi).ok_ h9⟩ (fun h=>h.sel [0,1,2] qD rfl)
 have g7:(wd2=⟨#[]⟩)=True:=eq_true (Classical.not_not.1 h2)
 refine (go 12) ?_
 refine yh rfl (decide_eq_false (by rw [Classical.not_not.1 h2]; decide)) ?_
 refine (go 4) ?_
 have g8:(wd2=⟨#[98,121]⟩)=False:=eq_false (by rw [Classical.not_not.1 h2]; decide)
 refine (go 1) ?_
 refine za (α:=Pz.St) (PT:=111) [Rb 114 p s j4 m2,.pub zP] [Row (.slice A1 Lg.totals.length cp1) 9 1 strE Lg.totals,.blk b6 [iV 3,iV 0,iV 0,.string wd1,Zs,Zs,Zs] 59,.blk b4 Zx 59] (fun z:Pz.St=>.tuple #[]) (fun z31=>Pz.must s ⟨#[40]⟩ ⟨j4,m2⟩=.ok z31∧Pz.Good s ⟨j4,m2⟩ z31) (fun z31=>[Rb 114 p s z31.at_ z31.nd,.pub zP]) _ (fun f28=>Pz.must s ⟨#[40]⟩ ⟨j4,m2⟩=.no f28) (fun _=>rfl) (S9 [0,1,2,3,4]) (fun _=>rfl) wn rfl rfl call179 rfl (fun w1 Pb hG=>y6 p s j4 m2 ⟨#[40]⟩ Pb w1 hG qO qO qO ) ?_ fun z31 hz33=>?_
 ·intro f28 hf28
  refine zU (zW fun w1 hM=>?_)
  exact hM.zi f28 (by first | (simp only [Pz.then_ok,Pz.then_no,Pz.St.go,lgc,Pz.all,Pz.bys,Pz.allTail,zB.e,zB.es,hz1e,he1,hz4e,he2,g7,g8,h1,hf28]; done) | simp [Pz.then_ok,Pz.then_no,Pz.St.go,lgc,Pz.all,Pz.bys,Pz.allTail,zB.e,zB.es,hz1e,he1,hz4e,he2,g7,g8,h1,hf28])
 obtain ⟨j25,m20⟩:=z31
 have he26:Pz.must s ⟨#[40]⟩ ⟨j4,m2⟩=.ok ⟨j25,m20⟩:=hz33.1
 have ga20:j25≤s.size:=hz33.2.at_
 have gm20:m2≤m20:=hz33.2.mono
 have gn20:m20≤100:=hz33.2.most (show m2≤100 by omega)
 refine (go 7) ?_
 refine za (α:=zB × Pz.St) (PT:=111) [Rb 114 p s j25 m20,.pub zP] [Row (.slice A1 Lg.totals.length cp1) 9 1 strE Lg.totals,.blk b6 [iV 3,iV 0,iV 0,.string wd1,Zs,Zs,Zs] 59,.blk b4 Zx 59] (fun z:zB × Pz.St=>.agg (zx z.1).toArray) (fun z32=>Pz.xpr s N ⟨j25,m20⟩=.ok (z32.1.e,z32.2)∧Pz.Good s ⟨j25,m20⟩ z32.2) (fun z32=>[Rb 114 p s z32.2.at_ z32.2.nd,.pub zP,okP zB.Ok z32.1]) _ (fun f29=>Pz.xpr s N ⟨j25,m20⟩=.no f29) (fun _=>rfl) (S9 [0,1,2,3,4]) (fun _=>rfl) wn rfl rfl call52 rfl (fun w1 Pb hG=>ih p s j25 m20 (d + 1) Pb w1 hG qO qO qO qO qO) ?_ fun z32 hz34=>?_
 ·intro f29 hf29
  refine zU (zW fun w1 hM=>?_)
  exact hM.zi f29 (by first | (simp only [Pz.then_ok,Pz.then_no,Pz.St.go,lgc,Pz.all,Pz.bys,Pz.allTail,zB.e,zB.es,hz1e,he1,hz4e,he2,g7,g8,he26,h1,hf29]; done) | simp [Pz.then_ok,Pz.then_no,Pz.St.go,lgc,Pz.all,Pz.bys,Pz.allTail,zB.e,zB.es,hz1e,he1,hz4e,he2,g7,g8,he26,h1,hf29])
 obtain ⟨x4,j26,m21⟩:=z32
 have he27:Pz.xpr s N ⟨j25,m20⟩=.ok (x4.e,⟨j26,m21⟩):=hz34.1
 have ga21:j26≤s.size:=hz34.2.at_
 have gm21:m20≤m21:=hz34.2.mono
 have gn21:m21≤100:=hz34.2.most (show m20≤100 by omega)
 refine zu zx ([x4]:List zB) wn underlying57 inf59 rfl rfl rfl rfl qD qD rfl fun b78=>?_
 refine (go 7) ?_
 refine za (α:=Pz.St) (PT:=111) [Rb 114 p s j26 m21,.pub zP] [Row (.slice (some ⟨b78,0,none⟩) 1 1) 59 7 zx ([x4]:List zB),okP zB.Ok x4,Row (.slice A1 Lg.totals.length cp1) 9 1 strE Lg.totals,.blk b6 [iV 3,iV 0,iV 0,.string wd1,Zs,Zs,.slice (some ⟨b78,0,none⟩) 1 1] 59,.blk b4 Zx 59] (fun z:Pz.St=>.tuple #[]) (fun z33=>Pz.must s ⟨#[41]⟩ ⟨j26,m21⟩=.ok z33∧Pz.Good s ⟨j26,m21⟩ z33) (fun z33=>[Rb 114 p s z33.at_ z33.nd,.pub zP]) _ (fun f30=>Pz.must s ⟨#[41]⟩ ⟨j26,m21⟩=.no f30) (fun _=>rfl) (S9 [1,2,0,3,4,5,6]) (fun _=>rfl) wn rfl rfl call179 rfl (fun w1 Pb hG=>y6 p s j26 m21 ⟨#[41]⟩ Pb w1 hG qO qO qO ) ?_ fun z33 hz35=>?_
 ·intro f30 hf30
  refine zU (zW fun w1 hM=>?_)
  exact hM.zi f30 (by first | (simp only [Pz.then_ok,Pz.then_no,Pz.St.go,lgc,Pz.all,Pz.bys,Pz.allTail,zB.e,zB.es,hz1e,he1,hz4e,he2,g7,g8,he26,he27,h1,hf30]; done) | simp [Pz.then_ok,Pz.then_no,Pz.St.go,lgc,Pz.all,Pz.bys,Pz.allTail,zB.e,zB.es,hz1e,he1,hz4e,he2,g7,g8,he26,he27,h1,hf30])
 obtain ⟨j27,m22⟩:=z33
 have he28:Pz.must s ⟨#[41]⟩ ⟨j26,m21⟩=.ok ⟨j27,m22⟩:=hz35.1
 have ga22:j27≤s.size:=hz35.2.at_
 have gm22:m21≤m22:=hz35.2.mono
 have gn22:m22≤100:=hz35.2.most (show m21≤100 by omega)
 refine (go 6) ?_
 refine vC 2 0 encExprX rfl rfl (fp2) (v8 (fun _ h=>h.exprG (k:=3) (n:=0) (r:=0) (wd:=wd1) (ms:=⟨none,0,[]⟩) (bs:=⟨none,0,[]⟩) (ks:=⟨(some ⟨b78,0,none⟩),1,([x4]:List zB)⟩) (fun _ _=>zD.zy _ _ _ _) (fun _ _=>zD.zy _ _ _ _) (fun _ pp=>pp.sl 2 rfl) (fun _ pp x hx=>by simp only [List.mem_cons,List.not_mem_nil,or_false] at hx; rcases hx with rfl <;> first | exact pp.at_ 3 _ rfl) (by first | decide | omega) (fun x hx=>by cases hx) (fun x hx=>by cases hx)) (za (α:=Unit) (PT:=111) [Rb 114 p s j27 m22,.pub zP] [okP zB.Ok (zB.mk 3 0 0 wd1 ⟨none,0,[]⟩ ⟨none,0,[]⟩ ⟨(some ⟨b78,0,none⟩),1,([x4]:List zB)⟩),slP 7 zx (.slice (some ⟨b78,0,none⟩) 1 1) ([x4]:List zB),okP zB.Ok x4,Row (.slice A1 Lg.totals.length cp1) 9 1 strE Lg.totals,.blk b6 [iV 3,iV 0,iV 0,.string wd1,Zs,Zs,.slice (some ⟨b78,0,none⟩) 1 1] 59,.blk b4 Zx 59] (fun _:Unit=>.agg (List.toArray [iV 3,iV 0,iV 0,.string wd1,Zs,Zs,.slice (some ⟨b78,0,none⟩) 1 1])) (fun z34=>m22 + 1≤100) (fun z34=>[Rb 114 p s j27 (m22 + 1),.pub zP]) _ (fun f31=>Pz.node ⟨j27,m22⟩=.no f31) (fun _=>rfl) (S9 [1,2,0,3,4,5,6,7]) (fun _=>rfl) wn rfl rfl call99 rfl (fun w1 Pb hG=>vt p s j27 m22 3 0 0 wd1 none 0 0 none 0 0 (some ⟨b78,0,none⟩) 1 1 Pb w1 hG qO qO qO) ?_ fun z34 hz36=>?_))
 ·intro f31 hf31
  refine zU (zW fun w1 hM=>?_)
  exact hM.zi f31 (by first | (simp only [Pz.then_ok,Pz.then_no,Pz.St.go,lgc,Pz.all,Pz.bys,Pz.allTail,zB.e,zB.es,hz1e,he1,hz4e,he2,g7,g8,he26,he27,he28,h1,hf31]; done) | simp [Pz.then_ok,Pz.then_no,Pz.St.go,lgc,Pz.all,Pz.bys,Pz.allTail,zB.e,zB.es,hz1e,he1,hz4e,he2,g7,g8,he26,he27,he28,h1,hf31])
 have he29:Pz.node ⟨j27,m22⟩=.ok ⟨j27,m22 + 1⟩:=Pz.node_yes hz36
 refine (go 4) (zZ results181 fun w1 hM=>?_)
 have h9:Pz.all s (Pz.xpr s N) ⟨i,n⟩=.ok ((zB.mk 3 0 0 wd1 ⟨none,0,[]⟩ ⟨none,0,[]⟩ ⟨(some ⟨b78,0,none⟩),1,([x4]:List zB)⟩).e,⟨j27,(m22 + 1)⟩):=by first | (simp only [Pz.then_ok,Pz.then_no,Pz.St.go,lgc,Pz.all,Pz.bys,Pz.allTail,zB.e,zB.es,hz1e,he1,hz4e,he2,g7,g8,he26,he27,he28,he29,h1]; done) | simp [Pz.then_ok,Pz.then_no,Pz.St.go,lgc,Pz.all,Pz.bys,Pz.allTail,zB.e,zB.es,hz1e,he1,hz4e,he2,g7,g8,he26,he27,he28,he29,h1]
 exact hM.vg (((zB.mk 3 0 0 wd1 ⟨none,0,[]⟩ ⟨none,0,[]⟩ ⟨(some ⟨b78,0,none⟩),1,([x4]:List zB)⟩),⟨j27,(m22 + 1)⟩):zB × Pz.St) rfl ⟨h9,(Pz.all_fine (Pz.xpr_fine s N) hi).ok_ h9⟩ (fun h=>h.sel [0,1,2] qD rfl)
set_option maxHeartbeats 2000000 in
theorem c_factor (p:Nat) (s:ByteArray) (i:Nat) (n:Int) (d:Int) (N:Nat) (Pb:Nat→Prop) (w:World) (hG:Mem w ⟨fpOf [Rb 114 p s i n,.pub zP],Pb⟩ [Rb 114 p s i n,.pub zP] w) (hi:i≤s.size) (hs:s.size≤2000) (hn:0≤n∧n≤100) (hd:d + (N:Int)=21) (hd1:1≤d) (ih:∀ M,N=M + 1→XprC M) :
    Calls prog 147 #[.pointer (some ⟨p,0,none⟩),iV d] w (RetX w [Rb 114 p s i n,.pub zP] Pb 111 (fun z:zB × Pz.St=>.agg (zx z.1).toArray) (fun z=>Pz.fac s N ⟨i,n⟩=.ok (z.1.e,z.2)∧Pz.Good s ⟨i,n⟩ z.2) (fun z=>[Rb 114 p s z.2.at_ z.2.nd,.pub zP,okP zB.Ok z.1]) (fun f=>Pz.fac s N ⟨i,n⟩=.no f)):=by
 refine zt (N:=57) func147 hG ?_
 refine (go 2) (zw fun b4=>?_)
 refine (go 9) (zX (fun h1=>?_) fun h1=>?_)
 ·refine (go 2) ?_
  refine za (α:=Unit) (PT:=111) [Rb 114 p s i n,.pub zP] [.blk b4 Zx 59] (fun _:Unit=>.tuple #[]) (fun z1=>False) (fun z1=>[Rb 114 p s i n,.pub zP]) _ (fun f1=>f1=(4,(i:Int))) (fun _=>rfl) (S9 [1,2,0]) (fun _=>rfl) wn rfl rfl call54 rfl (fun w1 Pb hG=>yl p s i n 4 Pb w1 hG) ?_ fun z1 hz1=>?_
  ·intro f1 hf1
   refine zU (zW fun w1 hM=>?_)
   exact hM.zi f1 (by rw [show N=0 by omega,hf1]; rfl)
  exact hz1.elim
 obtain ⟨M,rfl⟩:∃ M,N=M + 1:=⟨N - 1,by omega⟩
 refine (go 6) ?_
 refine yR (α:=(Bool × Nat)) [Rb 114 p s i n,.pub zP] [.blk b4 Zx 59] (fun z:Bool × Nat=>.bool z.1) (fun z2=>(Pz.eat s ⟨#[40]⟩ i=z2∧i≤z2.2∧z2.2≤s.size)) (fun z2=>[Rb 114 p s z2.2 n,.pub zP]) _ (fun _=>rfl) (S9 [1,2,0]) (fun _=>rfl) wn rfl rfl call98 rfl (fun w1 Pb hG=>vy p s i n ⟨#[40]⟩ Pb w1 hG qO qO) fun z2 hz2=>?_
 obtain ⟨bo1,j1⟩:=z2
 have he1:Pz.eat s ⟨#[40]⟩ i=(bo1,j1):=hz2.1
 have hz2a:i≤j1:=hz2.2.1
 have hz2b:j1≤s.size:=hz2.2.2
 refine vE (.bool bo1) ?_
 refine (go 2) (yf (fun h2=>?_) fun h2=>?_)
 ·refine (go 5) ?_
  refine za (α:=zB × Pz.St) (PT:=111) [Rb 114 p s j1 n,.pub zP] [.blk b4 Zx 59] (fun z:zB × Pz.St=>.agg (zx z.1).toArray) (fun z3=>Pz.xpr s M ⟨j1,n⟩=.ok (z3.1.e,z3.2)∧Pz.Good s ⟨j1,n⟩ z3.2) (fun z3=>[Rb 114 p s z3.2.at_ z3.2.nd,.pub zP,okP zB.Ok z3.1]) _ (fun f2=>Pz.xpr s M ⟨j1,n⟩=.no f2) (fun _=>rfl) (S9 [0,1,2]) (fun _=>rfl) wn rfl rfl call52 rfl (fun w1 Pb hG=>(ih M rfl) p s j1 n (d + 1) Pb w1 hG qO qO qO qO qO) ?_ fun z3 hz3=>?_
  ·intro f2 hf2
   refine zU (zU (zW fun w1 hM=>?_))
   exact hM.zi f2 (by first | (simp only [Pz.then_ok,Pz.then_no,Pz.St.go,lgc,Pz.fac_succ,Pz.factor,zB.e,zB.es,he1,h1,h2,hf2]; done) | simp [Pz.then_ok,Pz.then_no,Pz.St.go,lgc,Pz.fac_succ,Pz.factor,zB.e,zB.es,he1,h1,h2,hf2])
  obtain ⟨x1,j2,m1⟩:=z3
  have he2:Pz.xpr s M ⟨j1,n⟩=.ok (x1.e,⟨j2,m1⟩):=hz3.1
  have ga1:j2≤s.size:=hz3.2.at_
  have gm1:n≤m1:=hz3.2.mono
  have gn1:m1≤100:=hz3.2.most (show n≤100 by omega)
  refine zw fun b5=>?_
  refine (go 6) ?_
  refine za (α:=Pz.St) (PT:=111) [Rb 114 p s j2 m1,.pub zP] [.blk b5 [iV x1.kind,iV x1.n,iV x1.range,.string x1.word,.slice x1.ms.A x1.ms.l.length x1.ms.c,.slice x1.by_.A x1.by_.l.length x1.by_.c,.slice x1.kids.A x1.kids.l.length x1.kids.c] 59,okP zB.Ok x1,.blk b4 Zx 59] (fun z:Pz.St=>.tuple #[]) (fun z4=>Pz.must s ⟨#[41]⟩ ⟨j2,m1⟩=.ok z4∧Pz.Good s ⟨j2,m1⟩ z4) (fun z4=>[Rb 114 p s z4.at_ z4.nd,.pub zP]) _ (fun f3=>Pz.must s ⟨#[41]⟩ ⟨j2,m1⟩=.no f3) (fun _=>rfl) (S9 [1,2,0,3,4]) (fun _=>rfl) wn rfl rfl call179 rfl (fun w1 Pb hG=>y6 p s j2 m1 ⟨#[41]⟩ Pb w1 hG qO qO qO ) ?_ fun z4 hz4=>?_
  ·intro f3 hf3
   refine zU (zU (zW fun w1 hM=>?_))
   exact hM.zi f3 (by first | (simp only [Pz.then_ok,Pz.then_no,Pz.St.go,lgc,Pz.fac_succ,Pz.factor,zB.e,zB.es,he1,he2,h1,h2,hf3]; done) | simp [Pz.then_ok,Pz.then_no,Pz.St.go,lgc,Pz.fac_succ,Pz.factor,zB.e,zB.es,he1,he2,h1,h2,hf3])
  obtain ⟨j3,m2⟩:=z4
  have he3:Pz.must s ⟨#[41]⟩ ⟨j2,m1⟩=.ok ⟨j3,m2⟩:=hz4.1
  have ga2:j3≤s.size:=hz4.2.at_
  have gm2:m1≤m2:=hz4.2.mono
  have gn2:m2≤100:=hz4.2.most (show m1≤100 by omega)
  refine (go 10) (zZ results147 fun w1 hM=>?_)
  have h9:Pz.fac s (M + 1) ⟨i,n⟩=.ok (x1.e,⟨j3,m2⟩):=by first | (simp only [Pz.then_ok,Pz.then_no,Pz.St.go,lgc,Pz.fac_succ,Pz.factor,zB.e,zB.es,he1,he2,he3,h1,h2]; done) | simp [Pz.then_ok,Pz.then_no,Pz.St.go,lgc,Pz.fac_succ,Pz.factor,zB.e,zB.es,he1,he2,he3,h1,h2]
  exact hM.vg ((x1,⟨j3,m2⟩):zB × Pz.St) rfl ⟨h9,(Pz.fac_fine s (M + 1) _ hi).ok_ h9⟩ (fun h=>h.sel [0,1,3] qD rfl)
 have g1:bo1=false:=by simpa using h2
 refine (go 5) ?_
 refine yR (α:=Nat) [Rb 114 p s j1 n,.pub zP] [.blk b4 Zx 59] (fun _=>.tuple #[]) (fun j4=>(Pz.blank s j1=j4∧j1≤j4∧j4≤s.size)) (fun j4=>[Rb 114 p s j4 n,.pub zP]) _ (fun _=>rfl) (S9 [0,1,2]) (fun _=>rfl) wn rfl rfl call53 rfl (fun w1 Pb hG=>vq p s j1 n Pb w1 hG qO qO) fun j4 hz5=>?_
 obtain ⟨hz5e,hz5a,hz5b⟩:=hz5
 refine (go 14) ?_
 refine za (α:=ByteArray × Pz.St) (PT:=111) [Rb 114 p s j4 n,.pub zP] [.blk b4 Zx 59] (fun z:ByteArray × Pz.St=>.string z.1) (fun z5=>Pz.word s ⟨j4,n⟩=.ok z5∧Pz.Good s ⟨j4,n⟩ z5.2) (fun z5=>[Rb 114 p s z5.2.at_ z5.2.nd,.pub zP]) _ (fun f4=>Pz.word s ⟨j4,n⟩=.no f4) (fun _=>rfl) (S9 [0,1,2]) (fun _=>rfl) wn rfl rfl call180 rfl (fun w1 Pb hG=>jY p s j4 n  Pb w1 hG qO qO qO ) ?_ fun z5 hz6=>?_
 ·intro f4 hf4
  refine zU (zW fun w1 hM=>?_)
  exact hM.zi f4 (by first | (simp only [Pz.then_ok,Pz.then_no,Pz.St.go,lgc,Pz.fac_succ,Pz.factor,zB.e,zB.es,he1,g1,hz5e,h1,h2,hf4]; done) | simp [Pz.then_ok,Pz.then_no,Pz.St.go,lgc,Pz.fac_succ,Pz.factor,zB.e,zB.es,he1,g1,hz5e,h1,h2,hf4])
 obtain ⟨wd1,j5,m3⟩:=z5
 have he4:Pz.word s ⟨j4,n⟩=.ok (wd1,⟨j5,m3⟩):=hz6.1
 have ga3:j5≤s.size:=hz6.2.at_
 have gm3:n≤m3:=hz6.2.mono
 have gn3:m3≤100:=hz6.2.most (show n≤100 by omega)
 have wz1:wd1.size≤12:=Pz.word_size (t:=⟨j4,n⟩) (show j4≤_ by omega) he4
 refine vE (.string wd1) ?_
 refine (go 12) (zX (fun h3=>?_) fun h3=>?_)
 ·have g2:(wd1=⟨#[97,108,108]⟩)=True:=eq_true h3
  refine (go 4) ?_
  refine za (α:=zB × Pz.St) (PT:=111) [Rb 114 p s j5 m3,.pub zP] [.blk b4 Zx 59] (fun z:zB × Pz.St=>.agg (zx z.1).toArray) (fun z6=>Pz.all s (Pz.xpr s M) ⟨j5,m3⟩=.ok (z6.1.e,z6.2)∧Pz.Good s ⟨j5,m3⟩ z6.2) (fun z6=>[Rb 114 p s z6.2.at_ z6.2.nd,.pub zP,okP zB.Ok z6.1]) _ (fun f5=>Pz.all s (Pz.xpr s M) ⟨j5,m3⟩=.no f5) (fun _=>rfl) (S9 [0,1,2]) (fun _=>rfl) wn rfl rfl call181 rfl (fun w1 Pb hG=>c_all p s j5 m3 d M Pb w1 hG qO qO qO qO qO (ih M rfl)) ?_ fun z6 hz7=>?_
  ·intro f5 hf5
   refine zU (yD (zU (zW fun w1 hM=>?_)))
   exact hM.zi f5 (by first | (simp only [Pz.then_ok,Pz.then_no,Pz.St.go,lgc,Pz.fac_succ,Pz.factor,zB.e,zB.es,he1,g1,hz5e,he4,g2,h1,h2,hf5]; done) | simp [Pz.then_ok,Pz.then_no,Pz.St.go,lgc,Pz.fac_succ,Pz.factor,zB.e,zB.es,he1,g1,hz5e,he4,g2,h1,h2,hf5])
  obtain ⟨x2,j6,m4⟩:=z6
  have he5:Pz.all s (Pz.xpr s M) ⟨j5,m3⟩=.ok (x2.e,⟨j6,m4⟩):=hz7.1
  have ga4:j6≤s.size:=hz7.2.at_
  have gm4:m3≤m4:=hz7.2.mono
  have gn4:m4≤100:=hz7.2.most (show m3≤100 by omega)
  refine (go 6) (zZ results147 fun w1 hM=>?_)
  have h9:Pz.fac s (M + 1) ⟨i,n⟩=.ok (x2.e,⟨j6,m4⟩):=by first | (simp only [Pz.then_ok,Pz.then_no,Pz.St.go,lgc,Pz.fac_succ,Pz.factor,zB.e,zB.es,he1,g1,hz5e,he4,g2,he5,h1,h2]; done) | simp [Pz.then_ok,Pz.then_no,Pz.St.go,lgc,Pz.fac_succ,Pz.factor,zB.e,zB.es,he1,g1,hz5e,he4,g2,he5,h1,h2]
  exact hM.vg ((x2,⟨j6,m4⟩):zB × Pz.St) rfl ⟨h9,(Pz.fac_fine s (M + 1) _ hi).ok_ h9⟩ (fun h=>h.sel [0,1,2] qD rfl)
 have g3:(wd1=⟨#[97,108,108]⟩)=False:=eq_false h3
 refine (go 7) (zX (fun h4=>?_) fun h4=>?_)
 ·have g4:(wd1=⟨#[]⟩)=True:=eq_true h4
  refine (go 4) ?_
  refine za (α:=Int × Pz.St) (PT:=111) [Rb 114 p s j5 m3,.pub zP] [.blk b4 Zx 59] (fun z:Int × Pz.St=>iV z.1) (fun z7=>Pz.num s 0 1000000 ⟨j5,m3⟩=.ok z7∧Pz.Good s ⟨j5,m3⟩ z7.2) (fun z7=>[Rb 114 p s z7.2.at_ z7.2.nd,.pub zP]) _ (fun f6=>Pz.num s 0 1000000 ⟨j5,m3⟩=.no f6) (fun _=>rfl) (S9 [0,1,2]) (fun _=>rfl) wn rfl rfl call182 rfl (fun w1 Pb hG=>c_num p s j5 m3 0 1000000 Pb w1 hG qO qO qO qO) ?_ fun z7 hz8=>?_
  ·intro f6 hf6
   refine zU (yD (zU (zW fun w1 hM=>?_)))
   exact hM.zi f6 (by first | (simp only [Pz.then_ok,Pz.then_no,Pz.St.go,lgc,Pz.fac_succ,Pz.factor,zB.e,zB.es,he1,g1,hz5e,he4,g3,g4,h1,h2,hf6]; done) | simp [Pz.then_ok,Pz.then_no,Pz.St.go,lgc,Pz.fac_succ,Pz.factor,zB.e,zB.es,he1,g1,hz5e,he4,g3,g4,h1,h2,hf6])
  obtain ⟨v1,j7,m5⟩:=z7
  have he6:Pz.num s 0 1000000 ⟨j5,m3⟩=.ok (v1,⟨j7,m5⟩):=hz8.1
  have ga5:j7≤s.size:=hz8.2.at_
  have gm5:m3≤m5:=hz8.2.mono
  have gn5:m5≤100:=hz8.2.most (show m3≤100 by omega)
  refine (go 1) ?_
  refine v8 (fun _ h=>h.exprG (k:=1) (n:=v1) (r:=0) (wd:=⟨#[]⟩) (ms:=⟨none,0,[]⟩) (bs:=⟨none,0,[]⟩) (ks:=⟨none,0,[]⟩) (fun _ _=>zD.zy _ _ _ _) (fun _ _=>zD.zy _ _ _ _) (fun _ _=>zD.zy _ _ _ _) (fun _ _ x hx=>by cases hx) (by first | decide | omega) (fun x hx=>by cases hx) (fun x hx=>by cases hx)) (za (α:=Unit) (PT:=111) [Rb 114 p s j7 m5,.pub zP] [okP zB.Ok (zB.mk 1 v1 0 ⟨#[]⟩ ⟨none,0,[]⟩ ⟨none,0,[]⟩ ⟨none,0,[]⟩),.blk b4 Zx 59] (fun _:Unit=>.agg (List.toArray [iV 1,iV v1,iV 0,.string ⟨#[]⟩,Zs,Zs,Zs])) (fun z8=>m5 + 1≤100) (fun z8=>[Rb 114 p s j7 (m5 + 1),.pub zP]) _ (fun f7=>Pz.node ⟨j7,m5⟩=.no f7) (fun _=>rfl) (S9 [1,2,0,3]) (fun _=>rfl) wn rfl rfl call99 rfl (fun w1 Pb hG=>vt p s j7 m5 1 v1 0 ⟨#[]⟩ none 0 0 none 0 0 none 0 0 Pb w1 hG qO qO qO) ?_ fun z8 hz9=>?_)
  ·intro f7 hf7
   refine zU (yD (zU (zW fun w1 hM=>?_)))
   exact hM.zi f7 (by first | (simp only [Pz.then_ok,Pz.then_no,Pz.St.go,lgc,Pz.fac_succ,Pz.factor,zB.e,zB.es,he1,g1,hz5e,he4,g3,g4,he6,h1,h2,hf7]; done) | simp [Pz.then_ok,Pz.then_no,Pz.St.go,lgc,Pz.fac_succ,Pz.factor,zB.e,zB.es,he1,g1,hz5e,he4,g3,g4,he6,h1,h2,hf7])
  have he7:Pz.node ⟨j7,m5⟩=.ok ⟨j7,m5 + 1⟩:=Pz.node_yes hz9
  refine (go 6) (zZ results147 fun w1 hM=>?_)
  have h9:Pz.fac s (M + 1) ⟨i,n⟩=.ok ((zB.mk 1 v1 0 ⟨#[]⟩ ⟨none,0,[]⟩ ⟨none,0,[]⟩ ⟨none,0,[]⟩).e,⟨j7,(m5 + 1)⟩):=by first | (simp only [Pz.then_ok,Pz.then_no,Pz.St.go,lgc,Pz.fac_succ,Pz.factor,zB.e,zB.es,he1,g1,hz5e,he4,g3,g4,he6,he7,h1,h2]; done) | simp [Pz.then_ok,Pz.then_no,Pz.St.go,lgc,Pz.fac_succ,Pz.factor,zB.e,zB.es,he1,g1,hz5e,he4,g3,g4,he6,he7,h1,h2]
  exact hM.vg (((zB.mk 1 v1 0 ⟨#[]⟩ ⟨none,0,[]⟩ ⟨none,0,[]⟩ ⟨none,0,[]⟩),⟨j7,(m5 + 1)⟩):zB × Pz.St) rfl ⟨h9,(Pz.fac_fine s (M + 1) _ hi).ok_ h9⟩ (fun h=>h.sel [0,1,2] qD rfl)
 have g5:(wd1=⟨#[]⟩)=False:=eq_false h4
 refine (go 2) ?_
 refine vR Agg.words wn rfl call33 rfl (fun w1 hM=>c_Words  w1) fun A1 cp1 hc1 hm1 hA1=>?_
 refine (go 1) ?_
 refine yK call150 wn rfl (fun w1 hM=>vY _ Agg.words wd1 w1 (RowSl encString hM 0 rfl)) ?_
 refine (go 4) (zX (fun h5=>?_) fun h5=>?_)
 ·refine (go 11) ?_
  refine za (α:=Unit) (PT:=111) [Rb 114 p s j4 m3,.pub zP] [Row (.slice A1 Agg.words.length cp1) 9 1 strE Agg.words,.blk b4 Zx 59] (fun _:Unit=>.tuple #[]) (fun z9=>False) (fun z9=>[Rb 114 p s j4 m3,.pub zP]) _ (fun f8=>f8=(7,(j4:Int))) (fun _=>rfl) (S9 [1,2,0,3]) (fun _=>rfl) wn rfl rfl call54 rfl (fun w1 Pb hG=>yl p s j4 m3 7 Pb w1 hG) ?_ fun z9 hz10=>?_
  ·intro f8 hf8
   refine yD (zU (zW fun w1 hM=>?_))
   exact hM.zi f8 (by first | (simp only [Pz.then_ok,Pz.then_no,Pz.St.go,lgc,Pz.fac_succ,Pz.factor,zB.e,zB.es,he1,g1,hz5e,he4,g3,g5,h1,h2,h5,hf8]; done) | simp [Pz.then_ok,Pz.then_no,Pz.St.go,lgc,Pz.fac_succ,Pz.factor,zB.e,zB.es,he1,g1,hz5e,he4,g3,g5,h1,h2,h5,hf8])
  exact hz10.elim
 refine (go 7) ?_
 refine za (α:=zB × Pz.St) (PT:=111) [Rb 114 p s j5 m3,.pub zP] [Row (.slice A1 Agg.words.length cp1) 9 1 strE Agg.words,.blk b4 Zx 59] (fun z:zB × Pz.St=>.agg (zx z.1).toArray) (fun z10=>Pz.window s wd1 ⟨j5,m3⟩=.ok (z10.1.e,z10.2)∧Pz.Good s ⟨j5,m3⟩ z10.2) (fun z10=>[Rb 114 p s z10.2.at_ z10.2.nd,.pub zP,okP zB.Ok z10.1]) _ (fun f9=>Pz.window s wd1 ⟨j5,m3⟩=.no f9) (fun _=>rfl) (S9 [1,2,0,3]) (fun _=>rfl) wn rfl rfl call183 rfl (fun w1 Pb hG=>c_window p s j5 m3 wd1 Pb w1 hG qO qO qO qO) ?_ fun z10 hz11=>?_
 ·intro f9 hf9
  refine zU (zW fun w1 hM=>?_)
  exact hM.zi f9 (by first | (simp only [Pz.then_ok,Pz.then_no,Pz.St.go,lgc,Pz.fac_succ,Pz.factor,zB.e,zB.es,he1,g1,hz5e,he4,g3,g5,h1,h2,h5,hf9]; done) | simp [Pz.then_ok,Pz.then_no,Pz.St.go,lgc,Pz.fac_succ,Pz.factor,zB.e,zB.es,he1,g1,hz5e,he4,g3,g5,h1,h2,h5,hf9])
 obtain ⟨x3,j8,m6⟩:=z10
 have he8:Pz.window s wd1 ⟨j5,m3⟩=.ok (x3.e,⟨j8,m6⟩):=hz11.1
 have ga6:j8≤s.size:=hz11.2.at_
 have gm6:m3≤m6:=hz11.2.mono
 have gn6:m6≤100:=hz11.2.most (show m3≤100 by omega)
 refine (go 4) (zZ results147 fun w1 hM=>?_)
 have h9:Pz.fac s (M + 1) ⟨i,n⟩=.ok (x3.e,⟨j8,m6⟩):=by first | (simp only [Pz.then_ok,Pz.then_no,Pz.St.go,lgc,Pz.fac_succ,Pz.factor,zB.e,zB.es,he1,g1,hz5e,he4,g3,g5,he8,h1,h2,h5]; done) | simp [Pz.then_ok,Pz.then_no,Pz.St.go,lgc,Pz.fac_succ,Pz.factor,zB.e,zB.es,he1,g1,hz5e,he4,g3,g5,he8,h1,h2,h5]
 exact hM.vg ((x3,⟨j8,m6⟩):zB × Pz.St) rfl ⟨h9,(Pz.fac_fine s (M + 1) _ hi).ok_ h9⟩ (fun h=>h.sel [0,1,2] qD rfl)
set_option maxHeartbeats 2000000 in
theorem c_term (p:Nat) (s:ByteArray) (i:Nat) (n:Int) (d:Int) (N:Nat) (Pb:Nat→Prop) (w:World) (hG:Mem w ⟨fpOf [Rb 114 p s i n,.pub zP],Pb⟩ [Rb 114 p s i n,.pub zP] w) (hi:i≤s.size) (hs:s.size≤2000) (hn:0≤n∧n≤100) (hd:d + (N:Int)=21) (hd1:1≤d) (ih:FacC N) :
    Calls prog 97 #[.pointer (some ⟨p,0,none⟩),iV d] w (RetX w [Rb 114 p s i n,.pub zP] Pb 111 (fun z:zB × Pz.St=>.agg (zx z.1).toArray) (fun z=>Pz.trm s N ⟨i,n⟩=.ok (z.1.e,z.2)∧Pz.Good s ⟨i,n⟩ z.2) (fun z=>[Rb 114 p s z.2.at_ z.2.nd,.pub zP,okP zB.Ok z.1]) (fun f=>Pz.trm s N ⟨i,n⟩=.no f)):=by
 refine zt (N:=22) func97 hG ?_
 refine (go 2) (zw fun b4=>?_)
 refine (go 6) ?_
 refine za (α:=zB × Pz.St) (PT:=111) [Rb 114 p s i n,.pub zP] [.blk b4 Zx 59] (fun z:zB × Pz.St=>.agg (zx z.1).toArray) (fun z1=>Pz.fac s N ⟨i,n⟩=.ok (z1.1.e,z1.2)∧Pz.Good s ⟨i,n⟩ z1.2) (fun z1=>[Rb 114 p s z1.2.at_ z1.2.nd,.pub zP,okP zB.Ok z1.1]) _ (fun f1=>Pz.fac s N ⟨i,n⟩=.no f1) (fun _=>rfl) (S9 [1,2,0]) (fun _=>rfl) wn rfl rfl call147 rfl (fun w1 Pb hG=>ih p s i n d Pb w1 hG qO qO qO qO qO) ?_ fun z1 hz1=>?_
 ·intro f1 hf1
  refine zU (zW fun w1 hM=>?_)
  exact hM.zi f1 (by first | (simp only [Pz.then_ok,Pz.then_no,Pz.St.go,lgc,Pz.trm,Pz.sumOf,hf1]; done) | simp [Pz.then_ok,Pz.then_no,Pz.St.go,lgc,Pz.trm,Pz.sumOf,hf1])
 obtain ⟨x1,j1,m1⟩:=z1
 have he1:Pz.fac s N ⟨i,n⟩=.ok (x1.e,⟨j1,m1⟩):=hz1.1
 have ga1:j1≤s.size:=hz1.2.at_
 have gm1:n≤m1:=hz1.2.mono
 have gn1:m1≤100:=hz1.2.most (show n≤100 by omega)
 refine zw fun b5=>?_
 refine (go 5) ?_
 refine vQ (fun (x:zB) (k:Nat) (m:Int) (q:Nat)=>[(0,.pointer (some ⟨p,0,none⟩)),(1,iV d),(4,.pointer (some ⟨b4,0,none⟩)),(5,.pointer (some ⟨b5,0,none⟩))]) (fun (x:zB) (k:Nat) (m:Int) (q:Nat)=>[.blk b5 [iV x.kind,iV x.n,iV x.range,.string x.word,.slice x.ms.A x.ms.l.length x.ms.c,.slice x.by_.A x.by_.l.length x.by_.c,.slice x.kids.A x.kids.l.length x.kids.c] 59,Rb 114 p s k m,.pub zP,okP zB.Ok x,.blk b4 Zx 59]) (fun (x:zB) (k:Nat) (m:Int) (q:Nat)=>Pz.binL s (Pz.fac s N) Pz.star 101 x1.e ⟨j1,m1⟩=Pz.binL s (Pz.fac s N) Pz.star (q + 1) x.e ⟨k,m⟩∧k≤s.size∧0≤m∧m≤100∧(100:Int)≤(q:Int) + m) (fun (x:zB) (k:Nat) (m:Int) (q:Nat)=>q) x1 j1 m1 100 (sc rfl (sc rfl (sc rfl (sc rfl sn)))) (fun _ h=>h) ?_ (fun x k m q hI1=>?_)
 ·exact ⟨rfl,by omega,by omega,by omega,by omega⟩
 refine (go 4) ?_
 refine yR (α:=(Bool × Nat)) [Rb 114 p s k m,.pub zP] [.blk b5 [iV x.kind,iV x.n,iV x.range,.string x.word,.slice x.ms.A x.ms.l.length x.ms.c,.slice x.by_.A x.by_.l.length x.by_.c,.slice x.kids.A x.kids.l.length x.kids.c] 59,okP zB.Ok x,.blk b4 Zx 59] (fun z:Bool × Nat=>.bool z.1) (fun z2=>(Pz.eat s ⟨#[42]⟩ k=z2∧k≤z2.2∧z2.2≤s.size)) (fun z2=>[Rb 114 p s z2.2 m,.pub zP]) _ (fun _=>rfl) (S9 [1,2,0,3,4]) (fun _=>rfl) wn rfl rfl call98 rfl (fun w1 Pb hG=>vy p s k m ⟨#[42]⟩ Pb w1 hG qO qO) fun z2 hz2=>?_
 obtain ⟨bo1,j2⟩:=z2
 have he2:Pz.eat s ⟨#[42]⟩ k=(bo1,j2):=hz2.1
 have hz2a:k≤j2:=hz2.2.1
 have hz2b:j2≤s.size:=hz2.2.2
 refine vE (.bool bo1) ?_
 refine (go 2) (yf (fun h1=>?_) fun h1=>?_)
 ·refine (go 7) ?_
  refine za (α:=zB × Pz.St) (PT:=111) [Rb 114 p s j2 m,.pub zP] [.blk b5 [iV x.kind,iV x.n,iV x.range,.string x.word,.slice x.ms.A x.ms.l.length x.ms.c,.slice x.by_.A x.by_.l.length x.by_.c,.slice x.kids.A x.kids.l.length x.kids.c] 59,okP zB.Ok x,.blk b4 Zx 59] (fun z:zB × Pz.St=>.agg (zx z.1).toArray) (fun z3=>Pz.fac s N ⟨j2,m⟩=.ok (z3.1.e,z3.2)∧Pz.Good s ⟨j2,m⟩ z3.2) (fun z3=>[Rb 114 p s z3.2.at_ z3.2.nd,.pub zP,okP zB.Ok z3.1]) _ (fun f2=>Pz.fac s N ⟨j2,m⟩=.no f2) (fun _=>rfl) (S9 [0,1,2,3,4]) (fun _=>rfl) wn rfl rfl call147 rfl (fun w1 Pb hG=>ih p s j2 m d Pb w1 hG qO qO qO qO qO) ?_ fun z3 hz3=>?_
  ·intro f2 hf2
   refine zU (yD (vW (yD (zU (zW fun w1 hM=>?_)))))
   have hY:=Pz.bin_next hI1.1 (Pz.star1 (by rw [he2,h1])) qD hf2
   rw [Pz.then_no] at hY
   exact hM.zi f2 (by simp only [Pz.then_ok,Pz.then_no,Pz.St.go,lgc,Pz.trm,Pz.sumOf,he1,hY])
  obtain ⟨x2,j3,m2⟩:=z3
  have he3:Pz.fac s N ⟨j2,m⟩=.ok (x2.e,⟨j3,m2⟩):=hz3.1
  have ga2:j3≤s.size:=hz3.2.at_
  have gm2:m≤m2:=hz3.2.mono
  have gn2:m2≤100:=hz3.2.most (show m≤100 by omega)
  refine zw fun b6=>?_
  refine (go 7) ?_
  refine zu zx ([x,x2]:List zB) wn underlying57 inf59 rfl rfl rfl rfl qD qD rfl fun b18=>?_
  refine (go 1) ?_
  refine vC 0 2 encExprX rfl rfl (fp2) (v8 (fun _ h=>h.exprG (k:=4) (n:=0) (r:=0) (wd:=⟨#[42]⟩) (ms:=⟨none,0,[]⟩) (bs:=⟨none,0,[]⟩) (ks:=⟨(some ⟨b18,0,none⟩),2,([x,x2]:List zB)⟩) (fun _ _=>zD.zy _ _ _ _) (fun _ _=>zD.zy _ _ _ _) (fun _ pp=>pp.sl 0 rfl) (fun _ pp x hx=>by simp only [List.mem_cons,List.not_mem_nil,or_false] at hx; rcases hx with rfl | rfl <;> first | exact pp.at_ 6 _ rfl | exact pp.at_ 4 _ rfl) (by first | decide | omega) (fun x hx=>by cases hx) (fun x hx=>by cases hx)) (za (α:=Unit) (PT:=111) [Rb 114 p s j3 m2,.pub zP] [okP zB.Ok (zB.mk 4 0 0 ⟨#[42]⟩ ⟨none,0,[]⟩ ⟨none,0,[]⟩ ⟨(some ⟨b18,0,none⟩),2,([x,x2]:List zB)⟩),slP 7 zx (.slice (some ⟨b18,0,none⟩) 2 2) ([x,x2]:List zB),.blk b6 [iV x2.kind,iV x2.n,iV x2.range,.string x2.word,.slice x2.ms.A x2.ms.l.length x2.ms.c,.slice x2.by_.A x2.by_.l.length x2.by_.c,.slice x2.kids.A x2.kids.l.length x2.kids.c] 59,okP zB.Ok x2,.blk b5 [iV x.kind,iV x.n,iV x.range,.string x.word,.slice x.ms.A x.ms.l.length x.ms.c,.slice x.by_.A x.by_.l.length x.by_.c,.slice x.kids.A x.kids.l.length x.kids.c] 59,okP zB.Ok x,.blk b4 Zx 59] (fun _:Unit=>.agg (List.toArray [iV 4,iV 0,iV 0,.string ⟨#[42]⟩,Zs,Zs,.slice (some ⟨b18,0,none⟩) 2 2])) (fun z4=>m2 + 1≤100) (fun z4=>[Rb 114 p s j3 (m2 + 1),.pub zP]) _ (fun f3=>Pz.node ⟨j3,m2⟩=.no f3) (fun _=>rfl) (S9 [3,4,0,1,2,5,6,7,8]) (fun _=>rfl) wn rfl rfl call99 rfl (fun w1 Pb hG=>vt p s j3 m2 4 0 0 ⟨#[42]⟩ none 0 0 none 0 0 (some ⟨b18,0,none⟩) 2 2 Pb w1 hG qO qO qO) ?_ fun z4 hz4=>?_))
  ·intro f3 hf3
   refine yD (vW (yD (zU (zW fun w1 hM=>?_))))
   have hY:=Pz.bin_next hI1.1 (Pz.star1 (by rw [he2,h1])) qD he3
   simp only [Pz.then_ok,hf3,Pz.then_no] at hY
   exact hM.zi f3 (by simp only [Pz.then_ok,Pz.then_no,Pz.St.go,lgc,Pz.trm,Pz.sumOf,he1,hY])
  have he4:Pz.node ⟨j3,m2⟩=.ok ⟨j3,m2 + 1⟩:=Pz.node_yes hz4
  refine (go 1) ?_
  refine zT (yM (ya (zB.mk 4 0 0 ⟨#[42]⟩ ⟨none,0,[]⟩ ⟨none,0,[]⟩ ⟨(some ⟨b18,0,none⟩),2,([x,x2]:List zB)⟩) j3 (m2 + 1) (q - 1) (sc rfl (sc rfl (sc rfl (sc rfl sn)))) (S9 [6,0,1,2,8]) ?_ ?_))
  ·have hY:=Pz.bin_next hI1.1 (Pz.star1 (by rw [he2,h1])) qD he3
   simp only [Pz.then_ok,he4] at hY
   exact ⟨hY.trans (by rw [show q - 1 + 1=q by omega]; rfl),by omega,by omega,by omega,by omega⟩
  omega
 have g1:bo1=false:=by simpa using h1
 refine (go 12) (zZ results97 fun w1 hM=>?_)
 have h9:Pz.trm s N ⟨i,n⟩=.ok (x.e,⟨j2,m⟩):=by simp only [Pz.then_ok,Pz.then_no,Pz.St.go,lgc,Pz.trm,Pz.sumOf,he1,Pz.bin_done hI1.1 (Pz.star0 (by rw [he2,g1]))]
 exact hM.vg ((x,⟨j2,m⟩):zB × Pz.St) rfl ⟨h9,(Pz.trm_fine s N _ hi).ok_ h9⟩ (fun h=>h.sel [0,1,3] qD rfl)
set_option maxHeartbeats 2000000 in
theorem c_expr (p:Nat) (s:ByteArray) (i:Nat) (n:Int) (d:Int) (N:Nat) (Pb:Nat→Prop) (w:World) (hG:Mem w ⟨fpOf [Rb 114 p s i n,.pub zP],Pb⟩ [Rb 114 p s i n,.pub zP] w) (hi:i≤s.size) (hs:s.size≤2000) (hn:0≤n∧n≤100) (hd:d + (N:Int)=21) (hd1:1≤d) (ih:TrmC N) :
    Calls prog 52 #[.pointer (some ⟨p,0,none⟩),iV d] w (RetX w [Rb 114 p s i n,.pub zP] Pb 111 (fun z:zB × Pz.St=>.agg (zx z.1).toArray) (fun z=>Pz.xpr s N ⟨i,n⟩=.ok (z.1.e,z.2)∧Pz.Good s ⟨i,n⟩ z.2) (fun z=>[Rb 114 p s z.2.at_ z.2.nd,.pub zP,okP zB.Ok z.1]) (fun f=>Pz.xpr s N ⟨i,n⟩=.no f)):=by
 refine zt (N:=28) func52 hG ?_
 refine (go 2) (zw fun b4=>?_)
 refine (go 6) ?_
 refine za (α:=zB × Pz.St) (PT:=111) [Rb 114 p s i n,.pub zP] [.blk b4 Zx 59] (fun z:zB × Pz.St=>.agg (zx z.1).toArray) (fun z1=>Pz.trm s N ⟨i,n⟩=.ok (z1.1.e,z1.2)∧Pz.Good s ⟨i,n⟩ z1.2) (fun z1=>[Rb 114 p s z1.2.at_ z1.2.nd,.pub zP,okP zB.Ok z1.1]) _ (fun f1=>Pz.trm s N ⟨i,n⟩=.no f1) (fun _=>rfl) (S9 [1,2,0]) (fun _=>rfl) wn rfl rfl call97 rfl (fun w1 Pb hG=>ih p s i n d Pb w1 hG qO qO qO qO qO) ?_ fun z1 hz1=>?_
 ·intro f1 hf1
  refine zU (zW fun w1 hM=>?_)
  exact hM.zi f1 (by first | (simp only [Pz.then_ok,Pz.then_no,Pz.St.go,lgc,Pz.xpr,Pz.sumOf,hf1]; done) | simp [Pz.then_ok,Pz.then_no,Pz.St.go,lgc,Pz.xpr,Pz.sumOf,hf1])
 obtain ⟨x1,j1,m1⟩:=z1
 have he1:Pz.trm s N ⟨i,n⟩=.ok (x1.e,⟨j1,m1⟩):=hz1.1
 have ga1:j1≤s.size:=hz1.2.at_
 have gm1:n≤m1:=hz1.2.mono
 have gn1:m1≤100:=hz1.2.most (show n≤100 by omega)
 refine zw fun b5=>?_
 refine (go 4) ?_
 refine vQ (fun (x:zB) (k:Nat) (m:Int) (q:Nat)=>[(0,.pointer (some ⟨p,0,none⟩)),(1,iV d),(4,.pointer (some ⟨b4,0,none⟩)),(5,.pointer (some ⟨b5,0,none⟩))]) (fun (x:zB) (k:Nat) (m:Int) (q:Nat)=>[.blk b5 [iV x.kind,iV x.n,iV x.range,.string x.word,.slice x.ms.A x.ms.l.length x.ms.c,.slice x.by_.A x.by_.l.length x.by_.c,.slice x.kids.A x.kids.l.length x.kids.c] 59,Rb 114 p s k m,.pub zP,okP zB.Ok x,.blk b4 Zx 59]) (fun (x:zB) (k:Nat) (m:Int) (q:Nat)=>Pz.binL s (Pz.trm s N) Pz.plus 101 x1.e ⟨j1,m1⟩=Pz.binL s (Pz.trm s N) Pz.plus (q + 1) x.e ⟨k,m⟩∧k≤s.size∧0≤m∧m≤100∧(100:Int)≤(q:Int) + m) (fun (x:zB) (k:Nat) (m:Int) (q:Nat)=>q) x1 j1 m1 100 (sc rfl (sc rfl (sc rfl (sc rfl sn)))) (fun _ h=>h) ?_ (fun x k m q hI1=>?_)
 ·exact ⟨rfl,by omega,by omega,by omega,by omega⟩
 refine (go 11) ?_
 refine yR (α:=(Bool × Nat)) [Rb 114 p s k m,.pub zP] [.blk b5 [iV x.kind,iV x.n,iV x.range,.string x.word,.slice x.ms.A x.ms.l.length x.ms.c,.slice x.by_.A x.by_.l.length x.by_.c,.slice x.kids.A x.kids.l.length x.kids.c] 59,okP zB.Ok x,.blk b4 Zx 59] (fun z:Bool × Nat=>.bool z.1) (fun z2=>(Pz.eat s ⟨#[43]⟩ k=z2∧k≤z2.2∧z2.2≤s.size)) (fun z2=>[Rb 114 p s z2.2 m,.pub zP]) _ (fun _=>rfl) (S9 [1,2,0,3,4]) (fun _=>rfl) wn rfl rfl call98 rfl (fun w1 Pb hG=>vy p s k m ⟨#[43]⟩ Pb w1 hG qO qO) fun z2 hz2=>?_
 obtain ⟨bo1,j2⟩:=z2
 have he2:Pz.eat s ⟨#[43]⟩ k=(bo1,j2):=hz2.1
 have hz2a:k≤j2:=hz2.2.1
 have hz2b:j2≤s.size:=hz2.2.2
 refine vE (.bool bo1) ?_
 refine (go 3) (yf (fun h1=>?_) fun h1=>?_)
 ·refine (go 9) ?_
  refine za (α:=zB × Pz.St) (PT:=111) [Rb 114 p s j2 m,.pub zP] [.blk b5 [iV x.kind,iV x.n,iV x.range,.string x.word,.slice x.ms.A x.ms.l.length x.ms.c,.slice x.by_.A x.by_.l.length x.by_.c,.slice x.kids.A x.kids.l.length x.kids.c] 59,okP zB.Ok x,.blk b4 Zx 59] (fun z:zB × Pz.St=>.agg (zx z.1).toArray) (fun z3=>Pz.trm s N ⟨j2,m⟩=.ok (z3.1.e,z3.2)∧Pz.Good s ⟨j2,m⟩ z3.2) (fun z3=>[Rb 114 p s z3.2.at_ z3.2.nd,.pub zP,okP zB.Ok z3.1]) _ (fun f2=>Pz.trm s N ⟨j2,m⟩=.no f2) (fun _=>rfl) (S9 [0,1,2,3,4]) (fun _=>rfl) wn rfl rfl call97 rfl (fun w1 Pb hG=>ih p s j2 m d Pb w1 hG qO qO qO qO qO) ?_ fun z3 hz3=>?_
  ·intro f2 hf2
   refine zU (yD (vW (yD (zW fun w1 hM=>?_))))
   have hY:=Pz.bin_next hI1.1 (Pz.plus1 (by rw [he2,h1])) qD hf2
   rw [Pz.then_no] at hY
   exact hM.zi f2 (by simp only [Pz.then_ok,Pz.then_no,Pz.St.go,lgc,Pz.xpr,Pz.sumOf,he1,hY])
  obtain ⟨x2,j3,m2⟩:=z3
  have he3:Pz.trm s N ⟨j2,m⟩=.ok (x2.e,⟨j3,m2⟩):=hz3.1
  have ga2:j3≤s.size:=hz3.2.at_
  have gm2:m≤m2:=hz3.2.mono
  have gn2:m2≤100:=hz3.2.most (show m≤100 by omega)
  refine zw fun b7=>?_
  refine (go 8) ?_
  refine zu zx ([x,x2]:List zB) wn underlying57 inf59 rfl rfl rfl rfl qD qD rfl fun b25=>?_
  refine (go 1) ?_
  refine vC 0 2 encExprX rfl rfl (fp2) (v8 (fun _ h=>h.exprG (k:=4) (n:=0) (r:=0) (wd:=⟨#[43]⟩) (ms:=⟨none,0,[]⟩) (bs:=⟨none,0,[]⟩) (ks:=⟨(some ⟨b25,0,none⟩),2,([x,x2]:List zB)⟩) (fun _ _=>zD.zy _ _ _ _) (fun _ _=>zD.zy _ _ _ _) (fun _ pp=>pp.sl 0 rfl) (fun _ pp x hx=>by simp only [List.mem_cons,List.not_mem_nil,or_false] at hx; rcases hx with rfl | rfl <;> first | exact pp.at_ 6 _ rfl | exact pp.at_ 4 _ rfl) (by first | decide | omega) (fun x hx=>by cases hx) (fun x hx=>by cases hx)) (za (α:=Unit) (PT:=111) [Rb 114 p s j3 m2,.pub zP] [okP zB.Ok (zB.mk 4 0 0 ⟨#[43]⟩ ⟨none,0,[]⟩ ⟨none,0,[]⟩ ⟨(some ⟨b25,0,none⟩),2,([x,x2]:List zB)⟩),slP 7 zx (.slice (some ⟨b25,0,none⟩) 2 2) ([x,x2]:List zB),.blk b7 [iV x2.kind,iV x2.n,iV x2.range,.string x2.word,.slice x2.ms.A x2.ms.l.length x2.ms.c,.slice x2.by_.A x2.by_.l.length x2.by_.c,.slice x2.kids.A x2.kids.l.length x2.kids.c] 59,okP zB.Ok x2,.blk b5 [iV x.kind,iV x.n,iV x.range,.string x.word,.slice x.ms.A x.ms.l.length x.ms.c,.slice x.by_.A x.by_.l.length x.by_.c,.slice x.kids.A x.kids.l.length x.kids.c] 59,okP zB.Ok x,.blk b4 Zx 59] (fun _:Unit=>.agg (List.toArray [iV 4,iV 0,iV 0,.string ⟨#[43]⟩,Zs,Zs,.slice (some ⟨b25,0,none⟩) 2 2])) (fun z4=>m2 + 1≤100) (fun z4=>[Rb 114 p s j3 (m2 + 1),.pub zP]) _ (fun f3=>Pz.node ⟨j3,m2⟩=.no f3) (fun _=>rfl) (S9 [3,4,0,1,2,5,6,7,8]) (fun _=>rfl) wn rfl rfl call99 rfl (fun w1 Pb hG=>vt p s j3 m2 4 0 0 ⟨#[43]⟩ none 0 0 none 0 0 (some ⟨b25,0,none⟩) 2 2 Pb w1 hG qO qO qO) ?_ fun z4 hz4=>?_))
  ·intro f3 hf3
   refine yD (vW (yD (zW fun w1 hM=>?_)))
   have hY:=Pz.bin_next hI1.1 (Pz.plus1 (by rw [he2,h1])) qD he3
   simp only [Pz.then_ok,hf3,Pz.then_no] at hY
   exact hM.zi f3 (by simp only [Pz.then_ok,Pz.then_no,Pz.St.go,lgc,Pz.xpr,Pz.sumOf,he1,hY])
  have he4:Pz.node ⟨j3,m2⟩=.ok ⟨j3,m2 + 1⟩:=Pz.node_yes hz4
  refine (go 1) ?_
  refine zT (yM (ya (zB.mk 4 0 0 ⟨#[43]⟩ ⟨none,0,[]⟩ ⟨none,0,[]⟩ ⟨(some ⟨b25,0,none⟩),2,([x,x2]:List zB)⟩) j3 (m2 + 1) (q - 1) (sc rfl (sc rfl (sc rfl (sc rfl sn)))) (S9 [6,0,1,2,8]) ?_ ?_))
  ·have hY:=Pz.bin_next hI1.1 (Pz.plus1 (by rw [he2,h1])) qD he3
   simp only [Pz.then_ok,he4] at hY
   exact ⟨hY.trans (by rw [show q - 1 + 1=q by omega]; rfl),by omega,by omega,by omega,by omega⟩
  omega
 have g1:bo1=false:=by simpa using h1
 refine (go 3) ?_
 refine yR (α:=(Bool × Nat)) [Rb 114 p s j2 m,.pub zP] [.blk b5 [iV x.kind,iV x.n,iV x.range,.string x.word,.slice x.ms.A x.ms.l.length x.ms.c,.slice x.by_.A x.by_.l.length x.by_.c,.slice x.kids.A x.kids.l.length x.kids.c] 59,okP zB.Ok x,.blk b4 Zx 59] (fun z:Bool × Nat=>.bool z.1) (fun z5=>(Pz.eat s ⟨#[45]⟩ j2=z5∧j2≤z5.2∧z5.2≤s.size)) (fun z5=>[Rb 114 p s z5.2 m,.pub zP]) _ (fun _=>rfl) (S9 [0,1,2,3,4]) (fun _=>rfl) wn rfl rfl call98 rfl (fun w1 Pb hG=>vy p s j2 m ⟨#[45]⟩ Pb w1 hG qO qO) fun z5 hz5=>?_
 obtain ⟨bo2,j4⟩:=z5
 have he5:Pz.eat s ⟨#[45]⟩ j2=(bo2,j4):=hz5.1
 have hz5a:j2≤j4:=hz5.2.1
 have hz5b:j4≤s.size:=hz5.2.2
 refine vE (.bool bo2) ?_
 refine (go 3) (yf (fun h2=>?_) fun h2=>?_)
 ·refine (go 9) ?_
  refine za (α:=zB × Pz.St) (PT:=111) [Rb 114 p s j4 m,.pub zP] [.blk b5 [iV x.kind,iV x.n,iV x.range,.string x.word,.slice x.ms.A x.ms.l.length x.ms.c,.slice x.by_.A x.by_.l.length x.by_.c,.slice x.kids.A x.kids.l.length x.kids.c] 59,okP zB.Ok x,.blk b4 Zx 59] (fun z:zB × Pz.St=>.agg (zx z.1).toArray) (fun z6=>Pz.trm s N ⟨j4,m⟩=.ok (z6.1.e,z6.2)∧Pz.Good s ⟨j4,m⟩ z6.2) (fun z6=>[Rb 114 p s z6.2.at_ z6.2.nd,.pub zP,okP zB.Ok z6.1]) _ (fun f4=>Pz.trm s N ⟨j4,m⟩=.no f4) (fun _=>rfl) (S9 [0,1,2,3,4]) (fun _=>rfl) wn rfl rfl call97 rfl (fun w1 Pb hG=>ih p s j4 m d Pb w1 hG qO qO qO qO qO) ?_ fun z6 hz6=>?_
  ·intro f4 hf4
   refine zU (yD (vW (yD (zW fun w1 hM=>?_))))
   have hY:=Pz.bin_next hI1.1 (Pz.minus1 (by rw [he2,g1]) (by rw [he5,h2])) qD hf4
   rw [Pz.then_no] at hY
   exact hM.zi f4 (by simp only [Pz.then_ok,Pz.then_no,Pz.St.go,lgc,Pz.xpr,Pz.sumOf,he1,hY])
  obtain ⟨x3,j5,m3⟩:=z6
  have he6:Pz.trm s N ⟨j4,m⟩=.ok (x3.e,⟨j5,m3⟩):=hz6.1
  have ga3:j5≤s.size:=hz6.2.at_
  have gm3:m≤m3:=hz6.2.mono
  have gn3:m3≤100:=hz6.2.most (show m≤100 by omega)
  refine zw fun b7=>?_
  refine (go 8) ?_
  refine zu zx ([x,x3]:List zB) wn underlying57 inf59 rfl rfl rfl rfl qD qD rfl fun b25=>?_
  refine (go 1) ?_
  refine vC 0 2 encExprX rfl rfl (fp2) (v8 (fun _ h=>h.exprG (k:=4) (n:=0) (r:=0) (wd:=⟨#[45]⟩) (ms:=⟨none,0,[]⟩) (bs:=⟨none,0,[]⟩) (ks:=⟨(some ⟨b25,0,none⟩),2,([x,x3]:List zB)⟩) (fun _ _=>zD.zy _ _ _ _) (fun _ _=>zD.zy _ _ _ _) (fun _ pp=>pp.sl 0 rfl) (fun _ pp x hx=>by simp only [List.mem_cons,List.not_mem_nil,or_false] at hx; rcases hx with rfl | rfl <;> first | exact pp.at_ 6 _ rfl | exact pp.at_ 4 _ rfl) (by first | decide | omega) (fun x hx=>by cases hx) (fun x hx=>by cases hx)) (za (α:=Unit) (PT:=111) [Rb 114 p s j5 m3,.pub zP] [okP zB.Ok (zB.mk 4 0 0 ⟨#[45]⟩ ⟨none,0,[]⟩ ⟨none,0,[]⟩ ⟨(some ⟨b25,0,none⟩),2,([x,x3]:List zB)⟩),slP 7 zx (.slice (some ⟨b25,0,none⟩) 2 2) ([x,x3]:List zB),.blk b7 [iV x3.kind,iV x3.n,iV x3.range,.string x3.word,.slice x3.ms.A x3.ms.l.length x3.ms.c,.slice x3.by_.A x3.by_.l.length x3.by_.c,.slice x3.kids.A x3.kids.l.length x3.kids.c] 59,okP zB.Ok x3,.blk b5 [iV x.kind,iV x.n,iV x.range,.string x.word,.slice x.ms.A x.ms.l.length x.ms.c,.slice x.by_.A x.by_.l.length x.by_.c,.slice x.kids.A x.kids.l.length x.kids.c] 59,okP zB.Ok x,.blk b4 Zx 59] (fun _:Unit=>.agg (List.toArray [iV 4,iV 0,iV 0,.string ⟨#[45]⟩,Zs,Zs,.slice (some ⟨b25,0,none⟩) 2 2])) (fun z7=>m3 + 1≤100) (fun z7=>[Rb 114 p s j5 (m3 + 1),.pub zP]) _ (fun f5=>Pz.node ⟨j5,m3⟩=.no f5) (fun _=>rfl) (S9 [3,4,0,1,2,5,6,7,8]) (fun _=>rfl) wn rfl rfl call99 rfl (fun w1 Pb hG=>vt p s j5 m3 4 0 0 ⟨#[45]⟩ none 0 0 none 0 0 (some ⟨b25,0,none⟩) 2 2 Pb w1 hG qO qO qO) ?_ fun z7 hz7=>?_))
  ·intro f5 hf5
   refine yD (vW (yD (zW fun w1 hM=>?_)))
   have hY:=Pz.bin_next hI1.1 (Pz.minus1 (by rw [he2,g1]) (by rw [he5,h2])) qD he6
   simp only [Pz.then_ok,hf5,Pz.then_no] at hY
   exact hM.zi f5 (by simp only [Pz.then_ok,Pz.then_no,Pz.St.go,lgc,Pz.xpr,Pz.sumOf,he1,hY])
  have he7:Pz.node ⟨j5,m3⟩=.ok ⟨j5,m3 + 1⟩:=Pz.node_yes hz7
  refine (go 1) ?_
  refine zT (yM (ya (zB.mk 4 0 0 ⟨#[45]⟩ ⟨none,0,[]⟩ ⟨none,0,[]⟩ ⟨(some ⟨b25,0,none⟩),2,([x,x3]:List zB)⟩) j5 (m3 + 1) (q - 1) (sc rfl (sc rfl (sc rfl (sc rfl sn)))) (S9 [6,0,1,2,8]) ?_ ?_))
  ·have hY:=Pz.bin_next hI1.1 (Pz.minus1 (by rw [he2,g1]) (by rw [he5,h2])) qD he6
   simp only [Pz.then_ok,he7] at hY
   exact ⟨hY.trans (by rw [show q - 1 + 1=q by omega]; rfl),by omega,by omega,by omega,by omega⟩
  omega
 have g2:bo2=false:=by simpa using h2
 refine (go 12) (zZ results52 fun w1 hM=>?_)
 have h9:Pz.xpr s N ⟨i,n⟩=.ok (x.e,⟨j4,m⟩):=by simp only [Pz.then_ok,Pz.then_no,Pz.St.go,lgc,Pz.xpr,Pz.sumOf,he1,Pz.bin_done hI1.1 (Pz.plus0 (by rw [he2,g1]) (by rw [he5,g2]))]
 exact hM.vg ((x,⟨j4,m⟩):zB × Pz.St) rfl ⟨h9,(Pz.xpr_fine s N _ hi).ok_ h9⟩ (fun h=>h.sel [0,1,3] qD rfl)
theorem trm_of {N:Nat} (ih:FacC N):TrmC N:=fun p s i n d Pb w hG hi hs hn hd hd1=>c_term p s i n d N Pb w hG hi hs hn hd hd1 ih
theorem xpr_of {N:Nat} (ih:TrmC N):XprC N:=fun p s i n d Pb w hG hi hs hn hd hd1=>c_expr p s i n d N Pb w hG hi hs hn hd hd1 ih
theorem fac_all:∀ N,FacC N
  | 0=>fun p s i n d Pb w hG hi hs hn hd hd1=>c_factor p s i n d 0 Pb w hG hi hs hn hd hd1 (fun M h=>by omega)
  | N + 1=>fun p s i n d Pb w hG hi hs hn hd hd1=>c_factor p s i n d (N + 1) Pb w hG hi hs hn hd hd1 (fun M h=>by obtain rfl:N=M:=qO; exact xpr_of (trm_of (fac_all N)))
theorem xpr_all (N:Nat):XprC N:=xpr_of (trm_of (fac_all N))
end
section
namespace Ex
set_option linter.unusedVariables false
@[reducible] def dfr (f:Nat) (cap:List Value):Deferred:={ target:=.fn (.func f) cap.toArray,args:=#[] }
section
variable {P:Program} {N:Nat} {D:List Deferred} {E E':Env} {S S':World→Prop} {Q:Exit→Act→World→Prop} {K:Act→World→Prop} {w0 w w':World} {M:Fp} {L A A' R L':List Own} {Pb:Nat→Prop}
  {ops:Array Oper} {rest:List Oper} {d:Nat} {ty T PT:TypeId} {pos:String} {aft:Array Edge} {g:Option (Nat × Bool)} {v u:Value} {x y:Operand}
theorem fstartD {f:Nat} {fn:Func} {c:Code} {vals:List Value} {w:World} {R:Ending→World→Prop} (hf:P.funcs[f]?=some fn) (hb:fn.body=some c) (hn:fn.ntmps=N) (hl:Nat.ble vals.length N=true)
    (hS:S w) (h:WC P N [] c (bodyPostD P fn R) (envOf 0 vals) S):Calls P f vals.toArray w R:=by
  refine calls_of_wp_defers hf hb (h w hS _ ⟨rfl,?_,fun t v hv=>?_⟩)
  · have:=Nat.le_of_ble_eq_true hl
    simp [hn]; omega
  · rw [look_envOf,if_neg qO] at hv
    simp only [Nat.sub_zero] at hv
    have hlt:t < vals.length:=(List.getElem?_eq_some_iff.1 hv).1
    rw [Array.getElem?_append_left (by simpa using hlt)]
    simpa using hv
theorem c_seqD {x y:Code} (h:∀ K:Act→World→Prop,(∀ D' E S,WC P N D' y Q E S→∀ w,S w→∀ a,Has N D' a E→K a w)→WC P N D x (Exit.then K Q) E S):WC P N D (.seq x y) Q E S :=
  fun w hw a ha=>wp_seq (h (fun a w=>y.wp P Q a w) (fun _ _ _ h' w' hw' a' ha'=>h' w' hw' a' ha') w hw a ha)
theorem l_defer {f:Nat} {cap:List Value} (hw:Want N D ops E g true) (hx:ev E x=some (.func (.func f) #[] cap.toArray)) (h:WL P N (dfr f cap::D) ops Q rest E S):WL P N D ops Q (⟨none,.defer { callee:=.value x,args:=#[],argTypes:=#[] },ty,pos,aft,g⟩::rest) E S:=fun w hS a ha=>by
  unfold wpList
  rw [if_pos (hw _ rfl a ha)]
  left
  unfold Oper.wp
  rw [show (execOp a.eval ⟨none,.defer { callee:=.value x,args:=#[],argTypes:=#[] },ty,pos,aft,g⟩).run P w=.ok (.defer (dfr f cap)) w from by unfold execOp; simp [ha.eval hx,resolve,Deferred.ofValue,dfr],Oper.upon_defer]
  exact h w hS _ ⟨by show _::a.defers=_; rw [ha.d],ha.n,ha.h⟩
section
variable {fn:Func} {R:Ending→World→Prop} {f:Nat} {cap:List Value} {r1 r2:ResultVar} {v1 v2:Value} {chain chain':List PanicEntry}
theorem res2 {a:Act} {w:World} (hr:fn.results=#[r1,r2]) (hv1:ResV P N D E S r1 v1) (hv2:ResV P N D E S r2 v2) (hS:S w) (ha:Has N D a E):(results fn a.tmps).run P w=.ok (.tuple #[v1,v2]) w:=by
  rw [results_eq,hr]; simp [hv1 w hS a ha,hv2 w hS a ha]
theorem e_retD0 {e:Exit} (he:e=.ret∨e=.normal) (hr:fn.results=#[r1,r2]) (hv1:ResV P N [] E S r1 v1) (hv2:ResV P N [] E S r2 v2) (hR:∀ w,S w→R (.returned (.tuple #[v1,v2])) w):WE N [] (bodyPostD P fn R) e E S:=fun w hS a ha=>by
  have h1:Leaves P fn a.tmps R a.defers .returning w:=by rw [ha.d]; exact ⟨_,res2 hr hv1 hv2 hS ha,hR w hS⟩
  rcases he with rfl | rfl <;> exact h1
theorem leave1 {a:Act} {w:World} {u u':FrameMode} (hu:u≠.run) (hcall:∀ vs w,(callFunc f vs).run P w=.ok (.enter f vs) w) (hu':settle u'=.returning)
    (hc:CallsD P f cap.toArray u w (fun e u2 w'=>u2=u'∧(∃ v,e=.returned v)∧S' w')) (hr:fn.results=#[r1,r2]) (hv1:ResV P N D E S' r1 v1) (hv2:ResV P N D E S' r2 v2) (hR:∀ w,S' w→R (.returned (.tuple #[v1,v2])) w) (ha:Has N D a E) (hD:D=[dfr f cap]):Leaves P fn a.tmps R a.defers u w:=by
  have hd:=ha.d
  rw [hd,hD]
  refine leaves_cons hu (f:=f) (args:=cap.toArray) (by simp [invoke,hcall]) (hc.mono ?_)
  rintro e u2 w2 ⟨rfl,⟨v,rfl⟩,hS2⟩
  show Leaves P fn a.tmps R [] (settle _) w2
  rw [hu']
  exact ⟨_,res2 hr hv1 hv2 hS2 ha,hR w2 hS2⟩
theorem e_retD {e:Exit} (he:e=.ret∨e=.normal) (hcall:∀ vs w,(callFunc f vs).run P w=.ok (.enter f vs) w) (hc:∀ w,S w→CallsD P f cap.toArray .returning w (fun e u' w'=>u'=.returning∧(∃ v,e=.returned v)∧S' w'))
    (hr:fn.results=#[r1,r2]) (hv1:ResV P N [dfr f cap] E S' r1 v1) (hv2:ResV P N [dfr f cap] E S' r2 v2) (hR:∀ w,S' w→R (.returned (.tuple #[v1,v2])) w):WE N [dfr f cap] (bodyPostD P fn R) e E S:=fun w hS a ha=>by
  have h1:=leave1 (u:=.returning) qS hcall (u':=.returning) rfl (hc w hS) hr hv1 hv2 hR ha rfl
  rcases he with rfl | rfl <;> exact h1
theorem jZ (hcall:∀ vs w,(callFunc f vs).run P w=.ok (.enter f vs) w) (hc:∀ w,S w→CallsD P f cap.toArray (.panicking chain) w (fun e u' w'=>u'=.panicking chain'∧(∃ v,e=.returned v)∧S' w')) (hu:settle (.panicking chain')=.returning)
    (hr:fn.results=#[r1,r2]) (hv1:ResV P N [dfr f cap] E S' r1 v1) (hv2:ResV P N [dfr f cap] E S' r2 v2) (hR:∀ w,S' w→R (.returned (.tuple #[v1,v2])) w):WE N [dfr f cap] (bodyPostD P fn R) (.panic chain) E S:=fun w hS a ha =>
  leave1 (u:=.panicking chain) qS hcall hu (hc w hS) hr hv1 hv2 hR ha rfl
end
theorem dgive {α:Type} {f:Nat} {cap:List Value} {u u2:FrameMode} (A R:List Own) (mk:α→Value) (A' L':List Own) (hL':A'++R=L') (hA:∀ w,Mem w0 M L w→Mem w0 M (A++R) w) (hq:A'.all (fun o=>o.mut || o.isPub)=true)
    (hc:∀ w Pb,Mem w ⟨fpOf A,Pb⟩ A w→CallsD P f cap.toArray u w (fun e u' w'=>u'=u2∧RetA w A Pb mk (fun _=>True) (fun _=>A') e w')):∀ w,Mem w0 M L w→CallsD P f cap.toArray u w (fun e u' w'=>u'=u2∧(∃ v,e=.returned v)∧Mem w0 M L' w'):=fun w hS=>by
  have hS':=hA w hS
  obtain ⟨Pb,pp⟩:=hS'.pb
  refine (hc w Pb (hS'.give pp)).mono ?_
  rintro e u' w' ⟨hu,z,rfl,_,hk⟩
  exact ⟨hu,⟨_,rfl⟩,by rw [← hL']; exact hS'.take pp hk hq⟩
theorem didle {f:Nat} {cap:List Value} (hc:∀ w,Mem w0 M L w→CallsD P f cap.toArray .returning w (fun e u' w'=>u'=.returning∧RetA w [] (fun _=>False) (fun _:Unit=>.tuple #[]) (fun _=>True) (fun _=>[]) e w')):∀ w,Mem w0 M L w→CallsD P f cap.toArray .returning w (fun e u' w'=>u'=.returning∧(∃ v,e=.returned v)∧Mem w0 M L w'):=fun w hS=>by
  refine (hc w hS).mono ?_
  rintro e u' w' ⟨hu,z,rfl,_,hk⟩
  exact ⟨hu,⟨_,rfl⟩,hS.keep (hk.fr.mono fun b hb hm=>by obtain ⟨o,ho,_⟩:=hm; cases ho)⟩
theorem memNil (w:World):Mem w ⟨fpOf [],fun _=>False⟩ [] w:=Mem.start w _
theorem dstart {f:Nat} {fn:Func} {id:Nat} {c:Code} {vals:List Value} {w:World} {R:Ending→World→Prop} {u u':FrameMode} {rv:Value} (hf:P.funcs[f]?=some fn) (hb:fn.body=some (.seq (.region id #[⟨some d,.call { callee:=.builtin .recover,args:=#[],argTypes:=#[] },ty,pos,aft,none⟩] false) c)) (hn:fn.ntmps=N) (hl:Nat.ble vals.length N=true) (hd:Nat.blt d N=true)
    (hu:(u=.returning∧u'=.returning∧rv=.nilIface)∨∃ older,u=.panicking ({ v:=rv,recovered:=false }::older)∧u'=.panicking ({ v:=rv,recovered:=true }::older))
    (hS:S w) (h:WC P N [] c (bodyPost P fn R) ((d,rv)::envOf 0 vals) S):CallsD P f vals.toArray u w (fun e u2 w'=>u2=u'∧R e w'):=by
  refine callsD_of_wpS hf hb fun c₀ cs hcu=>?_
  have ha:Has N [] ({ tmps:=vals.toArray++Array.replicate (fn.ntmps - vals.toArray.size) undef,defers:=[] }:Act) (envOf 0 vals):=by
    refine ⟨rfl,?_,fun t v hv=>?_⟩
    · have:=Nat.le_of_ble_eq_true hl
      simp [hn]; omega
    · rw [look_envOf,if_neg qO] at hv
      simp only [Nat.sub_zero] at hv
      have hlt:t < vals.length:=(List.getElem?_eq_some_iff.1 hv).1
      rw [Array.getElem?_append_left (by simpa using hlt)]
      simpa using hv
  refine wpS_seq (wpS_region ?_)
  have hrest:∀ cs':List Frame,cs'={ c₀ with mode:=u' }::cs→∀ (a:Act),Has N [] a ((d,rv)::envOf 0 vals)→c.wpS P (bodyPostS P fn c₀ cs fun e u2 w'=>u2=u'∧R e w') a cs' w:=fun cs' hcs a ha=>by
    refine wpS_of_wp (Code.wp_mono ?_ (h w hS a ha))
    intro e a' w' hq
    cases e with
    | normal=>obtain ⟨h1,v,h2,h3⟩:=hq; exact ⟨h1,u',hcs,v,h2,rfl,h3⟩
    | ret=>obtain ⟨h1,v,h2,h3⟩:=hq; exact ⟨h1,u',hcs,v,h2,rfl,h3⟩
    | panic ch=>obtain ⟨h1,h2⟩:=hq; exact ⟨h1,u',hcs,rfl,h2⟩
    | outgrown=>exact ⟨u',rfl,hq⟩
    | exit i=>exact hq
    | goto i=>exact hq
  have hrun:∀ a:Act,(execOp a.eval ⟨some d,.call { callee:=.builtin .recover,args:=#[],argTypes:=#[] },ty,pos,aft,none⟩).run P w=.ok .recover w:=fun a=>by
    unfold execOp; simp [resolve,invoke,builtin]
  rw [show List.range (#[(⟨some d,.call { callee:=.builtin .recover,args:=#[],argTypes:=#[] },ty,pos,aft,none⟩:Oper)]).size=[0] from rfl]
  simp only [wpOpsS,List.getElem?_toArray,List.getElem?_cons_zero,Region.wanted,if_true,hrun]
  rcases hu with ⟨rfl,rfl,rfl⟩ | ⟨older,rfl,rfl⟩
  · have hr:recoverD (c₀::cs)=none:=by simp [recoverD,hcu]
    simp only [hr]
    exact hrest _ (by rw [← hcu]) _ (ha.put _ hd)
  · have hr:recoverD (c₀::cs)=some (rv,{ c₀ with mode:=.panicking ({ v:=rv,recovered:=true }::older) }::cs):=by simp [recoverD,hcu]
    simp only [hr]
    exact hrest _ rfl _ (ha.put _ hd)
end
end Ex
end
section
open _root_.Go.Proofs.Tryz
open Ex
attribute [local irreducible] WC WL WQ WE WS
set_option linter.unusedVariables false
set_option linter.unusedSimpArgs false
theorem jH (b2 b3:Nat) (v0 v1 v2 v3 v4 v5 v6 u0 u1:Value) (er at_:Int) (Pb:Nat→Prop) (w:World) (hG:Mem w ⟨fpOf [.blk b2 [v0,v1,v2,v3,v4,v5,v6] 59,.blk b3 [u0,u1] 61],Pb⟩ [.blk b2 [v0,v1,v2,v3,v4,v5,v6] 59,.blk b3 [u0,u1] 61] w)  :
    CallsD prog 51 #[.pointer (some ⟨b2,0,none⟩),.pointer (some ⟨b3,0,none⟩)] (.panicking [{ v:=.iface 111 (.agg (List.toArray [iV er,iV at_])),recovered:=false }]) w (fun e u2 w2=>u2=.panicking [{ v:=.iface 111 (.agg (List.toArray [iV er,iV at_])),recovered:=true }]∧(RetA w [.blk b2 [v0,v1,v2,v3,v4,v5,v6] 59,.blk b3 [u0,u1] 61] Pb (fun _:Unit=>.tuple #[]) (fun _=>True) (fun _=>[.blk b2 [iV 0,iV 0,iV 0,.string (⟨#[]⟩:ByteArray),Zs,Zs,Zs] 59,.blk b3 [iV er,iV at_] 61])) e w2):=by
 refine dstart (N:=14) (vals:=[.pointer (some ⟨b2,0,none⟩),.pointer (some ⟨b3,0,none⟩)]) (S:=Mem w ⟨fpOf [.blk b2 [v0,v1,v2,v3,v4,v5,v6] 59,.blk b3 [u0,u1] 61],Pb⟩ [.blk b2 [v0,v1,v2,v3,v4,v5,v6] 59,.blk b3 [u0,u1] 61]) func51 rfl rfl rfl rfl (.inr ⟨[],rfl,rfl⟩) hG (vZ (gA fun _ hK1=>zc (r_ieq rfl (.inr ⟨_,_,rfl⟩) underlying20) (yx hK1 (yh rfl rfl (gA fun _ hK2=>zc (r_tassert rfl underlying111) (zc (uX rfl rfl) (zc (uX rfl rfl) (yx hK2 (vG rfl rfl ?_)))))))))
 refine gA fun _ hK3=>jB wn inf111 rfl fun b3_1=>u5 0 wn rfl rfl rfl inf111 rfl rfl rfl (yx hK3 (yL (Mem w ⟨fpOf [.blk b2 [v0,v1,v2,v3,v4,v5,v6] 59,.blk b3 [u0,u1] 61],Pb⟩ [.blk b3_1 [iV er,iV at_] 111]) mix (fun _ h=>h.drew) rfl (yJ 2 [0,1,2] [0] rfl fun KS hKS=>uS (jA Zx pl59 inf59 rfl rfl) (uS (ui rfl fld111_0) (uS (je 0 [iV er,iV at_] rfl rfl rfl rfl agg61 inf61) (zk hKS (zg 1 3 (zd (i:=3) rfl fun KN hKN=>?_))))))))
 refine u5 1 wn rfl rfl rfl inf59 rfl rfl rfl (l_hk hKN [0] (zg 0 4 (zd (i:=4) rfl fun KN hKN=>u5 2 wn rfl rfl rfl inf61 rfl rfl rfl (l_hk hKN [0] (zr (by kernel_rfl) (yM (uq (.inr rfl) results51  fun w1 hM=>?_)))))))
 exact hM.yX () rfl trivial (fun h=>h.sel [1,2] qD rfl)
theorem c_idle (b2 b3:Nat) (Pb:Nat→Prop) (w:World) (hG:Mem w ⟨fpOf [],Pb⟩ [] w)  :
    CallsD prog 51 #[.pointer (some ⟨b2,0,none⟩),.pointer (some ⟨b3,0,none⟩)] .returning w (fun e u2 w2=>u2=.returning∧(RetA w [] Pb (fun _:Unit=>.tuple #[]) (fun _=>True) (fun _=>[])) e w2):=by
 refine dstart (N:=14) (vals:=[.pointer (some ⟨b2,0,none⟩),.pointer (some ⟨b3,0,none⟩)]) (S:=Mem w ⟨fpOf [],Pb⟩ []) func51 rfl rfl rfl rfl (.inl ⟨rfl,rfl,rfl⟩) hG (vZ (gA fun _ hK1=>zc (r_ieq rfl (.inl rfl) underlying20) (yx hK1 (vG rfl rfl (zo (ve rfl (zT (yM (uq (.inr rfl) results51  fun w1 hM=>?_)))))))))
 exact hM.yX () rfl trivial (fun h=>h.sel [] qD rfl)
theorem c_shapeB (x:zB) {w0 w:World} {M:Fp} {L:List Own} {hp b TB i j k:Nat} (hM:Mem w0 M L w) (hi:L[i]?=some (.blk hp [iV 0] 119)) (hj:L[j]?=some (.blk b (zx x) TB)) (hij:Nat.beq i j=false) (hk:L[k]?=some (okP zB.Ok x)) :
    Calls prog 55 #[.pointer (some ⟨hp,0,none⟩),.pointer (some ⟨b,0,none⟩),iV 1] w (RetM w hp 119 (iV (Lg.shape x.e 1 0).1) [iV (Lg.shape x.e 1 0).2]):=by
 obtain ⟨Pb,pp⟩:=hM.pb
 have hb:=(hM.ok j _ hj).2.1 b rfl
 have hne:b≠hp:=fun e=>hM.dj i j _ _ hi hj (Nat.ne_of_beq_eq_false hij) (.inl rfl) hp rfl (show hp=b from e.symm)
 refine c_shape x hp 0 ⟨b,0,none⟩ 1 (fun q=>q < w.heap.size∧q≠hp) w (hM.blk hi) (fun q hq=>hq) ⟨⟨hb,hne⟩,fun u v hv=>?_⟩ (zB.Ok.loc x Pb _ w w (fun q hq=>⟨pp.lt q hq,fun e=>pp.dj i _ hi rfl q hq e⟩) (fun _ _=>rfl) (pp.at_ k _ hk)) qO qO qO
 rw [add_lit]
 have:=hM.cell (j:=0 + u) hj
 rw [this]; simpa using hv
set_option maxHeartbeats 1000000 in
theorem c_parse (s:ByteArray) (P0:Nat→Prop) (w:World) (hP0:∀ b,P0 b→b < w.heap.size) (hE:zP P0 w)  :
    Calls prog 23 #[.string s] w (RetE w P0 (fun z:zB × Pz.F=>.tuple #[.agg (zx z.1).toArray,.agg #[iV z.2.1,iV z.2.2]]) (fun z=>Pz.parse s=(z.1.e,z.2)) (fun z S=>zB.Ok S z.1)):=by
 refine fstartD (N:=35) (vals:=[.string s]) (S:=Mem w ⟨no,P0⟩ [.pub zP]) func23 rfl rfl rfl (Mem.ofDatsP hP0 (dc (dp zP.loc hE) dn)) ?_
 refine (go 2) (zw fun b2=>zw fun b3=>?_)
 refine (go 10) (zX (fun h1=>?_) fun h1=>?_)
 ·refine (go 2) ?_
  refine zc (jA Zx pl59 inf59 rfl rfl) ?_
  refine (go 7) ?_
  refine e_retD0 (.inl rfl) results23 (vB 1 rfl rfl agg59 inf59 rfl) (vB 0 rfl rfl agg61 inf61 rfl) fun w1 hM=>?_
  exact hM.vI ((zB.mk 0 0 0 ⟨#[]⟩ ⟨none,0,[]⟩ ⟨none,0,[]⟩ ⟨none,0,[]⟩),(4,0)) rfl (Pz.parse_big h1) fun Pb pp=>Pz.okZero Pb w1
 refine (go 2) ?_
 refine c_seqD fun _ hK5=>?_
 refine (go 1) ?_
 refine zc (ye rfl rfl) (l_defer wn rfl ?_)
 refine (go 1) ?_
 refine u7 (hK5 _) ?_
 refine (go 4) (yv fun b13=>?_)
 refine (go 6) ?_
 refine za (α:=zB × Pz.St) (PT:=111) [.blk b13 [.string s,iV 0,iV 0] 114,.pub zP] [.blk b3 [iV 0,iV 0] 61,.blk b2 Zx 59] (fun z:zB × Pz.St=>.agg (zx z.1).toArray) (fun z1=>Pz.xpr s 20 ⟨0,0⟩=.ok (z1.1.e,z1.2)∧Pz.Good s ⟨0,0⟩ z1.2) (fun z1=>[Rb 114 b13 s z1.2.at_ z1.2.nd,.pub zP,okP zB.Ok z1.1]) _ (fun f1=>Pz.xpr s 20 ⟨0,0⟩=.no f1) (fun _=>rfl) (S9 [0,3,1,2]) (fun _=>rfl) wn rfl rfl call52 rfl (fun w1 Pb hG=>(xpr_all 20) b13 s 0 0 1 Pb w1 hG qO qO qO qO qO) ?_ fun z1 hz1=>?_
 ·intro f1 hf1
  refine zU (jZ call51 (dgive [.blk b2 Zx 59,.blk b3 [iV 0,iV 0] 61] [] (fun _:Unit=>.tuple #[]) [.blk b2 [iV 0,iV 0,iV 0,.string (⟨#[]⟩:ByteArray),Zs,Zs,Zs] 59,.blk b3 [iV f1.1,iV f1.2] 61] [.blk b2 [iV 0,iV 0,iV 0,.string (⟨#[]⟩:ByteArray),Zs,Zs,Zs] 59,.blk b3 [iV f1.1,iV f1.2] 61] rfl (S9 [1,0]) rfl (fun w1 Pb hG=>jH b2 b3 (iV 0) (iV 0) (iV 0) (.string ⟨#[]⟩) (Zs) (Zs) (Zs) (iV 0) (iV 0) f1.1 f1.2 Pb w1 hG)) rfl results23 (vB 0 rfl rfl agg59 inf59 rfl) (vB 1 rfl rfl agg61 inf61 rfl) fun w1 hM=>?_)
  exact hM.vI ((zB.mk 0 0 0 ⟨#[]⟩ ⟨none,0,[]⟩ ⟨none,0,[]⟩ ⟨none,0,[]⟩),f1) rfl (Pz.parse_no h1 hf1) fun Pb pp=>Pz.okZero Pb w1
 obtain ⟨x1,j1,m1⟩:=z1
 have he1:Pz.xpr s 20 ⟨0,0⟩=.ok (x1.e,⟨j1,m1⟩):=hz1.1
 have ga1:j1≤s.size:=hz1.2.at_
 have gm1:0≤m1:=hz1.2.mono
 have gn1:m1≤100:=hz1.2.most (show 0≤100 by omega)
 refine (go 6) ?_
 refine yR (α:=Nat) [Rb 114 b13 s j1 m1,.pub zP] [okP zB.Ok x1,.blk b3 [iV 0,iV 0] 61,.blk b2 [iV x1.kind,iV x1.n,iV x1.range,.string x1.word,.slice x1.ms.A x1.ms.l.length x1.ms.c,.slice x1.by_.A x1.by_.l.length x1.by_.c,.slice x1.kids.A x1.kids.l.length x1.kids.c] 59] (fun _=>.tuple #[]) (fun j2=>(Pz.blank s j1=j2∧j1≤j2∧j2≤s.size)) (fun j2=>[Rb 114 b13 s j2 m1,.pub zP]) _ (fun _=>rfl) (S9 [0,1,2,3,4]) (fun _=>rfl) wn rfl rfl call53 rfl (fun w1 Pb hG=>vq b13 s j1 m1 Pb w1 hG qO qO) fun j2 hz2=>?_
 obtain ⟨hz2e,hz2a,hz2b⟩:=hz2
 refine (go 14) (zX (fun h2=>?_) fun h2=>?_)
 ·refine (go 2) ?_
  refine za (α:=Unit) (PT:=111) [Rb 114 b13 s j2 m1,.pub zP] [okP zB.Ok x1,.blk b3 [iV 0,iV 0] 61,.blk b2 [iV x1.kind,iV x1.n,iV x1.range,.string x1.word,.slice x1.ms.A x1.ms.l.length x1.ms.c,.slice x1.by_.A x1.by_.l.length x1.by_.c,.slice x1.kids.A x1.kids.l.length x1.kids.c] 59] (fun _:Unit=>.tuple #[]) (fun z2=>False) (fun z2=>[Rb 114 b13 s j2 m1,.pub zP]) _ (fun f2=>f2=(2,(j2:Int))) (fun _=>rfl) (S9 [0,1,2,3,4]) (fun _=>rfl) wn rfl rfl call54 rfl (fun w1 Pb hG=>yl b13 s j2 m1 2 Pb w1 hG) ?_ fun z2 hz3=>?_
  ·intro f2 hf2
   refine zU (jZ call51 (dgive [.blk b2 [iV x1.kind,iV x1.n,iV x1.range,.string x1.word,.slice x1.ms.A x1.ms.l.length x1.ms.c,.slice x1.by_.A x1.by_.l.length x1.by_.c,.slice x1.kids.A x1.kids.l.length x1.kids.c] 59,.blk b3 [iV 0,iV 0] 61] [okP zB.Ok x1] (fun _:Unit=>.tuple #[]) [.blk b2 [iV 0,iV 0,iV 0,.string (⟨#[]⟩:ByteArray),Zs,Zs,Zs] 59,.blk b3 [iV f2.1,iV f2.2] 61] [.blk b2 [iV 0,iV 0,iV 0,.string (⟨#[]⟩:ByteArray),Zs,Zs,Zs] 59,.blk b3 [iV f2.1,iV f2.2] 61,okP zB.Ok x1] rfl (S9 [2,1,0]) rfl (fun w1 Pb hG=>jH b2 b3 (iV x1.kind) (iV x1.n) (iV x1.range) (.string x1.word) (.slice x1.ms.A x1.ms.l.length x1.ms.c) (.slice x1.by_.A x1.by_.l.length x1.by_.c) (.slice x1.kids.A x1.kids.l.length x1.kids.c) (iV 0) (iV 0) f2.1 f2.2 Pb w1 hG)) rfl results23 (vB 0 rfl rfl agg59 inf59 rfl) (vB 1 rfl rfl agg61 inf61 rfl) fun w1 hM=>?_)
   exact hM.vI ((zB.mk 0 0 0 ⟨#[]⟩ ⟨none,0,[]⟩ ⟨none,0,[]⟩ ⟨none,0,[]⟩),f2) rfl (by rw [hf2]; exact Pz.parse_form h1 he1 hz2e qO) fun Pb pp=>Pz.okZero Pb w1
  exact hz3.elim
 refine (go 6) (yv fun b28=>?_)
 refine jE 0 (v:=iV (Lg.shape x1.e 1 0).1) (cs':=[iV (Lg.shape x1.e 1 0).2]) wn rfl rfl call55 rfl (fun w1 Pb hM pp=>c_shapeB x1 (TB:=59) hM (i:=0) rfl (j:=5) rfl rfl (k:=3) rfl) ?_
 refine (go 3) (zX (fun h3=>?_) fun h3=>?_)
 ·refine (go 2) ?_
  refine za (α:=Unit) (PT:=111) [Rb 114 b13 s j2 m1,.pub zP] [.blk b28 [iV ((Lg.shape x1.e 1 0).2)] 119,okP zB.Ok x1,.blk b3 [iV 0,iV 0] 61,.blk b2 [iV x1.kind,iV x1.n,iV x1.range,.string x1.word,.slice x1.ms.A x1.ms.l.length x1.ms.c,.slice x1.by_.A x1.by_.l.length x1.by_.c,.slice x1.kids.A x1.kids.l.length x1.kids.c] 59] (fun _:Unit=>.tuple #[]) (fun z3=>False) (fun z3=>[Rb 114 b13 s j2 m1,.pub zP]) _ (fun f3=>f3=(4,(j2:Int))) (fun _=>rfl) (S9 [1,2,0,3,4,5]) (fun _=>rfl) wn rfl rfl call54 rfl (fun w1 Pb hG=>yl b13 s j2 m1 4 Pb w1 hG) ?_ fun z3 hz4=>?_
  ·intro f3 hf3
   refine zU (jZ call51 (dgive [.blk b2 [iV x1.kind,iV x1.n,iV x1.range,.string x1.word,.slice x1.ms.A x1.ms.l.length x1.ms.c,.slice x1.by_.A x1.by_.l.length x1.by_.c,.slice x1.kids.A x1.kids.l.length x1.kids.c] 59,.blk b3 [iV 0,iV 0] 61] [.blk b28 [iV ((Lg.shape x1.e 1 0).2)] 119,okP zB.Ok x1] (fun _:Unit=>.tuple #[]) [.blk b2 [iV 0,iV 0,iV 0,.string (⟨#[]⟩:ByteArray),Zs,Zs,Zs] 59,.blk b3 [iV f3.1,iV f3.2] 61] [.blk b2 [iV 0,iV 0,iV 0,.string (⟨#[]⟩:ByteArray),Zs,Zs,Zs] 59,.blk b3 [iV f3.1,iV f3.2] 61,.blk b28 [iV ((Lg.shape x1.e 1 0).2)] 119,okP zB.Ok x1] rfl (S9 [3,2,0,1]) rfl (fun w1 Pb hG=>jH b2 b3 (iV x1.kind) (iV x1.n) (iV x1.range) (.string x1.word) (.slice x1.ms.A x1.ms.l.length x1.ms.c) (.slice x1.by_.A x1.by_.l.length x1.by_.c) (.slice x1.kids.A x1.kids.l.length x1.kids.c) (iV 0) (iV 0) f3.1 f3.2 Pb w1 hG)) rfl results23 (vB 0 rfl rfl agg59 inf59 rfl) (vB 1 rfl rfl agg61 inf61 rfl) fun w1 hM=>?_)
   exact hM.vI ((zB.mk 0 0 0 ⟨#[]⟩ ⟨none,0,[]⟩ ⟨none,0,[]⟩ ⟨none,0,[]⟩),f3) rfl (by rw [hf3]; exact Pz.parse_much h1 he1 hz2e qO h3) fun Pb pp=>Pz.okZero Pb w1
  exact hz4.elim
 refine (go 3) ?_
 refine yL (Mem w ⟨no,P0⟩ [.blk b28 [iV ((Lg.shape x1.e 1 0).2)] 119,Rb 114 b13 s j2 m1,.pub zP,okP zB.Ok x1,.blk b3 [iV 0,iV 0] 61,.blk b2 [iV x1.kind,iV x1.n,iV x1.range,.string x1.word,.slice x1.ms.A x1.ms.l.length x1.ms.c,.slice x1.by_.A x1.by_.l.length x1.by_.c,.slice x1.kids.A x1.kids.l.length x1.kids.c] 59]) mix (fun _ h=>h.drew) rfl (uA (f:=2) [0,1] rfl rfl (by kernel_rfl) (by kernel_rfl) (fun _ h=>h) fun KS hKS=>?_)
 refine (go 2) ?_
 refine zk hKS (zg 1 2 (ze (i:=2) rfl fun KN hKN hPN=>?_))
 refine (go 2) ?_
 refine hKN _ _ (fun _ h=>h) (zg 0 3 (ze (i:=3) rfl fun KN hKN hPN=>?_))
 refine (go 2) ?_
 refine hKN _ _ (fun _ h=>h) ?_
 refine zr (by kernel_rfl) ((go 1) ?_)
 refine (go 1) ?_
 refine e_retD (.inl rfl) call51 (didle fun w1 hM=>c_idle b2 b3 (fun _=>False) w1 (memNil w1)) results23 (vB 5 rfl rfl agg59 inf59 rfl) (vB 4 rfl rfl agg61 inf61 rfl) fun w1 hM=>?_
 exact hM.vI (x1,(0,0)) rfl (Pz.parse_ok h1 he1 hz2e qO h3) fun Pb pp=>pp.at_ 3 _ rfl
end
section
open _root_.Go.Proofs.Tryz
open Ex
attribute [local irreducible] WC WL WQ WE WS
set_option linter.unusedVariables false
set_option linter.unusedSimpArgs false
theorem winG_ask {x:yA} (hok:∀ s ∈ x.zA.l,s.sr.l.length≤1048576) (hlen:x.zA.l.length≤8) (S:Nat→Prop) (box bp cost:Nat):WinG prog 116 #[.pointer (some ⟨box,0,none⟩),.pointer (some ⟨cost,0,none⟩)] (fun n=>.blk cost [iV n] 3) S (Lent 91 93 S box bp x) (Bs.look (x.zA.l.map zC.e)) (Bs.cost (x.zA.l.map zC.e)) :=
  ⟨call116,fun n=>.inl rfl,fun n m b h=>h,fun ms a b n w Pb hG ha hb=>by simpa using c_bask1 box bp cost x S ms a b n Pb w hG hok hlen⟩
set_option maxHeartbeats 1000000 in
theorem c_bask (bp:Nat) (x:yA) (dad:Addr) (d:zn) (Pb:Nat→Prop) (w:World) (hG:Mem w ⟨fpOf [.blk bp [.slice x.zA.A x.zA.l.length x.zA.c,iV x.zO] 93,Row (.slice x.zA.A x.zA.l.length x.zA.c) 50 9 zY x.zA.l,allP zC.Ok x.zA.l,celP dad [iV d.kind,iV d.tier,iV d.to,.slice d.sr.A d.sr.l.length d.sr.c,iV d.zJ.time,iV d.zJ.value,.string d.text],okP zn.Ok d,.pub zP],Pb⟩ [.blk bp [.slice x.zA.A x.zA.l.length x.zA.c,iV x.zO] 93,Row (.slice x.zA.A x.zA.l.length x.zA.c) 50 9 zY x.zA.l,allP zC.Ok x.zA.l,celP dad [iV d.kind,iV d.tier,iV d.to,.slice d.sr.A d.sr.l.length d.sr.c,iV d.zJ.time,iV d.zJ.value,.string d.text],okP zn.Ok d,.pub zP] w) (hi:Bs.Inv x.e 120) :
    Calls prog 69 #[.pointer (some ⟨bp,0,none⟩),.pointer (some ((Addr.add dad 0).add 0))] w (RetA w [.blk bp [.slice x.zA.A x.zA.l.length x.zA.c,iV x.zO] 93,Row (.slice x.zA.A x.zA.l.length x.zA.c) 50 9 zY x.zA.l,allP zC.Ok x.zA.l,celP dad [iV d.kind,iV d.tier,iV d.to,.slice d.sr.A d.sr.l.length d.sr.c,iV d.zJ.time,iV d.zJ.value,.string d.text],okP zn.Ok d,.pub zP] Pb (fun z:yA × zh=>.agg (ym z.2).toArray) (fun z=>(z.1.e,z.2.e)=(x.e,Bs.ask x.e d.e)) (fun z=>[okP zh.Ok z.2,.blk bp [.slice z.1.zA.A z.1.zA.l.length z.1.zA.c,iV z.1.zO] 93,Row (.slice z.1.zA.A z.1.zA.l.length z.1.zA.c) 50 9 zY z.1.zA.l,allP zC.Ok z.1.zA.l,celP dad (y8 d),okP zn.Ok d,.pub zP])):=by
 have hwf:∀ y ∈ x.zA.l,zC.Wf y:=fun y hy=>((hG.yS (i:=2) rfl) y hy).wf
 have hwd:=(hG.yS (i:=4) rfl).wf
 obtain ⟨hsc,hsm,hsA⟩:=row_wf (hG.row (i:=1) rfl)
 have hlen:=len_k hi
 refine zt (N:=54) (vals:=[.pointer (some ⟨bp,0,none⟩),.pointer (some ((Addr.add dad 0).add 0))]) func69 hG ?_
 refine (go 2) (jX fun b2=>zw fun b4=>?_)
 refine (go 8) ?_
 refine yb (β:=zB × Pz.F) (fun z=>.tuple #[.agg (zx z.1).toArray,.agg #[iV z.2.1,iV z.2.2]]) (fun z=>Pz.parse d.text=(z.1.e,z.2)) (fun z S=>zB.Ok S z.1) (fun z=>zB.Ok.loc z.1) wn rfl call23 rfl (fun w1 Pb hM pp=>c_parse d.text Pb w1 pp.lt (pp.at_ 7 _ rfl)) fun z1 hz1=>?_
 obtain ⟨x1,er1,at1⟩:=z1
 have hq1:Pz.parse d.text=(x1.e,(er1,at1)):=hz1
 refine yg 0 rfl (fun S w h=>zB.Ok.wf h) fun hw1=>?_
 refine (go 3) (zw fun b5=>zw fun b6=>?_)
 refine (go 12) (zX (fun h1=>?_) fun h1=>?_)
 ·refine (go 12) (zZ results69 fun w1 hM=>?_)
  have hM:=hM.yV (zh.Ok.loc (⟨er1,at1,⟨none,0,[]⟩,0⟩:zh)) fun Pb pp=>⟨zD.zy _ _ _ _,fun c hc=>(by cases hc)⟩
  exact hM.yX (x,⟨er1,at1,⟨none,0,[]⟩,0⟩) rfl (ask_1 hq1 h1) (fun h=>h.sel [0,6,7,8,9,10,11] qD rfl)
 refine (go 10) ?_
 refine yO wn rfl call57 rfl (fun w1 hM=>c_check x1 d.to (In w1) w1 (fun _ h=>h) (hM.yS (i:=2) rfl)) ?_
 refine (go 9) (zX (fun h2=>?_) fun h2=>?_)
 ·refine (go 9) (zZ results69 fun w1 hM=>?_)
  have hM:=hM.yV (zh.Ok.loc (noX (Mn.check x1.e d.to):zh)) fun Pb pp=>noX_ok _ _ _
  exact hM.yX (x,noX (Mn.check x1.e d.to)) rfl (ask_2 hq1 h1 h2) (fun h=>h.sel [0,6,7,8,9,10,11] qD rfl)
 have hck:=Mn.check_right (Classical.not_not.1 h2)
 refine (go 4) (l_aO fun b8=>?_)
 refine (go 4) ?_
 refine yL (Mem w ⟨fpOf [.blk bp [.slice x.zA.A x.zA.l.length x.zA.c,iV x.zO] 93,Row (.slice x.zA.A x.zA.l.length x.zA.c) 50 9 zY x.zA.l,allP zC.Ok x.zA.l,celP dad [iV d.kind,iV d.tier,iV d.to,.slice d.sr.A d.sr.l.length d.sr.c,iV d.zJ.time,iV d.zJ.value,.string d.text],okP zn.Ok d,.pub zP],Pb⟩ [.blk b6 [iV er1,iV at1] 61,.blk b5 [iV x1.kind,iV x1.n,iV x1.range,.string x1.word,.slice x1.ms.A x1.ms.l.length x1.ms.c,.slice x1.by_.A x1.by_.l.length x1.by_.c,.slice x1.kids.A x1.kids.l.length x1.kids.c] 59,okP zB.Ok x1,.blk b4 [iV 0,iV 0,Zs,iV 0] 34,.blk b2 [.pointer (some ⟨bp,0,none⟩)] 91,.blk bp [.slice x.zA.A x.zA.l.length x.zA.c,iV x.zO] 93,Row (.slice x.zA.A x.zA.l.length x.zA.c) 50 9 zY x.zA.l,allP zC.Ok x.zA.l,celP dad [iV d.kind,iV d.tier,iV d.to,.slice d.sr.A d.sr.l.length d.sr.c,iV d.zJ.time,iV d.zJ.value,.string d.text],okP zn.Ok d,.pub zP]) mix (fun _ h=>h.drew) rfl (yJ 6 [0,1,2,3,4,5] [1,2,3,4,5,6,7,8,9,10,11] rfl fun KS hKS=>?_)
 refine (go 5) ?_
 refine uS (ye rfl rfl) (zk hKS (zg 5 6 (zd (i:=6) rfl fun KN hKN=>l_lend (e:=x1) (n:=0) (n':=(Mn.evalN (Bs.look (x.zA.l.map zC.e)) (Bs.cost (x.zA.l.map zC.e)) d.to x1.e 0)) (T1:=91) (T2:=93) (T3:=50) (TI:=3) [.blk b6 [iV er1,iV at1] 61,.blk b5 [iV x1.kind,iV x1.n,iV x1.range,.string x1.word,.slice x1.ms.A x1.ms.l.length x1.ms.c,.slice x1.by_.A x1.by_.l.length x1.by_.c,.slice x1.kids.A x1.kids.l.length x1.kids.c] 59,.blk b4 [iV 0,iV 0,Zs,iV 0] 34,celP dad [iV d.kind,iV d.tier,iV d.to,.slice d.sr.A d.sr.l.length d.sr.c,iV d.zJ.time,iV d.zJ.value,.string d.text],okP zn.Ok d,.pub zP] (celsV (Mn.out (Mn.eval (Bs.look (x.zA.l.map zC.e)) d.to x1.e)).2) (fun z=>z.l.map zE.e=(Mn.out (Mn.eval (Bs.look (x.zA.l.map zC.e)) d.to x1.e)).1) CelsX.Ok (S9 [0,3,5,6,7,8,1,2,4,9,10,11]) wn rfl rfl call58 rfl (fun S w1 Pb hG=>c_geval _ _ _ _ _ _ _ _ _ x1 Pb w1 hG (winG_ask (shelf_lens hi) hlen _ _ _ _) (Bs.good_look hi) hck.2 hck.1) fun z2 hz2=>yg 0 rfl (fun S w h=>CelsX.Ok.wf h) fun hw2=>zb (fun _ h=>h.celsY 0 rfl) ?_)))
 obtain ⟨hc1,hm1,hA1⟩:=hw2.cells
 refine (go 1) ?_
 refine hKN _ _ (S9 [9,10,4,11,5,6,7,8,12,13,14]) (yJ 0 [7,8,9,10,11] [9,10,4,11,5,6,7,8,12,13,14] rfl fun KS hKS=>?_)
 refine (go 5) ?_
 refine zk hKS ?_
 refine zr (by kernel_rfl) ((go 1) ?_)
 refine (go 7) (zX (fun h3=>?_) fun h3=>?_)
 ·refine (go 9) (zZ results69 fun w1 hM=>?_)
  have hM:=hM.yV (zh.Ok.loc (noX ((Mn.out (Mn.eval (Bs.look (x.zA.l.map zC.e)) d.to x1.e)).2):zh)) fun Pb pp=>noX_ok _ _ _
  exact hM.yX (x,noX ((Mn.out (Mn.eval (Bs.look (x.zA.l.map zC.e)) d.to x1.e)).2)) rfl (ask_3 hq1 h1 h2 h3) (fun h=>h.sel [0,7,8,9,13,14,15] qD rfl)
 refine (go 11) (zZ results69 fun w1 hM=>?_)
 have hM:=hM.yV (zh.Ok.loc (⟨0,0,z2,(Mn.evalN (Bs.look (x.zA.l.map zC.e)) (Bs.cost (x.zA.l.map zC.e)) d.to x1.e 0)⟩:zh)) fun Pb pp=>⟨pp.sl 0 rfl,pp.at_ 1 _ rfl⟩
 exact hM.yX (x,⟨0,0,z2,(Mn.evalN (Bs.look (x.zA.l.map zC.e)) (Bs.cost (x.zA.l.map zC.e)) d.to x1.e 0)⟩) rfl (ask_4 hq1 h1 h2 h3 hz2) (fun h=>h.sel [0,7,8,9,13,14,15] qD rfl)
end
section
open _root_.Go.Proofs.Tryz
open Ex
attribute [local irreducible] WC WL WQ WE WS
set_option linter.unusedVariables false
set_option linter.unusedSimpArgs false
theorem do1_fn (ba dad:Addr) (d:zn):ShFn prog 71 #[.pointer (some ba)] (DoAt ba dad d) (fun s=>Sh.forget s d.tier d.to) :=
  ⟨call71,DoAt.loc _ _ _,fun s w Pb hP hs hC=>by simpa using c_do1 s ba dad d Pb w hP hs hC.box hC.cel hC.ok⟩
theorem do2_fn (ba dad:Addr) (d:zn):ShFn prog 73 #[.pointer (some ba)] (DoAt ba dad d) (fun s=>Sh.roll s d.to) :=
  ⟨call73,DoAt.loc _ _ _,fun s w Pb hP hs hC=>by simpa using c_do2 s ba dad d Pb w hP hs hC.box hC.cel hC.ok⟩
set_option maxHeartbeats 1000000 in
theorem c_bdo (bp:Nat) (x:yA) (dad:Addr) (d:zn) (Pb:Nat→Prop) (w:World) (hG:Mem w ⟨fpOf [.blk bp [.slice x.zA.A x.zA.l.length x.zA.c,iV x.zO] 93,Row (.slice x.zA.A x.zA.l.length x.zA.c) 50 9 zY x.zA.l,allP zC.Ok x.zA.l,celP dad [iV d.kind,iV d.tier,iV d.to,.slice d.sr.A d.sr.l.length d.sr.c,iV d.zJ.time,iV d.zJ.value,.string d.text],okP zn.Ok d,.pub zP],Pb⟩ [.blk bp [.slice x.zA.A x.zA.l.length x.zA.c,iV x.zO] 93,Row (.slice x.zA.A x.zA.l.length x.zA.c) 50 9 zY x.zA.l,allP zC.Ok x.zA.l,celP dad [iV d.kind,iV d.tier,iV d.to,.slice d.sr.A d.sr.l.length d.sr.c,iV d.zJ.time,iV d.zJ.value,.string d.text],okP zn.Ok d,.pub zP] w) (hi:Bs.Inv x.e 120) :
    Calls prog 37 #[.pointer (some ⟨bp,0,none⟩),.pointer (some ((Addr.add dad 0).add 0))] w (RetA w [.blk bp [.slice x.zA.A x.zA.l.length x.zA.c,iV x.zO] 93,Row (.slice x.zA.A x.zA.l.length x.zA.c) 50 9 zY x.zA.l,allP zC.Ok x.zA.l,celP dad [iV d.kind,iV d.tier,iV d.to,.slice d.sr.A d.sr.l.length d.sr.c,iV d.zJ.time,iV d.zJ.value,.string d.text],okP zn.Ok d,.pub zP] Pb (fun z:yA × zh=>.agg (ym z.2).toArray) (fun z=>(z.1.e,z.2.e)=Bs.one x.e d.e) (fun z=>[okP zh.Ok z.2,.blk bp [.slice z.1.zA.A z.1.zA.l.length z.1.zA.c,iV z.1.zO] 93,Row (.slice z.1.zA.A z.1.zA.l.length z.1.zA.c) 50 9 zY z.1.zA.l,allP zC.Ok z.1.zA.l,celP dad (y8 d),okP zn.Ok d,.pub zP])):=by
 have hwf:∀ y ∈ x.zA.l,zC.Wf y:=fun y hy=>((hG.yS (i:=2) rfl) y hy).wf
 have hwd:=(hG.yS (i:=4) rfl).wf
 obtain ⟨hsc,hsm,hsA⟩:=row_wf (hG.row (i:=1) rfl)
 have hlen:=len_k hi
 have hh0:=hi.hor
 have hh1:x.e.zO=x.zO:=rfl
 refine zt (N:=86) (vals:=[.pointer (some ⟨bp,0,none⟩),.pointer (some ((Addr.add dad 0).add 0))]) func37 hG ?_
 refine (go 2) (jX fun b3=>zw fun b4=>?_)
 refine (go 18) (zX (fun h1=>?_) fun h1=>?_)
 ·refine (go 4) ?_
  refine yR (α:=yA × zh) [.blk bp [.slice x.zA.A x.zA.l.length x.zA.c,iV x.zO] 93,Row (.slice x.zA.A x.zA.l.length x.zA.c) 50 9 zY x.zA.l,allP zC.Ok x.zA.l,celP dad [iV d.kind,iV d.tier,iV d.to,.slice d.sr.A d.sr.l.length d.sr.c,iV d.zJ.time,iV d.zJ.value,.string d.text],okP zn.Ok d] [.blk b4 [iV 0,iV 0,Zs,iV 0] 34,.blk b3 [.pointer (some ((Addr.add dad 0).add 0))] 95,.pub zP] (fun z:yA × zh=>.agg (ym z.2).toArray) (fun z1=>(z1.1.e,z1.2.e)=Bs.add x.e d.e) (fun z1=>[okP zh.Ok z1.2,.blk bp [.slice z1.1.zA.A z1.1.zA.l.length z1.1.zA.c,iV z1.1.zO] 93,Row (.slice z1.1.zA.A z1.1.zA.l.length z1.1.zA.c) 50 9 zY z1.1.zA.l,allP zC.Ok z1.1.zA.l,celP dad [iV d.kind,iV d.tier,iV d.to,.slice d.sr.A d.sr.l.length d.sr.c,iV d.zJ.time,iV d.zJ.value,.string d.text],okP zn.Ok d]) _ (fun _=>rfl) (S9 [2,3,4,5,6,0,1,7]) (fun _=>rfl) wn rfl rfl call68 rfl (fun w1 Pb hG=>c_badd bp x dad d Pb w1 hG hi) fun z1 hz1=>?_
  refine (go 6) (zZ results37 fun w1 hM=>?_)
  exact hM.yX z1 rfl (one_1 h1 hz1) (fun h=>h.sel [0,1,2,3,4,5,8] qD rfl)
 refine (go 6) (zX (fun h2=>?_) fun h2=>?_)
 ·refine (go 4) ?_
  refine yR (α:=yA × zh) [.blk bp [.slice x.zA.A x.zA.l.length x.zA.c,iV x.zO] 93,Row (.slice x.zA.A x.zA.l.length x.zA.c) 50 9 zY x.zA.l,allP zC.Ok x.zA.l,celP dad [iV d.kind,iV d.tier,iV d.to,.slice d.sr.A d.sr.l.length d.sr.c,iV d.zJ.time,iV d.zJ.value,.string d.text],okP zn.Ok d,.pub zP] [.blk b4 [iV 0,iV 0,Zs,iV 0] 34,.blk b3 [.pointer (some ((Addr.add dad 0).add 0))] 95] (fun z:yA × zh=>.agg (ym z.2).toArray) (fun z2=>(z2.1.e,z2.2.e)=(x.e,Bs.ask x.e d.e)) (fun z2=>[okP zh.Ok z2.2,.blk bp [.slice z2.1.zA.A z2.1.zA.l.length z2.1.zA.c,iV z2.1.zO] 93,Row (.slice z2.1.zA.A z2.1.zA.l.length z2.1.zA.c) 50 9 zY z2.1.zA.l,allP zC.Ok z2.1.zA.l,celP dad [iV d.kind,iV d.tier,iV d.to,.slice d.sr.A d.sr.l.length d.sr.c,iV d.zJ.time,iV d.zJ.value,.string d.text],okP zn.Ok d,.pub zP]) _ (fun _=>rfl) (S9 [2,3,4,5,6,7,0,1]) (fun _=>rfl) wn rfl rfl call69 rfl (fun w1 Pb hG=>c_bask bp x dad d Pb w1 hG hi) fun z2 hz2=>?_
  refine (go 6) (zZ results37 fun w1 hM=>?_)
  exact hM.yX z2 rfl (one_2 h1 h2 hz2) (fun h=>h.sel [0,1,2,3,4,5,6] qD rfl)
 refine (go 7) (zX (fun h3=>?_) fun h3=>?_)
 ·refine (go 2) ?_
  refine vG rfl (decide_eq_true h3) ?_
  refine (go 12) (yP 29 (fun h4=>?_) fun h4=>?_)
  ·refine (go 17) (zZ results37 fun w1 hM=>?_)
   have hM:=hM.yV (zh.Ok.loc (noX 3)) fun Pb pp=>noX_ok _ _ _
   exact hM.yX (x,noX 3) rfl (one_4 h1 h2 (.inl h3) qO) (fun h=>h.sel [0,3,4,5,6,7,8] qD rfl)
  refine (go 8) (zX (fun h5=>?_) fun h5=>?_)
  ·refine (go 8) (zZ results37 fun w1 hM=>?_)
   have hM:=hM.yV (zh.Ok.loc (noX 3)) fun Pb pp=>noX_ok _ _ _
   exact hM.yX (x,noX 3) rfl (one_4 h1 h2 (.inl h3) qO) (fun h=>h.sel [0,3,4,5,6,7,8] qD rfl)
  refine (go 12) ?_
  refine yh rfl (decide_eq_false qO) ?_
  refine (go 5) ?_
  refine zc (ye rfl rfl) (l_sealB2 1 2 3 rfl rfl rfl rfl rfl onlyB (zb (fun _ h=>h.yV (DoAt.loc ⟨b3,0,none⟩ dad d) fun Pb pp=>⟨pp.at_ 1 _ rfl,pp.at_ 5 _ rfl,pp.at_ 6 _ rfl⟩) (yR (α:=yA) [.blk bp [.slice x.zA.A x.zA.l.length x.zA.c,iV x.zO] 93,Row (.slice x.zA.A x.zA.l.length x.zA.c) 50 9 zY x.zA.l,allP zC.Ok x.zA.l,.pub (DoAt ⟨b3,0,none⟩ dad d)] [.blk b4 [iV 0,iV 0,Zs,iV 0] 34,celP ⟨b3,0,none⟩ [.pointer (some ((Addr.add dad 0).add 0))],celP dad [iV d.kind,iV d.tier,iV d.to,.slice d.sr.A d.sr.l.length d.sr.c,iV d.zJ.time,iV d.zJ.value,.string d.text],okP zn.Ok d,.pub zP] (fun _=>iV (Bs.each (fun s=>Sh.roll s d.to) x.e.zA).2) (fun z3=>z3.e=if (Bs.each (fun s=>Sh.roll s d.to) x.e.zA).2≠0 then x.e else ⟨(Bs.each (fun s=>Sh.roll s d.to) x.e.zA).1,x.zO⟩) (fun z3=>[.blk bp [.slice z3.zA.A z3.zA.l.length z3.zA.c,iV z3.zO] 93,Row (.slice z3.zA.A z3.zA.l.length z3.zA.c) 50 9 zY z3.zA.l,allP zC.Ok z3.zA.l,.pub (DoAt ⟨b3,0,none⟩ dad d)]) _ (fun _=>rfl) (S9 [3,4,5,0,1,2,6,7,8]) (fun _=>rfl) wn rfl rfl call70 rfl (fun w1 Pb hG=>c_each bp x 73 #[.pointer (some ⟨b3,0,none⟩)] (DoAt ⟨b3,0,none⟩ dad d) (fun s=>Sh.roll s d.to) Pb w1 hG (do2_fn _ _ _) hlen) fun z3 hz3=>?_)))
  have hh1:=hor_of hz3
  refine (go 10) (zX (fun h6=>?_) fun h6=>?_)
  ·refine uJ 20 ?_
   refine (go 16) ?_
   refine yp (jM (show _=(Sh.mx z3.zO (d.to - (d.to % 10))) from rfl) (uf rfl rfl)) ?_
   refine (go 15) (zZ results37 fun w1 hM=>?_)
   have hM:=hM.yV (zh.Ok.loc (noX ((Bs.each (fun s=>Sh.roll s d.to) x.e.zA).2))) fun Pb pp=>noX_ok _ _ _
   exact hM.yX (⟨z3.zA,Sh.mx z3.zO (d.to - d.to % 10)⟩,noX ((Bs.each (fun s=>Sh.roll s d.to) x.e.zA).2)) rfl (one_8 h1 h2 h3 qO h6 hz3) (fun h=>h.sel [0,1,2,3,7,8,9] qD rfl)
  refine (go 10) (zZ results37 fun w1 hM=>?_)
  have hM:=hM.yV (zh.Ok.loc (noX ((Bs.each (fun s=>Sh.roll s d.to) x.e.zA).2))) fun Pb pp=>noX_ok _ _ _
  exact hM.yX (z3,noX ((Bs.each (fun s=>Sh.roll s d.to) x.e.zA).2)) rfl (one_7 h1 h2 h3 qO h6 hz3) (fun h=>h.sel [0,1,2,3,7,8,9] qD rfl)
 refine (go 5) (zX (fun h7=>?_) fun h7=>?_)
 ·refine (go 12) (yP 29 (fun h8=>?_) fun h8=>?_)
  ·refine (go 17) (zZ results37 fun w1 hM=>?_)
   have hM:=hM.yV (zh.Ok.loc (noX 3)) fun Pb pp=>noX_ok _ _ _
   exact hM.yX (x,noX 3) rfl (one_4 h1 h2 (.inr h7) qO) (fun h=>h.sel [0,3,4,5,6,7,8] qD rfl)
  refine (go 8) (zX (fun h9=>?_) fun h9=>?_)
  ·refine (go 8) (zZ results37 fun w1 hM=>?_)
   have hM:=hM.yV (zh.Ok.loc (noX 3)) fun Pb pp=>noX_ok _ _ _
   exact hM.yX (x,noX 3) rfl (one_4 h1 h2 (.inr h7) qO) (fun h=>h.sel [0,3,4,5,6,7,8] qD rfl)
  refine (go 12) ?_
  refine vG rfl (decide_eq_true h7) ?_
  refine (go 9) (yP 47 (fun h10=>?_) fun h10=>?_)
  ·refine (go 18) (zZ results37 fun w1 hM=>?_)
   have hM:=hM.yV (zh.Ok.loc (noX 1)) fun Pb pp=>noX_ok _ _ _
   exact hM.yX (x,noX 1) rfl (one_5 h1 h2 h7 qO qO) (fun h=>h.sel [0,3,4,5,6,7,8] qD rfl)
  refine (go 8) (zX (fun h11=>?_) fun h11=>?_)
  ·refine (go 9) (zZ results37 fun w1 hM=>?_)
   have hM:=hM.yV (zh.Ok.loc (noX 1)) fun Pb pp=>noX_ok _ _ _
   exact hM.yX (x,noX 1) rfl (one_5 h1 h2 h7 qO qO) (fun h=>h.sel [0,3,4,5,6,7,8] qD rfl)
  refine (go 5) ?_
  refine zc (ye rfl rfl) (l_sealB2 1 2 3 rfl rfl rfl rfl rfl onlyB (zb (fun _ h=>h.yV (DoAt.loc ⟨b3,0,none⟩ dad d) fun Pb pp=>⟨pp.at_ 1 _ rfl,pp.at_ 5 _ rfl,pp.at_ 6 _ rfl⟩) (yR (α:=yA) [.blk bp [.slice x.zA.A x.zA.l.length x.zA.c,iV x.zO] 93,Row (.slice x.zA.A x.zA.l.length x.zA.c) 50 9 zY x.zA.l,allP zC.Ok x.zA.l,.pub (DoAt ⟨b3,0,none⟩ dad d)] [.blk b4 [iV 0,iV 0,Zs,iV 0] 34,celP ⟨b3,0,none⟩ [.pointer (some ((Addr.add dad 0).add 0))],celP dad [iV d.kind,iV d.tier,iV d.to,.slice d.sr.A d.sr.l.length d.sr.c,iV d.zJ.time,iV d.zJ.value,.string d.text],okP zn.Ok d,.pub zP] (fun _=>iV (Bs.each (fun s=>Sh.forget s d.tier d.to) x.e.zA).2) (fun z4=>z4.e=if (Bs.each (fun s=>Sh.forget s d.tier d.to) x.e.zA).2≠0 then x.e else ⟨(Bs.each (fun s=>Sh.forget s d.tier d.to) x.e.zA).1,x.zO⟩) (fun z4=>[.blk bp [.slice z4.zA.A z4.zA.l.length z4.zA.c,iV z4.zO] 93,Row (.slice z4.zA.A z4.zA.l.length z4.zA.c) 50 9 zY z4.zA.l,allP zC.Ok z4.zA.l,.pub (DoAt ⟨b3,0,none⟩ dad d)]) _ (fun _=>rfl) (S9 [3,4,5,0,1,2,6,7,8]) (fun _=>rfl) wn rfl rfl call70 rfl (fun w1 Pb hG=>c_each bp x 71 #[.pointer (some ⟨b3,0,none⟩)] (DoAt ⟨b3,0,none⟩ dad d) (fun s=>Sh.forget s d.tier d.to) Pb w1 hG (do1_fn _ _ _) hlen) fun z4 hz4=>?_)))
  have hh2:=hor_of hz4
  refine (go 6) (zZ results37 fun w1 hM=>?_)
  have hM:=hM.yV (zh.Ok.loc (noX ((Bs.each (fun s=>Sh.forget s d.tier d.to) x.e.zA).2))) fun Pb pp=>noX_ok _ _ _
  exact hM.yX (z4,noX ((Bs.each (fun s=>Sh.forget s d.tier d.to) x.e.zA).2)) rfl (one_6 h1 h2 h7 qO qO hz4) (fun h=>h.sel [0,1,2,3,7,8,9] qD rfl)
 refine (go 9) (zZ results37 fun w1 hM=>?_)
 have hM:=hM.yV (zh.Ok.loc (noX 1)) fun Pb pp=>noX_ok _ _ _
 exact hM.yX (x,noX 1) rfl (one_3 h1 h2 qO) (fun h=>h.sel [0,3,4,5,6,7,8] qD rfl)
end
section
open _root_.Go.Proofs.Tryz
open Ex
attribute [local irreducible] WC WL WQ WE WS
set_option linter.unusedVariables false
set_option linter.unusedSimpArgs false
set_option maxHeartbeats 1000000 in
theorem c_play (lv:Value) (l:List zn) (P0:Nat→Prop) (w:World) (hP0:∀ b,P0 b→b < w.heap.size) (hl:zD P0 7 y8 lv l w) (hla:∀ x ∈ l,zn.Ok P0 x w) (hE:zP P0 w)  :
    Calls prog 14 #[lv] w (RetE w P0 (fun z:yA × SlX zh=>.tuple #[.agg (ja z.1).toArray,.slice z.2.A z.2.l.length z.2.c,iV (Bs.play (l.map zn.e)).2.2]) (fun z=>(z.1.e,z.2.l.map zh.e)=((Bs.play (l.map zn.e)).1,(Bs.play (l.map zn.e)).2.1)) (fun z S w=>yA.Ok S z.1 w∧AnssX.Ok S z.2 w)):=by
 have hwl:∀ x ∈ l,zn.Wf x:=fun x hx=>(hla x hx).wf
 obtain ⟨lA,lc,rfl,hlc,hlm,hlA⟩:=hl.form
 refine zt (N:=33) func14 (Mem.ofDatsP hP0 (dc (dlp hl) (dc (dp (all_loc zn.Ok.loc _) hla) (dc (dp zP.loc hE) dn)))) ?_
 refine (go 2) (zw fun b2=>?_)
 refine (go 12) (zX (fun h1=>?_) fun h1=>?_)
 ·refine (go 10) (uz results14 fun w1 hM=>?_)
  have hb9:=play_many h1
  exact hM.vI ((⟨⟨none,0,[]⟩,0⟩,⟨none,0,[]⟩):yA × SlX zh) (by rw [hb9]; rfl) (by rw [hb9]; rfl) fun Pb pp=>⟨⟨zD.zy _ _ _ _,fun c hc=>(by cases hc)⟩,⟨zD.zy _ _ _ _,fun c hc=>(by cases hc)⟩⟩
 refine (go 5) (yv fun b13=>?_)
 refine (go 5) ?_
 refine yG (ym:zh→List Value) 34 4 (zb (fun _ h=>h.all0 zh.Ok.loc) ?_)
 refine (go 12) ?_
 refine ut (fun _ h=>h.vO zC 50 9 zY) (u6 (fun _ h=>h.all0 zC.Ok.loc) (vQ (fun (k:Nat) (x:yA) (zs:List zh) (ov:Value)=>[(0,.slice lA l.length lc),(2,.pointer (some ⟨b2,0,none⟩)),(5,.pointer (some ⟨b13,0,none⟩)),(6,ov),(15,iV l.length),(16,iV k)]) (fun (k:Nat) (x:yA) (zs:List zh) (ov:Value)=>[allP zC.Ok x.zA.l,Row (.slice x.zA.A x.zA.l.length x.zA.c) 50 9 zY x.zA.l,allP zh.Ok zs,Row ov 34 4 ym zs,.blk b13 [.slice x.zA.A x.zA.l.length x.zA.c,iV x.zO] 93,.blk b2 [Zs,iV 0] 25,slP 7 y8 (.slice lA l.length lc) l,allP zn.Ok l,.pub zP]) (fun (k:Nat) (x:yA) (zs:List zh) (ov:Value)=>k≤l.length∧(∀ y ∈ zs,zh.Wf y)∧Bs.run Bs.zero ((l.take k).map zn.e)=(x.e,zs.map zh.e)∧zs.length=k) (fun (k:Nat) (x:yA) (zs:List zh) (ov:Value)=>l.length - k) 0 (⟨⟨none,0,[]⟩,0⟩:yA) [] (Zs) (sc rfl (sc rfl (sc rfl (sc rfl (sc rfl (sc (ji qO) sn)))))) (fun _ h=>h) ?_ (fun k x zs ov hI1=>?_)))
 ·exact ⟨Nat.zero_le _,fun x hx=>(by cases hx),rfl,rfl⟩
 have hwz:=hI1.2.1
 have hzl:=hI1.2.2.2
 refine yU 3 (l:=zs) rfl fun A1 cp1 hv1 hc1 hm1 hA1=>?_
 subst hv1
 refine (go 6) (zX (fun h2=>?_) fun h2=>?_)
 ·refine (go 15) ?_
  obtain ⟨ad1,s1,hd1,hs1⟩:=elx hlA k
  refine (go 1) ?_
  have hiv1:Bs.Inv x.e 120:=inv_at hI1.2.2.1 qO
  refine zb (fun _ h=>h.celAt 6 rfl hd1 hs1) ?_
  have hw1:=hwl _ (List.mem_of_getElem? hs1)
  refine zb (fun _ h=>h.one 8 zn.Ok.loc rfl hs1) (zb (fun _ h=>h.dup 10 rfl rfl) (yR (α:=yA × zh) [.blk b13 [.slice x.zA.A x.zA.l.length x.zA.c,iV x.zO] 93,Row (.slice x.zA.A x.zA.l.length x.zA.c) 50 9 zY x.zA.l,allP zC.Ok x.zA.l,celP (Addr.add ad1 (k * 7)) [iV s1.kind,iV s1.tier,iV s1.to,.slice s1.sr.A s1.sr.l.length s1.sr.c,iV s1.zJ.time,iV s1.zJ.value,.string s1.text],okP zn.Ok s1,.pub zP] [allP zh.Ok zs,Row (.slice A1 zs.length cp1) 34 4 ym zs,.blk b2 [Zs,iV 0] 25,slP 7 y8 (.slice lA l.length lc) l,allP zn.Ok l,.pub zP] (fun z:yA × zh=>.agg (ym z.2).toArray) (fun z1=>(z1.1.e,z1.2.e)=Bs.one x.e s1.e) (fun z1=>[okP zh.Ok z1.2,.blk b13 [.slice z1.1.zA.A z1.1.zA.l.length z1.1.zA.c,iV z1.1.zO] 93,Row (.slice z1.1.zA.A z1.1.zA.l.length z1.1.zA.c) 50 9 zY z1.1.zA.l,allP zC.Ok z1.1.zA.l,celP (Addr.add ad1 (k * 7)) [iV s1.kind,iV s1.tier,iV s1.to,.slice s1.sr.A s1.sr.l.length s1.sr.c,iV s1.zJ.time,iV s1.zJ.value,.string s1.text],okP zn.Ok s1,.pub zP]) _ (fun _=>rfl) (S9 [7,4,3,2,1,0,5,6,8,9,10,11]) (fun _=>rfl) wn rfl rfl call37 rfl (fun w1 Pb hG=>c_bdo b13 x (Addr.add ad1 (k * 7)) s1 Pb w1 hG hiv1) fun z1 hz1=>yg 0 rfl (fun S w h=>zh.Ok.wf h) fun hw2=>zu ym ([z1.2]:List zh) wn underlying26 inf34 rfl rfl rfl rfl qD qD rfl fun b25=>yE 9 zs ([z1.2]:List zh) encAnsX wn rfl rfl rfl (fun _ hM=>(RowSl encAnsX hM 0 rfl)) underlying26 inf34 rfl rfl (by simp only [qL]; omega) rfl fun A2 cp2 hc2 hm2 hA2=>zb (fun _ h=>h.allSnoc 8 1 zh.Ok.loc rfl rfl) ?_))
  have hw3:∀ x ∈ (zs++([z1.2]:List zh)),zh.Wf x:=fun x hx=>(List.mem_append.1 hx).elim (hwz x) fun h=>by rw [List.mem_singleton.1 h]; exact hw2
  refine (go 7) ?_
  refine zT (ya (k + 1) z1.1 (zs++([z1.2]:List zh)) (.slice A2 ((zs++([z1.2]:List zh)).length) cp2) (sc rfl (sc rfl (sc rfl (sc rfl (sc rfl (sc (ji qO) sn)))))) (S9 [5,4,0,10,3,11,12,13,8]) ?_ ?_)
  ·exact ⟨by omega,hw3,play_next hs1 hI1.2.2.1 hz1,by rw [List.length_append,List.length_singleton]; omega⟩
  omega
 refine (go 18) (uz results14 fun w1 hM=>?_)
 have hb9:=play_end hI1.2.2.1 qO qO
 have hM:=hM.zl encShelfX (i:=1) rfl rfl
 have hM:=hM.zl encAnsX (i:=3) rfl rfl
 exact hM.vI ((x,⟨A1,cp1,zs⟩):yA × SlX zh) (by rw [hb9]; first | done | rfl) (by rw [hb9]) fun Pb pp=>⟨⟨pp.sl 1 rfl,pp.at_ 0 _ rfl⟩,⟨pp.sl 3 rfl,pp.at_ 2 _ rfl⟩⟩
end
section
namespace Ex
section
variable {P:Program} {N:Nat} {D:List Deferred} {E:Env} {Q:Exit→Act→World→Prop} {w0 w w':World} {M:Fp} {L:List Own} {P0:Nat→Prop}
  {ops:Array Oper} {rest:List Oper} {d:Nat} {ty:TypeId} {pos:String} {aft:Array Edge} {g:Option (Nat × Bool)} {v:Value}
theorem fp_pub {C:(Nat→Prop)→World→Prop} {F:World→Prop} {e:zB}:fpOf [.pub C,.dat no F,okP zB.Ok e]=no:=by
  funext b
  exact propext ⟨fun h=>only3 b h,fun h=>h.elim⟩
theorem winG_fn {f:Nat} {cap:Array Value} {C:(Nat→Prop)→World→Prop} {lk:Look} (hf:WinFn P f cap C lk):WinG P f cap (fun _=>.pub C) no (fun _=>True) lk (fun _ _ _ n=>n) :=
  ⟨hf.call,fun _=>.inr rfl,fun _ _ _ h=>h,fun ms a b n w Pb hS ha hb=>by
    obtain ⟨Pb1,pp⟩:=hS.pb
    refine (hf.run ms a b w Pb1 pp.lt (pp.sl 2 rfl) (pp.at_ 0 _ rfl) ha hb).mono fun e w' ⟨z,Pb2,he,hz,hfr,hP,hF⟩=>⟨z,he,hz,?_⟩
    exact ((hS.keep hfr).lay' (yk.Ok.loc z) w.heap.size hS.fr.size (fun j o hj hm b hb=>(hS.ok j o hj).2.1 b hb) (hS.keepP pp hfr) hP hF).sel [0,1] qD rfl⟩
theorem ret_fn {α:Type} {f:Nat} {args:Array Value} {C:(Nat→Prop)→World→Prop} {e:zB} {mk:α→Value} {pure:α→Prop} {ok:(Nat→Prop)→α→World→Prop} (hP:∀ b,P0 b→b < w.heap.size) (hl:Loc C) (hC:C P0 w) (he:zB.Ok P0 e w)
    (h:Mem w ⟨fpOf [.pub C,.dat no (fun _=>True),okP zB.Ok e],P0⟩ [.pub C,.dat no (fun _=>True),okP zB.Ok e] w→Calls P f args w (RetA w [.pub C,.dat no (fun _=>True),okP zB.Ok e] P0 mk pure (fun z=>[okP ok z,.pub C,okP zB.Ok e]))) :
    Calls P f args w (RetE w P0 mk pure (fun z S=>ok S z)):=by
  refine (h (by rw [fp_pub]; exact Mem.ofDatsP hP (dc (dp hl hC) (dc ⟨rfl,⟨trivial,fun _ _ _ _=>trivial⟩,fun _ hb=>hb.elim,fun F hF=>by cases hF⟩ (dc (dp (zB.Ok.loc e) he) dn))))).mono fun en w' ⟨z,he,hz,hM⟩=>?_
  obtain ⟨Pb,pp⟩:=hM.pb
  rw [fp_pub] at hM
  exact ⟨z,Pb,he,hz,hM.fr,fun b hb=>⟨pp.sub b hb,pp.lt b hb⟩,pp.at_ 0 _ rfl⟩
end
end Ex
end
section
namespace Bs
open Ex Sh
set_option linter.unusedVariables false
def hostL (h:ByteArray):List Label:=[⟨⟨#[104,111,115,116]⟩,h⟩]
def addD (h:ByteArray) (t v:Int):Do:=⟨1,0,0,hostL h,⟨t,v⟩,⟨#[]⟩⟩
def askD (s:ByteArray) (t:Int):Do:=⟨4,0,t,[],⟨0,0⟩,s⟩
def rollD (t:Int):Do:=⟨2,0,t,[],⟨0,0⟩,⟨#[]⟩⟩
def last (l:List Do):Ans:=if (play l).2.2≠0 then no 1 else match (play l).2.1.getLast? with | none=>no 1 | some x=>x
def s1 (h:ByteArray) (a v:Int):Shelf:=(append (fresh (hostL h) 0) ⟨a,v⟩).1
def s2 (h:ByteArray) (a v to:Int):Shelf:=(roll (s1 h a v) to).1
end Bs
namespace Ex
def PlayOk (z:yA × SlX zh) (S:Nat→Prop) (w:World):Prop:=yA.Ok S z.1 w∧AnssX.Ok S z.2 w
theorem PlayOk.loc (z:yA × SlX zh):Loc (PlayOk z):=fun S S' u u' hs hk h=>⟨yA.Ok.loc _ S S' u u' hs hk h.1,AnssX.Ok.loc _ S S' u u' hs hk h.2⟩
theorem PlayOk.wf {z:yA × SlX zh} {S:Nat→Prop} {w:World} (h:PlayOk z S w):yA.Wf z.1∧AnssX.Wf z.2:=⟨h.1.wf,h.2.wf⟩
theorem Mem.playX {w0 w:World} {M:Fp} {L:List Own} (h:Mem w0 M L w) (q:Nat) {z:yA × SlX zh} (hi:L[q]?=some (.pub (PlayOk z))):Mem w0 M (slP 4 ym (.slice z.2.A z.2.l.length z.2.c) z.2.l::allP zh.Ok z.2.l::okP yA.Ok z.1::L) w:=by
  have h1:=h.imp q hi (yA.Ok.loc z.1) fun _ hF=>hF.1
  have h2:=h1.imp (q + 1) hi (all_loc zh.Ok.loc z.2.l) fun _ hF=>hF.2.all
  exact h2.imp (q + 2) hi (zD.loc 4 ym _ z.2.l) fun _ hF=>hF.2.sl
end Ex
end
section
namespace Ex
structure LinesX.Ok (S:Nat→Prop) (z:SlX zN) (w:World):Prop where
  sl:zD S 2 yo (.slice z.A z.l.length z.c) z.l w
  all:∀ c ∈ z.l,zN.Ok S c w
theorem LinesX.Ok.loc (x:SlX zN):Loc (fun S=>LinesX.Ok S x):=fun S S' u u' hs hk h=>⟨zD.loc _ _ _ _ S S' u u' hs hk h.sl,fun c hc=>zN.Ok.loc c S S' u u' hs hk (h.all c hc)⟩
structure LinesX.Wf (z:SlX zN):Prop where
  sl:Ex.Wf z
  all:∀ c ∈ z.l,zN.Wf c
theorem LinesX.Ok.wf {S:Nat→Prop} {x:SlX zN} {w:World} (h:LinesX.Ok S x w):LinesX.Wf x:=⟨zD.wf h.sl,fun c hc=>(h.all c hc).wf⟩
section
variable {w0 w w':World} {M:Fp} {L L':List Own} {α:Type} {ok:(Nat→Prop)→α→World→Prop}
theorem Mem.celsX (h:Mem w0 M L w) (q:Nat) {e:SlX zE} (hi:L[q]?=some (okP CelsX.Ok e)):Mem w0 M (slP 2 zq (.slice e.A e.l.length e.c) e.l::allP zE.Ok e.l::L) w:=by
  have h1:=h.imp q hi (all_loc zE.Ok.loc e.l) fun _ hF=>CelsX.Ok.all hF
  exact h1.imp (q + 1) hi (zD.loc 2 zq _ e.l) fun _ hF=>CelsX.Ok.cells hF
theorem Mem.linesX (h:Mem w0 M L w) (q:Nat) {e:SlX zN} (hi:L[q]?=some (okP LinesX.Ok e)):Mem w0 M (slP 2 yo (.slice e.A e.l.length e.c) e.l::allP zN.Ok e.l::L) w:=by
  have h1:=h.imp q hi (all_loc zN.Ok.loc e.l) fun _ hF=>LinesX.Ok.all hF
  exact h1.imp (q + 1) hi (zD.loc 2 yo _ e.l) fun _ hF=>LinesX.Ok.sl hF
end
end Ex
namespace Mn
open Ex
def linesFromP:Nat→Option (List Label)→List Line→Fault
  | _,_,[]=>⟨0,0⟩
  | i,p,x::r=>if zH.wrong x.sr≠0 then ⟨zH.wrong x.sr,i⟩ else if (Codec.wrong x.sm).err≠0 then ⟨(Codec.wrong x.sm).err,i⟩ else if behind p x.sr then ⟨2,i⟩ else linesFromP (i + 1) (some x.sr) r
def linesP (l:List Line):Fault:=if 8 < l.length then ⟨5,0⟩ else linesFromP 0 none l
theorem linesFrom_e:∀ (l:List zN) (i:Nat) (p:Option (List Label)),linesFrom i p l=linesFromP i p (l.map zN.e)
  | [],_,_=>rfl
  | x::r,i,p=>by rw [linesFrom,List.map_cons,linesFromP,linesFrom_e r]; rfl
theorem lines_e (l:List zN):lines l=linesP (l.map zN.e):=by rw [lines,linesP,List.length_map,linesFrom_e]
def askP (l:List Line) (e:Expr) (t:Int):List Cell × Int:=if (linesP l).err≠0 then ([],(linesP l).err) else if check e t≠0 then ([],check e t) else out (eval (lookL l) t e)
theorem ask_e (l:List zN) (e:Expr) (t:Int):ask l e t=askP (l.map zN.e) e t:=by rw [ask,askP,lines_e]
end Mn
end
section
namespace Mn
open Ex
theorem lines_right:∀ (l:List Line) (i:Nat) (p:Option (List Label)),(∀ x ∈ l,zH.wrong x.sr=0∧(Codec.wrong x.sm).err=0)→l.Pairwise (fun x y=>zH.compare x.sr y.sr < 0)→(∀ q,p=some q→∀ x ∈ l,zH.compare q x.sr < 0)→(linesFromP i p l).err=0
  | [],_,_,_,_,_=>rfl
  | x :: r, i, p, h, hp, hq => by
    obtain ⟨h1,h2⟩:=h x List.mem_cons_self
    obtain ⟨p1,p2⟩:=List.pairwise_cons.1 hp
    rw [linesFromP,if_neg (by simp [h1]),if_neg (by simp [h2]),if_neg]
    · exact lines_right r (i + 1) (some x.sr) (fun y hy=>h y (List.mem_cons_of_mem _ hy)) p2 (fun q e y hy=>by injection e with e; subst e; exact p1 y hy)
    · unfold behind
      cases p with
      | none=>simp
      | some q=>have:=hq q rfl x List.mem_cons_self; simp only; omega
def OrE (E:Int→Prop) {α:Type} (r r':α × Int):Prop:=r=r'∨(r.2≠0∧E r.2)
mutual
theorem eval_or {E:Int→Prop} {lk lk':Look} {t:Int} (h:∀ ms r,1≤r→OrE E (lk ms (frm t r) t) (lk' ms (frm t r) t)):∀ (e:Expr),right e→OrE E (eval lk t e) (eval lk' t e)
  | .mk k n r w ms bs ks, hr => by
    rw [right] at hr
    rw [eval,eval]
    by_cases k1:k=1
    · rw [if_pos k1,if_pos k1]; exact .inl rfl
    rw [if_neg k1,if_neg k1]
    by_cases k2:k=2
    · rw [if_pos k2,if_pos k2]
      unfold window
      rcases h ms r qO with h1 | ⟨h0,h1⟩
      · rw [h1]; exact .inl rfl
      · right; rw [if_pos h0]; exact ⟨h0,h1⟩
    rw [if_neg k2,if_neg k2]
    rcases evals_or h ks hr.2 with h1 | ⟨h0,h1⟩
    · rw [h1]; exact .inl rfl
    · right; rw [if_pos h0]; exact ⟨h0,h1⟩
theorem evals_or {E:Int→Prop} {lk lk':Look} {t:Int} (h:∀ ms r,1≤r→OrE E (lk ms (frm t r) t) (lk' ms (frm t r) t)):∀ (l:List Expr),rights l→OrE E (evals lk t l) (evals lk' t l)
  | [],_=>.inl rfl
  | x :: xs, hr => by
    rw [rights] at hr
    rw [evals,evals]
    rcases eval_or h x hr.1 with h1 | ⟨h0,h1⟩
    · rw [h1]
      by_cases h2:(eval lk' t x).2≠0
      · rw [if_pos h2,if_pos h2]; exact .inl rfl
      rw [if_neg h2,if_neg h2]
      rcases evals_or h xs hr.2 with h3 | ⟨h0,h3⟩
      · rw [h3]; exact .inl rfl
      · right; exact ⟨h0,h3⟩
    · right; rw [if_pos h0]; exact ⟨h0,h1⟩
end
theorem out_err {v:Val × Int} (h:v.2≠0):out v=([],v.2):=by unfold out; rw [if_pos h]
end Mn
namespace Bs
open Ex Sh
set_option linter.unusedVariables false
def lkey (x:Line):Cell:=⟨x.sr,0⟩
def tell (out:List Line) (t:List Label) (x:Sample):List Line :=
  if Mn.has (out.map lkey) t=true then (match out[Mn.pos (out.map lkey) t]? with
    | none=>out
    | some y=>out.set (Mn.pos (out.map lkey) t) ⟨y.sr,y.sm++[x]⟩)
  else out.take (Mn.pos (out.map lkey) t)++⟨t,[x]⟩::out.drop (Mn.pos (out.map lkey) t)
def tolds:List Line→List Do→List Ans→List Line
  | out,d::r,a::s=>tolds (if d.kind=1∧a.err=0 then tell out d.sr d.zJ else out) r s
  | out,_,_=>out
def Kept (n:Nat) (x:Line) (s:Shelf):Prop:=x.sr=s.zL∧Keep s x.sm∧x.sm.length≤n
def tells (n:Nat):List Line→List Shelf→Prop
  | [],[]=>True
  | x::r,s::r'=>Kept n x s∧tells n r r'
  | _,_=>False
section
variable {n:Nat} {x:Line} {s z:Shelf}
theorem Kept.up {m:Nat} (h:Kept n x s) (hm:n≤m):Kept m x s:=⟨h.1,h.2.1,by have:=h.2.2; omega⟩
theorem tells_up {m:Nat} (hm:n≤m):∀ {l:List Line} {r:List Shelf},tells n l r→tells m l r
  | [],[],_=>trivial
  | [],_::_,h=>h.elim
  | _::_,[],h=>h.elim
  | _::_,_::_,h=>⟨h.1.up hm,tells_up hm h.2⟩
theorem tells_key:∀ {l:List Line} {r:List Shelf},tells n l r→l.map lkey=r.map key
  | [],[],_=>rfl
  | [],_::_,h=>h.elim
  | _::_,[],h=>h.elim
  | x :: l, s :: r, h => by
    rw [List.map_cons,List.map_cons,tells_key h.2]
    have:lkey x=key s:=by unfold lkey key; rw [h.1.1]
    rw [this]
theorem tells_len {l:List Line} {r:List Shelf} (h:tells n l r):l.length=r.length:=by
  have:=congrArg List.length (tells_key h); simpa using this
theorem tells_get:∀ {l:List Line} {r:List Shelf} {i:Nat} {s:Shelf},tells n l r→r[i]?=some s→∃ x,l[i]?=some x∧Kept n x s
  | [],[],i,s,_,h=>by simp at h
  | [],_::_,_,_,h,_=>h.elim
  | _::_,[],_,_,h,_=>h.elim
  | x :: l, y :: r, 0, s, h, hs => by
    obtain rfl:y=s:=by simpa using hs
    exact ⟨x,rfl,h.1⟩
  | x :: l, y :: r, i + 1, s, h, hs => by
    obtain ⟨u,h1,h2⟩:=tells_get (i:=i) h.2 (by simpa using hs)
    exact ⟨u,by simpa using h1,h2⟩
theorem tells_set (hz:Kept n x z):∀ {l:List Line} {r:List Shelf} (i:Nat),tells n l r→tells n (l.set i x) (r.set i z)
  | [],[],i,_=>trivial
  | [],_::_,_,h=>h.elim
  | _::_,[],_,h=>h.elim
  | _::_,_::_,0,h=>⟨hz,h.2⟩
  | _::_,_::_,i + 1,h=>⟨h.1,tells_set hz i h.2⟩
theorem tells_ins (hz:Kept n x z):∀ {l:List Line} {r:List Shelf} (i:Nat),tells n l r→tells n (l.take i++x::l.drop i) (r.take i++z::r.drop i)
  | [],[],i,_=>by simp only [List.take_nil,List.drop_nil,List.nil_append]; exact ⟨hz,trivial⟩
  | [],_::_,_,h=>h.elim
  | _::_,[],_,h=>h.elim
  | _::_,_::_,0,h=>⟨hz,h⟩
  | _::_,_::_,i + 1,h=>⟨h.1,tells_ins hz i h.2⟩
theorem tells_map {f:Shelf→Shelf}:∀ {l:List Line} {r:List Shelf},tells n l r→(∀ x s,s ∈ r→Kept n x s→Kept n x (f s))→tells n l (r.map f)
  | [],[],_,_=>trivial
  | [],_::_,h,_=>h.elim
  | _::_,[],h,_=>h.elim
  | x::l,s::r,h,hf=>⟨hf x s List.mem_cons_self h.1,tells_map h.2 fun x s hs=>hf x s (List.mem_cons_of_mem _ hs)⟩
end
theorem tells_add {n:Nat} {b:Base} {out:List Line} {d:Do} (h:tells n out b.zA) (hi:Inv b n):tells (n + 1) (if (add b d).2.err=0 then tell out d.sr d.zJ else out) (add b d).1.zA:=by
  have hu:=tells_up (show n≤n + 1 by omega) h
  have hk:=tells_key h
  have bad:∀ e:Int,e≠0→add b d=(b,no e)→tells (n + 1) (if (add b d).2.err=0 then tell out d.sr d.zJ else out) (add b d).1.zA:=fun e he ha=>by
    rw [ha,if_neg (show ¬ (b,no e).2.err=0 from he)]; exact hu
  have good:∀ z:Base,add b d=(z,no 0)→tells (n + 1) (tell out d.sr d.zJ) z.zA→tells (n + 1) (if (add b d).2.err=0 then tell out d.sr d.zJ else out) (add b d).1.zA:=fun z ha hz=>by
    rw [ha,if_pos (show (z,no 0).2.err=0 from rfl)]; exact hz
  by_cases h1:zH.wrong d.sr≠0
  · exact bad _ h1 (by unfold add; rw [if_pos h1])
  by_cases h2:(Codec.wrong [d.zJ]).err≠0
  · exact bad _ h2 (by unfold add; rw [if_neg h1,if_pos h2])
  by_cases h3:d.zJ.time < b.zO
  · exact bad 9 qD (by unfold add; rw [if_neg h1,if_neg h2,if_pos h3])
  have ht:Mn.has (out.map lkey) d.sr=there b.zA d.sr:=by rw [hk]; rfl
  have hp:Mn.pos (out.map lkey) d.sr=place b.zA d.sr:=by rw [hk]; rfl
  by_cases h4:there b.zA d.sr=true
  · obtain ⟨s,hs,hser⟩:=has_at hi.asc h4
    obtain ⟨x,hx,hkx⟩:=tells_get h hs
    have ea:add b d=if (append s d.zJ).2≠0 then (b,no (append s d.zJ).2) else (⟨b.zA.set (place b.zA d.sr) (append s d.zJ).1,b.zO⟩,no 0):=by
      unfold add; rw [if_neg h1,if_neg h2,if_neg h3,if_pos h4,hs]
    by_cases h5:(append s d.zJ).2≠0
    · exact bad _ h5 (by rw [ea,if_pos h5])
    · have h6:=Classical.not_not.1 h5
      have et:tell out d.sr d.zJ=out.set (place b.zA d.sr) ⟨x.sr,x.sm++[d.zJ]⟩:=by rw [tell,ht,if_pos h4,hp,hx]
      obtain ⟨e1,e2⟩:=append_same h6
      refine good _ (by rw [ea,if_neg h5]) ?_
      rw [et]
      exact tells_set ⟨by rw [e1]; exact hkx.1,hkx.2.1.append h6,by have:=hkx.2.2; rw [List.length_append,List.length_singleton]; omega⟩ _ hu
  by_cases h5:b.zA.length=8
  · exact bad 5 qD (by unfold add; rw [if_neg h1,if_neg h2,if_neg h3,if_neg h4,if_pos h5])
  by_cases h6:(append (fresh d.sr b.zO) d.zJ).2≠0
  · exact bad _ h6 (by unfold add; rw [if_neg h1,if_neg h2,if_neg h3,if_neg h4,if_neg h5,if_pos h6])
  · have h7:=Classical.not_not.1 h6
    refine good ⟨b.zA.take (place b.zA d.sr)++(append (fresh d.sr b.zO) d.zJ).1::b.zA.drop (place b.zA d.sr),b.zO⟩ (by unfold add; rw [if_neg h1,if_neg h2,if_neg h3,if_neg h4,if_neg h5,if_neg h6]) ?_
    have et:tell out d.sr d.zJ=out.take (place b.zA d.sr)++⟨d.sr,[d.zJ]⟩::out.drop (place b.zA d.sr):=by rw [tell,ht,if_neg h4,hp]
    rw [et]
    obtain ⟨f1,f2,f3,f4⟩:=fresh_keep (Classical.not_not.1 h1) hi.hor.1 hi.hor.2.1
    obtain ⟨e1,e2⟩:=append_same h7
    exact tells_ins ⟨by rw [e1,f3],f1.append h7,by simp⟩ _ hu
theorem tells_one {n:Nat} {b:Base} {out:List Line} {d:Do} (h:tells n out b.zA) (hi:Inv b n):tells (n + 1) (if d.kind=1∧(one b d).2.err=0 then tell out d.sr d.zJ else out) (one b d).1.zA:=by
  have hu:=tells_up (show n≤n + 1 by omega) h
  by_cases h1:d.kind=1
  · have e:one b d=add b d:=by unfold one; rw [if_pos h1]
    have:=tells_add (d:=d) h hi
    rw [e]
    by_cases h0:(add b d).2.err=0
    · rw [if_pos h0] at this; rw [if_pos ⟨h1,h0⟩]; exact this
    · rw [if_neg h0] at this; rw [if_neg (fun g=>h0 g.2)]; exact this
  rw [if_neg (fun g=>h1 g.1)]
  unfold one
  rw [if_neg h1]
  by_cases h2:d.kind=4
  · rw [if_pos h2]; exact hu
  rw [if_neg h2]
  by_cases h3:¬ (d.kind=2∨d.kind=3)
  · rw [if_pos h3]; exact hu
  rw [if_neg h3]
  by_cases h4:d.to < 0∨1000000 < d.to
  · rw [if_pos h4]; exact hu
  rw [if_neg h4]
  by_cases h5:d.kind=3
  · rw [if_pos h5]
    by_cases h6:d.tier < 0∨2 < d.tier
    · rw [if_pos h6]; exact hu
    rw [if_neg h6,forgetAll]
    by_cases h7:(each (fun s=>forget s d.tier d.to) b.zA).2≠0
    · rw [if_pos h7]; exact hu
    rw [if_neg h7]
    obtain ⟨e1,e2⟩:=each_ok (Classical.not_not.1 h7)
    show tells (n + 1) out (each (fun s=>forget s d.tier d.to) b.zA).1
    rw [e1]
    exact tells_map hu fun x s hs hk=>⟨by rw [(forget_same (e2 s hs)).1]; exact hk.1,hk.2.1.forget (e2 s hs),hk.2.2⟩
  · rw [if_neg h5,rollAll]
    by_cases h7:(each (fun s=>roll s d.to) b.zA).2≠0
    · rw [if_pos h7]; exact hu
    rw [if_neg h7]
    obtain ⟨e1,e2⟩:=each_ok (Classical.not_not.1 h7)
    show tells (n + 1) out (each (fun s=>roll s d.to) b.zA).1
    rw [e1]
    exact tells_map hu fun x s hs hk=>⟨by rw [(roll_same (e2 s hs)).1]; exact hk.1,hk.2.1.roll (e2 s hs),hk.2.2⟩
theorem tells_run:∀ (l:List Do) {b:Base} {out:List Line} {n:Nat},tells n out b.zA→Inv b n→tells (n + l.length) (tolds out l (run b l).2) (run b l).1.zA
  | [],_,_,_,h,_=>h
  | d :: r, b, out, n, h, hi => by
    rw [run,tolds,List.length_cons]
    have:=tells_run r (tells_one (d:=d) h hi) (inv_one (d:=d) hi)
    rwa [show n + (r.length + 1)=n + 1 + r.length by omega]
theorem tells_play (l:List Do) (hl:l.length≤120):tells 120 (tolds [] l (run zero l).2) (run zero l).1.zA:=tells_up qO (tells_run l (show tells 0 [] zero.zA from trivial) inv_zero)
theorem look_or {E:Int→Prop} {n:Nat} {a c:Int} (h0:0≤a) (h1:a≤c) (h2:c≤1000000) (m:List Match):∀ {l:List Line} {r:List Shelf},tells n l r→(∀ s ∈ r,(Sh.choose s a c).2=0∨E 10)→Mn.OrE E (look r m a c) (Mn.lookL l m a c)
  | [],[],_,_=>.inl rfl
  | [],_::_,h,_=>h.elim
  | _::_,[],h,_=>h.elim
  | x :: l, s :: r, h, hE => by
    have ih:=look_or h0 h1 h2 m h.2 fun z hz=>hE z (List.mem_cons_of_mem _ hz)
    have eL:Mn.lookL (x::l) m a c=if zH.yB x.sr m=true then ((x.sr,Agg.of (x.sm.filter (Mn.inWin a c)))::(Mn.lookL l m a c).1,0) else Mn.lookL l m a c:=by
      unfold Mn.lookL
      rw [List.filter_cons]
      split <;> rfl
    rw [look,eL,h.1.1]
    by_cases c1:zH.yB s.zL m=true
    · rw [if_neg (by simp [c1]),if_pos c1]
      by_cases c2:(Sh.choose s a c).2≠0
      · rw [if_pos c2]; right
        have e10:=choose_err h.1.2.1.ok h0 h1 h2 c2
        exact ⟨c2,by show E (Sh.choose s a c).2; rw [e10]; exact (hE s List.mem_cons_self).resolve_left c2⟩
      rw [if_neg c2]
      obtain ⟨r1,r2,_⟩:=read_is h.1.2.1 (Classical.not_not.1 c2)
      rw [if_neg (by simp [r2]),r1]
      rcases ih with ih | ⟨i0,ih⟩
      · rw [ih,if_neg (show ¬ (Mn.lookL l m a c).2≠0 by simp [Mn.lookL])]; exact .inl rfl
      · rw [if_pos i0]; right; exact ⟨i0,ih⟩
    · rw [if_pos c1,if_neg c1]; exact ih
theorem tells_asc {n:Nat} {l:List Line} {b:Base} (h:tells n l b.zA) (hi:Inv b n):l.Pairwise fun x y=>zH.compare x.sr y.sr < 0:=by
  have:=hi.asc
  rw [← tells_key h] at this
  exact (List.pairwise_map.1 this)
theorem tells_lines {n:Nat}:∀ {l:List Line} {r:List Shelf},tells n l r→n≤500→∀ x ∈ l,zH.wrong x.sr=0∧(Codec.wrong x.sm).err=0
  | [],_,_,_,x,hx=>by cases hx
  | _::_,[],h,_,_,_=>h.elim
  | y :: l, s :: r, h, hn, x, hx => by
    rcases List.mem_cons.1 hx with rfl | hx
    · exact ⟨by rw [h.1.1]; exact h.1.2.1.ok.zL,Codec.wrong_right ⟨by have:=h.1.2.2; omega,fun z hz=>by have:=h.1.2.1.rises.rng z hz; have:=h.1.2.1.vals z hz; omega,h.1.2.1.rises.inc⟩⟩
    · exact tells_lines h.2 hn x hx
theorem ask_or {E:Int→Prop} {b:Base} {out:List Line} {d:Do} (h:tells 120 out b.zA) (hi:Inv b 120) (hE:∀ s ∈ b.zA,∀ a c,0≤a→a≤c→c≤1000000→(Sh.choose s a c).2=0∨E 10) (hp:¬ (Pz.parse d.text).2.1≠0) :
    ((ask b d).err=(Mn.askP out (Pz.parse d.text).1 d.to).2∧(ask b d).cells=(Mn.askP out (Pz.parse d.text).1 d.to).1)∨E (ask b d).err:=by
  have hl:(Mn.linesP out).err=0:=by
    unfold Mn.linesP
    rw [if_neg (by have:=hi.len; rw [tells_len h]; omega)]
    exact Mn.lines_right out 0 none (tells_lines h qD) (tells_asc h hi) (fun q e=>by cases e)
  by_cases h2:Mn.check (Pz.parse d.text).1 d.to≠0
  · left
    have e1:ask b d=no (Mn.check (Pz.parse d.text).1 d.to):=by unfold ask; rw [if_neg hp,if_pos h2]
    have e2:Mn.askP out (Pz.parse d.text).1 d.to=([],Mn.check (Pz.parse d.text).1 d.to):=by unfold Mn.askP; rw [if_neg (Classical.not_not.2 hl),if_pos h2]
    rw [e1,e2]; exact ⟨rfl,rfl⟩
  have e2:Mn.askP out (Pz.parse d.text).1 d.to=Mn.out (Mn.eval (Mn.lookL out) d.to (Pz.parse d.text).1):=by unfold Mn.askP; rw [if_neg (Classical.not_not.2 hl),if_neg h2]
  have e1:ask b d=if (Mn.out (Mn.eval (look b.zA) d.to (Pz.parse d.text).1)).2≠0 then no (Mn.out (Mn.eval (look b.zA) d.to (Pz.parse d.text).1)).2 else ⟨0,0,(Mn.out (Mn.eval (look b.zA) d.to (Pz.parse d.text).1)).1,Mn.evalN (look b.zA) (cost b.zA) d.to (Pz.parse d.text).1 0⟩:=by
    unfold ask asked; rw [if_neg hp,if_neg h2]
  rw [e1,e2]
  obtain ⟨hr,ht0,ht1⟩:=Mn.check_right (Classical.not_not.1 h2)
  rcases Mn.eval_or (E:=E) (lk:=look b.zA) (lk':=Mn.lookL out) (t:=d.to) (fun ms r hr=>by
    have g1:=Mn.frm_nn d.to r
    have g2:Mn.frm d.to r≤d.to:=by unfold Mn.frm; split <;> omega
    exact look_or g1 g2 ht1 ms h fun s hs=>hE s hs _ _ g1 g2 ht1) _ hr with h3 | ⟨h0,h3⟩
  · rw [h3]
    by_cases h4:(Mn.out (Mn.eval (Mn.lookL out) d.to (Pz.parse d.text).1)).2≠0
    · rw [if_pos h4]
      left
      refine ⟨rfl,?_⟩
      unfold Mn.out at h4 ⊢
      by_cases h5:(Mn.eval (Mn.lookL out) d.to (Pz.parse d.text).1).2≠0
      · rw [if_pos h5]; rfl
      · rw [if_neg h5] at h4; revert h4; split <;> exact fun g=>absurd rfl g
    · rw [if_neg h4]; left; exact ⟨(Classical.not_not.1 h4).symm,rfl⟩
  · right
    have h4:=Mn.out_err (v:=Mn.eval (look b.zA) d.to (Pz.parse d.text).1) h0
    rw [h4,if_pos h0]; exact h3
theorem ask_told {b:Base} {out:List Line} {d:Do} (h:tells 120 out b.zA) (hi:Inv b 120) (hp:¬ (Pz.parse d.text).2.1≠0):((ask b d).err=(Mn.askP out (Pz.parse d.text).1 d.to).2∧(ask b d).cells=(Mn.askP out (Pz.parse d.text).1 d.to).1)∨(ask b d).err=10 :=
  ask_or (E:=(·=10)) h hi (fun _ _ _ _ _ _ _=>.inr rfl) hp
end Bs
end
section
namespace Ex
set_option linter.unusedVariables false
@[reducible] def smRow (e:TypeId) (x:zN):Own:=Row (.slice x.sm.A x.sm.l.length x.sm.c) e 2 zR x.sm.l
@[reducible] def fam (e:TypeId) (l:List zN):List Own:=l.map (smRow e)
structure LineS.Ok (S:Nat→Prop) (x:zN) (w:World):Prop where
  sr:zD S 2 zQ (.slice x.sr.A x.sr.l.length x.sr.c) x.sr.l w
theorem LineS.Ok.loc (x:zN):Loc (fun S=>LineS.Ok S x):=fun S S' u u' hs hk h=>⟨zD.loc _ _ _ _ S S' u u' hs hk h.sr⟩
structure LineS.Wf (x:zN):Prop where
  sr:Ex.Wf x.sr
theorem LineS.Ok.wf {S:Nat→Prop} {x:zN} {w:World} (h:LineS.Ok S x w):LineS.Wf x:=⟨zD.wf h.sr⟩
structure LineM.Ok (S:Nat→Prop) (x:zN) (w:World):Prop where
  sm:zD S 2 zR (.slice x.sm.A x.sm.l.length x.sm.c) x.sm.l w
theorem LineM.Ok.loc (x:zN):Loc (fun S=>LineM.Ok S x):=fun S S' u u' hs hk h=>⟨zD.loc _ _ _ _ S S' u u' hs hk h.sm⟩
section
variable {P:Program} {N:Nat} {D:List Deferred} {E:Env} {Q:Exit→Act→World→Prop} {w0 w w':World} {M:Fp} {L L':List Own}
  {ops:Array Oper} {rest:List Oper} {e:TypeId} {ls:List zN} {k n:Nat} {x:zN}
theorem Mem.lineS (h:Mem w0 M L w) (q:Nat) {e:zN} (hi:L[q]?=some (okP LineS.Ok e)):Mem w0 M (slP 2 zQ (.slice e.sr.A e.sr.l.length e.sr.c) e.sr.l::L) w :=
  h.imp q hi (zD.loc 2 zQ _ e.sr.l) fun _ hF=>LineS.Ok.sr hF
theorem Mem.uy (h:Mem w0 M L w) (n n':Nat) (is:List Nat) (hn:is.Nodup) (hl:is.all (fun i=>Nat.blt i n)=true) (he:(L'.take n').map some=is.map (fun i=>L[i]?)) (hT:L'.drop n'=L.drop n) (hlen:Nat.beq is.length n'=true):Mem w0 M L' w:=by
  have hlen:=Nat.eq_of_beq_eq_true hlen
  have hlt:∀ j i,is[j]?=some i→i < n:=fun j i hj=>by
    have:=List.all_eq_true.1 hl i (List.mem_of_getElem? hj)
    simpa using this
  have hinj:∀ a b i,is[a]?=some i→is[b]?=some i→a=b:=fun a b i ha hb=>by
    obtain ⟨ha1,ha2⟩:=List.getElem?_eq_some_iff.1 ha
    obtain ⟨hb1,hb2⟩:=List.getElem?_eq_some_iff.1 hb
    rcases Nat.lt_trichotomy a b with hlt | rfl | hlt
    · exact absurd (ha2.trans hb2.symm) (List.pairwise_iff_getElem.1 hn a b ha1 hb1 hlt)
    · rfl
    · exact absurd (hb2.trans ha2.symm) (List.pairwise_iff_getElem.1 hn b a hb1 ha1 hlt)
  refine h.emb (fun j=>if j < n' then (is[j]?).getD 0 else j - n' + n) (fun a b hab=>?_) fun j o hj=>?_
  · have hab:(if a < n' then (is[a]?).getD 0 else a - n' + n)=(if b < n' then (is[b]?).getD 0 else b - n' + n):=hab
    by_cases ha:a < n'
    · obtain ⟨i,hi⟩:∃ i,is[a]?=some i:=⟨_,List.getElem?_eq_getElem qO⟩
      rw [if_pos ha,hi] at hab
      by_cases hb:b < n'
      · obtain ⟨i',hi'⟩:∃ i,is[b]?=some i:=⟨_,List.getElem?_eq_getElem qO⟩
        rw [if_pos hb,hi'] at hab
        simp only [Option.getD_some] at hab
        subst hab
        exact hinj _ _ _ hi hi'
      · rw [if_neg hb] at hab
        have:=hlt _ _ hi
        simp only [Option.getD_some] at hab; omega
    · rw [if_neg ha] at hab
      by_cases hb:b < n'
      · obtain ⟨i',hi'⟩:∃ i,is[b]?=some i:=⟨_,List.getElem?_eq_getElem qO⟩
        rw [if_pos hb,hi'] at hab
        have:=hlt _ _ hi'
        simp only [Option.getD_some] at hab; omega
      · rw [if_neg hb] at hab; omega
  · by_cases hjn:j < n'
    · simp only [if_pos hjn]
      have h1:((L'.take n').map some)[j]?=some (some o):=by rw [List.getElem?_map,List.getElem?_take,if_pos hjn,hj]; rfl
      rw [he,List.getElem?_map] at h1
      obtain ⟨i,hi⟩:∃ i,is[j]?=some i:=⟨_,List.getElem?_eq_getElem qO⟩
      rw [hi] at h1 ⊢
      simpa using h1
    · simp only [if_neg hjn]
      have h1:(L'.drop n')[j - n']?=some o:=by rw [List.getElem?_drop,show n' + (j - n')=j by omega]; exact hj
      rw [hT,List.getElem?_drop] at h1
      rw [Nat.add_comm]; exact h1
theorem erase_perm {α:Type} {l:List α} {k:Nat} {x:α} (hx:l[k]?=some x):l.Perm (x::l.eraseIdx k):=by
  induction l generalizing k with
  | nil=>simp at hx
  | cons a l ih =>
    cases k with
    | zero => obtain rfl : a = x := by simpa using hx
              exact List.Perm.refl _
    | succ k =>
      have:=ih (k:=k) (by simpa using hx)
      rw [List.eraseIdx_cons_succ]
      exact (List.Perm.cons a this).trans (List.Perm.swap x a _)
theorem ins_perm {α:Type} (l:List α) (k:Nat) (x:α):(x::l).Perm (l.take k++x::l.drop k):=by
  have h:=List.perm_middle (a:=x) (l₁:=l.take k) (l₂:=l.drop k)
  rw [List.take_append_drop] at h
  exact h.symm
theorem Mem.perm0 (h:Mem w0 M L w) (hp:L.Perm L'):Mem w0 M L' w:=Mem.perm hp [] h
theorem Mem.famOut (h:Mem w0 M L w) (n:Nat) (hF:L.drop n=fam e ls) (hx:ls[k]?=some x):Mem w0 M (smRow e x::(L.take n++fam e (ls.eraseIdx k))) w:=by
  have e1:L=L.take n++fam e ls:=by rw [← hF,List.take_append_drop]
  rw [e1] at h
  have h2:=Mem.perm ((erase_perm hx).map (smRow e)) (L.take n) h
  exact h2.perm0 List.perm_middle
theorem Mem.famIn (h:Mem w0 M (smRow e x::L) w) (n k:Nat) (hF:L.drop n=fam e ls):Mem w0 M (L.take n++fam e (ls.take k++x::ls.drop k)) w:=by
  have e1:L=L.take n++fam e ls:=by rw [← hF,List.take_append_drop]
  rw [e1] at h
  have h2:Mem w0 M (L.take n++smRow e x::fam e ls) w:=h.perm0 List.perm_middle.symm
  exact Mem.perm ((ins_perm ls k x).map (smRow e)) (L.take n) h2
theorem put_set {α:Type} {l:List α} {k:Nat} {x y:α} (hx:l[k]?=some x):(l.eraseIdx k).take k++y::(l.eraseIdx k).drop k=l.set k y:=by
  induction l generalizing k with
  | nil=>simp at hx
  | cons a l ih =>
    cases k with
    | zero=>simp
    | succ k=>simpa using ih (k:=k) (by simpa using hx)
theorem Mem.famSet {y:zN} (h:Mem w0 M (smRow e y::L) w) (n:Nat) (hF:L.drop n=fam e (ls.eraseIdx k)) (hx:ls[k]?=some x):Mem w0 M (L.take n++fam e (ls.set k y)) w:=by
  have:=h.famIn n k hF
  rwa [put_set hx] at this
theorem Mem.famNil (h:Mem w0 M L w) (n k:Nat) (hF:L.drop n=fam e ls) (sr:SlX Label):Mem w0 M (L.take n++fam e (ls.take k++⟨sr,⟨none,0,[]⟩⟩::ls.drop k)) w :=
  Mem.famIn (x:=⟨sr,⟨none,0,[]⟩⟩) (h.vO Sample e 2 zR) n k hF
theorem ins_l {α:Type} (l:List α) (k:Nat) (z:α):(([]++l.take k)++[z])++l.drop k=l.take k++z::l.drop k:=qS
theorem Mem.famNew (h:Mem w0 M L w) (n k:Nat) (hF:L.drop n=fam e ls) (sr:SlX Label):Mem w0 M (L.take n++fam e ((([]++ls.take k)++[⟨sr,⟨none,0,[]⟩⟩])++ls.drop k)) w:=by
  rw [ins_l]; exact h.famNil n k hF sr
theorem Mem.famSeal (hM:M.m=no) (ls:List zN):∀ {L:List Own} {w:World},Mem w0 M (L++fam e ls) w→Mem w0 M (allP LineM.Ok ls::L) w:=by
  induction ls with
  | nil=>intro L w h; rw [show fam e []=[] from rfl,List.append_nil] at h; exact h.yV (all_loc LineM.Ok.loc []) fun _ _ x hx=>by cases hx
  | cons x ls ih =>
    intro L w h
    have h1:Mem w0 M (smRow e x::(L++fam e ls)) w:=h.perm0 (by rw [show fam e (x::ls)=smRow e x::fam e ls from rfl]; exact List.perm_middle)
    have h2:Mem w0 M (slP 2 zR (.slice x.sm.A x.sm.l.length x.sm.c) x.sm.l::(L++fam e ls)) w:=h1.zl encSample (i:=0) rfl hM
    have h3:Mem w0 M (allP LineM.Ok ls::slP 2 zR (.slice x.sm.A x.sm.l.length x.sm.c) x.sm.l::L) w:=ih (L:=_::L) h2
    have h4:Mem w0 M (allP LineM.Ok (x::ls)::allP LineM.Ok ls::slP 2 zR (.slice x.sm.A x.sm.l.length x.sm.c) x.sm.l::L) w:=h3.yV (all_loc LineM.Ok.loc _) fun Pb pp y hy=>by
      rcases List.mem_cons.1 hy with rfl | hy
      · exact ⟨pp.at_ 1 _ rfl⟩
      · exact pp.at_ 0 _ rfl y hy
    exact h4.emb (fun i=>if i=0 then 0 else i + 2) (fun i j e=>by split at e <;> split at e <;> omega) fun j o hj=>by
      cases j with
      | zero=>simpa using hj
      | succ j=>rw [if_neg qO]; simpa using hj
theorem Mem.famSeal' (h:Mem w0 M L w) (n:Nat) (hF:L.drop n=fam e ls) (hM:M.m=no):Mem w0 M (allP LineM.Ok ls::L.take n) w:=by
  refine Mem.famSeal hM ls (e:=e) ?_
  rw [← hF,List.take_append_drop]; exact h
theorem Mem.serIns {l:List zN} {sA:Option Addr} {sc:Nat} {sl:List Label} {m:SlX Sample} (h:Mem w0 M L w) (q q2 k:Nat) (hi:L[q]?=some (allP LineS.Ok l)) (hi2:L[q2]?=some (slP 2 zQ (.slice sA sl.length sc) sl)):Mem w0 M (allP LineS.Ok (l.take k++⟨⟨sA,sc,sl⟩,m⟩::l.drop k)::L) w :=
  h.yV (all_loc LineS.Ok.loc _) fun Pb pp y hy=>by
    rcases List.mem_append.1 hy with hy | hy
    · exact pp.at_ q _ hi y (List.mem_of_mem_take hy)
    · rcases List.mem_cons.1 hy with rfl | hy
      · exact ⟨pp.at_ q2 _ hi2⟩
      · exact pp.at_ q _ hi y (List.mem_of_mem_drop hy)
theorem Mem.serNew {l:List zN} {sA:Option Addr} {sc:Nat} {sl:List Label} {m:SlX Sample} (h:Mem w0 M L w) (q q2 k:Nat) (hi:L[q]?=some (allP LineS.Ok l)) (hi2:L[q2]?=some (slP 2 zQ (.slice sA sl.length sc) sl)):Mem w0 M (allP LineS.Ok ((([]++l.take k)++[⟨⟨sA,sc,sl⟩,m⟩])++l.drop k)::L) w:=by
  rw [ins_l]; exact h.serIns q q2 k hi hi2
theorem Mem.serSet {l:List zN} {y:zN} (h:Mem w0 M L w) (q k:Nat) (hi:L[q]?=some (allP LineS.Ok l)) (hx:l[k]?=some x) (he:y.sr=x.sr):Mem w0 M (allP LineS.Ok (l.set k y)::L) w :=
  h.yV (all_loc LineS.Ok.loc _) fun Pb pp z hz=>by
    rcases List.mem_or_eq_of_mem_set hz with hz | rfl
    · exact pp.at_ q _ hi z hz
    · exact ⟨by rw [he]; exact (pp.at_ q _ hi x (List.mem_of_getElem? hx)).sr⟩
end
end Ex
end
section
namespace Bs
open Ex Sh
set_option linter.unusedVariables false
theorem run_len:∀ (l:List Do) (b:Base),(run b l).2.length=l.length
  | [],_=>rfl
  | d::r,b=>by rw [run,List.length_cons,List.length_cons,run_len r]
section
variable {a b:yA} {k:Nat} {s t:zC}
instance:DecidableEq Base:=fun a b=>decidable_of_iff (a.zA=b.zA∧a.zO=b.zO) ⟨fun h=>by cases a; cases b; simp only at h; rw [h.1,h.2],fun h=>by rw [h]; exact ⟨rfl,rfl⟩⟩
end
section
variable {l gs:List zn} {azs:List zh} {k:Nat} {d:zn} {a:zh} {z y:yA × SlX zh}
theorem play_len (hz:(z.1.e,z.2.l.map zh.e)=((play (l.map zn.e)).1,(play (l.map zn.e)).2.1)) (h:¬ (play (l.map zn.e)).2.2≠0):z.2.l.length=l.length:=by
  have e2:=(Prod.mk.inj hz).2
  have hl:¬ 120 < (l.map zn.e).length:=fun g=>h (by unfold play; rw [if_pos g]; decide)
  have hp:play (l.map zn.e)=((run zero (l.map zn.e)).1,(run zero (l.map zn.e)).2,0):=by unfold play; rw [if_neg hl]
  rw [hp] at e2
  have:=congrArg List.length e2
  rw [List.length_map] at this; rw [this]
  show (run zero (l.map zn.e)).2.length=_
  rw [run_len,List.length_map]
theorem play_bound (h:¬ (play (l.map zn.e)).2.2≠0):l.length≤120:=by
  have hl:¬ 120 < (l.map zn.e).length:=fun g=>h (by unfold play; rw [if_pos g]; decide)
  rw [List.length_map] at hl; omega
end
def sumT9:ByteArray:=⟨#[97,108,108,32,115,117,109,32,40,115,117,109,40,123,125,91,54,48,93,41,41]⟩
def topL9:List Do:=[addD ⟨#[120]⟩ 5 7,addD ⟨#[121]⟩ 6 8,rollD 100,askD sumT9 60]
theorem alive_9:(play topL9).2.2=0∧(play topL9).2.1.length=4∧(play topL9).1.zA.length=2∧((play topL9).2.1[3]?.map fun a=>(a.cells.map (·.value),a.cost))=some ([15],2):=by decide +kernel
theorem alive9_x {l:List zn} {z:yA × SlX zh} (hl:l.map zn.e=topL9) (hz:(z.1.e,z.2.l.map zh.e)=((play (l.map zn.e)).1,(play (l.map zn.e)).2.1)) :
    (play (l.map zn.e)).2.2=0∧z.2.l.length=4∧z.1.zA.l.length=2∧∀ s,z.2.l[3]?=some s→s.cells.l.map (fun c=>c.value)=[15]∧s.cost=2:=by
  obtain ⟨h1,h2,h3,h4⟩:=alive_9
  rw [hl] at hz ⊢
  generalize play topL9=p at h1 h2 h3 h4 hz ⊢
  obtain ⟨e1,e2⟩:=Prod.mk.inj hz
  rw [← e2] at h2 h4; rw [← e1] at h3
  refine ⟨h1,by simpa using h2,by have:(z.1.zA.l.map zC.e).length=2:=h3; simpa using this,fun s hs=>?_⟩
  rw [List.getElem?_map,hs] at h4
  simp only [Option.map_some,Option.some.injEq,Prod.mk.injEq] at h4
  refine ⟨?_,h4.2⟩
  have:(s.cells.l.map zE.e).map (·.value)=[15]:=h4.1
  rw [List.map_map] at this; exact this
theorem val9_x {l:List zE} {c:zE} {n:Int} (h:l.map (fun c=>c.value)=[n]) (hs:l[0]?=some c):c.value=n:=by
  have:=congrArg (·[0]?) h
  simp only [List.getElem?_map,hs,Option.map_some] at this
  simpa using this
end Bs
end
section
namespace Bs
open Ex Sh
set_option linter.unusedVariables false
theorem tolds_snoc (d:Do) (a:Ans):∀ (l:List Do) (s:List Ans) (out:List Line),l.length=s.length→tolds out (l++[d]) (s++[a])=if d.kind=1∧a.err=0 then tell (tolds out l s) d.sr d.zJ else tolds out l s
  | [],[],out,_=>rfl
  | [],_::_,_,h=>by simp at h
  | _::_,[],_,h=>by simp at h
  | x :: l, y :: s, out, h => by
    rw [List.cons_append,List.cons_append,tolds,tolds_snoc d a l s _ (by simpa using h),tolds]
theorem tolds_more:∀ (l:List Do) (s s':List Ans) (out:List Line),l.length≤s.length→tolds out l (s++s')=tolds out l s
  | [],s,s',out,_=>by cases s <;> cases s' <;> rfl
  | _::_,[],_,_,h=>by simp at h
  | x::l,y::s,s',out,h=>by rw [List.cons_append,tolds,tolds_more l s s' _ (by simpa using h),tolds]
theorem tolds_cut (l:List Do) (s:List Ans) (out:List Line) (k:Nat) (h:l.length≤k):tolds out l s=tolds out l (s.take k):=by
  by_cases hk:k≤s.length
  · have:=tolds_more l (s.take k) (s.drop k) out (by rw [List.length_take]; omega)
    rwa [List.take_append_drop] at this
  · rw [List.take_of_length_le qO]
theorem tell_asc {out:List Line} {t:List Label} {x:Sample} (h:Mn.Asc (out.map lkey)):Mn.Asc ((tell out t x).map lkey):=by
  unfold tell
  by_cases h1:Mn.has (out.map lkey) t=true
  · rw [if_pos h1]
    cases hy:out[Mn.pos (out.map lkey) t]? with
    | none=>exact h
    | some y =>
      simp only
      have:(out.set (Mn.pos (out.map lkey) t) ⟨y.sr,y.sm++[x]⟩).map lkey=out.map lkey:=by
        rw [List.map_set]
        refine List.ext_getElem? fun i=>?_
        rw [List.getElem?_set]
        split
        · rename_i h2
          subst h2
          have hk:=(List.getElem?_eq_some_iff.1 hy).1
          rw [if_pos (by simpa using hk),List.getElem?_map,hy]; rfl
        · rfl
      rw [this]; exact h
  · rw [if_neg h1]
    have h2:=Mn.put_asc (w:=⟨#[]⟩) (s:=t) (x:=0) h
    rw [Mn.put_ins ⟨#[]⟩ 0 (by simpa using h1)] at h2
    rw [List.map_append,List.map_cons,List.map_take,List.map_drop]; exact h2
theorem tolds_asc:∀ (l:List Do) (s:List Ans) (out:List Line),Mn.Asc (out.map lkey)→Mn.Asc ((tolds out l s).map lkey)
  | [],s,out,h=>by cases s <;> exact h
  | _::_,[],_,h=>h
  | d :: l, a :: s, out, h => by
    rw [tolds]
    refine tolds_asc l s _ ?_
    split
    · exact tell_asc h
    · exact h
section
variable {ls:List zN} {k:Nat} {t:List Label} {x:Sample} {y:zN} {l:List zn} {a:List zh} {d:zn} {r:zh}
theorem asc_of {l:List Do} {s:List Ans} (h:ls.map zN.e=tolds [] l s):Mn.Asc ((ls.map zN.e).map lkey):=by rw [h]; exact tolds_asc l s [] List.Pairwise.nil
theorem key_at (q:Nat) (c:Cell) (hc:((ls.map zN.e).map lkey)[q]?=some c):∃ y,ls[q]?=some y∧c.sr=y.sr.l:=by
  rw [List.getElem?_map,List.getElem?_map] at hc
  cases hy:ls[q]? with
  | none=>rw [hy] at hc; cases hc
  | some y=>rw [hy] at hc; obtain rfl:=Option.some.inj hc; exact ⟨y,rfl,rfl⟩
theorem at_key {q:Nat} (hy:ls[q]?=some y):((ls.map zN.e).map lkey)[q]?=some ⟨y.sr.l,0⟩:=by rw [List.getElem?_map,List.getElem?_map,hy]; rfl
def Less (ls:List zN) (t:List Label) (k:Nat):Prop:=∀ (q:Nat) (y:zN),ls[q]?=some y→q < k→zH.compare y.sr.l t < 0
theorem less_0:Less ls t 0:=fun q y _ h=>absurd h (Nat.not_lt_zero _)
theorem less_next (h:Less ls t k) (hy:ls[k]?=some y) (hc:zH.compare y.sr.l t < 0):Less ls t (k + 1):=fun q z hz hq=>by
  by_cases hqk:q=k
  · subst hqk; rw [hy] at hz; obtain rfl:=Option.some.inj hz; exact hc
  · exact h q z hz qO
theorem less_key (h:Less ls t k):∀ (q:Nat) (c:Cell),((ls.map zN.e).map lkey)[q]?=some c→q < k→zH.compare c.sr t < 0:=fun q c hc hq=>by
  obtain ⟨z,hz,e⟩:=key_at q c hc
  rw [e]; exact h q z hz hq
theorem pos_is (ha:Mn.Asc ((ls.map zN.e).map lkey)) (hk:k≤ls.length) (h:Less ls t k) (h2:∀ z,ls[k]?=some z→¬ zH.compare z.sr.l t < 0):Mn.pos ((ls.map zN.e).map lkey) t=k:=by
  refine Mn.pos_eq (by simpa using hk) (less_key h) fun q c hc hq=>?_
  have hlt:k < ls.length:=by have:=(List.getElem?_eq_some_iff.1 hc).1; simp at this; omega
  have hz:ls[k]?=some ls[k]:=List.getElem?_eq_getElem hlt
  exact Mn.asc_ge ha (at_key hz) (h2 _ hz) q c hc hq
theorem tell_new (ha:Mn.Asc ((ls.map zN.e).map lkey)) (hk:k≤ls.length) (h:Less ls t k) (h2:∀ z,ls[k]?=some z→¬ zH.compare z.sr.l t < 0∧zH.compare z.sr.l t≠0) (z:zN) (hz:z.e=⟨t,[x]⟩) (z0:zN) :
    ((ls.take k++z0::ls.drop k).set k z).map zN.e=tell (ls.map zN.e) t x:=by
  have hp:=pos_is ha hk h fun z hz=>(h2 z hz).1
  have hh:Mn.has ((ls.map zN.e).map lkey) t=false:=by
    by_cases hlt:k < ls.length
    · have hy:ls[k]?=some ls[k]:=List.getElem?_eq_getElem hlt
      rw [Mn.bs_has ha (at_key hy) (less_key h) (h2 _ hy).1]
      exact decide_eq_false (h2 _ hy).2
    · exact Mn.bs_no (i:=k) (by simp; omega) (less_key h)
  have e:(ls.take k++z0::ls.drop k).set k z=ls.take k++z::ls.drop k:=by
    have hl:(ls.take k).length=k:=by rw [List.length_take]; omega
    rw [List.set_append,if_neg qO,hl,Nat.sub_self]; rfl
  rw [e,tell,if_neg (by rw [hh]; decide),hp,List.map_append,List.map_cons,List.map_take,List.map_drop,hz]
theorem tell_old (ha:Mn.Asc ((ls.map zN.e).map lkey)) (h:Less ls t k) (hy:ls[k]?=some y) (hc:zH.compare y.sr.l t=0) (z:zN) (hz:z.e=⟨y.sr.l,y.sm.l++[x]⟩):(ls.set k z).map zN.e=tell (ls.map zN.e) t x:=by
  have hk:=(List.getElem?_eq_some_iff.1 hy).1
  have hp:=pos_is (k:=k) ha qO h fun z hz=>by rw [hy] at hz; obtain rfl:=Option.some.inj hz; omega
  have hh:Mn.has ((ls.map zN.e).map lkey) t=true:=by
    rw [Mn.bs_has ha (at_key hy) (less_key h) (by show ¬ zH.compare y.sr.l t < 0; omega)]
    exact decide_eq_true hc
  rw [tell,if_pos hh,hp,List.getElem?_map,hy]
  show _=(ls.map zN.e).set k ⟨y.sr.l,y.sm.l++[x]⟩
  rw [List.map_set,hz]
def Fit (n:Nat) (x:zN):Prop:=okLabels x.sr.l∧x.sm.l.length≤n
theorem fit_ins {n:Nat} {z0:zN} (h:∀ x ∈ ls,Fit n x) (hy:Fit n z0):∀ x ∈ (([]++ls.take k)++[z0])++ls.drop k,Fit n x:=fun x hx=>by
  rw [ins_l] at hx
  rcases List.mem_append.1 hx with hx | hx
  · exact h x (List.mem_of_mem_take hx)
  · rcases List.mem_cons.1 hx with rfl | hx
    · exact hy
    · exact h x (List.mem_of_mem_drop hx)
theorem fit_set {n:Nat} {A:Option Addr} {c:Nat} (h:∀ x ∈ ls,Fit n x) (hy:ls[k]?=some y):∀ z ∈ ls.set k ⟨y.sr,⟨A,c,y.sm.l++[x]⟩⟩,Fit (n + 1) z:=fun z hz=>by
  rcases List.mem_or_eq_of_mem_set hz with hz | rfl
  · exact ⟨(h z hz).1,Nat.le_succ_of_le (h z hz).2⟩
  · have:=h y (List.mem_of_getElem? hy)
    exact ⟨this.1,by show (y.sm.l++[x]).length≤n + 1; rw [List.length_append,List.length_singleton]; have:=this.2; omega⟩
theorem fit_up {n:Nat} (h:∀ x ∈ ls,Fit n x):∀ x ∈ ls,Fit (n + 1) x:=fun x hx=>⟨(h x hx).1,Nat.le_succ_of_le (h x hx).2⟩
theorem ins_at {z0:zN} (hk:k≤ls.length):((([]++ls.take k)++[z0])++ls.drop k)[k]?=some z0:=by
  rw [ins_l,List.getElem?_append_right (by rw [List.length_take]; omega),List.length_take,Nat.min_eq_left hk,Nat.sub_self]; rfl
theorem ins_len {z0:zN} (hk:k≤ls.length):((([]++ls.take k)++[z0])++ls.drop k).length=ls.length + 1:=by
  rw [ins_l,List.length_append,List.length_cons,List.length_take,List.length_drop]; omega
def Told (os ls:List zN) (k:Nat) (z:zN) (t:List Label) (x:Sample):Prop:=∀ A c,(os.set k ⟨z.sr,⟨A,c,z.sm.l++[x]⟩⟩).map zN.e=tell (ls.map zN.e) t x
theorem told_new (ha:Mn.Asc ((ls.map zN.e).map lkey)) (hk:k≤ls.length) (h:Less ls t k) (h2:∀ z,ls[k]?=some z→¬ zH.compare z.sr.l t < 0∧zH.compare z.sr.l t≠0) {A:Option Addr} {c:Nat}:Told ((([]++ls.take k)++[⟨⟨A,c,t⟩,⟨none,0,[]⟩⟩])++ls.drop k) ls k ⟨⟨A,c,t⟩,⟨none,0,[]⟩⟩ t x:=fun B n=>by
  rw [ins_l]; exact tell_new ha hk h h2 _ rfl _
theorem told_old (ha:Mn.Asc ((ls.map zN.e).map lkey)) (h:Less ls t k) (hy:ls[k]?=some y) (hc:zH.compare y.sr.l t=0):Told ls ls k y t x:=fun B n=>tell_old ha h hy hc _ rfl
theorem told_skip (hd:l[k]?=some d) (hr:a[k]?=some r) (h:ls.map zN.e=tolds [] ((l.take k).map zn.e) ((a.take k).map zh.e)) (hn:¬ (d.kind=1∧r.err=0)):ls.map zN.e=tolds [] ((l.take (k + 1)).map zn.e) ((a.take (k + 1)).map zh.e):=by
  have h1:=(List.getElem?_eq_some_iff.1 hd).1; have h2:=(List.getElem?_eq_some_iff.1 hr).1
  rw [List.take_add_one,List.take_add_one,hd,hr,Option.toList_some,Option.toList_some,List.map_append,List.map_append,List.map_cons,List.map_nil,List.map_cons,List.map_nil,tolds_snoc _ _ _ _ _ (by simp; omega),if_neg (show ¬ (d.e.kind=1∧r.e.err=0) from hn),h]
theorem told_more {ls':List zN} (hd:l[k]?=some d) (hr:a[k]?=some r) (h:ls.map zN.e=tolds [] ((l.take k).map zn.e) ((a.take k).map zh.e)) (h1:d.kind=1) (h2:r.err=0) (he:ls'.map zN.e=tell (ls.map zN.e) d.sr.l d.zJ) :
    ls'.map zN.e=tolds [] ((l.take (k + 1)).map zn.e) ((a.take (k + 1)).map zh.e):=by
  have g1:=(List.getElem?_eq_some_iff.1 hd).1; have g2:=(List.getElem?_eq_some_iff.1 hr).1
  rw [List.take_add_one,List.take_add_one,hd,hr,Option.toList_some,Option.toList_some,List.map_append,List.map_append,List.map_cons,List.map_nil,List.map_cons,List.map_nil,tolds_snoc _ _ _ _ _ (by simp; omega),if_pos (show d.e.kind=1∧r.e.err=0 from ⟨h1,h2⟩),he,h]; rfl
theorem told_all (h:ls.map zN.e=tolds [] ((l.take k).map zn.e) ((a.take k).map zh.e)) (hk:l.length≤k):ls.map zN.e=tolds [] (l.map zn.e) (a.map zh.e):=by
  rw [h,List.take_of_length_le hk,tolds_cut (l.map zn.e) (a.map zh.e) [] k (by simpa using hk),List.map_take]
end
theorem run_at:∀ {l:List Do} {b:Base} {i:Nat} {d:Do} {x:Ans},l[i]?=some d→(run b l).2[i]?=some x→x=(one (run b (l.take i)).1 d).2
  | [],_,_,_,_,h,_=>by simp at h
  | y :: l, b, 0, d, x, h, hx => by
    obtain rfl:y=d:=by simpa using h
    rw [run] at hx
    exact (by simpa using hx:(one b y).2=x).symm
  | y :: l, b, i + 1, d, x, h, hx => by
    rw [run] at hx
    have:=run_at (b:=(one b y).1) (by simpa using h) (by simpa using hx)
    rw [this,List.take_succ_cons,run]
theorem run_take:∀ (l:List Do) (b:Base) (k:Nat),(run b (l.take k)).2=(run b l).2.take k
  | [],b,k=>by simp [run]
  | x::l,b,0=>by simp [run]
  | x::l,b,k + 1=>by rw [List.take_succ_cons,run,run,List.take_succ_cons,run_take l _ k]
theorem add_named {b:Base} {d:Do} (h:(add b d).2.err=0):zH.wrong d.sr=0:=by
  rcases Classical.em (zH.wrong d.sr=0) with h1 | h1
  · exact h1
  · unfold add at h
    rw [if_pos h1] at h
    exact h
theorem told_named {l:List Do} {b:Base} {i:Nat} {d:Do} {x:Ans} (hd:l[i]?=some d) (hx:(run b l).2[i]?=some x) (h1:d.kind=1) (h2:x.err=0):zH.wrong d.sr=0:=by
  have:=run_at hd hx
  rw [this] at h2
  unfold one at h2
  rw [if_pos h1] at h2
  exact add_named h2
theorem wrong_labels:∀ {l:List Label} {p:Option Label},zH.wrongFrom p l=0→okLabels l
  | [],_,_=>fun x hx=>by cases hx
  | y :: l, p, h => fun x hx => by
    unfold zH.wrongFrom at h
    split at h
    · cases h
    · rename_i h1
      split at h
      · cases h
      · rcases List.mem_cons.1 hx with rfl | hx
        · have hk:=Lg9 (zH.named x.key) (zH.named x.val) h1
          exact ⟨by have:=named_len hk.1; omega,by have:=named_len hk.2; omega⟩
        · exact wrong_labels h x hx
where
  Lg9 (a b:Bool) (h:¬ ((!a)=true∨(!b)=true)):a=true∧b=true:=by cases a <;> cases b <;> simp at h ⊢
  named_len {s:ByteArray} (h:zH.named s=true):s.size≤12:=by
    unfold zH.named at h
    simp only [Bool.and_eq_true,decide_eq_true_eq] at h
    omega
theorem labels_ok {l:List Label} (h:zH.wrong l=0):okLabels l:=by
  unfold zH.wrong at h
  split at h
  · cases h
  · exact wrong_labels h
end Bs
end
section
open _root_.Go.Proofs.Tryz
open Ex
attribute [local irreducible] WC WL WQ WE WS
set_option linter.unusedVariables false
set_option linter.unusedSimpArgs false
set_option maxHeartbeats 2000000 in
theorem c_told9 (lv:Value) (l:List zn) (av:Value) (a:List zh) (P0:Nat→Prop) (w:World) (hP0:∀ b,P0 b→b < w.heap.size) (hl:zD P0 7 y8 lv l w) (hla:∀ x ∈ l,zn.Ok P0 x w) (ha:zD P0 4 ym av a w) (haa:∀ x ∈ a,zh.Ok P0 x w) (hle9:l.length≤a.length) (hl9:l.length≤120) (hgd:∀ (i:Nat) (d:zn) (x:zh),l[i]?=some d→a[i]?=some x→d.kind=1→x.err=0→zH.wrong d.sr.l=0) :
    Calls prog 20 #[lv,av] w (RetE w P0 (fun z:SlX zN=>.slice z.A z.l.length z.c) (fun z=>z.l.map zN.e=Bs.tolds [] (l.map zn.e) (a.map zh.e)) (fun z S=>LinesX.Ok S z)):=by
 have hwl:∀ x ∈ l,zn.Wf x:=fun x hx=>(hla x hx).wf
 obtain ⟨lA,lc,rfl,hlc,hlm,hlA⟩:=hl.form
 have hwa:∀ x ∈ a,zh.Wf x:=fun x hx=>(haa x hx).wf
 obtain ⟨aA,ac,rfl,hac,ham,haA⟩:=ha.form
 refine zt (N:=88) func20 (Mem.ofDatsP hP0 (dc (dlp hl) (dc (dp (all_loc zn.Ok.loc _) hla) (dc (dlp ha) (dc (dp (all_loc zh.Ok.loc _) haa) dn))))) ?_
 refine (go 7) ?_
 refine yG (yo:zN→List Value) 54 2 (zb (fun _ h=>h.all0 LineS.Ok.loc) ?_)
 refine (go 12) ?_
 refine vo (fun (k:Nat) (ls:List zN) (ov:Value)=>[(1,.slice aA a.length ac),(5,ov),(9,.slice lA l.length lc),(10,iV l.length),(11,iV k)]) (fun (k:Nat) (ls:List zN) (ov:Value)=>(allP LineS.Ok ls::Row ov 54 2 yo ls::slP 7 y8 (.slice lA l.length lc) l::allP zn.Ok l::slP 4 ym (.slice aA a.length ac) a::allP zh.Ok a::fam 41 ls)) (fun (k:Nat) (ls:List zN) (ov:Value)=>k≤l.length∧(∀ x ∈ ls,LineS.Wf x)∧ls.map zN.e=Bs.tolds [] ((l.take k).map zn.e) ((a.take k).map zh.e)∧(∀ x ∈ ls,Bs.Fit k x)∧ls.length≤k) (fun (k:Nat) (ls:List zN) (ov:Value)=>l.length - k) 0 [] (Zs) (sc rfl (sc rfl (sc rfl (sc rfl (sc (ji qO) sn))))) (fun _ h=>h) ?_ (fun k ls ov hI1=>?_)
 ·exact ⟨Nat.zero_le _,fun x hx=>(by cases hx),rfl,fun x hx=>(by cases hx),Nat.le_refl _⟩
 have hwf:=hI1.2.1
 have hll:=hI1.2.2.2.2
 have hasc:=Bs.asc_of hI1.2.2.1
 refine yU 1 (l:=ls) rfl fun A1 cp1 hv1 hc1 hm1 hA1=>?_
 subst hv1
 refine (go 6) (zX (fun h1=>?_) fun h1=>?_)
 ·refine (go 7) ?_
  obtain ⟨ad1,s1,hd1,hs1⟩:=elx hlA k
  refine (go 2) (zw fun b7=>?_)
  refine (go 11) (yP 19 (fun h2=>?_) fun h2=>?_)
  ·refine (go 17) ?_
   refine zT (yF (k + 1) ls (.slice A1 ls.length cp1) (sc rfl (sc rfl (sc rfl (sc rfl (sc (ji qO) sn))))) (fun _ h=>(h.uy 7 6 [1,2,3,4,5,6] qD rfl rfl rfl rfl)) ?_ ?_)
   ·exact ⟨by omega,hwf,Bs.told_skip hs1 (List.getElem?_eq_getElem (l:=a) (i:=k) qO) hI1.2.2.1 (fun g=>h2 g.1),Bs.fit_up hI1.2.2.2.1,by omega⟩
   omega
  refine (go 2) ?_
  obtain ⟨ad2,s2,hd2,hs2⟩:=elx haA k
  refine (go 7) (zX (fun h3=>?_) fun h3=>?_)
  ·refine (go 7) ?_
   refine zT (yF (k + 1) ls (.slice A1 ls.length cp1) (sc rfl (sc rfl (sc rfl (sc rfl (sc (ji qO) sn))))) (fun _ h=>(h.uy 7 6 [1,2,3,4,5,6] qD rfl rfl rfl rfl)) ?_ ?_)
   ·exact ⟨by omega,hwf,Bs.told_skip hs1 hs2 hI1.2.2.1 (fun g=>h3 g.2),Bs.fit_up hI1.2.2.2.1,by omega⟩
   omega
  refine (go 4) ?_
  have hw1:=hwl _ (List.mem_of_getElem? hs1)
  refine zb (fun _ h=>h.one 4 zn.Ok.loc rfl hs1) (zb (fun _ h=>h.doX 0 rfl) ?_)
  obtain ⟨hc2,hm2,hA2⟩:=hw1.sr
  refine (go 3) ?_
  refine yQ fun PK1 hPK1=>?_
  have hR1:∀ (jW:Nat) (hjW:jW≤ls.length) (hlW:Bs.Less ls s1.sr.l jW) (hgW:∀ z,ls[jW]?=some z→¬ zH.compare z.sr.l s1.sr.l < 0),∀ w9,Mem w ⟨no,P0⟩ (slP 2 zQ (.slice s1.sr.A s1.sr.l.length s1.sr.c) s1.sr.l::okP zn.Ok s1::.blk b7 [iV s1.kind,iV s1.tier,iV s1.to,.slice s1.sr.A s1.sr.l.length s1.sr.c,iV s1.zJ.time,iV s1.zJ.value,.string s1.text] 43::allP LineS.Ok ls::Row (.slice A1 ls.length cp1) 54 2 yo ls::slP 7 y8 (.slice lA l.length lc) l::allP zn.Ok l::slP 4 ym (.slice aA a.length ac) a::allP zh.Ok a::fam 41 ls) w9→∀ a9,Has 88 [] a9 [(1,.slice aA a.length ac),(5,.slice A1 ls.length cp1),(7,.pointer (some ⟨b7,0,none⟩)),(8,iV jW),(9,.slice lA l.length lc),(10,iV l.length),(11,iV k)]→PK1 a9 w9:=by
   intro jW hjW hlW hgW
   refine hPK1 [(1,.slice aA a.length ac),(5,.slice A1 ls.length cp1),(7,.pointer (some ⟨b7,0,none⟩)),(8,iV jW),(9,.slice lA l.length lc),(10,iV l.length),(11,iV k)] (Mem w ⟨no,P0⟩ (slP 2 zQ (.slice s1.sr.A s1.sr.l.length s1.sr.c) s1.sr.l::okP zn.Ok s1::.blk b7 [iV s1.kind,iV s1.tier,iV s1.to,.slice s1.sr.A s1.sr.l.length s1.sr.c,iV s1.zJ.time,iV s1.zJ.value,.string s1.text] 43::allP LineS.Ok ls::Row (.slice A1 ls.length cp1) 54 2 yo ls::slP 7 y8 (.slice lA l.length lc) l::allP zn.Ok l::slP 4 ym (.slice aA a.length ac) a::allP zh.Ok a::fam 41 ls)) (yQ fun PK2 hPK2=>?_)
   have hR2:∀ (jV:Nat) (os:List zN) (ov2:Value) (z9:zN) (hoz9:os[jV]?=some z9) (hot9:Bs.Told os ls jV z9 s1.sr.l s1.zJ) (hok9:∀ x ∈ os,Bs.Fit k x) (hon9:os.length≤k + 1) (hwo9:∀ x ∈ os,LineS.Wf x),∀ w9,Mem w ⟨no,P0⟩ (slP 2 zQ (.slice s1.sr.A s1.sr.l.length s1.sr.c) s1.sr.l::okP zn.Ok s1::.blk b7 [iV s1.kind,iV s1.tier,iV s1.to,.slice s1.sr.A s1.sr.l.length s1.sr.c,iV s1.zJ.time,iV s1.zJ.value,.string s1.text] 43::allP LineS.Ok os::Row ov2 54 2 yo os::slP 7 y8 (.slice lA l.length lc) l::allP zn.Ok l::slP 4 ym (.slice aA a.length ac) a::allP zh.Ok a::fam 41 os) w9→∀ a9,Has 88 [] a9 [(1,.slice aA a.length ac),(5,ov2),(7,.pointer (some ⟨b7,0,none⟩)),(8,iV jV),(9,.slice lA l.length lc),(10,iV l.length),(11,iV k)]→PK2 a9 w9:=by
    intro jV os ov2 z9 hoz9 hot9 hok9 hon9 hwo9
    refine hPK2 [(1,.slice aA a.length ac),(5,ov2),(7,.pointer (some ⟨b7,0,none⟩)),(8,iV jV),(9,.slice lA l.length lc),(10,iV l.length),(11,iV k)] (Mem w ⟨no,P0⟩ (slP 2 zQ (.slice s1.sr.A s1.sr.l.length s1.sr.c) s1.sr.l::okP zn.Ok s1::.blk b7 [iV s1.kind,iV s1.tier,iV s1.to,.slice s1.sr.A s1.sr.l.length s1.sr.c,iV s1.zJ.time,iV s1.zJ.value,.string s1.text] 43::allP LineS.Ok os::Row ov2 54 2 yo os::slP 7 y8 (.slice lA l.length lc) l::allP zn.Ok l::slP 4 ym (.slice aA a.length ac) a::allP zh.Ok a::fam 41 os)) ?_
    have hjl9:=(List.getElem?_eq_some_iff.1 hoz9).1
    have hzl9:=(hok9 _ (List.mem_of_getElem? hoz9)).2
    refine yU 4 (l:=os) rfl fun A2 cp2 hv2 hc3 hm3 hA3=>?_
    subst hv2
    refine yL (Mem w ⟨no,P0⟩ [slP 2 zQ (.slice s1.sr.A s1.sr.l.length s1.sr.c) s1.sr.l,okP zn.Ok s1,.blk b7 [iV s1.kind,iV s1.tier,iV s1.to,.slice s1.sr.A s1.sr.l.length s1.sr.c,iV s1.zJ.time,iV s1.zJ.value,.string s1.text] 43,slP 7 y8 (.slice lA l.length lc) l,allP zn.Ok l,slP 4 ym (.slice aA a.length ac) a,allP zh.Ok a]) mix (fun _ h=>h.drew) rfl (yJ 8 [0,1,2,3,7,8] [0,1,2,5,6,7,8] rfl fun KS hKS=>?_)
    refine (go 6) ?_
    refine zk hKS (yT (f:=7) (i:=4) (j:=9) rfl (by kernel_rfl) ?_ ?_)
    ·
     refine zd (i:=4) rfl fun KN hKN=>?_
     obtain ⟨ad3,hd3⟩:=hA3 (ne_nil (i:=jV) qI)
     refine (go 2) ?_
     refine hKN _ _ (S9 [0,1,2,5,6,7,8]) (yJ 6 [5] [0,1,2,5,6,7,8] rfl fun KS hKS=>?_)
     refine (go 1) ?_
     refine zk hKS (yT (f:=5) (i:=6) (j:=9) rfl (by kernel_rfl) ?_ ?_)
     ·
      refine zd (i:=6) rfl fun KN hKN=>zc (vh 4 encLineX rfl rfl hd3 hoz9 rfl flat47) ?_
      refine (go 1) ?_
      refine hKN _ _ (S9 [0,1,2,5,6,7,8]) (zg 4 9 (zd (i:=9) rfl fun KN hKN=>zu zR ([s1.zJ]:List Sample) wn underlying47 inf41 rfl rfl rfl rfl qD qD rfl fun b82=>?_))
      refine (go 1) ?_
      refine hKN _ _ (S9 [1,2,3,6,7,8,9]) (zg 3 10 (zd (i:=10) rfl fun KN hKN=>zb (fun _ h=>h.famOut 10 rfl hoz9) (yE 0 z9.sm.l ([s1.zJ]:List Sample) encSample wn rfl rfl rfl (fun _ hM=>(RowSl encSample hM 1 rfl)) underlying47 inf41 rfl rfl (by simp only [qL,List.length_take,List.length_drop]; omega) rfl fun A3 cp3 hc4 hm4 hA4=>zb (fun _ h=>h.famSet (y:=(zN.mk z9.sr ⟨A3,cp3,(z9.sm.l++([s1.zJ]:List Sample))⟩)) 10 rfl hoz9) ?_)))
      refine (go 1) ?_
      refine hKN _ _ (S9 [1,2,3,6,7,8,9]) (zg 2 11 (zd (i:=11) rfl fun KN hKN=>?_))
      refine (go 2) ?_
      refine hKN _ _ (S9 [1,2,3,6,7,8,9]) (yJ 1 [12] [1,2,3,6,7,8,9] rfl fun KS hKS=>?_)
      refine (go 1) ?_
      refine zk hKS (zg 0 13 (zd (i:=13) rfl fun KN hKN=>vi 5 (vs:=[.slice A3 ((z9.sm.l++([s1.zJ]:List Sample)).length) cp3]) (zN.mk z9.sr ⟨A3,cp3,(z9.sm.l++([s1.zJ]:List Sample))⟩) encLineX wn rfl rfl rfl rfl hd3 hoz9 inf47 rfl rfl rfl rfl (zb (fun _ h=>h.serSet (y:=(zN.mk z9.sr ⟨A3,cp3,(z9.sm.l++([s1.zJ]:List Sample))⟩)) 4 jV rfl hoz9 rfl) (yg 0 rfl (fun S w h x hx=>LineS.Ok.wf (h x hx)) fun hw2=>?_))))
      refine (go 1) ?_
      refine hKN _ _ (S9 [2,3,4,7,8,9,10]) ?_
      refine zr (by kernel_rfl) ((go 2) ?_)
      refine (go 3) ?_
      refine zT (yF (k + 1) (os.set jV (zN.mk z9.sr ⟨A3,cp3,(z9.sm.l++([s1.zJ]:List Sample))⟩)) (.slice A2 os.length cp2) (sc rfl (sc rfl (sc rfl (sc rfl (sc (ji qO) sn))))) (fun _ h=>(h.uy 11 6 [0,6,7,8,9,10] qD rfl rfl rfl rfl)) ?_ ?_)
      ·exact ⟨by omega,hw2,Bs.told_more hs1 hs2 hI1.2.2.1 (Classical.not_not.1 h2) (Classical.not_not.1 h3) (hot9 _ _),Bs.fit_set hok9 hoz9,by rw [List.length_set]; omega⟩
      ·omega
     ·
      refine zd (i:=9) rfl fun KN hKN=>zu zR ([s1.zJ]:List Sample) wn underlying47 inf41 rfl rfl rfl rfl qD qD rfl fun b82=>?_
      refine (go 1) ?_
      refine hKN _ _ (S9 [1,2,3,6,7,8,9]) (zg 4 6 (zd (i:=6) rfl fun KN hKN=>zc (vh 5 encLineX rfl rfl hd3 hoz9 rfl flat47) ?_))
      refine (go 1) ?_
      refine hKN _ _ (S9 [1,2,3,6,7,8,9]) (zg 3 10 (zd (i:=10) rfl fun KN hKN=>zb (fun _ h=>h.famOut 10 rfl hoz9) (yE 0 z9.sm.l ([s1.zJ]:List Sample) encSample wn rfl rfl rfl (fun _ hM=>(RowSl encSample hM 1 rfl)) underlying47 inf41 rfl rfl (by simp only [qL,List.length_take,List.length_drop]; omega) rfl fun A4 cp4 hc5 hm5 hA5=>zb (fun _ h=>h.famSet (y:=(zN.mk z9.sr ⟨A4,cp4,(z9.sm.l++([s1.zJ]:List Sample))⟩)) 10 rfl hoz9) ?_)))
      refine (go 1) ?_
      refine hKN _ _ (S9 [1,2,3,6,7,8,9]) (zg 2 11 (zd (i:=11) rfl fun KN hKN=>?_))
      refine (go 2) ?_
      refine hKN _ _ (S9 [1,2,3,6,7,8,9]) (yJ 1 [12] [1,2,3,6,7,8,9] rfl fun KS hKS=>?_)
      refine (go 1) ?_
      refine zk hKS (zg 0 13 (zd (i:=13) rfl fun KN hKN=>vi 5 (vs:=[.slice A4 ((z9.sm.l++([s1.zJ]:List Sample)).length) cp4]) (zN.mk z9.sr ⟨A4,cp4,(z9.sm.l++([s1.zJ]:List Sample))⟩) encLineX wn rfl rfl rfl rfl hd3 hoz9 inf47 rfl rfl rfl rfl (zb (fun _ h=>h.serSet (y:=(zN.mk z9.sr ⟨A4,cp4,(z9.sm.l++([s1.zJ]:List Sample))⟩)) 4 jV rfl hoz9 rfl) (yg 0 rfl (fun S w h x hx=>LineS.Ok.wf (h x hx)) fun hw3=>?_))))
      refine (go 1) ?_
      refine hKN _ _ (S9 [2,3,4,7,8,9,10]) ?_
      refine zr (by kernel_rfl) ((go 2) ?_)
      refine (go 3) ?_
      refine zT (yF (k + 1) (os.set jV (zN.mk z9.sr ⟨A4,cp4,(z9.sm.l++([s1.zJ]:List Sample))⟩)) (.slice A2 os.length cp2) (sc rfl (sc rfl (sc rfl (sc rfl (sc (ji qO) sn))))) (fun _ h=>(h.uy 11 6 [0,6,7,8,9,10] qD rfl rfl rfl rfl)) ?_ ?_)
      ·exact ⟨by omega,hw3,Bs.told_more hs1 hs2 hI1.2.2.1 (Classical.not_not.1 h2) (Classical.not_not.1 h3) (hot9 _ _),Bs.fit_set hok9 hoz9,by rw [List.length_set]; omega⟩
      ·omega
    ·
     refine zd (i:=9) rfl fun KN hKN=>zu zR ([s1.zJ]:List Sample) wn underlying47 inf41 rfl rfl rfl rfl qD qD rfl fun b82=>?_
     refine (go 1) ?_
     refine hKN _ _ (S9 [1,2,3,6,7,8,9]) (zg 6 4 (zd (i:=4) rfl fun KN hKN=>?_))
     obtain ⟨ad4,hd4⟩:=hA3 (ne_nil (i:=jV) qI)
     refine (go 2) ?_
     refine hKN _ _ (S9 [1,2,3,6,7,8,9]) (yJ 5 [5] [1,2,3,6,7,8,9] rfl fun KS hKS=>?_)
     refine (go 1) ?_
     refine zk hKS (zg 4 6 (zd (i:=6) rfl fun KN hKN=>zc (vh 5 encLineX rfl rfl hd4 hoz9 rfl flat47) ?_))
     refine (go 1) ?_
     refine hKN _ _ (S9 [1,2,3,6,7,8,9]) (zg 3 10 (zd (i:=10) rfl fun KN hKN=>zb (fun _ h=>h.famOut 10 rfl hoz9) (yE 0 z9.sm.l ([s1.zJ]:List Sample) encSample wn rfl rfl rfl (fun _ hM=>(RowSl encSample hM 1 rfl)) underlying47 inf41 rfl rfl (by simp only [qL,List.length_take,List.length_drop]; omega) rfl fun A5 cp5 hc6 hm6 hA6=>zb (fun _ h=>h.famSet (y:=(zN.mk z9.sr ⟨A5,cp5,(z9.sm.l++([s1.zJ]:List Sample))⟩)) 10 rfl hoz9) ?_)))
     refine (go 1) ?_
     refine hKN _ _ (S9 [1,2,3,6,7,8,9]) (zg 2 11 (zd (i:=11) rfl fun KN hKN=>?_))
     refine (go 2) ?_
     refine hKN _ _ (S9 [1,2,3,6,7,8,9]) (yJ 1 [12] [1,2,3,6,7,8,9] rfl fun KS hKS=>?_)
     refine (go 1) ?_
     refine zk hKS (zg 0 13 (zd (i:=13) rfl fun KN hKN=>vi 5 (vs:=[.slice A5 ((z9.sm.l++([s1.zJ]:List Sample)).length) cp5]) (zN.mk z9.sr ⟨A5,cp5,(z9.sm.l++([s1.zJ]:List Sample))⟩) encLineX wn rfl rfl rfl rfl hd4 hoz9 inf47 rfl rfl rfl rfl (zb (fun _ h=>h.serSet (y:=(zN.mk z9.sr ⟨A5,cp5,(z9.sm.l++([s1.zJ]:List Sample))⟩)) 4 jV rfl hoz9 rfl) (yg 0 rfl (fun S w h x hx=>LineS.Ok.wf (h x hx)) fun hw4=>?_))))
     refine (go 1) ?_
     refine hKN _ _ (S9 [2,3,4,7,8,9,10]) ?_
     refine zr (by kernel_rfl) ((go 2) ?_)
     refine (go 3) ?_
     refine zT (yF (k + 1) (os.set jV (zN.mk z9.sr ⟨A5,cp5,(z9.sm.l++([s1.zJ]:List Sample))⟩)) (.slice A2 os.length cp2) (sc rfl (sc rfl (sc rfl (sc rfl (sc (ji qO) sn))))) (fun _ h=>(h.uy 11 6 [0,6,7,8,9,10] qD rfl rfl rfl rfl)) ?_ ?_)
     ·exact ⟨by omega,hw4,Bs.told_more hs1 hs2 hI1.2.2.1 (Classical.not_not.1 h2) (Classical.not_not.1 h3) (hot9 _ _),Bs.fit_set hok9 hoz9,by rw [List.length_set]; omega⟩
     ·omega
   refine yQ fun PK3 hPK3=>?_
   have hR3:∀ (nb:Bool) (hnW:nb=true→∀ z,ls[jW]?=some z→¬ zH.compare z.sr.l s1.sr.l < 0∧zH.compare z.sr.l s1.sr.l≠0) (hoW:nb=false→∃ z,ls[jW]?=some z∧zH.compare z.sr.l s1.sr.l=0),∀ w9,Mem w ⟨no,P0⟩ (slP 2 zQ (.slice s1.sr.A s1.sr.l.length s1.sr.c) s1.sr.l::okP zn.Ok s1::.blk b7 [iV s1.kind,iV s1.tier,iV s1.to,.slice s1.sr.A s1.sr.l.length s1.sr.c,iV s1.zJ.time,iV s1.zJ.value,.string s1.text] 43::allP LineS.Ok ls::Row (.slice A1 ls.length cp1) 54 2 yo ls::slP 7 y8 (.slice lA l.length lc) l::allP zn.Ok l::slP 4 ym (.slice aA a.length ac) a::allP zh.Ok a::fam 41 ls) w9→∀ a9,Has 88 [] a9 [(1,.slice aA a.length ac),(5,.slice A1 ls.length cp1),(7,.pointer (some ⟨b7,0,none⟩)),(8,iV jW),(9,.slice lA l.length lc),(10,iV l.length),(11,iV k),(58,.bool nb)]→PK3 a9 w9:=by
    intro nb hnW hoW
    refine hPK3 [(1,.slice aA a.length ac),(5,.slice A1 ls.length cp1),(7,.pointer (some ⟨b7,0,none⟩)),(8,iV jW),(9,.slice lA l.length lc),(10,iV l.length),(11,iV k),(58,.bool nb)] (Mem w ⟨no,P0⟩ (slP 2 zQ (.slice s1.sr.A s1.sr.l.length s1.sr.c) s1.sr.l::okP zn.Ok s1::.blk b7 [iV s1.kind,iV s1.tier,iV s1.to,.slice s1.sr.A s1.sr.l.length s1.sr.c,iV s1.zJ.time,iV s1.zJ.value,.string s1.text] 43::allP LineS.Ok ls::Row (.slice A1 ls.length cp1) 54 2 yo ls::slP 7 y8 (.slice lA l.length lc) l::allP zn.Ok l::slP 4 ym (.slice aA a.length ac) a::allP zh.Ok a::fam 41 ls)) (yf (fun h4=>?_) fun h4=>?_)
    ·
     refine yL (Mem w ⟨no,P0⟩ [slP 2 zQ (.slice s1.sr.A s1.sr.l.length s1.sr.c) s1.sr.l,okP zn.Ok s1,.blk b7 [iV s1.kind,iV s1.tier,iV s1.to,.slice s1.sr.A s1.sr.l.length s1.sr.c,iV s1.zJ.time,iV s1.zJ.value,.string s1.text] 43,Row (.slice A1 ls.length cp1) 54 2 yo ls,slP 7 y8 (.slice lA l.length lc) l,allP zn.Ok l,slP 4 ym (.slice aA a.length ac) a,allP zh.Ok a]) mix (fun _ h=>h.drew) rfl (yJ 6 [1,2,3,5,6,7,10,11,12] [0,1,2,4,5,6,7,8] rfl fun KS hKS=>?_)
     refine (go 2) ?_
     refine uS (ug (lo:=0) (hi:=jW) rfl lo0 (hi1 rfl qO) qI qI qI underlying45 inf54) ?_
     refine (go 5) ?_
     refine uS (ug (lo:=jW) (hi:=ls.length) rfl (lo1 rfl qO) hi0 qI qI qI underlying45 inf54) (zk hKS (yT (f:=5) (i:=0) (j:=8) rfl (by kernel_rfl) ?_ ?_))
     ·
      refine zd (i:=0) rfl fun KN hKN=>uu yo wn underlying45 inf54 rfl fun b59=>?_
      refine (go 1) ?_
      refine hKN _ _ (S9 [1,2,3,5,6,7,8,9]) (yT (f:=4) (i:=4) (j:=8) rfl (by kernel_rfl) ?_ ?_)
      ·
       refine zd (i:=4) rfl fun KN hKN=>yE 0 ([]:List zN) (ls.take jW) encLineX wn rfl rfl rfl (fun _ hM=>(zD.subOf (RowSl encLineX hM 5 rfl) (lo:=0) (hi:=jW) qI qI (by first | rfl | simp | (rw [List.take_length]; done)) rfl)) underlying45 inf54 rfl rfl (by simp only [qL,List.length_take,List.length_drop]; omega) rfl fun A6 cp6 hc7 hm7 hA7=>?_
       refine (go 1) ?_
       refine hKN _ _ (S9 [1,2,3,5,6,7,8,9]) (zg 3 8 (zd (i:=8) rfl fun KN hKN=>zu yo ([(zN.mk ⟨s1.sr.A,s1.sr.c,s1.sr.l⟩ ⟨none,0,[]⟩)]:List zN) wn underlying45 inf54 rfl rfl rfl rfl qD qD rfl fun b67=>?_))
       refine (go 1) ?_
       refine hKN _ _ (S9 [2,3,4,6,7,8,9,10]) (zg 2 9 (zd (i:=9) rfl fun KN hKN=>yE 1 (([]:List zN)++(ls.take jW)) ([(zN.mk ⟨s1.sr.A,s1.sr.c,s1.sr.l⟩ ⟨none,0,[]⟩)]:List zN) encLineX wn rfl rfl rfl (fun _ hM=>(RowSl encLineX hM 0 rfl)) underlying45 inf54 rfl rfl (by simp only [qL,List.length_take,List.length_drop]; omega) rfl fun A7 cp7 hc8 hm8 hA8=>?_))
       refine (go 1) ?_
       refine hKN _ _ (S9 [2,3,4,6,7,8,9,10]) (zg 1 13 (zd (i:=13) rfl fun KN hKN=>yE 1 ((([]:List zN)++(ls.take jW))++([(zN.mk ⟨s1.sr.A,s1.sr.c,s1.sr.l⟩ ⟨none,0,[]⟩)]:List zN)) (ls.drop jW) encLineX wn rfl rfl rfl (fun _ hM=>(zD.subOf (RowSl encLineX hM 6 rfl) (lo:=jW) (hi:=ls.length) qI qI (by first | rfl | simp | (rw [List.take_length]; done)) rfl)) underlying45 inf54 rfl rfl (by simp only [qL,List.length_take,List.length_drop]; omega) rfl fun A8 cp8 hc9 hm9 hA9=>zb (fun _ h=>h.famNew 11 jW rfl ⟨s1.sr.A,s1.sr.c,s1.sr.l⟩) (zb (fun _ h=>h.serNew (m:=⟨none,0,[]⟩) 5 2 jW rfl rfl) (yg 0 rfl (fun S w h x hx=>LineS.Ok.wf (h x hx)) fun hw5=>?_))))
       refine (go 1) ?_
       refine hKN _ _ (S9 [3,4,5,7,8,9,10,11]) (yJ 0 [14] [3,4,5,7,8,9,10,11] rfl fun KS hKS=>?_)
       refine (go 1) ?_
       refine zk hKS ?_
       refine zr (by kernel_rfl) (zm (hR2 jW ((([]++ls.take jW)++[(⟨⟨s1.sr.A,s1.sr.c,s1.sr.l⟩,⟨none,0,[]⟩⟩:zN)])++ls.drop jW) (.slice A8 ((((([]:List zN)++(ls.take jW))++([(zN.mk ⟨s1.sr.A,s1.sr.c,s1.sr.l⟩ ⟨none,0,[]⟩)]:List zN))++(ls.drop jW)).length) cp8) (⟨⟨s1.sr.A,s1.sr.c,s1.sr.l⟩,⟨none,0,[]⟩⟩:zN) (Bs.ins_at hjW) (Bs.told_new hasc hjW hlW (hnW h4)) (Bs.fit_ins hI1.2.2.2.1 ⟨Bs.labels_ok (hgd _ _ _ hs1 hs2 (Classical.not_not.1 h2) (Classical.not_not.1 h3)),Nat.zero_le _⟩) (by rw [Bs.ins_len hjW]; omega) (hw5)) (sc rfl (sc rfl (sc rfl (sc rfl (sc rfl (sc rfl (sc rfl sn))))))) (fun _ h=>(h.uy 12 9 [3,4,5,0,2,8,9,10,11] qD rfl rfl rfl rfl)))
      ·
       refine zd (i:=8) rfl fun KN hKN=>zu yo ([(zN.mk ⟨s1.sr.A,s1.sr.c,s1.sr.l⟩ ⟨none,0,[]⟩)]:List zN) wn underlying45 inf54 rfl rfl rfl rfl qD qD rfl fun b67=>?_
       refine (go 1) ?_
       refine hKN _ _ (S9 [2,3,4,6,7,8,9,10]) (zg 3 4 (zd (i:=4) rfl fun KN hKN=>yE 1 ([]:List zN) (ls.take jW) encLineX wn rfl rfl rfl (fun _ hM=>(zD.subOf (RowSl encLineX hM 6 rfl) (lo:=0) (hi:=jW) qI qI (by first | rfl | simp | (rw [List.take_length]; done)) rfl)) underlying45 inf54 rfl rfl (by simp only [qL,List.length_take,List.length_drop]; omega) rfl fun A9 cp9 hc10 hm10 hA10=>?_))
       refine (go 1) ?_
       refine hKN _ _ (S9 [2,3,4,6,7,8,9,10]) (zg 2 9 (zd (i:=9) rfl fun KN hKN=>yE 1 (([]:List zN)++(ls.take jW)) ([(zN.mk ⟨s1.sr.A,s1.sr.c,s1.sr.l⟩ ⟨none,0,[]⟩)]:List zN) encLineX wn rfl rfl rfl (fun _ hM=>(RowSl encLineX hM 0 rfl)) underlying45 inf54 rfl rfl (by simp only [qL,List.length_take,List.length_drop]; omega) rfl fun A10 cp10 hc11 hm11 hA11=>?_))
       refine (go 1) ?_
       refine hKN _ _ (S9 [2,3,4,6,7,8,9,10]) (zg 1 13 (zd (i:=13) rfl fun KN hKN=>yE 1 ((([]:List zN)++(ls.take jW))++([(zN.mk ⟨s1.sr.A,s1.sr.c,s1.sr.l⟩ ⟨none,0,[]⟩)]:List zN)) (ls.drop jW) encLineX wn rfl rfl rfl (fun _ hM=>(zD.subOf (RowSl encLineX hM 6 rfl) (lo:=jW) (hi:=ls.length) qI qI (by first | rfl | simp | (rw [List.take_length]; done)) rfl)) underlying45 inf54 rfl rfl (by simp only [qL,List.length_take,List.length_drop]; omega) rfl fun A11 cp11 hc12 hm12 hA12=>zb (fun _ h=>h.famNew 11 jW rfl ⟨s1.sr.A,s1.sr.c,s1.sr.l⟩) (zb (fun _ h=>h.serNew (m:=⟨none,0,[]⟩) 5 2 jW rfl rfl) (yg 0 rfl (fun S w h x hx=>LineS.Ok.wf (h x hx)) fun hw6=>?_))))
       refine (go 1) ?_
       refine hKN _ _ (S9 [3,4,5,7,8,9,10,11]) (yJ 0 [14] [3,4,5,7,8,9,10,11] rfl fun KS hKS=>?_)
       refine (go 1) ?_
       refine zk hKS ?_
       refine zr (by kernel_rfl) (zm (hR2 jW ((([]++ls.take jW)++[(⟨⟨s1.sr.A,s1.sr.c,s1.sr.l⟩,⟨none,0,[]⟩⟩:zN)])++ls.drop jW) (.slice A11 ((((([]:List zN)++(ls.take jW))++([(zN.mk ⟨s1.sr.A,s1.sr.c,s1.sr.l⟩ ⟨none,0,[]⟩)]:List zN))++(ls.drop jW)).length) cp11) (⟨⟨s1.sr.A,s1.sr.c,s1.sr.l⟩,⟨none,0,[]⟩⟩:zN) (Bs.ins_at hjW) (Bs.told_new hasc hjW hlW (hnW h4)) (Bs.fit_ins hI1.2.2.2.1 ⟨Bs.labels_ok (hgd _ _ _ hs1 hs2 (Classical.not_not.1 h2) (Classical.not_not.1 h3)),Nat.zero_le _⟩) (by rw [Bs.ins_len hjW]; omega) (hw6)) (sc rfl (sc rfl (sc rfl (sc rfl (sc rfl (sc rfl (sc rfl sn))))))) (fun _ h=>(h.uy 12 9 [3,4,5,0,2,8,9,10,11] qD rfl rfl rfl rfl)))
     ·
      refine zd (i:=8) rfl fun KN hKN=>zu yo ([(zN.mk ⟨s1.sr.A,s1.sr.c,s1.sr.l⟩ ⟨none,0,[]⟩)]:List zN) wn underlying45 inf54 rfl rfl rfl rfl qD qD rfl fun b67=>?_
      refine (go 1) ?_
      refine hKN _ _ (S9 [1,2,3,5,6,7,8,9]) (zg 4 0 (zd (i:=0) rfl fun KN hKN=>uu yo wn underlying45 inf54 rfl fun b59=>?_))
      refine (go 1) ?_
      refine hKN _ _ (S9 [2,3,4,6,7,8,9,10]) (zg 3 4 (zd (i:=4) rfl fun KN hKN=>yE 0 ([]:List zN) (ls.take jW) encLineX wn rfl rfl rfl (fun _ hM=>(zD.subOf (RowSl encLineX hM 6 rfl) (lo:=0) (hi:=jW) qI qI (by first | rfl | simp | (rw [List.take_length]; done)) rfl)) underlying45 inf54 rfl rfl (by simp only [qL,List.length_take,List.length_drop]; omega) rfl fun A12 cp12 hc13 hm13 hA13=>?_))
      refine (go 1) ?_
      refine hKN _ _ (S9 [2,3,4,6,7,8,9,10]) (zg 2 9 (zd (i:=9) rfl fun KN hKN=>yE 0 (([]:List zN)++(ls.take jW)) ([(zN.mk ⟨s1.sr.A,s1.sr.c,s1.sr.l⟩ ⟨none,0,[]⟩)]:List zN) encLineX wn rfl rfl rfl (fun _ hM=>(RowSl encLineX hM 1 rfl)) underlying45 inf54 rfl rfl (by simp only [qL,List.length_take,List.length_drop]; omega) rfl fun A13 cp13 hc14 hm14 hA14=>?_))
      refine (go 1) ?_
      refine hKN _ _ (S9 [2,3,4,6,7,8,9,10]) (zg 1 13 (zd (i:=13) rfl fun KN hKN=>yE 0 ((([]:List zN)++(ls.take jW))++([(zN.mk ⟨s1.sr.A,s1.sr.c,s1.sr.l⟩ ⟨none,0,[]⟩)]:List zN)) (ls.drop jW) encLineX wn rfl rfl rfl (fun _ hM=>(zD.subOf (RowSl encLineX hM 6 rfl) (lo:=jW) (hi:=ls.length) qI qI (by first | rfl | simp | (rw [List.take_length]; done)) rfl)) underlying45 inf54 rfl rfl (by simp only [qL,List.length_take,List.length_drop]; omega) rfl fun A14 cp14 hc15 hm15 hA15=>zb (fun _ h=>h.famNew 11 jW rfl ⟨s1.sr.A,s1.sr.c,s1.sr.l⟩) (zb (fun _ h=>h.serNew (m:=⟨none,0,[]⟩) 5 2 jW rfl rfl) (yg 0 rfl (fun S w h x hx=>LineS.Ok.wf (h x hx)) fun hw7=>?_))))
      refine (go 1) ?_
      refine hKN _ _ (S9 [3,4,5,7,8,9,10,11]) (yJ 0 [14] [3,4,5,7,8,9,10,11] rfl fun KS hKS=>?_)
      refine (go 1) ?_
      refine zk hKS ?_
      refine zr (by kernel_rfl) (zm (hR2 jW ((([]++ls.take jW)++[(⟨⟨s1.sr.A,s1.sr.c,s1.sr.l⟩,⟨none,0,[]⟩⟩:zN)])++ls.drop jW) (.slice A14 ((((([]:List zN)++(ls.take jW))++([(zN.mk ⟨s1.sr.A,s1.sr.c,s1.sr.l⟩ ⟨none,0,[]⟩)]:List zN))++(ls.drop jW)).length) cp14) (⟨⟨s1.sr.A,s1.sr.c,s1.sr.l⟩,⟨none,0,[]⟩⟩:zN) (Bs.ins_at hjW) (Bs.told_new hasc hjW hlW (hnW h4)) (Bs.fit_ins hI1.2.2.2.1 ⟨Bs.labels_ok (hgd _ _ _ hs1 hs2 (Classical.not_not.1 h2) (Classical.not_not.1 h3)),Nat.zero_le _⟩) (by rw [Bs.ins_len hjW]; omega) (hw7)) (sc rfl (sc rfl (sc rfl (sc rfl (sc rfl (sc rfl (sc rfl sn))))))) (fun _ h=>(h.uy 12 9 [3,4,5,0,1,8,9,10,11] qD rfl rfl rfl rfl)))
    ·
     obtain ⟨z8,hz8,hc8⟩:=hoW (by simpa using h4)
     have hjl8:=(List.getElem?_eq_some_iff.1 hz8).1
     refine vz (zm (hR2 jW ls (.slice A1 ls.length cp1) z8 (hz8) (Bs.told_old hasc hlW hz8 hc8) (hI1.2.2.2.1) qO (hwf)) (sc rfl (sc rfl (sc rfl (sc rfl (sc rfl (sc rfl (sc rfl sn))))))) (fun _ h=>h))
   refine (go 6) (vU 48 (fun h5=>?_) fun h5=>?_)
   ·
    refine (go 10) ?_
    refine jj (zm (hR3 true ((fun _ z hz=>absurd (List.getElem?_eq_some_iff.1 hz).1 qO)) ((fun h=>by cases h))) (sc rfl (sc rfl (sc rfl (sc rfl (sc rfl (sc rfl (sc rfl (sc rfl sn)))))))) (fun _ h=>h))
   ·
    refine (go 2) ?_
    obtain ⟨ad5,s3,hd5,hs3⟩:=elx hA1 jW
    refine (go 2) ?_
    refine vf (vh 4 encLineX rfl rfl hd5 hs3 rfl flat39) ?_
    refine (go 2) ?_
    have hw8:=hwf _ (List.mem_of_getElem? hs3)
    refine uK (fun _ h=>h.one 3 LineS.Ok.loc rfl hs3) (fun _ h=>h.drop1) (uK (fun _ h=>h.lineS 0 rfl) (fun _ h=>h.drop1) ?_)
    obtain ⟨hc16,hm16,hA16⟩:=hw8.sr
    refine yO (wg rfl rfl rfl) rfl call22 rfl (fun w1 hM=>vk _ s3.sr.l _ s1.sr.l w1 (hM.slp 0 rfl) (hM.slp 2 rfl)) ?_
    refine (go 2) ?_
    refine jj (zm (hR3 (decide ((zH.compare s3.sr.l s1.sr.l)≠0)) ((fun h z hz=>⟨hgW z hz,by obtain rfl:=Option.some.inj (hs3.symm.trans hz); exact of_decide_eq_true h⟩)) ((fun h=>⟨_,hs3,Classical.not_not.1 (of_decide_eq_false h)⟩))) (sc rfl (sc rfl (sc rfl (sc rfl (sc rfl (sc rfl (sc rfl (sc rfl sn)))))))) (fun _ h=>(h.uy 11 9 [2,3,4,5,6,7,8,9,10] qD rfl rfl rfl rfl)))
  refine (go 1) ?_
  refine yH (fun (j:Nat)=>[(1,.slice aA a.length ac),(5,.slice A1 ls.length cp1),(7,.pointer (some ⟨b7,0,none⟩)),(8,iV j),(9,.slice lA l.length lc),(10,iV l.length),(11,iV k)]) (fun (j:Nat)=>(slP 2 zQ (.slice s1.sr.A s1.sr.l.length s1.sr.c) s1.sr.l::okP zn.Ok s1::.blk b7 [iV s1.kind,iV s1.tier,iV s1.to,.slice s1.sr.A s1.sr.l.length s1.sr.c,iV s1.zJ.time,iV s1.zJ.value,.string s1.text] 43::allP LineS.Ok ls::Row (.slice A1 ls.length cp1) 54 2 yo ls::slP 7 y8 (.slice lA l.length lc) l::allP zn.Ok l::slP 4 ym (.slice aA a.length ac) a::allP zh.Ok a::fam 41 ls)) (fun (j:Nat)=>j≤ls.length∧Bs.Less ls s1.sr.l j) (fun (j:Nat)=>ls.length - j) 0 (sc rfl (sc rfl (sc rfl (sc (ji qO) (sc rfl (sc rfl (sc rfl sn))))))) (fun _ h=>h) ?_ (fun j hI2=>?_)
  ·exact ⟨Nat.zero_le _,Bs.less_0⟩
  refine (go 8) (vU 31 (fun h6=>?_) fun h6=>?_)
  ·refine (go 2) ?_
   obtain ⟨ad6,s4,hd6,hs4⟩:=elx hA1 j
   refine (go 2) ?_
   refine vf (vh 4 encLineX rfl rfl hd6 hs4 rfl flat39) ?_
   refine (go 2) ?_
   have hw9:=hwf _ (List.mem_of_getElem? hs4)
   refine uK (fun _ h=>h.one 3 LineS.Ok.loc rfl hs4) (fun _ h=>h.drop1) (uK (fun _ h=>h.lineS 0 rfl) (fun _ h=>h.drop1) ?_)
   obtain ⟨hc17,hm17,hA17⟩:=hw9.sr
   refine yO (wg rfl rfl rfl) rfl call22 rfl (fun w1 hM=>vk _ s4.sr.l _ s1.sr.l w1 (hM.slp 0 rfl) (hM.slp 2 rfl)) ?_
   refine (go 4) (zX (fun h7=>?_) fun h7=>?_)
   ·refine (go 7) ?_
    refine zT (yM (zj (j + 1) (sc rfl (sc rfl (sc rfl (sc (ji qO) (sc rfl (sc rfl (sc rfl sn))))))) (fun _ h=>(h.uy 11 9 [2,3,4,5,6,7,8,9,10] qD rfl rfl rfl rfl)) ?_ ?_))
    ·exact ⟨by omega,Bs.less_next hI2.2 hs4 h7⟩
    omega
   refine vb (yy (y7 (yz (zm (hR1 j (hI2.1) (hI2.2) ((fun z hz=>by obtain rfl:=Option.some.inj (hs4.symm.trans hz); exact h7))) (sc rfl (sc rfl (sc rfl (sc rfl (sc rfl (sc rfl (sc rfl sn))))))) (fun _ h=>(h.uy 11 9 [2,3,4,5,6,7,8,9,10] qD rfl rfl rfl rfl))))))
  refine (go 13) ?_
  refine vb (yy (y7 (yz (zm (hR1 j (hI2.1) (hI2.2) ((fun z hz=>absurd (List.getElem?_eq_some_iff.1 hz).1 qO))) (sc rfl (sc rfl (sc rfl (sc rfl (sc rfl (sc rfl (sc rfl sn))))))) (fun _ h=>h)))))
 refine (go 12) (zZ results20 fun w1 hM=>?_)
 have hM:=hM.famSeal' (ls:=ls) 6 rfl rfl
 have hM:=hM.zl encLineX (i:=2) rfl rfl
 exact hM.vI (⟨A1,cp1,ls⟩:SlX zN) rfl (Bs.told_all hI1.2.2.1 qO) fun Pb pp=>⟨pp.sl 2 rfl,fun x hx=>⟨(hI1.2.2.2.1 x hx).1,(pp.at_ 1 _ rfl x hx).sr,(pp.at_ 0 _ rfl x hx).sm⟩⟩
end
section
namespace Bs
open Ex Sh
set_option linter.unusedVariables false
structure Like (n:Nat) (s s':Shelf):Prop where
  ser:s.zL=s'.zL
  all:∃ all,Keep s all∧Keep s' all∧all.length≤n
  whole:s.zV=0∧s'.zV=0∧s'.zF=0
theorem Like.up {n m:Nat} {s s':Shelf} (h:Like n s s') (hm:n≤m):Like m s s':=⟨h.ser,by obtain ⟨a,h1,h2,h3⟩:=h.all; exact ⟨a,h1,h2,by omega⟩,h.whole⟩
def twin (n:Nat):List Shelf→List Shelf→Prop
  | [],[]=>True
  | s::r,s'::r'=>Like n s s'∧twin n r r'
  | _,_=>False
theorem twin_up {n m:Nat} (hm:n≤m):∀ {l l':List Shelf},twin n l l'→twin m l l'
  | [],[],_=>trivial
  | [],_::_,h=>h.elim
  | _::_,[],h=>h.elim
  | s::r,s'::r',h=>⟨h.1.up hm,twin_up hm h.2⟩
structure Twin (n:Nat) (b b':Base):Prop where
  sh:twin n b.zA b'.zA
  hor:0≤b.zO∧b.zO≤1000000∧b.zO % 10=0
  hor':b'.zO=0
theorem Twin.up {n m:Nat} {b b':Base} (h:Twin n b b') (hm:n≤m):Twin m b b':=⟨twin_up hm h.sh,h.hor,h.hor'⟩
def Alike (x y:Ans):Prop:=y.err=x.err∧y.cells=x.cells∧x.cost≤y.cost
theorem Alike.of {x y:Ans} (h:y=x):Alike x y:=by subst h; exact ⟨rfl,rfl,Int.le_refl _⟩
def pairs:List Do→List Ans→List Ans→Prop
  | [],_,_=>True
  | d::l,x::a,c=>if d.kind=2 then pairs l a c else ∃ y r,c=y::r∧Alike x y∧pairs l a r
  | _::_,[],_=>False
end Bs
end
section
namespace Ex
set_option linter.unusedVariables false
section
variable {w0 w:World} {M:Fp} {L:List Own} {α:Type} {ok:(Nat→Prop)→α→World→Prop}
theorem Mem.allTake {l:List α} (h:Mem w0 M L w) (q n:Nat) (hl:∀ x,Loc (fun S=>ok S x)) (hi:L[q]?=some (allP ok l)):Mem w0 M (allP ok (l.take n)::L) w :=
  h.yV (all_loc hl _) fun Pb pp x hx=>pp.at_ q _ hi x (List.mem_of_mem_take hx)
end
end Ex
end
section
namespace Bs
open Ex Sh
set_option linter.unusedVariables false
section
variable {l:List zn} {z:yA × SlX zh} {k:Nat} {d:zn} {x:zh}
theorem play_is (hz:(z.1.e,z.2.l.map zh.e)=((play (l.map zn.e)).1,(play (l.map zn.e)).2.1)) (h0:¬ (play (l.map zn.e)).2.2≠0) :
    l.length≤120∧z.1.e=(run zero (l.map zn.e)).1∧z.2.l.map zh.e=(run zero (l.map zn.e)).2∧z.2.l.length=l.length:=by
  have hl:¬ 120 < (l.map zn.e).length:=fun h=>h0 (by unfold play; rw [if_pos h]; decide)
  have hp:play (l.map zn.e)=((run zero (l.map zn.e)).1,(run zero (l.map zn.e)).2,0):=if_neg hl
  rw [hp] at hz
  have e1:=congrArg Prod.fst hz
  have e2:=congrArg Prod.snd hz
  refine ⟨by simpa using hl,e1,e2,?_⟩
  have:=congrArg List.length e2
  rw [run_len] at this
  simpa using this
theorem play_none (hz:(z.1.e,z.2.l.map zh.e)=((play (l.map zn.e)).1,(play (l.map zn.e)).2.1)) (h0:(play (l.map zn.e)).2.2≠0):z.2.l.length=0:=by
  have e2:=congrArg Prod.snd hz
  by_cases h:120 < (l.map zn.e).length
  · have hp:play (l.map zn.e)=(zero,[],5):=if_pos h
    rw [hp] at e2
    have:=congrArg List.length e2
    simpa using this
  · have hp:play (l.map zn.e)=((run zero (l.map zn.e)).1,(run zero (l.map zn.e)).2,0):=if_neg h
    rw [hp] at h0; exact absurd rfl h0
theorem named_x (hz:(z.1.e,z.2.l.map zh.e)=((play (l.map zn.e)).1,(play (l.map zn.e)).2.1)) (h0:¬ (play (l.map zn.e)).2.2≠0) :
    ∀ (i:Nat) (d:zn) (x:zh),l[i]?=some d→z.2.l[i]?=some x→d.kind=1→x.err=0→zH.wrong d.sr.l=0:=fun i d x hd hx h1 h2=>by
  obtain ⟨_,_,e2,_⟩:=play_is hz h0
  exact told_named (l:=l.map zn.e) (b:=zero) (i:=i) (d:=d.e) (x:=x.e) (by rw [List.getElem?_map,hd]; rfl) (by rw [← e2,List.getElem?_map,hx]; rfl) h1 h2
theorem take_named {n:Nat} (h:∀ (i:Nat) (d:zn) (x:zh),l[i]?=some d→z.2.l[i]?=some x→d.kind=1→x.err=0→zH.wrong d.sr.l=0) :
    ∀ (i:Nat) (d:zn) (x:zh),(l.take n)[i]?=some d→z.2.l[i]?=some x→d.kind=1→x.err=0→zH.wrong d.sr.l=0:=fun i d x hd=>h i d x (by
  rw [List.getElem?_take] at hd
  split at hd
  · exact hd
  · cases hd)
theorem exact_x (hz:(z.1.e,z.2.l.map zh.e)=((play (l.map zn.e)).1,(play (l.map zn.e)).2.1)) (h0:¬ (play (l.map zn.e)).2.2≠0) (hd:l[k]?=some d) (hx:z.2.l[k]?=some x) (h4:d.kind=4) :
    ((Pz.parse d.text).2.1≠0→x.err=(Pz.parse d.text).2.1∧x.at_=(Pz.parse d.text).2.2) ∧
    (¬ (Pz.parse d.text).2.1≠0→∀ T:List zN,T.map zN.e=tolds [] ((l.take k).map zn.e) (z.2.l.map zh.e)→x.err≠10→x.err=(Mn.askP (T.map zN.e) (Pz.parse d.text).1 d.to).2∧x.cells.l.map zE.e=(Mn.askP (T.map zN.e) (Pz.parse d.text).1 d.to).1):=by
  obtain ⟨hl,e1,e2,_⟩:=play_is hz h0
  have hk:=(List.getElem?_eq_some_iff.1 hd).1
  have hx':=run_at (l:=l.map zn.e) (b:=zero) (i:=k) (d:=d.e) (x:=x.e) (by rw [List.getElem?_map,hd]; rfl) (by rw [← e2,List.getElem?_map,hx]; rfl)
  have hlt:((l.map zn.e).take k).length≤120:=by rw [List.length_take,List.length_map]; omega
  have hh:=tells_play ((l.map zn.e).take k) hlt
  have hi:=inv_play ((l.map zn.e).take k) hlt
  have ho:(one (run zero ((l.map zn.e).take k)).1 d.e).2=ask (run zero ((l.map zn.e).take k)).1 d.e:=by
    unfold one
    rw [if_neg (by show ¬ d.kind=1; omega),if_pos (show d.e.kind=4 from h4)]
  rw [ho] at hx'
  have ex:x.err=x.e.err:=rfl
  have ec:x.cells.l.map zE.e=x.e.cells:=rfl
  have ea:x.at_=x.e.at_:=rfl
  constructor
  · intro hp
    rw [ex,ea,hx']
    unfold ask
    rw [if_pos (show (Pz.parse d.e.text).2.1≠0 from hp)]
    exact ⟨rfl,rfl⟩
  · intro hp T hT h10
    have hT':T.map zN.e=tolds [] ((l.map zn.e).take k) (run zero ((l.map zn.e).take k)).2:=by
      rw [hT,List.map_take,e2,tolds_cut _ _ [] k (by rw [List.length_take]; omega),run_take]
    rw [← hT'] at hh
    rw [ex,ec,hx']
    refine (ask_told (d:=d.e) hh hi hp).resolve_right fun h=>h10 ?_
    rw [ex,hx']; exact h
end
end Bs
end
section
open _root_.Go.Proofs.Tryz
open Ex
attribute [local irreducible] WC WL WQ WE WS
set_option linter.unusedVariables false
set_option linter.unusedSimpArgs false
theorem c_badd9 (h:ByteArray) (t:Int) (v:Int) (P0:Nat→Prop) (w:World) (hP0:∀ b,P0 b→b < w.heap.size)  :
    Calls prog 40 #[.string h,iV t,iV v] w (RetE w P0 (fun z:zn=>.agg (y8 z).toArray) (fun z=>z.e=Bs.addD h t v) (fun z S=>zn.Ok S z)):=by
 refine zt (N:=14) func40 (Mem.ofDatsP hP0 dn) ?_
 refine (go 2) (zw fun b6=>?_)
 refine (go 6) ?_
 refine zu zQ ([(⟨⟨#[104,111,115,116]⟩,h⟩:Label)]:List Label) wn underlying39 inf74 rfl rfl rfl rfl qD qD rfl fun b9=>?_
 refine (go 8) (zZ results40 fun w1 hM=>?_)
 have hM:=hM.zl encLabel (i:=0) rfl rfl
 exact hM.vI (zn.mk 1 0 0 ⟨(some ⟨b9,0,none⟩),1,([(⟨⟨#[104,111,115,116]⟩,h⟩:Label)]:List Label)⟩ ⟨t,v⟩ ⟨#[]⟩) rfl rfl fun Pb pp=>⟨pp.sl 0 rfl⟩
set_option maxHeartbeats 1000000 in
theorem c_alive9 (P0:Nat→Prop) (w:World) (hP0:∀ b,P0 b→b < w.heap.size) (hE:zP P0 w)  :
    Calls prog 18 #[] w (Ret w (.bool true)):=by
 refine zt (N:=52) func18 (Mem.ofDatsP hP0 (dc (dp zP.loc hE) dn)) ?_
 refine (go 7) ?_
 refine yb (β:=zn) (fun z=>.agg (y8 z).toArray) (fun z=>z.e=Bs.addD ⟨#[120]⟩ 5 7) (fun z S=>zn.Ok S z) (fun z=>zn.Ok.loc z) wn rfl call40 rfl (fun w1 Pb hM pp=>c_badd9 ⟨#[120]⟩ 5 7 Pb w1 pp.lt) fun z1 hz1=>yg 0 rfl (fun S w h=>zn.Ok.wf h) fun hw1=>yb (β:=zn) (fun z=>.agg (y8 z).toArray) (fun z=>z.e=Bs.addD ⟨#[121]⟩ 6 8) (fun z S=>zn.Ok S z) (fun z=>zn.Ok.loc z) wn rfl call40 rfl (fun w1 Pb hM pp=>c_badd9 ⟨#[121]⟩ 6 8 Pb w1 pp.lt) fun z2 hz2=>yg 0 rfl (fun S w h=>zn.Ok.wf h) fun hw2=>?_
 refine (go 2) ?_
 refine zu y8 ([z1,z2,(zn.mk 2 0 100 ⟨none,0,[]⟩ ⟨0,0⟩ ⟨#[]⟩),(zn.mk 4 0 60 ⟨none,0,[]⟩ ⟨0,0⟩ ⟨#[97,108,108,32,115,117,109,32,40,115,117,109,40,123,125,91,54,48,93,41,41]⟩)]:List zn) wn underlying22 inf43 rfl rfl rfl rfl qD qD rfl fun b9=>zb (fun _ h=>h.all0 zn.Ok.loc) (zb (fun _ h=>h.allSnoc 0 3 zn.Ok.loc rfl rfl) (zb (fun _ h=>h.allSnoc 0 3 zn.Ok.loc rfl rfl) (zb (fun _ h=>h.yV (zn.Ok.loc (zn.mk 2 0 100 ⟨none,0,[]⟩ ⟨0,0⟩ ⟨#[]⟩)) fun Pb pp=>⟨zD.zy _ _ _ _⟩) (yg 0 rfl (fun S w h=>zn.Ok.wf h) fun hw3=>zb (fun _ h=>h.allSnoc 1 0 zn.Ok.loc rfl rfl) (zb (fun _ h=>h.yV (zn.Ok.loc (zn.mk 4 0 60 ⟨none,0,[]⟩ ⟨0,0⟩ ⟨#[97,108,108,32,115,117,109,32,40,115,117,109,40,123,125,91,54,48,93,41,41]⟩)) fun Pb pp=>⟨zD.zy _ _ _ _⟩) (yg 0 rfl (fun S w h=>zn.Ok.wf h) fun hw4=>zb (fun _ h=>h.allSnoc 1 0 zn.Ok.loc rfl rfl) (jQ 7 encDoX rfl rfl (yb (β:=yA × SlX zh) (fun z=>.tuple #[.agg (ja z.1).toArray,.slice z.2.A z.2.l.length z.2.c,iV (Bs.play (([z1,z2,(zn.mk 2 0 100 ⟨none,0,[]⟩ ⟨0,0⟩ ⟨#[]⟩),(zn.mk 4 0 60 ⟨none,0,[]⟩ ⟨0,0⟩ ⟨#[97,108,108,32,115,117,109,32,40,115,117,109,40,123,125,91,54,48,93,41,41]⟩)]:List zn).map zn.e)).2.2]) (fun z=>(z.1.e,z.2.l.map zh.e)=((Bs.play (([z1,z2,(zn.mk 2 0 100 ⟨none,0,[]⟩ ⟨0,0⟩ ⟨#[]⟩),(zn.mk 4 0 60 ⟨none,0,[]⟩ ⟨0,0⟩ ⟨#[97,108,108,32,115,117,109,32,40,115,117,109,40,123,125,91,54,48,93,41,41]⟩)]:List zn).map zn.e)).1,(Bs.play (([z1,z2,(zn.mk 2 0 100 ⟨none,0,[]⟩ ⟨0,0⟩ ⟨#[]⟩),(zn.mk 4 0 60 ⟨none,0,[]⟩ ⟨0,0⟩ ⟨#[97,108,108,32,115,117,109,32,40,115,117,109,40,123,125,91,54,48,93,41,41]⟩)]:List zn).map zn.e)).2.1)) (fun z S w=>PlayOk z S w) (fun z=>PlayOk.loc z) wn rfl call14 rfl (fun w1 Pb hM pp=>c_play _ ([z1,z2,(zn.mk 2 0 100 ⟨none,0,[]⟩ ⟨0,0⟩ ⟨#[]⟩),(zn.mk 4 0 60 ⟨none,0,[]⟩ ⟨0,0⟩ ⟨#[97,108,108,32,115,117,109,32,40,115,117,109,40,123,125,91,54,48,93,41,41]⟩)]:List zn) Pb w1 pp.lt (pp.sl 7 rfl) (pp.at_ 0 _ rfl) (pp.at_ 10 _ rfl)) fun z3 hz3=>?_))))))))
 refine yg 0 rfl (fun S w h=>PlayOk.wf h) fun hw5=>zb (fun _ h=>h.playX 0 rfl) ?_
 obtain ⟨hc1,hm1,hA1⟩:=hw5.2.sl
 obtain ⟨hal1,hal2,hal3,hal4⟩:=Bs.alive9_x (l:=([z1,z2,(zn.mk 2 0 100 ⟨none,0,[]⟩ ⟨0,0⟩ ⟨#[]⟩),(zn.mk 4 0 60 ⟨none,0,[]⟩ ⟨0,0⟩ ⟨#[97,108,108,32,115,117,109,32,40,115,117,109,40,123,125,91,54,48,93,41,41]⟩)]:List zn)) (show [zn.e z1,zn.e z2,zn.e (zn.mk 2 0 100 ⟨none,0,[]⟩ ⟨0,0⟩ ⟨#[]⟩),zn.e (zn.mk 4 0 60 ⟨none,0,[]⟩ ⟨0,0⟩ ⟨#[97,108,108,32,115,117,109,32,40,115,117,109,40,123,125,91,54,48,93,41,41]⟩)]=Bs.topL9 from by rw [hz1,hz2]; rfl) hz3
 refine (go 4) (zw fun b1=>?_)
 refine (go 10) ?_
 refine ur (t:=16) rfl hal1 ?_
 refine (go 5) ?_
 refine ur (t:=21) rfl qO ?_
 refine (go 6) ?_
 refine ur (t:=27) rfl qO ?_
 refine (go 1) ?_
 obtain ⟨ad1,s1,hd1,hs1⟩:=elx hA1 3
 refine (go 2) ?_
 obtain ⟨hv9,hc9⟩:=hal4 _ hs1
 have hn9:=congrArg List.length hv9
 simp only [List.length_map,List.length_cons,List.length_nil] at hn9
 refine (go 5) ?_
 refine ur (t:=35) rfl qO ?_
 refine (go 4) ?_
 have hw6:=hw5.2.all _ (List.mem_of_getElem? hs1)
 refine zb (fun _ h=>h.one 2 zh.Ok.loc rfl hs1) (zb (fun _ h=>h.ansX 0 rfl) ?_)
 obtain ⟨hc2,hm2,hA2⟩:=hw6.cells
 obtain ⟨ad2,s2,hd2,hs2⟩:=elx hA2 0
 refine (go 6) ?_
 refine ur (t:=45) rfl (Bs.val9_x hv9 hs2) ?_
 refine (go 10) (zZ results18 fun w1 hM=>?_)
 exact zS (by first | rfl | simp [hc9]) hM
end
section
open _root_.Go.Proofs.Tryz
open Ex
attribute [local irreducible] WC WL WQ WE WS
set_option linter.unusedVariables false
set_option linter.unusedSimpArgs false
set_option maxHeartbeats 1000000 in
theorem c_ask1 (mv:Value) (m:List Match) (a:Int) (b:Int) (lad:Addr) (lv:Value) (l:List zN) (P0:Nat→Prop) (w:World) (hP0:∀ b,P0 b→b < w.heap.size) (hm:zD P0 3 zz mv m w) (hlp:yc P0 lad [lv] w) (hl:zD P0 2 yo lv l w) (hla:∀ x ∈ l,zN.Ok P0 x w) (hl8:l.length≤1048576) (hsz:∀ x ∈ l,x.sr.l.length≤1048576∧x.sm.l.length≤1048576) :
    Calls prog 59 #[mv,iV a,iV b,.pointer (some lad)] w (RetE w P0 (winV (Mn.lookL (l.map zN.e) m a b).2) (fun z=>yk.is z (Mn.lookL (l.map zN.e) m a b).1) (fun z S=>yk.Ok S z)):=by
 obtain ⟨mA,mc,rfl,hmc,hmm,hmA⟩:=hm.form
 have hwl:∀ x ∈ l,zN.Wf x:=fun x hx=>(hla x hx).wf
 obtain ⟨lA,lc,rfl,hlc,hlm,hlA⟩:=hl.form
 refine zt (N:=62) (vals:=[.slice mA m.length mc,iV a,iV b,.pointer (some ((Addr.add lad 0).add 0))]) func59 (Mem.ofDatsP hP0 (dc (dlp hm) (dc (dp (yc.loc _ _) hlp) (dc (dlp hl) (dc (dp (all_loc zN.Ok.loc _) hla) dn))))) ?_
 refine (go 2) ?_
 refine yG (serE:yC→List Value) 39 1 (zb (fun _ h=>h.all0 yC.Ok.loc) ?_)
 refine (go 1) ?_
 refine yG (sumE:Sum→List Value) 89 7 ?_
 refine (go 13) ?_
 refine uQ (fun (k:Nat) (ss:List yC) (us:List Sum) (sv:Value) (uv:Value)=>[(0,.slice mA m.length mc),(1,iV a),(2,iV b),(7,sv),(8,uv),(15,.slice lA l.length lc),(16,iV l.length),(17,iV k)]) (fun (k:Nat) (ss:List yC) (us:List Sum) (sv:Value) (uv:Value)=>[Row uv 89 7 sumE us,allP yC.Ok ss,Row sv 39 1 serE ss,slP 3 zz (.slice mA m.length mc) m,celP lad [.slice lA l.length lc],slP 2 yo (.slice lA l.length lc) l,allP zN.Ok l]) (fun (k:Nat) (ss:List yC) (us:List Sum) (sv:Value) (uv:Value)=>k≤l.length∧(∀ x ∈ ss,yC.Wf x)∧ss.map (fun x=>x.sr.l)=(Mn.lookL ((l.take k).map zN.e) m a b).1.map (·.1)∧us=(Mn.lookL ((l.take k).map zN.e) m a b).1.map (·.2)∧ss.length≤k∧us.length≤k) (fun (k:Nat) (ss:List yC) (us:List Sum) (sv:Value) (uv:Value)=>l.length - k) 0 [] [] (Zs) (Zs) (sc rfl (sc rfl (sc rfl (sc rfl (sc rfl (sc rfl (sc rfl (sc (ji qO) sn)))))))) (fun _ h=>h) ?_ (fun k ss us sv uv hI1=>?_)
 ·exact ⟨Nat.zero_le _,fun x hx=>(by cases hx),rfl,rfl,Nat.le_refl _,Nat.le_refl _⟩
 have hwf:=hI1.2.1
 have hlen:=hI1.2.2.2.2
 refine yU 2 (l:=ss) rfl fun A1 cp1 hv1 hc1 hm1 hA1=>?_
 subst hv1
 refine yU 0 (l:=us) rfl fun A2 cp2 hv2 hc2 hm2 hA2=>?_
 subst hv2
 refine (go 6) (zX (fun h1=>?_) fun h1=>?_)
 ·refine (go 6) ?_
  obtain ⟨ad1,s1,hd1,hs1⟩:=elx hlA k
  refine (go 2) (zw fun b11=>?_)
  refine (go 9) ?_
  have hw1:=hwl _ (List.mem_of_getElem? hs1)
  refine zb (fun _ h=>h.one 7 zN.Ok.loc rfl hs1) (zb (fun _ h=>h.lineX 0 rfl) ?_)
  obtain ⟨hc3,hm3,hA3⟩:=hw1.sr
  obtain ⟨hc4,hm4,hA4⟩:=hw1.sm
  refine yK call60 wn rfl (fun w1 hM=>c_matches _ s1.sr.l _ m w1 (hM.slp 0 rfl) (hM.slp 7 rfl)) (zc (yI rfl) ?_)
  refine (go 2) (yf (fun h2=>?_) fun h2=>?_)
  ·refine (go 7) ?_
   refine zT (yY (k + 1) ss us (.slice A1 ss.length cp1) (.slice A2 us.length cp2) (sc rfl (sc rfl (sc rfl (sc rfl (sc rfl (sc rfl (sc rfl (sc (ji qO) sn)))))))) (S9 [4,5,6,7,8,9,10]) ?_ ?_)
   ·have hm9:¬ zH.yB s1.sr.l m=true:=by simpa using h2
    exact ⟨by omega,hwf,by rw [Mn.look_at hs1,if_neg hm9]; exact hI1.2.2.1,by rw [Mn.look_at hs1,if_neg hm9]; exact hI1.2.2.2.1,by omega,by omega⟩
   omega
  refine (go 4) ?_
  refine yG (zR:Sample→List Value) 41 2 ?_
  refine (go 13) ?_
  refine vo (fun (j:Nat) (ins:List Sample) (iv:Value)=>[(0,.slice mA m.length mc),(1,iV a),(2,iV b),(7,.slice A1 ss.length cp1),(8,.slice A2 us.length cp2),(11,.pointer (some ⟨b11,0,none⟩)),(12,iv),(15,.slice lA l.length lc),(16,iV l.length),(17,iV k),(27,.slice s1.sm.A s1.sm.l.length s1.sm.c),(28,iV s1.sm.l.length),(29,iV j)]) (fun (j:Nat) (ins:List Sample) (iv:Value)=>[Row iv 41 2 zR ins,slP 2 zQ (.slice s1.sr.A s1.sr.l.length s1.sr.c) s1.sr.l,slP 2 zR (.slice s1.sm.A s1.sm.l.length s1.sm.c) s1.sm.l,okP zN.Ok s1,.blk b11 [.slice s1.sr.A s1.sr.l.length s1.sr.c,.slice s1.sm.A s1.sm.l.length s1.sm.c] 54,Row (.slice A2 us.length cp2) 89 7 sumE us,allP yC.Ok ss,Row (.slice A1 ss.length cp1) 39 1 serE ss,slP 3 zz (.slice mA m.length mc) m,celP lad [.slice lA l.length lc],slP 2 yo (.slice lA l.length lc) l,allP zN.Ok l]) (fun (j:Nat) (ins:List Sample) (iv:Value)=>j≤s1.sm.l.length∧ins=(s1.sm.l.take j).filter (Mn.inWin a b)) (fun (j:Nat) (ins:List Sample) (iv:Value)=>s1.sm.l.length - j) 0 [] (Zs) (sc rfl (sc rfl (sc rfl (sc rfl (sc rfl (sc rfl (sc rfl (sc rfl (sc rfl (sc rfl (sc rfl (sc rfl (sc (ji qO) sn))))))))))))) (fun _ h=>h) ?_ (fun j ins iv hI2=>?_)
  ·exact ⟨Nat.zero_le _,rfl⟩
  have hin:=hI2
  have hnl:ins.length≤s1.sm.l.length:=by rw [hin.2]; exact Nat.le_trans (List.length_filter_le _ _) (by rw [List.length_take]; omega)
  have hsz1:=hsz _ (List.mem_of_getElem? hs1)
  refine yU 0 (l:=ins) rfl fun A3 cp3 hv3 hc5 hm5 hA5=>?_
  subst hv3
  refine (go 6) (zX (fun h3=>?_) fun h3=>?_)
  ·refine (go 6) ?_
   obtain ⟨ad2,s2,hd2,hs2⟩:=elx hA4 j
   refine (go 2) (zw fun b14=>?_)
   refine (go 10) (yP 37 (fun h4=>?_) fun h4=>?_)
   ·refine (go 7) (zX (fun h5=>?_) fun h5=>?_)
    ·refine (go 3) ?_
     refine zu zR ([s2]:List Sample) wn underlying47 inf41 rfl rfl rfl rfl qD qD rfl fun b45=>yE 2 ins ([s2]:List Sample) encSample wn rfl rfl rfl (fun _ hM=>(RowSl encSample hM 0 rfl)) underlying47 inf41 rfl rfl (by simp only [qL]; omega) rfl fun A4 cp4 hc6 hm6 hA6=>?_
     refine (go 7) ?_
     refine zT (yF (j + 1) (ins++([s2]:List Sample)) (.slice A4 ((ins++([s2]:List Sample)).length) cp4) (sc rfl (sc rfl (sc rfl (sc rfl (sc rfl (sc rfl (sc rfl (sc rfl (sc rfl (sc rfl (sc rfl (sc rfl (sc (ji qO) sn))))))))))))) (S9 [2,3,4,5,6,7,8,9,10,11,12,13]) ?_ ?_)
     ·exact ⟨by omega,by rw [Mn.filt_at hs2,if_pos (Mn.win_t ⟨h4,h5⟩),← hin.2]⟩
     omega
    refine (go 6) ?_
    refine zT (yF (j + 1) ins (.slice A3 ins.length cp3) (sc rfl (sc rfl (sc rfl (sc rfl (sc rfl (sc rfl (sc rfl (sc rfl (sc rfl (sc rfl (sc rfl (sc rfl (sc (ji qO) sn))))))))))))) (S9 [1,2,3,4,5,6,7,8,9,10,11,12]) ?_ ?_)
    ·exact ⟨by omega,by rw [Mn.filt_at hs2,if_neg (Mn.win_f qO)]; exact hin.2⟩
    omega
   refine (go 14) ?_
   refine zT (yF (j + 1) ins (.slice A3 ins.length cp3) (sc rfl (sc rfl (sc rfl (sc rfl (sc rfl (sc rfl (sc rfl (sc rfl (sc rfl (sc rfl (sc rfl (sc rfl (sc (ji qO) sn))))))))))))) (S9 [1,2,3,4,5,6,7,8,9,10,11,12]) ?_ ?_)
   ·exact ⟨by omega,by rw [Mn.filt_at hs2,if_neg (Mn.win_f qO)]; exact hin.2⟩
   omega
  refine (go 9) ?_
  refine vR s1.sr.l wn rfl call61 rfl (fun w1 hM=>vD _ s1.sr.l w1 (hM.slp 1 rfl) (hsz _ (List.mem_of_getElem? (by assumption))).1) fun A5 cp5 hc7 hm7 hA7=>zu serE ([(yC.mk ⟨A5,cp5,s1.sr.l⟩)]:List yC) wn underlying125 inf39 rfl rfl rfl rfl qD qD rfl fun b52=>yE 9 ss ([(yC.mk ⟨A5,cp5,s1.sr.l⟩)]:List yC) encSerX wn rfl rfl rfl (fun _ hM=>(RowSl encSerX hM 0 rfl)) underlying125 inf39 rfl rfl (by simp only [qL]; omega) rfl fun A6 cp6 hc8 hm8 hA8=>jQ 1 encLabel rfl rfl (zb (fun _ h=>h.allSer 8 1 rfl rfl) ?_)
  have hw2:∀ x ∈ (ss++([(yC.mk ⟨A5,cp5,s1.sr.l⟩)]:List yC)),yC.Wf x:=fun x hx=>(List.mem_append.1 hx).elim (hwf x) fun h=>by rw [List.mem_singleton.1 h]; exact ⟨⟨by omega,by omega,hA7⟩⟩
  refine (go 2) ?_
  refine yK call36 wn rfl (fun w1 hM=>c_Of _ ins w1 (RowSl encSample hM 3 rfl)) (zu sumE ([(Agg.of ins)]:List Sum) wn underlying126 inf89 rfl rfl rfl rfl qD qD rfl fun b57=>yE 9 us ([(Agg.of ins)]:List Sum) encSum wn rfl rfl rfl (fun _ hM=>(RowSl encSum hM 0 rfl)) underlying126 inf89 rfl rfl (by simp only [qL]; omega) rfl fun A7 cp7 hc9 hm9 hA9=>?_)
  refine (go 8) ?_
  refine zT (yY (k + 1) (ss++([(yC.mk ⟨A5,cp5,s1.sr.l⟩)]:List yC)) (us++([(Agg.of ins)]:List Sum)) (.slice A6 ((ss++([(yC.mk ⟨A5,cp5,s1.sr.l⟩)]:List yC)).length) cp6) (.slice A7 ((us++([(Agg.of ins)]:List Sum)).length) cp7) (sc rfl (sc rfl (sc rfl (sc rfl (sc rfl (sc rfl (sc rfl (sc (ji qO) sn)))))))) (S9 [9,1,11,12,13,14,15]) ?_ ?_)
  ·have hm9:zH.yB s1.sr.l m=true:=by simpa using h2
   have hin9:ins=s1.sm.l.filter (Mn.inWin a b):=by rw [hin.2,List.take_of_length_le qO]
   exact ⟨by omega,hw2,by rw [Mn.look_at hs1,if_pos hm9,List.map_append,List.map_append,← hI1.2.2.1]; rfl,by rw [Mn.look_at hs1,if_pos hm9,List.map_append,← hI1.2.2.2.1,hin9]; rfl,by simp only [qL]; omega,by simp only [qL]; omega⟩
  omega
 refine (go 15) (uz results59 fun w1 hM=>?_)
 have hM:=hM.zl encSerX (i:=2) rfl rfl
 have hM:=hM.zl encSum (i:=0) rfl rfl
 have h9:(Mn.lookL ((l.take k).map zN.e) m a b).1=(Mn.lookL (l.map zN.e) m a b).1:=by rw [List.take_of_length_le qO]
 exact hM.vI (⟨⟨A1,cp1,ss⟩,⟨A2,cp2,us⟩⟩:yk) rfl ⟨by rw [← h9]; exact hI1.2.2.1,by rw [← h9]; exact hI1.2.2.2.1⟩ fun Pb pp=>⟨pp.sl 2 rfl,pp.at_ 1 _ rfl,pp.sl 0 rfl⟩
theorem c_eval (e:zB) (time:Int) (f:Nat) (fcap:Array Value) (C:(Nat→Prop)→World→Prop) (lk:Look) (P0:Nat→Prop) (w:World) (hP0:∀ b,P0 b→b < w.heap.size) (he:zB.Ok P0 e w) (hC:C P0 w) (hf:WinFn prog f fcap C lk) (hg:Mn.GoodLook lk) (ht:0≤time∧time≤1000000) (hr:Mn.right e.e) :
    Calls prog 58 #[.agg (zx e).toArray,iV time,.func (.func f) #[] fcap] w (RetE w P0 (celsV (Mn.out (Mn.eval lk time e.e)).2) (fun z=>z.l.map zE.e=(Mn.out (Mn.eval lk time e.e)).1) (fun z S=>CelsX.Ok S z)) :=
  ret_fn hP0 hf.loc hC he fun hG=>c_geval time 0 f fcap _ _ _ lk _ e P0 w hG (winG_fn hf) hg ht hr
theorem ask_win {l:List zN} (h8:l.length≤1048576) (hsz:∀ x ∈ l,x.sr.l.length≤1048576∧x.sm.l.length≤1048576) (lad:Addr) {sA:Option Addr} {sc:Nat}:WinFn prog 59 #[.pointer (some lad)] (LinesAt lad sA sc l) (Mn.lookL (l.map zN.e)) :=
  ⟨call59,LinesAt.loc _ _ _ _,fun ms a b w P0 hP hms hC ha hb=>by simpa using c_ask1 _ ms.l a b lad _ l P0 w hP hms hC.cel hC.sl hC.all h8 hsz⟩
theorem c_ask (lv:Value) (l:List zN) (e:zB) (time:Int) (P0:Nat→Prop) (w:World) (hP0:∀ b,P0 b→b < w.heap.size) (hl:zD P0 2 yo lv l w) (hla:∀ x ∈ l,zN.Ok P0 x w) (he:zB.Ok P0 e w)  :
    Calls prog 24 #[lv,.agg (zx e).toArray,iV time] w (RetE w P0 (celsV (Mn.ask l e.e time).2) (fun z=>z.l.map zE.e=(Mn.ask l e.e time).1) (fun z S=>CelsX.Ok S z)):=by
 have hwl:∀ x ∈ l,zN.Wf x:=fun x hx=>(hla x hx).wf
 obtain ⟨lA,lc,rfl,hlc,hlm,hlA⟩:=hl.form
 have hwe:=he.wf
 refine zt (N:=29) func24 (Mem.ofDatsP hP0 (dc (dlp hl) (dc (dp (all_loc zN.Ok.loc _) hla) (dc (dp (zB.Ok.loc _) he) dn)))) ?_
 refine (go 2) (jX fun b3=>yv fun b4=>?_)
 refine (go 8) ?_
 refine yK call56 wn rfl (fun w1 hM=>c_meanWrong _ l (In w1) w1 (fun _ h=>h) (hM.slp 2 rfl) (hM.yS (i:=3) rfl)) (zw fun b8=>?_)
 refine (go 10) (zX (fun h1=>?_) fun h1=>?_)
 ·refine (go 10) (yN results24 fun w1 hM=>?_)
  have hb9:Mn.ask l e.e time=([],(Mn.lines l).err):=by rw [Mn.ask,if_pos h1]
  exact hM.vI (⟨none,0,[]⟩:SlX zE) (by first | (rw [hb9]; done) | (rw [hb9]; rfl)) (by first | (rw [hb9]; done) | (rw [hb9]; rfl)) fun Pb pp=>⟨zD.zy _ _ _ _,fun c hc=>(by cases hc)⟩
 refine (go 7) ?_
 refine yK call57 wn rfl (fun w1 hM=>c_check e time (In w1) w1 (fun _ h=>h) (hM.yS (i:=5) rfl)) ?_
 refine (go 9) (zX (fun h2=>?_) fun h2=>?_)
 ·refine (go 9) (yN results24 fun w1 hM=>?_)
  have hb9:Mn.ask l e.e time=([],Mn.check e.e time):=by rw [Mn.ask,if_neg h1,if_pos h2]
  exact hM.vI (⟨none,0,[]⟩:SlX zE) (by first | (rw [hb9]; done) | (rw [hb9]; rfl)) (by first | (rw [hb9]; done) | (rw [hb9]; rfl)) fun Pb pp=>⟨zD.zy _ _ _ _,fun c hc=>(by cases hc)⟩
 refine (go 4) ?_
 have hok:=Mn.lines_ok (Classical.not_not.1 h1)
 have hck:=Mn.check_right (Classical.not_not.1 h2)
 refine (go 2) ?_
 refine zc (ye rfl rfl) (jF 2 rfl rfl (yb (β:=SlX zE) (celsV (Mn.out (Mn.eval (Mn.lookL (l.map zN.e)) time e.e)).2) (fun z=>z.l.map zE.e=(Mn.out (Mn.eval (Mn.lookL (l.map zN.e)) time e.e)).1) (fun z S=>CelsX.Ok S z) (fun z=>CelsX.Ok.loc z) wn rfl call58 rfl (fun w1 Pb hM pp=>c_eval e time 59 #[.pointer (some ⟨b3,0,none⟩)] (LinesAt ⟨b3,0,none⟩ lA lc l) (Mn.lookL (l.map zN.e)) Pb w1 pp.lt (pp.at_ 5 _ rfl) ⟨pp.at_ 2 _ rfl,pp.sl 3 rfl,pp.at_ 4 _ rfl⟩ (ask_win (by have:=hok.len; omega) hok.sizes _) (Mn.good_lookL hok) hck.2 hck.1) fun z1 hz1=>yg 0 rfl (fun S w h=>CelsX.Ok.wf h) fun hw1=>zb (fun _ h=>h.celsX 0 rfl) ?_))
 obtain ⟨hc1,hm1,hA1⟩:=hw1.cells
 refine (go 7) (yN results24 fun w1 hM=>?_)
 have hb9:Mn.ask l e.e time=Mn.out (Mn.eval (Mn.lookL (l.map zN.e)) time e.e):=by rw [Mn.ask,if_neg h1,if_neg h2]
 exact hM.vI z1 (by first | (rw [hb9]; done) | (rw [hb9]; rfl)) (by rw [hb9]; exact hz1) fun Pb pp=>pp.at_ 2 _ rfl
end
section
open _root_.Go.Proofs.Tryz
open Ex
attribute [local irreducible] WC WL WQ WE WS
set_option linter.unusedVariables false
set_option linter.unusedSimpArgs false
set_option maxHeartbeats 2000000 in
theorem law_BaseExact (lv:Value) (l:List zn) (P0:Nat→Prop) (w:World) (hP0:∀ b,P0 b→b < w.heap.size) (hl:zD P0 7 y8 lv l w) (hla:∀ x ∈ l,zn.Ok P0 x w) (hE:zP P0 w)  :
    Calls prog 7 #[lv] w (Ret w (.bool true)):=by
 have hwl:∀ x ∈ l,zn.Wf x:=fun x hx=>(hla x hx).wf
 obtain ⟨lA,lc,rfl,hlc,hlm,hlA⟩:=hl.form
 refine zt (N:=98) func7 (Mem.ofDatsP hP0 (dc (dlp hl) (dc (dp (all_loc zn.Ok.loc _) hla) (dc (dp zP.loc hE) dn)))) ?_
 refine (go 8) ?_
 refine yK call18 wn rfl (fun w1 hM=>c_alive9 (In w1) w1 (fun _ h=>h) (hM.yS (i:=2) rfl)) (zc (yI rfl) ?_)
 refine (go 8) ?_
 refine yb (β:=yA × SlX zh) (fun z=>.tuple #[.agg (ja z.1).toArray,.slice z.2.A z.2.l.length z.2.c,iV (Bs.play (l.map zn.e)).2.2]) (fun z=>(z.1.e,z.2.l.map zh.e)=((Bs.play (l.map zn.e)).1,(Bs.play (l.map zn.e)).2.1)) (fun z S w=>PlayOk z S w) (fun z=>PlayOk.loc z) wn rfl call14 rfl (fun w1 Pb hM pp=>c_play _ l Pb w1 pp.lt (pp.sl 0 rfl) (pp.at_ 1 _ rfl) (pp.at_ 2 _ rfl)) fun z1 hz1=>yg 0 rfl (fun S w h=>PlayOk.wf h) fun hw1=>zb (fun _ h=>h.playX 0 rfl) ?_
 obtain ⟨hc1,hm1,hA1⟩:=hw1.2.sl
 refine (go 4) (zw fun b3=>?_)
 refine (go 12) (zX (fun h1=>?_) fun h1=>?_)
 ·refine (go 10) (zZ results7 fun w1 hM=>?_)
  exact zS (by first | rfl | exact congrArg Value.bool (decide_eq_true (by have:=Bs.play_none hz1 (by assumption); omega))) hM
 have hlz:=Bs.play_len hz1 h1
 have hlm:=Bs.play_bound h1
 have hgd9:=Bs.named_x hz1 h1
 refine (go 11) ?_
 refine yH (fun (q:Nat)=>[(0,.slice lA l.length lc),(4,.slice z1.2.A z1.2.l.length z1.2.c),(25,.slice lA l.length lc),(26,iV l.length),(27,iV q)]) (fun (q:Nat)=>[.blk b3 [.slice z1.1.zA.A z1.1.zA.l.length z1.1.zA.c,iV z1.1.zO] 25,slP 4 ym (.slice z1.2.A z1.2.l.length z1.2.c) z1.2.l,allP zh.Ok z1.2.l,okP yA.Ok z1.1,.pub (PlayOk z1),slP 7 y8 (.slice lA l.length lc) l,allP zn.Ok l,.pub zP]) (fun (q:Nat)=>q≤l.length) (fun (q:Nat)=>l.length - q) 0 (sc rfl (sc rfl (sc rfl (sc rfl (sc (ji qO) sn))))) (fun _ h=>h) ?_ (fun q hI1=>?_)
 ·exact Nat.zero_le _
 refine (go 6) (zX (fun h2=>?_) fun h2=>?_)
 ·refine (go 7) ?_
  obtain ⟨ad1,s1,hd1,hs1⟩:=elx hlA q
  refine (go 2) (zw fun b7=>?_)
  refine (go 12) (zX (fun h3=>?_) fun h3=>?_)
  ·refine (go 7) ?_
   refine zT (zj (q + 1) (sc rfl (sc rfl (sc rfl (sc rfl (sc (ji qO) sn))))) (S9 [1,2,3,4,5,6,7,8]) ?_ ?_)
   ·omega
   omega
  refine (go 6) ?_
  refine yb (β:=zB × Pz.F) (fun z=>.tuple #[.agg (zx z.1).toArray,.agg #[iV z.2.1,iV z.2.2]]) (fun z=>Pz.parse s1.text=(z.1.e,z.2)) (fun z S=>zB.Ok S z.1) (fun z=>zB.Ok.loc z.1) wn rfl call23 rfl (fun w1 Pb hM pp=>c_parse s1.text Pb w1 pp.lt (pp.at_ 8 _ rfl)) fun z2 hz2=>?_
  obtain ⟨x2,er1,at1⟩:=z2
  have hq1:Pz.parse s1.text=(x2.e,(er1,at1)):=hz2
  refine yg 0 rfl (fun S w h=>zB.Ok.wf h) fun hw2=>?_
  refine (go 3) (zw fun b8=>zw fun b9=>?_)
  refine (go 12) (zX (fun h4=>?_) fun h4=>?_)
  ·refine (go 5) ?_
   obtain ⟨ad2,s2,hd2,hs2⟩:=elx hA1 q
   refine (go 2) ?_
   obtain ⟨hb9,hg9⟩:=Bs.exact_x hz1 h1 hs1 hs2 (Classical.not_not.1 h3)
   rw [hq1] at hb9 hg9
   refine (go 5) ?_
   refine q_litf (t:=52) rfl (fun g=>g (hb9 h4).1) ?_
   refine (go 11) ?_
   refine yh rfl (decide_eq_false (fun g=>g (hb9 h4).2)) ?_
   refine (go 9) ?_
   refine zT (zj (q + 1) (sc rfl (sc rfl (sc rfl (sc rfl (sc (ji qO) sn))))) (S9 [4,5,6,7,8,9,10,11]) ?_ ?_)
   ·omega
   omega
  refine (go 3) ?_
  refine yL (Mem w ⟨no,P0⟩ [.blk b9 [iV er1,iV at1] 61,.blk b8 [iV x2.kind,iV x2.n,iV x2.range,.string x2.word,.slice x2.ms.A x2.ms.l.length x2.ms.c,.slice x2.by_.A x2.by_.l.length x2.by_.c,.slice x2.kids.A x2.kids.l.length x2.kids.c] 59,okP zB.Ok x2,.blk b7 [iV s1.kind,iV s1.tier,iV s1.to,.slice s1.sr.A s1.sr.l.length s1.sr.c,iV s1.zJ.time,iV s1.zJ.value,.string s1.text] 43,.blk b3 [.slice z1.1.zA.A z1.1.zA.l.length z1.1.zA.c,iV z1.1.zO] 25,slP 4 ym (.slice z1.2.A z1.2.l.length z1.2.c) z1.2.l,allP zh.Ok z1.2.l,okP yA.Ok z1.1,.pub (PlayOk z1),slP 7 y8 (.slice lA l.length lc) l,allP zn.Ok l,.pub zP]) mix (fun _ h=>h.drew) rfl (uA (f:=7) [0,1,2,3,5,6,7] rfl rfl (by kernel_rfl) (by kernel_rfl) (fun _ h=>h) fun KS hKS=>?_)
  refine (go 2) ?_
  refine uS (ug (lo:=0) (hi:=q) rfl lo0 (hi1 rfl qO) qI qI qI underlying22 inf43) ?_
  refine (go 4) ?_
  refine zk hKS (zg 6 4 (zd (i:=4) rfl fun KN hKN=>zb (fun _ h=>h.allTake 10 q zn.Ok.loc rfl) (yb (β:=SlX zN) (fun z=>.slice z.A z.l.length z.c) (fun z=>z.l.map zN.e=Bs.tolds [] ((l.take q).map zn.e) (z1.2.l.map zh.e)) (fun z S=>LinesX.Ok S z) (fun z=>LinesX.Ok.loc z) wn rfl call20 rfl (fun w1 Pb hM pp=>c_told9 _ (l.take q) _ z1.2.l Pb w1 pp.lt (zD.subOf (pp.sl 10 rfl) (lo:=0) (hi:=q) qO qO (by first | rfl | simp) rfl) (pp.at_ 0 _ rfl) (pp.sl 6 rfl) (pp.at_ 7 _ rfl) (by first | omega | (rw [List.length_take]; omega)) (by first | omega | (rw [List.length_take]; omega)) (Bs.take_named hgd9)) fun z3 hz3=>yg 0 rfl (fun S w h=>LinesX.Ok.wf h) fun hw3=>zb (fun _ h=>h.linesX 0 rfl) ?_)))
  obtain ⟨hc2,hm2,hA2⟩:=hw3.sl
  refine (go 1) ?_
  refine hKN _ _ (S9 [4,5,6,7,8,9,10,11,12,13,14,15]) (zg 5 8 (zd (i:=8) rfl fun KN hKN=>yb (β:=SlX zE) (celsV (Mn.ask z3.l x2.e s1.to).2) (fun z=>z.l.map zE.e=(Mn.ask z3.l x2.e s1.to).1) (fun z S=>CelsX.Ok S z) (fun z=>CelsX.Ok.loc z) wn rfl call24 rfl (fun w1 Pb hM pp=>c_ask _ z3.l x2 s1.to Pb w1 pp.lt (pp.sl 0 rfl) (pp.at_ 1 _ rfl) (pp.at_ 6 _ rfl)) fun z4 hz4=>yg 0 rfl (fun S w h=>CelsX.Ok.wf h) fun hw4=>zb (fun _ h=>h.celsX 0 rfl) ?_))
  obtain ⟨hc3,hm3,hA3⟩:=hw4.cells
  refine (go 1) ?_
  refine hKN _ _ (S9 [7,8,9,10,11,12,13,14,15,16,17,18]) (yJ 0 [9,10,11,12,13] [7,8,9,10,11,12,13,14,15,16,17,18] rfl fun KS hKS=>?_)
  refine (go 5) ?_
  refine zk hKS ?_
  refine zr (by kernel_rfl) ((go 1) ?_)
  refine (go 5) ?_
  obtain ⟨ad3,s3,hd3,hs3⟩:=elx hA1 q
  refine (go 2) ?_
  obtain ⟨hb9,hg9⟩:=Bs.exact_x hz1 h1 hs1 hs3 (Classical.not_not.1 h3)
  rw [hq1] at hb9 hg9
  refine (go 4) (zX (fun h5=>?_) fun h5=>?_)
  ·refine (go 7) ?_
   refine zT (zj (q + 1) (sc rfl (sc rfl (sc rfl (sc rfl (sc (ji qO) sn))))) (S9 [11,12,13,14,15,16,17,18]) ?_ ?_)
   ·omega
   omega
  refine (go 12) ?_
  refine l_litf (t:=87) rfl (fun g=>g (by rw [Mn.ask_e]; exact (hg9 h4 _ hz3 h5).1)) ?_
  refine (go 6) ?_
  have hw5:=hw1.2.all _ (List.mem_of_getElem? hs3)
  refine zb (fun _ h=>h.one 13 zh.Ok.loc rfl hs3) (zb (fun _ h=>h.ansX 0 rfl) ?_)
  obtain ⟨hc4,hm4,hA4⟩:=hw5.cells
  refine yK call19 (wg rfl rfl rfl) rfl (fun w1 hM=>c_sameCells _ s3.cells.l _ z4.l (In w1) w1 (fun _ h=>h) (hM.slp 0 rfl) (hM.yS (i:=1) rfl) (hM.slp 3 rfl) (hM.yS (i:=4) rfl)) ?_
  refine (go 4) ?_
  refine yh rfl (decide_eq_false (fun g=>g ((hg9 h4 _ hz3 h5).2.trans (by rw [← Mn.ask_e]; exact hz4.symm)))) ?_
  refine (go 6) ?_
  refine zT (zj (q + 1) (sc rfl (sc rfl (sc rfl (sc rfl (sc (ji qO) sn))))) (S9 [14,15,16,17,18,19,20,21]) ?_ ?_)
  ·omega
  omega
 refine (go 11) (zZ results7 fun w1 hM=>?_)
 exact zS (by first | rfl | exact congrArg Value.bool (decide_eq_true (by have:=Bs.play_none hz1 (by assumption); omega))) hM
end
section
open Go.ChangeShapes Go.WideShapes Go.ChangeAt Go.RowKit
namespace Ex
theorem Tryz.own_:ownKnob Tryz.prog.godebug=none:=by kernel_rfl
theorem Tryz.laid_:laidOutB Tryz.prog=true:=by kernel_rfl
section
variable {H:Type} {enc:TypeId × Value→H} {P:Program}
theorem trodAll_stays (hl:laidOutB P=true) {W W':World} {sp':Nat→Bool} (hsame:Fr no W W'):∀ {ts:List TypeId} {vs:List Value} {ds:List (DataW H)} {ps:List MemPlace},(∀ t ∈ ts,P.readableRec t=true∧t < P.types.size) →
    DataW.TrodAll enc P W 0 (fun _=>true) true ts vs ds ps→(∀ p ∈ ps,p.block < W.heap.size)→(∀ p ∈ ps,sp' p.block=true)→DataW.TrodAll enc P W' 0 sp' true ts vs ds ps
  | [],[],[],_,_,h,_,_=>h
  | t :: ts, v :: vs, d :: ds, _, hr, ⟨p, q, h1, h2, e⟩, hlt, hs =>
    ⟨p,q,WideElems.Trod_stays hl (hr t (List.mem_cons_self ..)).1 (hr t (List.mem_cons_self ..)).2 h1 (fun x hx=>(Fr.below hsame).same (hlt x (by rw [e]; exact List.mem_append_left _ hx))) (fun x hx=>hs x (by rw [e]; exact List.mem_append_left _ hx)),
      trodAll_stays hl hsame (fun t ht=>hr t (List.mem_cons_of_mem _ ht)) h2 (fun x hx=>hlt x (by rw [e]; exact List.mem_append_right _ hx)) (fun x hx=>hs x (by rw [e]; exact List.mem_append_right _ hx)),e⟩
theorem post_true {f:Func} {s:ChangeSpec} {W W':World} {args:Array Value} {ds gs:List (DataW H)} {before:List MemPlace} {bt:TypeId} (hl:laidOutB P=true) (hr:∀ t ∈ f.params.toList,P.readableRec t=true∧t < P.types.size)
    (hres:f.resultTypes=#[bt]) (hb:P.underlying bt=some .bool) (hvars:s.vars=[]) (hW:DataW.Whole enc P f.params.toList s.vars false W args.toList ds gs before)
    (hs:∀ ds:List (DataW H),ds.length=f.params.size→(s.fn H ds).results=[.lit (.bool true)]∧(s.fn H ds).args=ds∧(s.fn H ds).vars=[]) (hf:Fr no W W') :
    s.post enc P f false true false false W args (.bool true) W':=by
  have hlt:=hW.lt
  have hW0:=hW
  obtain ⟨p,q,hA,hV,rfl,hfz,hnd⟩:=hW
  rw [hvars] at hV
  obtain ⟨rfl,rfl⟩:=trodVars_none hV
  have hlen:∀ {ts:List TypeId} {vs:List Value} {ds:List (DataW H)} {ps:List MemPlace},DataW.TrodAll enc P W 0 (fun _=>true) true ts vs ds ps→ds.length=ts.length:=by
    intro ts
    induction ts with
    | nil=>intro vs ds ps h; cases vs <;> cases ds <;> simp_all [DataW.TrodAll]
    | cons t ts ih =>
      intro vs ds ps h
      cases vs <;> cases ds <;> try (simp [DataW.TrodAll] at h; done)
      obtain ⟨_,_,_,h2,_⟩:=h
      simp [ih h2]
  obtain ⟨e1,e2,e3⟩:=hs ds (by rw [hlen hA]; simp)
  refine ⟨ds,[],_,[],p,[],hW0,?_,?_,?_,?_,fun h=>by cases h⟩
  · rw [List.append_nil,e1,hres]
    exact trodAll_mk1 (shut_bool hb true)
  · rw [List.append_nil,e2]
    exact trodAll_stays hl hf hr hA (fun x hx=>hlt x (by simpa using hx)) (fun x hx=>by simpa using hlt x (by simpa using hx))
  · rw [List.append_nil,e3,hvars]
    exact rfl
  · exact (Fr.below hf).frame _
end
def ok64 (n:Int):Prop:=-9223372036854775808≤n∧n≤9223372036854775807
theorem ok64_wf {n:Int} (h:(Lit.int .i64 n).wf=true):ok64 n:=by
  simpa [Lit.wf,IntKind.min,IntKind.max,IntKind.signed,IntKind.bits,ok64] using h
def RdF (P:Program) (t:TypeId) {α:Type} (e:α→List Value) (ok:α→Prop):Prop :=
  ∀ {H:Type} (enc:TypeId × Value→H) (w:World) (base:Nat) (sp:Nat→Bool) (held:Bool) (fuel:Nat) (cs:List Value) (x:DataW H × List MemPlace),
    DataW.trod enc P w base sp held fuel t cs=some x→∃ a,cs=e a∧ok a
theorem rd_int {P:Program} {t:TypeId} (h:P.underlying t=some (.int .i64)):RdF P t intE ok64:=fun _ _ _ _ _ _ _ _ hx=>by
  obtain ⟨n,e,_,hw⟩:=DataW.trod_int h hx
  exact ⟨n,e,ok64_wf hw⟩
def okStr (s:ByteArray):Prop:=s.size≤maxLen
theorem rd_str {P:Program} {t:TypeId} (h:P.underlying t=some .string):RdF P t strE okStr:=fun _ _ _ _ _ _ _ _ hx=>by
  obtain ⟨s,e,_,hw⟩:=DataW.trod_string h hx
  exact ⟨s,e,hw⟩
theorem st_fld {H:Type} {enc:TypeId × Value→H} {P:Program} {w:World} {base:Nat} {sp:Nat→Bool} {held:Bool} {fuel:Nat} {t:TypeId} {cs:List Value} {x:DataW H × List MemPlace} {fs:Array Field} (ht:P.underlying t=some (.struct fs))
    (h:DataW.trod enc P w base sp held fuel t cs=some x):cs.length=P.cellsOf t∧∃ n,∀ (j:Nat) (f:Field),fs[j]?=some f→∃ y,DataW.trod enc P w base sp held n f.type ((cs.drop f.offset).take (P.cellsOf f.type))=some y:=by
  obtain ⟨xs,n,_,_,hl,hlen,hg⟩:=DataW.trod_struct ht h
  refine ⟨hl,n,fun j f hj=>?_⟩
  have hjl:j < xs.length:=by rw [hlen]; exact (Array.getElem?_eq_some_iff.1 hj).1
  exact ⟨xs[j],(hg j f hj).trans (List.getElem?_eq_getElem hjl)⟩
end Ex
end
end Go.Proofs.YtgojhpocpajmlaaGreatDoor
