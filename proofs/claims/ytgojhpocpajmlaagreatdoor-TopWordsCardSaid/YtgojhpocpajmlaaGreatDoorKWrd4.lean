/- Laws and walks for the proof of TopWords, packed by program; each theorem bears its own conditions. -/
import Derived.Test.YtgojhpocpajmlaaGreatDoorKWrd3
namespace Go.Proofs.YtgojhpocpajmlaaGreatDoor
section
namespace Sh
set_option linter.unusedVariables false
section
variable {z:Shelf} {f t g:Int}
theorem pick_c (hc:z.zH≤g) (ht:t≤z.zF) (hg:0≤g) (h1:g % 60=0) (h2:t % 60=0) (h3:g < t):pick z g t=⟨2,g,g + 60⟩ :=
  pick_2 (show g + 60≤t by omega) ((may2 (show ¬ g + 60≤g by omega) rfl).2 (by
    show z.zH≤g∧g + 60≤z.zF∧Int.tmod g 60=0∧Int.tmod (g + 60) 60=0
    rw [emod_tmod hg,emod_tmod qO]; omega))
theorem chooseL_c (hc:z.zH≤f) (ht:t≤z.zF) (hf:0≤f) (h2:t % 60=0):∀ (n:Nat) (g:Int),(t - g).toNat≤n→f < g→g≤t→g % 60=0→chooseL z g t [⟨2,f,g⟩]=some [⟨2,f,t⟩]
  | n, g, hn, h3, h4, h5 => by
    by_cases c:g < t
    · have p:=pick_c (z:=z) (g:=g) (t:=t) qO ht qO h5 h2 c
      rw [chooseL_next c (by rw [p]; show ¬ (2:Int) < 0; decide),p,show push [⟨2,f,g⟩] ⟨2,g,g + 60⟩=[⟨2,f,g + 60⟩] from rfl]
      match n,hn with
      | 0,hn=>omega
      | n + 1,hn=>exact chooseL_c hc ht hf h2 n (g + 60) qO qO qO qO
    · obtain rfl:g=t:=qO
      exact chooseL_end c
theorem choose_c (ho:OK z) (hc:z.zH≤f) (ht:t≤z.zF) (hf:0≤f) (h1:f % 60=0) (h2:t % 60=0) (h3:f < t) (h4:t≤1000000):choose z f t=([⟨2,f,t⟩],0):=by
  have p:=pick_c (z:=z) (g:=f) (t:=t) hc ht hf h1 h2 h3
  have:chooseL z f t []=some [⟨2,f,t⟩]:=by
    rw [chooseL_next h3 (by rw [p]; show ¬ (2:Int) < 0; decide),p]
    exact chooseL_c hc ht hf h2 _ (f + 60) (Nat.le_refl _) qO qO qO
  rw [choose,if_neg (by simp [ho.wrong]),if_neg qO,this]
theorem cost_c {l:List Sample} (hk:Keep z l) (hc:z.zH≤f) (ht:t≤z.zF) (h1:f % 60=0) (h2:t % 60=0) (h3:f < t):60 * costs z [⟨2,f,t⟩]≤t - f:=by
  obtain ⟨_,_,g1,g2,g3,g4,g5⟩:=hk.ok.rng
  have e:costs z [⟨2,f,t⟩]=partCost z ⟨2,f,t⟩:=by simp [costs]
  have hb:bIn z.coarse f t=Roll.up (Roll.inT l f t) 2:=by rw [hk.coarse,Roll.up2_bIn hk.rises g4 g5 h1 h2 hc qO ht]
  rw [e,(partSum_2 (z:=z) (p:=⟨2,f,t⟩) (show ¬ (2:Int)=1 by decide) rfl).2]
  show 60 * ((bIn z.coarse f t).length:Int)≤t - f
  rw [hb]
  have ht:=Roll.up2_tier (l:=l) hk.rises h1 h2
  exact Roll.rise_len (t:=Bucket.at_) (b:=t) 60 qD _ f ht.inc (fun x hx=>by have:=ht.ok x hx; omega) h1 h2 qO
end
end Sh
namespace Bs
open Ex Sh
set_option linter.unusedVariables false
def numT (n:Int):ByteArray:=⟨(Lg.print (.mk 1 n 0 ⟨#[]⟩ [] [] [])).1.toArray⟩
def sumT9 (n:Int):ByteArray:=⟨#[115,117,109,40,123,125,91]⟩++numT n++⟨#[93,41]⟩
def winE (w:ByteArray) (r:Int):Expr:=.mk 2 0 r w [] [] []
def sumW:ByteArray:=⟨#[115,117,109]⟩
def winT (w:ByteArray) (r:Int):ByteArray:=⟨(Lg.print (winE w r)).1.toArray⟩
def okT (w s:ByteArray) (r:Int):Prop:=Pz.parse s=(winE w r,(0,0))∧Lg.wrong (winE w r)=0∧Lg.typed (winE w r)=0
instance (w s:ByteArray) (r:Int):Decidable (okT w s r):=by unfold okT; infer_instance
theorem sum_txt:∀ k:Nat,k < 81→0 < k→okT sumW (sumT9 (k * 60)) (k * 60):=by decide +kernel
theorem win_txt:∀ w ∈ Agg.words,∀ k:Nat,k < 81→0 < k→okT w (winT w (k * 60)) (k * 60)∧(Lg.print (winE w (k * 60))).2=0:=by decide +kernel
section
variable {w s:ByteArray} {r t a c:Int} {b:Base} {z:Shelf} {l:List Sample}
theorem ask_win (hp:okT w s r) (ht:0≤t∧t≤1000000):ask b (askD s t)=if (look b.zA [] (Mn.frm t r) t).2≠0 then no (look b.zA [] (Mn.frm t r) t).2 else ⟨0,0,Mn.winCells w (look b.zA [] (Mn.frm t r) t).1,cost b.zA [] (Mn.frm t r) t 0⟩:=by
  obtain ⟨h1,h2,h3⟩:=hp
  have hc:Mn.check (winE w r) t=0:=by unfold Mn.check; rw [h2,h3,if_neg qS,if_neg qS,if_neg qO]
  have e:asked b.zA (winE w r) t=if (look b.zA [] (Mn.frm t r) t).2≠0 then ([],(look b.zA [] (Mn.frm t r) t).2) else (Mn.winCells w (look b.zA [] (Mn.frm t r) t).1,0):=by
    unfold asked winE; rw [Mn.eval,if_neg qD,if_pos rfl]; unfold Mn.window
    by_cases h:(look b.zA [] (Mn.frm t r) t).2≠0
    · rw [if_pos h,if_pos h]; unfold Mn.out; rw [if_pos h]
    · rw [if_neg h,if_neg h]; rfl
  have e2:Mn.evalN (look b.zA) (cost b.zA) t (winE w r) 0=cost b.zA [] (Mn.frm t r) t 0:=by unfold winE; rw [Mn.evalN,if_neg qD,if_pos rfl]
  unfold ask
  rw [show (askD s t).text=s from rfl,show (askD s t).to=t from rfl,h1]
  show (if (0:Int)≠0 then _ else if Mn.check (winE w r) t≠0 then _ else if (asked b.zA (winE w r) t).2≠0 then _ else (⟨0,0,(asked b.zA (winE w r) t).1,Mn.evalN (look b.zA) (cost b.zA) t (winE w r) 0⟩:Ans))=_
  rw [if_neg qD,if_neg (by rw [hc]; decide),e,e2]
  by_cases h:(look b.zA [] (Mn.frm t r) t).2≠0
  · rw [if_pos h,if_pos h,if_pos h]
  · rw [if_neg h,if_neg h]; rfl
theorem look_1 (hk:Keep z l) (h:(Sh.choose z a c).2=0):look [z] [] a c=([(z.zJ,Agg.of (Roll.inT l a c))],0):=by
  obtain ⟨r1,r2,_⟩:=read_is hk h
  rw [look,if_neg (show ¬ ¬ zI.yC z.zJ []=true from fun g=>g rfl),if_neg (by simp [h]),if_neg (by simp [r2]),look,if_neg qS,r1]
theorem cost_1 (hk:Keep z l) (h:(Sh.choose z a c).2=0):cost [z] [] a c 0=costs z (Sh.choose z a c).1:=by
  obtain ⟨r1,r2,r3,r4⟩:=read_is hk h
  have hn:=costs_nn hk.ok (Sh.choose z a c).1
  have hl:=Roll.rises_len hk.rises
  have hw:=Roll.inT_len l a c
  rw [cost,if_neg (show ¬ ¬ zI.yC z.zJ []=true from fun g=>g rfl),if_neg (by simp [h]),if_neg (by simp [r2]),cost,r3,Int.zero_add,wr_id qO qO]
theorem ask_1 (hp:okT w s r) (ht:0≤t∧t≤1000000) (hk:Keep z l) (h:(Sh.choose z (Mn.frm t r) t).2=0) (hor:Int) :
    ask ⟨[z],hor⟩ (askD s t)=⟨0,0,Mn.winCells w [(z.zJ,Agg.of (Roll.inT l (Mn.frm t r) t))],costs z (Sh.choose z (Mn.frm t r) t).1⟩:=by
  rw [ask_win hp ht]
  show (if (look [z] [] _ _).2≠0 then _ else (⟨0,0,Mn.winCells w (look [z] [] _ _).1,cost [z] [] _ _ 0⟩:Ans))=_
  rw [look_1 hk h,cost_1 hk h,if_neg qS]
theorem ask_0 (hp:okT w s r) (ht:0≤t∧t≤1000000) (hor:Int):ask ⟨[],hor⟩ (askD s t)=⟨0,0,[],0⟩:=by
  rw [ask_win hp ht]; rfl
end
def forgetD (tier t:Int):Do:=⟨3,tier,t,[],⟨0,0⟩,⟨#[]⟩⟩
def rolL (l:List Sample):Shelf:=rolled (shL l) 6000
def baseR (l:List Sample):Base:=if l=[] then ⟨[],6000⟩ else ⟨[rolL l],6000⟩
section
variable {l:List Sample} {z:Shelf} {a b tier to h:Int}
theorem rol_keep (h:small l):roll (shL l) 6000=(rolL l,0)∧Keep (rolL l) l:=by
  obtain ⟨_,_,hk⟩:=run_tL l (Codec.right_of h.1) (by have:=h.2; omega)
  have hr:roll (shL l) 6000=(rolL l,0):=roll_few hk.ok qD qD (by have:=h.2; show 0 + 0 + l.length≤500; omega)
  exact ⟨hr,by have:=hk.roll (to:=6000) (by rw [hr]); rwa [hr] at this⟩
theorem run_rol (h:small l):one (baseL l) (rollD 6000)=(baseR l,no 0):=by
  by_cases he:l=[]
  · subst he; rfl
  · have hb:baseL l=⟨[shL l],0⟩:=if_neg he
    have hR:baseR l=⟨[rolL l],6000⟩:=if_neg he
    have hr:=(rol_keep h).1
    rw [hb,hR]
    show (if (2:Int)=1 then _ else if (2:Int)=4 then _ else if ¬ ((2:Int)=2∨(2:Int)=3) then _ else if (6000:Int) < 0∨1000000 < (6000:Int) then _ else if (2:Int)=3 then _ else rollAll ⟨[shL l],0⟩ 6000)=_
    rw [if_neg qD,if_neg qD,if_neg qD,if_neg qD,if_neg qD,rollAll]
    have hE:each (fun s=>roll s 6000) [shL l]=([rolL l],0):=by
      rw [each,if_neg (by rw [hr]; simp),each,if_neg qS,hr]
    show (if (each (fun s=>roll s 6000) [shL l]).2≠0 then _ else _)=_
    rw [hE,if_neg qS]; rfl
theorem one_forget (hk:Keep z l) (h0:0≤to) (h1:to≤1000000) (h2:tier=0∨tier=1∨tier=2):one ⟨[z],h⟩ (forgetD tier to)=(⟨[forgot z tier to],h⟩,no 0)∧Keep (forgot z tier to) l:=by
  have hr:=forget_mk hk.ok h0 h1 h2
  refine ⟨?_,by have:=hk.forget (tier:=tier) (to:=to) (by rw [hr]); rwa [hr] at this⟩
  show (if (3:Int)=1 then _ else if (3:Int)=4 then _ else if ¬ ((3:Int)=2∨(3:Int)=3) then _ else if to < 0∨1000000 < to then _ else if (3:Int)=3 then (if tier < 0∨2 < tier then _ else forgetAll ⟨[z],h⟩ tier to) else _)=_
  rw [if_neg qD,if_neg qD,if_neg qD,if_neg qO,if_pos rfl,if_neg qO,Bs.forgetAll]
  have hE:each (fun s=>forget s tier to) [z]=([forgot z tier to],0):=by
    rw [each,if_neg (by rw [hr]; simp),each,if_neg qS,hr]
  show (if (each (fun s=>forget s tier to) [z]).2≠0 then _ else _)=_
  rw [hE,if_neg qS]
theorem one_ask (b:Base) (s:ByteArray) (t:Int):one b (askD s t)=(b,ask b (askD s t)):=by
  show (if (4:Int)=1 then _ else if (4:Int)=4 then _ else _)=_
  rw [if_neg qD,if_pos rfl]
theorem frm_ab (h:0≤a):Mn.frm (b * 60) ((b - a) * 60)=a * 60:=by
  unfold Mn.frm
  rw [show b * 60 - (b - a) * 60=a * 60 by omega,if_neg qO]
theorem to_k (h1:a < b):∃ k:Nat,0 < k∧(k:Int)=b - a:=⟨(b - a).toNat,by omega,by omega⟩
theorem cheap_is (h:small l) (h0:0≤a) (h1:a < b) (h2:b≤80):(last (tL l++[rollD 6000,askD (sumT9 ((b - a) * 60)) (b * 60)])).err=0∧(last (tL l++[rollD 6000,askD (sumT9 ((b - a) * 60)) (b * 60)])).cost≤b - a:=by
  obtain ⟨k,k0,k1⟩:=to_k h1
  have hT:=sum_txt k qO k0
  rw [k1] at hT
  have e:=last_tL h [rollD 6000] (askD (sumT9 ((b - a) * 60)) (b * 60)) qD
  have e2:(run (baseL l) [rollD 6000]).1=baseR l:=by show (one (baseL l) (rollD 6000)).1=_; rw [run_rol h]
  rw [e2,one_ask] at e
  rw [show tL l++[rollD 6000,askD (sumT9 ((b - a) * 60)) (b * 60)]=tL l++([rollD 6000]++[askD (sumT9 ((b - a) * 60)) (b * 60)]) from rfl,e]
  by_cases he:l=[]
  · have hR:baseR l=⟨[],6000⟩:=if_pos he
    rw [hR,ask_0 hT qO]; exact ⟨rfl,by show (0:Int)≤b - a; omega⟩
  · have hR:baseR l=⟨[rolL l],6000⟩:=if_neg he
    obtain ⟨_,hk⟩:=rol_keep h
    have hc:Sh.choose (rolL l) (Mn.frm (b * 60) ((b - a) * 60)) (b * 60)=([⟨2,a * 60,b * 60⟩],0):=by
      rw [frm_ab h0]; exact choose_c hk.ok (by show (0:Int)≤a * 60; omega) (by show b * 60≤6000; omega) qO qO qO qO qO
    rw [hR,ask_1 hT qO hk (by rw [hc]),hc]
    refine ⟨rfl,?_⟩
    have:=cost_c (f:=a * 60) (t:=b * 60) hk (by show (0:Int)≤a * 60; omega) (by show b * 60≤6000; omega) qO qO qO
    show costs (rolL l) [⟨2,a * 60,b * 60⟩]≤b - a
    omega
theorem words_is {w:ByteArray} (hw:w ∈ Agg.words) (h:small l) (h0:0≤a) (h1:a < b) (h2:b≤80) :
    (Lg.print (winE w (b * 60 - a * 60))).2=0∧(last (tL l++([rollD 6000,forgetD 0 6000]++[askD (winT w (b * 60 - a * 60)) (b * 60)]))).err=0 ∧
    (last (tL l++([rollD 6000,forgetD 0 6000]++[askD (winT w (b * 60 - a * 60)) (b * 60)]))).cells=Mn.winCells w [(hostL aB,Agg.of (Roll.inT l (a * 60) (b * 60)))]:=by
  obtain ⟨k,k0,k1⟩:=to_k h1
  obtain ⟨hT,hP⟩:=win_txt w hw k qO k0
  rw [show ((k:Int) * 60)=b * 60 - a * 60 by omega] at hT hP
  refine ⟨hP,?_⟩
  have e:=last_tL h [rollD 6000,forgetD 0 6000] (askD (winT w (b * 60 - a * 60)) (b * 60)) qD
  rw [e]
  have hf:Mn.frm (b * 60) (b * 60 - a * 60)=a * 60:=by unfold Mn.frm; rw [show b * 60 - (b * 60 - a * 60)=a * 60 by omega,if_neg qO]
  by_cases he:l=[]
  · subst he
    have hR:(run (baseL []) [rollD 6000,forgetD 0 6000]).1=⟨[],6000⟩:=rfl
    rw [hR,one_ask,ask_0 hT qO]
    refine ⟨rfl,?_⟩
    show []=Mn.winCells w [(hostL aB,Agg.of (Roll.inT [] (a * 60) (b * 60)))]
    have:(Agg.value w (Agg.of (Roll.inT [] (a * 60) (b * 60)))).2=false:=by show (Agg.value w (Agg.of [])).2=false; unfold Agg.value; rw [if_pos (show (Agg.of []).count < 1 by decide)]
    unfold Mn.winCells; rw [List.filterMap_cons]; simp [this]
  · obtain ⟨_,hk⟩:=rol_keep h
    obtain ⟨o1,o2⟩:=one_forget (h:=6000) (tier:=0) (to:=6000) hk qD qD (.inl rfl)
    have hR:(run (baseL l) [rollD 6000,forgetD 0 6000]).1=⟨[forgot (rolL l) 0 6000],6000⟩:=by
      show (one (one (baseL l) (rollD 6000)).1 (forgetD 0 6000)).1=_
      rw [run_rol h,show baseR l=⟨[rolL l],6000⟩ from if_neg he,o1]
    have hc:Sh.choose (forgot (rolL l) 0 6000) (Mn.frm (b * 60) (b * 60 - a * 60)) (b * 60)=([⟨2,a * 60,b * 60⟩],0):=by
      rw [hf]; exact choose_c o2.ok (by show (0:Int)≤a * 60; omega) (by show b * 60≤6000; omega) qO qO qO qO qO
    rw [hR,one_ask,ask_1 hT qO o2 (by rw [hc]),hf]
    exact ⟨rfl,rfl⟩
theorem words_x {w:ByteArray} {z:zn} (hw:w ∈ Agg.words) (h:small l) (h0:0≤a) (h1:a < b) (h2:b≤80) (hz:z.e=last (tL l++([rollD 6000,forgetD 0 6000]++[askD (winT w (b * 60 - a * 60)) (b * 60)]))) :
    z.err=0∧((Agg.value w (Agg.of (Roll.inT l (a * 60) (b * 60)))).2=true→z.cells.l.length=1∧∀ c,z.cells.l[0]?=some c→c.value=(Agg.value w (Agg.of (Roll.inT l (a * 60) (b * 60)))).1) ∧
    (¬ (Agg.value w (Agg.of (Roll.inT l (a * 60) (b * 60)))).2=true→z.cells.l.length=0):=by
  obtain ⟨_,e1,e2⟩:=words_is hw h h0 h1 h2
  rw [← hz] at e1 e2
  have e3:z.cells.l.map zG.e=Mn.winCells w [(hostL aB,Agg.of (Roll.inT l (a * 60) (b * 60)))]:=e2
  unfold Mn.winCells at e3
  rw [List.filterMap_cons] at e3
  refine ⟨e1,fun hv=>?_,fun hv=>?_⟩
  · simp only [hv,if_true,List.filterMap_nil] at e3
    refine ⟨by have:=congrArg List.length e3; simpa using this,fun c hc=>?_⟩
    have h3:=congrArg (·[0]?) e3
    simp only [List.getElem?_map,hc,Option.map_some,List.getElem?_cons_zero] at h3
    exact congrArg Cell.value (Option.some.inj h3)
  · simp only [if_neg hv,List.filterMap_nil] at e3
    simpa using congrArg List.length e3
theorem word_size {w:ByteArray} (h:w ∈ Agg.words):w.size≤9223372036854775807:=by
  have:∀ w ∈ Agg.words,w.size≤5:=by decide
  have:=this w h; omega
theorem inT_next {k:Nat} {x:Sample} {g t:Int} (hx:l[k]?=some x) (h:g≤x.time∧x.time < t):Roll.inT (l.take k) g t++[x]=Roll.inT (l.take (k + 1)) g t:=by rw [Roll.inT_succ hx,if_pos h]
theorem inT_skip {k:Nat} {x:Sample} {g t:Int} (hx:l[k]?=some x) (h:¬ (g≤x.time∧x.time < t)):Roll.inT (l.take k) g t=Roll.inT (l.take (k + 1)) g t:=by rw [Roll.inT_succ hx,if_neg h]
def z3 (l:List Sample) (to:Int):Shelf:=forgot (forgot (forgot (rolL l) 0 to) 1 to) 2 to
end
end Bs
end
section
open Tryz
open Ex
attribute [local irreducible] WC WL WQ WE WS
set_option linter.unusedVariables false
set_option linter.unusedSimpArgs false
theorem ub (tier:Int) (w:World)   :
    Calls prog 93 #[iV tier] w (Ret w (iV (Roll.step tier))):=by
 refine zq (N:=8) func93 (Mem.ofDats dn) ?_
 refine (go 18) (zW (fun h1=>?_) fun h1=>?_)
 ·refine (go 8) (zX results93 fun w1 hM=>?_)
  exact zP (by simp [Roll.step,h1]) hM
 refine (go 6) (zW (fun h2=>?_) fun h2=>?_)
 ·refine (go 8) (zX results93 fun w1 hM=>?_)
  exact zP (by simp [Roll.step,h1,h2]) hM
 refine (go 9) (zX results93 fun w1 hM=>?_)
 exact zP (by simp [Roll.step,h1,h2]) hM
theorem c_add (lv:Value) (l:List Bucket) (time:Int) (step:Int) (s:Sum) (w:World) (hl:w.ownsRow 0 163 8 lv l.length (l.flatMap zK)) (hst:step≠0) (hl1:l.length≤1048576) :
    Calls prog 169 #[lv,iV time,iV step,.agg (sumE s).toArray] w (RetU w lv 163 8 zK (Roll.add l time step s)):=by
 refine zq (N:=48) func169 (Mem.ownArg hl) (yW 0 (l:=l) rfl fun A0 cp0 hv0 hc0 hm0 hA0=>?_)
 subst hv0
 refine (go 2) (yu fun b7=>?_)
 refine (go 8) ?_
 refine za (jG rfl rfl qO) (za (jn rfl rfl) ?_)
 refine (go 17) (yO 21 (fun h1=>?_) fun h1=>?_)
 ·refine (go 2) ?_
  obtain ⟨ad1,s1,hd1,hs1⟩:=elx hA0 (l.length - 1)
  refine y6 (yz (i:=(l.length - 1)) rfl hd1 rfl qO qI underlying48 inf163) ?_
  refine (go 1) ?_
  refine y6 (uE 1 encBucket rfl rfl hd1 hs1 rfl flat3) ?_
  refine (go 5) (zW (fun h2=>?_) fun h2=>?_)
  ·refine (go 1) (vE 11 ?_)
   refine (go 4) ?_
   refine yZ (yz (i:=(l.length - 1)) rfl hd1 rfl qO qI underlying48 inf163) ?_
   refine (go 1) ?_
   refine yZ (uO 1 [iV s1.sum.count,iV s1.sum.total,iV s1.sum.min,iV s1.sum.max,iV s1.sum.first,iV s1.sum.last,iV s1.sum.rise] encBucket rfl rfl hd1 hs1 rfl rfl agg89 inf89) ?_
   refine (go 1) ?_
   refine yQ wn rfl call66 rfl (fun w1 hM=>vY s1.sum s w1) (yZ (yz (i:=(l.length - 1)) rfl hd1 rfl qO qI underlying48 inf163) ?_)
   refine (go 2) ?_
   refine uF 1 (vs:=[iV ((Agg.join s1.sum s).count),iV ((Agg.join s1.sum s).total),iV ((Agg.join s1.sum s).min),iV ((Agg.join s1.sum s).max),iV ((Agg.join s1.sum s).first),iV ((Agg.join s1.sum s).last),iV ((Agg.join s1.sum s).rise)]) (⟨s1.at_,(Agg.join s1.sum s)⟩:Bucket) encBucket wn rfl rfl rfl rfl hd1 hs1 inf89 rfl rfl rfl rfl ?_
   refine (go 10) (zX results169 fun w1 hM=>?_)
   exact hM.uo 1 rfl (Roll.add_last hs1 h2)
  refine (go 8) ?_
  refine zy zK ([(⟨(IntKind.wrap .i64 (time - (Int.tmod time step))),s⟩:Bucket)]:List Bucket) wn underlying48 inf163 rfl rfl rfl rfl qD qD rfl fun b46=>yH 2 l ([(⟨(IntKind.wrap .i64 (time - (Int.tmod time step))),s⟩:Bucket)]:List Bucket) encBucket wn rfl rfl rfl (fun _ hM=>(RowSl encBucket hM 0 rfl)) underlying48 inf163 rfl rfl (by simp only [qL]; omega) rfl fun A1 cp1 hc1 hm1 hA1=>?_
  refine (go 4) (zX results169 fun w1 hM=>?_)
  exact hM.uo 2 rfl (Roll.add_new hs1 h2)
 refine (go 19) ?_
 refine zy zK ([(⟨(IntKind.wrap .i64 (time - (Int.tmod time step))),s⟩:Bucket)]:List Bucket) wn underlying48 inf163 rfl rfl rfl rfl qD qD rfl fun b46=>yH 2 l ([(⟨(IntKind.wrap .i64 (time - (Int.tmod time step))),s⟩:Bucket)]:List Bucket) encBucket wn rfl rfl rfl (fun _ hM=>(RowSl encBucket hM 0 rfl)) underlying48 inf163 rfl rfl (by simp only [qL]; omega) rfl fun A2 cp2 hc2 hm2 hA2=>?_
 refine (go 4) (zX results169 fun w1 hM=>?_)
 exact hM.uo 2 rfl (Roll.add_nil h1)
theorem c_Up (lv:Value) (l:List Sample) (tier:Int) (w:World) (hl:zD (In w) 2 zQ lv l w) (hl1:l.length≤1048576) :
    Calls prog 126 #[lv,iV tier] w (RetL w 163 8 zK (Roll.up l tier)):=by
 obtain ⟨lA,lc,rfl,hlc,hlm,hlA⟩:=hl.form
 refine zq (N:=29) func126 (Mem.ofDats (dc (dl hl) dn)) ?_
 refine (go 2) ?_
 refine yD (zK:Bucket→List Value) 163 8 ?_
 refine (go 6) ?_
 refine yF call93 wn rfl (fun w1 hM=>ub tier w1) ?_
 refine (go 10) (zW (fun h1=>?_) fun h1=>?_)
 ·refine (go 2) ?_
  refine yD (zK:Bucket→List Value) 163 8 ?_
  refine (go 5) (zX results126 fun w1 hM=>?_)
  exact hM.vp 0 rfl (by simp [Roll.up,h1])
 refine (go 4) ?_
 refine yD (zK:Bucket→List Value) 163 8 ?_
 refine (go 12) ?_
 refine va (fun (k:Nat) (vr:Value)=>[(5,iV (Roll.step tier)),(6,vr),(13,.slice lA l.length lc),(14,iV l.length),(15,iV k)]) (fun (k:Nat) (vr:Value)=>[Row vr 163 8 zK (Roll.ups (l.take k) (Roll.step tier)),Row (Zs) 163 8 zK ([]:List Bucket),slO (In w) 2 zQ (.slice lA l.length lc) l]) (fun (k:Nat) (vr:Value)=>k≤l.length) (fun (k:Nat) (vr:Value)=>l.length - k) 0 (Zs) (sc rfl (sc rfl (sc rfl (sc rfl (sc (ji qO) sn))))) (fun _ h=>h) ?_ (fun k vr hI1=>?_)
 ·omega
 have hlen:=Nat.le_trans (Roll.ups_len (l.take k) (Roll.step tier)) (List.length_take_le k l)
 refine yW 0 (l:=(Roll.ups (l.take k) (Roll.step tier))) rfl fun A1 cp1 hv1 hc1 hm1 hA1=>?_
 subst hv1
 refine (go 6) (zW (fun h2=>?_) fun h2=>?_)
 ·refine (go 6) ?_
  obtain ⟨ad1,s1,hd1,hs1⟩:=elx hlA k
  refine (go 2) (zw fun b8=>?_)
  refine (go 3) (vE 7 ?_)
  refine (go 6) ?_
  refine yQ wn rfl call67 rfl (fun w1 hM=>je s1.value w1) ?_
  refine (go 1) ?_
  refine vQ 1 (Roll.add (Roll.ups (l.take k) (Roll.step tier)) s1.time (Roll.step tier) (Agg.one s1.value)) rfl wn rfl call169 rfl (fun w1 hM=>c_add _ (Roll.ups (l.take k) (Roll.step tier)) s1.time (Roll.step tier) (Agg.one s1.value) w1 (hM.row (i:=1) rfl) (by first | assumption | omega | decide) (by first | assumption | omega | (simp only [List.length_cons,List.length_nil]; omega) | exact Nat.le_trans (Roll.up_len _ _) (by first | omega | simp))) fun A2 cp2 hc2 hm2 hA2=>?_
  refine (go 7) ?_
  refine zT (yd (k + 1) (.slice A2 ((Roll.add (Roll.ups (l.take k) (Roll.step tier)) s1.time (Roll.step tier) (Agg.one s1.value)).length) cp2) (sc rfl (sc rfl (sc rfl (sc rfl (sc (ji qO) sn))))) (fun _ h=>by rw [Roll.ups_succ l (Roll.step tier) k s1 hs1]; exact (h.sel [1,2,3] qD rfl)) ?_ ?_)
  ·omega
  omega
 refine (go 12) (zX results126 fun w1 hM=>?_)
 exact hM.vp 0 rfl (by rw [List.take_of_length_le qO]; simp [Roll.up,h1])
theorem c_Greater (lv:Value) (l:List Bucket) (w:World) (hl:zD (In w) 8 zK lv l w) (hl1:l.length≤1048576) :
    Calls prog 127 #[lv] w (RetL w 163 8 zK (Roll.greater l)):=by
 obtain ⟨lA,lc,rfl,hlc,hlm,hlA⟩:=hl.form
 refine zq (N:=20) func127 (Mem.ofDats (dc (dl hl) dn)) ?_
 refine (go 2) ?_
 refine yD (zK:Bucket→List Value) 163 8 ?_
 refine (go 5) ?_
 refine yD (zK:Bucket→List Value) 163 8 ?_
 refine (go 12) ?_
 refine va (fun (k:Nat) (vr:Value)=>[(3,vr),(6,.slice lA l.length lc),(7,iV l.length),(8,iV k)]) (fun (k:Nat) (vr:Value)=>[Row vr 163 8 zK (Roll.greater (l.take k)),Row (Zs) 163 8 zK ([]:List Bucket),slO (In w) 8 zK (.slice lA l.length lc) l]) (fun (k:Nat) (vr:Value)=>k≤l.length) (fun (k:Nat) (vr:Value)=>l.length - k) 0 (Zs) (sc rfl (sc rfl (sc rfl (sc (ji qO) sn)))) (fun _ h=>h) ?_ (fun k vr hI1=>?_)
 ·omega
 have hlen:=Nat.le_trans (Roll.greater_len (l.take k)) (List.length_take_le k l)
 refine yW 0 (l:=(Roll.greater (l.take k))) rfl fun A1 cp1 hv1 hc1 hm1 hA1=>?_
 subst hv1
 refine (go 6) (zW (fun h1=>?_) fun h1=>?_)
 ·refine (go 6) ?_
  obtain ⟨ad1,s1,hd1,hs1⟩:=elx hlA k
  refine (go 2) (zw fun b5=>?_)
  refine (go 9) ?_
  refine vQ 1 (Roll.add (Roll.greater (l.take k)) s1.at_ 60 s1.sum) rfl wn rfl call169 rfl (fun w1 hM=>c_add _ (Roll.greater (l.take k)) s1.at_ 60 s1.sum w1 (hM.row (i:=1) rfl) (by first | assumption | omega | decide) (by first | assumption | omega | (simp only [List.length_cons,List.length_nil]; omega) | exact Nat.le_trans (Roll.up_len _ _) (by first | omega | simp))) fun A2 cp2 hc2 hm2 hA2=>?_
  refine (go 7) ?_
  refine zT (yd (k + 1) (.slice A2 ((Roll.add (Roll.greater (l.take k)) s1.at_ 60 s1.sum).length) cp2) (sc rfl (sc rfl (sc rfl (sc (ji qO) sn)))) (fun _ h=>by rw [Roll.greater_succ l k s1 hs1]; exact (h.sel [1,2,3] qD rfl)) ?_ ?_)
  ·omega
  omega
 refine (go 12) (zX results127 fun w1 hM=>?_)
 exact hM.vp 0 rfl (by rw [List.take_of_length_le qO])
theorem uQ (lv:Value) (l:List Bucket) (frm:Int) (to:Int) (w:World) (hl:zD (In w) 8 zK lv l w)  :
    Calls prog 164 #[lv,iV frm,iV to] w (Ret w (.agg (sumE (Roll.of l frm to)).toArray)):=by
 obtain ⟨lA,lc,rfl,hlc,hlm,hlA⟩:=hl.form
 refine zq (N:=32) func164 (Mem.ofDats (dc (dl hl) dn)) ?_
 refine (go 2) (zw fun b6=>?_)
 refine (go 4) (zw fun b7=>?_)
 refine (go 11) ?_
 refine yJ (fun (k:Nat)=>[(1,iV frm),(2,iV to),(6,.pointer (some ⟨b6,0,none⟩)),(7,.pointer (some ⟨b7,0,none⟩)),(10,.slice lA l.length lc),(11,iV l.length),(12,iV k)]) (fun (k:Nat)=>[.blk b7 [iV ((Roll.of (l.take k) frm to).count),iV ((Roll.of (l.take k) frm to).total),iV ((Roll.of (l.take k) frm to).min),iV ((Roll.of (l.take k) frm to).max),iV ((Roll.of (l.take k) frm to).first),iV ((Roll.of (l.take k) frm to).last),iV ((Roll.of (l.take k) frm to).rise)] 89,.blk b6 [iV 0,iV 0,iV 0,iV 0,iV 0,iV 0,iV 0] 89,slO (In w) 8 zK (.slice lA l.length lc) l]) (fun (k:Nat)=>k≤l.length) (fun (k:Nat)=>l.length - k) 0 (sc rfl (sc rfl (sc rfl (sc rfl (sc rfl (sc rfl (sc (ji qO) sn))))))) (fun _ h=>h) ?_ (fun k hI1=>?_)
 ·omega
 refine (go 6) (zW (fun h1=>?_) fun h1=>?_)
 ·refine (go 6) ?_
  obtain ⟨ad1,s1,hd1,hs1⟩:=elx hlA k
  refine (go 2) (zw fun b9=>?_)
  refine (go 10) (yO 20 (fun h2=>?_) fun h2=>?_)
  ·refine (go 7) (zW (fun h3=>?_) fun h3=>?_)
   ·refine (go 4) ?_
    refine yF call66 wn rfl (fun w1 hM=>vY (Roll.of (l.take k) frm to) s1.sum w1) ?_
    refine (go 7) ?_
    have hst:=Roll.of_succ l frm to k s1 hs1
    rw [if_pos qO] at hst
    refine zT (zj (k + 1) (sc rfl (sc rfl (sc rfl (sc rfl (sc rfl (sc rfl (sc (ji qO) sn))))))) (fun _ h=>by rw [hst]; exact (h.sel [1,2,3] qD rfl)) ?_ ?_)
    ·omega
    omega
   refine (go 6) ?_
   have hst:=Roll.of_succ l frm to k s1 hs1
   rw [if_neg qO] at hst
   refine zT (zj (k + 1) (sc rfl (sc rfl (sc rfl (sc rfl (sc rfl (sc rfl (sc (ji qO) sn))))))) (fun _ h=>by rw [hst]; exact (h.sel [1,2,3] qD rfl)) ?_ ?_)
   ·omega
   omega
  refine (go 14) ?_
  have hst:=Roll.of_succ l frm to k s1 hs1
  rw [if_neg qO] at hst
  refine zT (zj (k + 1) (sc rfl (sc rfl (sc rfl (sc rfl (sc rfl (sc rfl (sc (ji qO) sn))))))) (fun _ h=>by rw [hst]; exact (h.sel [1,2,3] qD rfl)) ?_ ?_)
  ·omega
  omega
 refine (go 12) (zX results164 fun w1 hM=>?_)
 exact yp (l1:=[iV ((Roll.of (l.take k) frm to).count),iV ((Roll.of (l.take k) frm to).total),iV ((Roll.of (l.take k) frm to).min),iV ((Roll.of (l.take k) frm to).max),iV ((Roll.of (l.take k) frm to).first),iV ((Roll.of (l.take k) frm to).last),iV ((Roll.of (l.take k) frm to).rise)]) (by rw [List.take_of_length_le qO]) hM
theorem c_rollWrong (lv:Value) (l:List Bucket) (tier:Int) (w:World) (hl:zD (In w) 8 zK lv l w)  :
    Calls prog 44 #[lv,iV tier] w (Ret w (.agg (faultE (Roll.wrong l tier)).toArray)):=by
 obtain ⟨lA,lc,rfl,hlc,hlm,hlA⟩:=hl.form
 refine zq (N:=71) func44 (Mem.ofDats (dc (dl hl) dn)) ?_
 refine (go 2) (zw fun b4=>?_)
 refine (go 5) ?_
 refine yF call93 wn rfl (fun w1 hM=>ub tier w1) ?_
 refine (go 10) (zW (fun h1=>?_) fun h1=>?_)
 ·refine (go 8) (zX results44 fun w1 hM=>?_)
  exact yp (l1:=[iV 1,iV 0]) (by rw [Roll.wrong,if_pos qO]) hM
 refine (go 10) (zW (fun h2=>?_) fun h2=>?_)
 ·refine (go 8) (zX results44 fun w1 hM=>?_)
  exact yp (l1:=[iV 5,iV 0]) (by rw [Roll.wrong,if_neg qO,if_pos qO]) hM
 refine (go 11) ?_
 refine yJ (fun (k:Nat)=>[(0,.slice lA l.length lc),(4,.pointer (some ⟨b4,0,none⟩)),(5,iV (Roll.step tier)),(17,.slice lA l.length lc),(18,iV l.length),(19,iV k)]) (fun (k:Nat)=>[.blk b4 [iV 0,iV 0] 61,slO (In w) 8 zK (.slice lA l.length lc) l]) (fun (k:Nat)=>k≤l.length∧Roll.wrongFrom (Roll.step tier) 0 none l=Roll.wrongFrom (Roll.step tier) k (Roll.prevOf l k) (l.drop k)) (fun (k:Nat)=>l.length - k) 0 (sc rfl (sc rfl (sc rfl (sc rfl (sc rfl (sc (ji qO) sn)))))) (fun _ h=>h) ?_ (fun k hI1=>?_)
 ·exact ⟨by omega,Roll.wrong_start l _⟩
 refine (go 6) (zW (fun h3=>?_) fun h3=>?_)
 ·refine (go 7) ?_
  obtain ⟨ad1,s1,hd1,hs1⟩:=elx hlA k
  refine (go 2) (zw fun b7=>?_)
  refine (go 5) ?_
  refine yq [(0,.slice lA l.length lc),(4,.pointer (some ⟨b4,0,none⟩)),(5,iV (Roll.step tier)),(6,iV k),(7,.pointer (some ⟨b7,0,none⟩)),(17,.slice lA l.length lc),(18,iV l.length),(19,iV k),(51,.bool (decide ((s1.at_ < 0)∨((1000000 < s1.at_)∨(((Int.tmod s1.at_ (Roll.step tier))≠0)∨((s1.sum.count < 1)∨((Roll.step tier) < s1.sum.count)))))))] (Mem w no [.blk b7 [iV s1.at_,iV s1.sum.count,iV s1.sum.total,iV s1.sum.min,iV s1.sum.max,iV s1.sum.first,iV s1.sum.last,iV s1.sum.rise] 163,.blk b4 [iV 0,iV 0] 61,slO (In w) 8 zK (.slice lA l.length lc) l]) (fun _ hK16=>?_) ?_
  ·refine (go 5) (yO 27 (fun h4=>?_) fun h4=>?_)
   ·refine (go 24) ?_
    refine zT (zt hK16 (sc rfl (sc rfl (sc rfl (sc rfl (sc rfl (sc rfl (sc rfl (sc rfl (sc (jt (Or.inl h4)) sn))))))))) (fun _ h=>h))
   refine (go 5) (yO 32 (fun h5=>?_) fun h5=>?_)
   ·refine (go 19) ?_
    refine zT (zt hK16 (sc rfl (sc rfl (sc rfl (sc rfl (sc rfl (sc rfl (sc rfl (sc rfl (sc (jt (Or.inr (Or.inl h5))) sn))))))))) (fun _ h=>h))
   refine (go 3) ?_
   refine y6 (jG rfl rfl qO) ?_
   refine (go 3) (yO 39 (fun h6=>?_) fun h6=>?_)
   ·refine (go 12) ?_
    refine zT (zt hK16 (sc rfl (sc rfl (sc rfl (sc rfl (sc rfl (sc rfl (sc rfl (sc rfl (sc (jt (Or.inr (Or.inr (Or.inl h6)))) sn))))))))) (fun _ h=>h))
   refine (go 6) (yO 45 (fun h7=>?_) fun h7=>?_)
   ·refine (go 6) ?_
    refine zT (zt hK16 (sc rfl (sc rfl (sc rfl (sc rfl (sc rfl (sc rfl (sc rfl (sc rfl (sc (jt (Or.inr (Or.inr (Or.inr (Or.inl h7))))) sn))))))))) (fun _ h=>h))
   refine (go 6) ?_
   refine zT (zt hK16 (sc rfl (sc rfl (sc rfl (sc rfl (sc rfl (sc rfl (sc rfl (sc rfl (sc (jp (iff_or_right h4 (iff_or_right h5 (iff_or_right h6 (iff_or_right h7 Iff.rfl))))) sn))))))))) (fun _ h=>h))
  refine zW (fun h8=>?_) fun h8=>?_
  ·refine (go 14) (zX results44 fun w1 hM=>?_)
   exact yp (l1:=[iV 3,iV k]) (by rw [Roll.wrong,if_neg qO,if_neg qO,hI1.2,Roll.wrong_step hs1,if_pos (by unfold Roll.badB; omega)]) hM
  refine (go 7) (vh 56 (fun h9=>?_) fun h9=>?_)
  ·refine (go 3) ?_
   refine vt (yz (i:=(k - 1)) rfl hd1 rfl qO qI underlying48 inf163) ?_
   refine (go 1) ?_
   obtain ⟨s2,hs2⟩:=gx l ((k - 1))
   refine (go 7) (zW (fun h10=>?_) fun h10=>?_)
   ·refine (go 13) (zX results44 fun w1 hM=>?_)
    exact yp (l1:=[iV 2,iV k]) (by rw [Roll.wrong,if_neg qO,if_neg qO,hI1.2,Roll.wrong_step hs1,if_neg (by unfold Roll.badB; omega),if_pos (by rw [Roll.prevOf,if_neg qO,hs2]; simp [Roll.behind]; omega)]) hM
   refine (go 6) ?_
   refine zT (zj (k + 1) (sc rfl (sc rfl (sc rfl (sc rfl (sc rfl (sc (ji qO) sn)))))) (S9 [1,2]) ?_ ?_)
   ·exact ⟨by omega,by rw [hI1.2,Roll.wrong_step hs1,if_neg (by unfold Roll.badB; omega),if_neg (by rw [Roll.prevOf,if_neg qO,hs2]; simp [Roll.behind]; omega)]⟩
   omega
  refine (go 19) ?_
  refine zT (zj (k + 1) (sc rfl (sc rfl (sc rfl (sc rfl (sc rfl (sc (ji qO) sn)))))) (S9 [1,2]) ?_ ?_)
  ·exact ⟨by omega,by rw [hI1.2,Roll.wrong_step hs1,if_neg (by unfold Roll.badB; omega),if_neg (by rw [Roll.prevOf,if_pos qO]; simp [Roll.behind])]⟩
  omega
 refine (go 12) (zX results44 fun w1 hM=>?_)
 exact yp (l1:=[iV 0,iV 0]) (by rw [Roll.wrong,if_neg qO,if_neg qO,hI1.2,Roll.wrong_end qO]) hM
end
section
open Tryz
open Ex
attribute [local irreducible] WC WL WQ WE WS
set_option linter.unusedVariables false
set_option linter.unusedSimpArgs false
theorem vS (lv:Value) (l:List Sample) (w:World) (hl:zD (In w) 2 zQ lv l w)  :
    Calls prog 43 #[lv] w (Ret w (.agg (faultE (Codec.wrong l)).toArray)):=by
 obtain ⟨lA,lc,rfl,hlc,hlm,hlA⟩:=hl.form
 refine zq (N:=53) func43 (Mem.ofDats (dc (dl hl) dn)) ?_
 refine (go 2) (zw fun b2=>?_)
 refine (go 10) (zW (fun h1=>?_) fun h1=>?_)
 ·refine (go 8) (zX results43 fun w1 hM=>?_)
  exact yp (l1:=[iV 5,iV 0]) (by rw [Codec.wrong,if_pos qO]) hM
 refine (go 11) ?_
 refine yJ (fun (k:Nat)=>[(0,.slice lA l.length lc),(2,.pointer (some ⟨b2,0,none⟩)),(9,.slice lA l.length lc),(10,iV l.length),(11,iV k)]) (fun (k:Nat)=>[.blk b2 [iV 0,iV 0] 61,slO (In w) 2 zQ (.slice lA l.length lc) l]) (fun (k:Nat)=>k≤l.length∧Codec.wrongFrom 0 none l=Codec.wrongFrom k (Codec.prevOf l k) (l.drop k)) (fun (k:Nat)=>l.length - k) 0 (sc rfl (sc rfl (sc rfl (sc rfl (sc (ji qO) sn))))) (fun _ h=>h) ?_ (fun k hI1=>?_)
 ·exact ⟨by omega,Codec.wrong_start l⟩
 refine (go 6) (zW (fun h2=>?_) fun h2=>?_)
 ·refine (go 7) ?_
  obtain ⟨ad1,s1,hd1,hs1⟩:=elx hlA k
  refine (go 2) (zw fun b4=>?_)
  refine (go 5) ?_
  refine yq [(0,.slice lA l.length lc),(2,.pointer (some ⟨b2,0,none⟩)),(3,iV k),(4,.pointer (some ⟨b4,0,none⟩)),(9,.slice lA l.length lc),(10,iV l.length),(11,iV k),(33,.bool (decide ((s1.time < 0)∨((1000000 < s1.time)∨((s1.value < (-1000000000))∨(1000000000 < s1.value))))))] (Mem w no [.blk b4 [iV s1.time,iV s1.value] 41,.blk b2 [iV 0,iV 0] 61,slO (In w) 2 zQ (.slice lA l.length lc) l]) (fun _ hK12=>?_) ?_
  ·refine (go 5) (yO 19 (fun h3=>?_) fun h3=>?_)
   ·refine (go 14) ?_
    refine zT (zt hK12 (sc rfl (sc rfl (sc rfl (sc rfl (sc rfl (sc rfl (sc rfl (sc (jt (Or.inl h3)) sn)))))))) (fun _ h=>h))
   refine (go 5) (yO 24 (fun h4=>?_) fun h4=>?_)
   ·refine (go 9) ?_
    refine zT (zt hK12 (sc rfl (sc rfl (sc rfl (sc rfl (sc rfl (sc rfl (sc rfl (sc (jt (Or.inr (Or.inl h4))) sn)))))))) (fun _ h=>h))
   refine (go 5) (yO 29 (fun h5=>?_) fun h5=>?_)
   ·refine (go 4) ?_
    refine zT (zt hK12 (sc rfl (sc rfl (sc rfl (sc rfl (sc rfl (sc rfl (sc rfl (sc (jt (Or.inr (Or.inr (Or.inl h5)))) sn)))))))) (fun _ h=>h))
   refine (go 4) ?_
   refine zT (zt hK12 (sc rfl (sc rfl (sc rfl (sc rfl (sc rfl (sc rfl (sc rfl (sc (jp (iff_or_right h3 (iff_or_right h4 (iff_or_right h5 Iff.rfl)))) sn)))))))) (fun _ h=>h))
  refine zW (fun h6=>?_) fun h6=>?_
  ·refine (go 14) (zX results43 fun w1 hM=>?_)
   exact yp (l1:=[iV 3,iV k]) (by rw [Codec.wrong,if_neg qO,hI1.2,Codec.wrong_step hs1,if_pos (by unfold Codec.badRange; omega)]) hM
  refine (go 7) (vh 38 (fun h7=>?_) fun h7=>?_)
  ·refine (go 3) ?_
   refine vt (yz (i:=(k - 1)) rfl hd1 rfl qO qI underlying47 inf41) ?_
   refine (go 1) ?_
   obtain ⟨s2,hs2⟩:=gx l ((k - 1))
   refine (go 7) (zW (fun h8=>?_) fun h8=>?_)
   ·refine (go 13) (zX results43 fun w1 hM=>?_)
    exact yp (l1:=[iV 2,iV k]) (by rw [Codec.wrong,if_neg qO,hI1.2,Codec.wrong_step hs1,if_neg (by unfold Codec.badRange; omega),if_pos (by rw [Codec.prevOf,if_neg qO,hs2]; simp [Codec.notAhead]; omega)]) hM
   refine (go 6) ?_
   refine zT (zj (k + 1) (sc rfl (sc rfl (sc rfl (sc rfl (sc (ji qO) sn))))) (S9 [1,2]) ?_ ?_)
   ·exact ⟨by omega,by rw [hI1.2,Codec.wrong_step hs1,if_neg (by unfold Codec.badRange; omega),if_neg (by rw [Codec.prevOf,if_neg qO,hs2]; simp [Codec.notAhead]; omega)]⟩
   omega
  refine (go 19) ?_
  refine zT (zj (k + 1) (sc rfl (sc rfl (sc rfl (sc rfl (sc (ji qO) sn))))) (S9 [1,2]) ?_ ?_)
  ·exact ⟨by omega,by rw [hI1.2,Codec.wrong_step hs1,if_neg (by unfold Codec.badRange; omega),if_neg (by rw [Codec.prevOf,if_pos qO]; simp [Codec.notAhead])]⟩
  omega
 refine (go 12) (zX results43 fun w1 hM=>?_)
 exact yp (l1:=[iV 0,iV 0]) (by rw [Codec.wrong,if_neg qO,hI1.2,Codec.wrong_end qO]) hM
end
section
open Tryz
open Ex
attribute [local irreducible] WC WL WQ WE WS
set_option linter.unusedVariables false
set_option linter.unusedSimpArgs false
theorem c_within1 (x:Bucket) (fp:Nat) (f:Int) (tp:Nat) (t:Int) (w:World) (hfp:w.heap[fp]?=some (.cells [iV f].toArray 3 (0,0))) (htp:w.heap[tp]?=some (.cells [iV t].toArray 3 (0,0)))  :
    Calls prog 95 #[.agg (zK x).toArray,.pointer (some ⟨fp,0,none⟩),.pointer (some ⟨tp,0,none⟩)] w (Ret w (.bool (!decide (f≤x.at_∧x.at_ < t)))):=by
 refine zq (N:=15) func95 (Mem.ofDats (dc (ddb hfp) (dc (ddb htp) dn))) ?_
 refine (go 2) (yu fun b3=>?_)
 refine (go 10) (yO 9 (fun h1=>?_) fun h1=>?_)
 ·refine (go 9) (zX results95 fun w1 hM=>?_)
  exact zP (congrArg Value.bool (by rw [Bool.eq_iff_iff]; simp; omega)) hM
 refine (go 9) (zX results95 fun w1 hM=>?_)
 exact zP (congrArg Value.bool (by rw [Bool.eq_iff_iff]; simp; omega)) hM
theorem c_idxS (lv:Value) (l:List Sample) (f:Nat) (fcap:Array Value) (fp:Sample→Bool) (w:World) (hl:zD (In w) 2 zQ lv l w) (fc:∀ vs w,(callFunc f vs).run prog w=.ok (.enter f vs) w) (fh:∀ (x:Sample) (w1:World),Fr no w w1→Calls prog f (#[.agg (zQ x).toArray]++fcap) w1 (Ret w1 (.bool (fp x))))  :
    Calls prog 168 #[lv,.func (.func f) #[] fcap] w (Ret w (iV (Sh.idx fp l))):=by
 obtain ⟨lA,lc,rfl,hlc,hlm,hlA⟩:=hl.form
 refine zq (N:=19) func168 (Mem.ofDats (dc (dl hl) dn)) ?_
 refine (go 14) ?_
 refine yJ (fun (k:Nat)=>[(0,.slice lA l.length lc),(1,.func (.func f) #[] fcap),(7,iV l.length),(8,iV k)]) (fun (k:Nat)=>[slO (In w) 2 zQ (.slice lA l.length lc) l]) (fun (k:Nat)=>k≤l.length∧∀ y ∈ l.take k,fp y=false) (fun (k:Nat)=>l.length - k) 0 (sc rfl (sc rfl (sc rfl (sc (ji qO) sn)))) (fun _ h=>h) ?_ (fun k hI1=>?_)
 ·simp
 refine (go 6) (zW (fun h1=>?_) fun h1=>?_)
 ·refine (go 15) ?_
  obtain ⟨ad1,s1,hd1,hs1⟩:=elx hlA k
  refine (go 2) ?_
  refine vN wn rfl rfl fc rfl (fun w1 hM=>fh s1 w1 hM.fr) ?_
  refine (go 2) (yg (fun h2=>?_) fun h2=>?_)
  ·refine (go 12) (zX results168 fun w1 hM=>?_)
   exact zP (by rw [Sh.idx_at hI1.2 hs1 h2]) hM
  refine (go 6) ?_
  refine zT (zj (k + 1) (sc rfl (sc rfl (sc rfl (sc (ji qO) sn)))) (fun _ h=>h) ?_ ?_)
  ·exact ⟨by omega,Sh.none_step hI1.2 hs1 h2⟩
  omega
 refine (go 11) (zX results168 fun w1 hM=>?_)
 exact zP (by rw [Sh.idx_none hI1.2 qO]) hM
theorem c_idxB (lv:Value) (l:List Bucket) (f:Nat) (fcap:Array Value) (fp:Bucket→Bool) (w:World) (hl:zD (In w) 8 zK lv l w) (fc:∀ vs w,(callFunc f vs).run prog w=.ok (.enter f vs) w) (fh:∀ (x:Bucket) (w1:World),Fr no w w1→Calls prog f (#[.agg (zK x).toArray]++fcap) w1 (Ret w1 (.bool (fp x))))  :
    Calls prog 146 #[lv,.func (.func f) #[] fcap] w (Ret w (iV (Sh.idx fp l))):=by
 obtain ⟨lA,lc,rfl,hlc,hlm,hlA⟩:=hl.form
 refine zq (N:=19) func146 (Mem.ofDats (dc (dl hl) dn)) ?_
 refine (go 14) ?_
 refine yJ (fun (k:Nat)=>[(0,.slice lA l.length lc),(1,.func (.func f) #[] fcap),(7,iV l.length),(8,iV k)]) (fun (k:Nat)=>[slO (In w) 8 zK (.slice lA l.length lc) l]) (fun (k:Nat)=>k≤l.length∧∀ y ∈ l.take k,fp y=false) (fun (k:Nat)=>l.length - k) 0 (sc rfl (sc rfl (sc rfl (sc (ji qO) sn)))) (fun _ h=>h) ?_ (fun k hI1=>?_)
 ·simp
 refine (go 6) (zW (fun h1=>?_) fun h1=>?_)
 ·refine (go 15) ?_
  obtain ⟨ad1,s1,hd1,hs1⟩:=elx hlA k
  refine (go 2) ?_
  refine vN wn rfl rfl fc rfl (fun w1 hM=>fh s1 w1 hM.fr) ?_
  refine (go 2) (yg (fun h2=>?_) fun h2=>?_)
  ·refine (go 12) (zX results146 fun w1 hM=>?_)
   exact zP (by rw [Sh.idx_at hI1.2 hs1 h2]) hM
  refine (go 6) ?_
  refine zT (zj (k + 1) (sc rfl (sc rfl (sc rfl (sc (ji qO) sn)))) (fun _ h=>h) ?_ ?_)
  ·exact ⟨by omega,Sh.none_step hI1.2 hs1 h2⟩
  omega
 refine (go 11) (zX results146 fun w1 hM=>?_)
 exact zP (by rw [Sh.idx_none hI1.2 qO]) hM
theorem c_delS (lv:Value) (l:List Sample) (f:Nat) (fcap:Array Value) (fp:Sample→Bool) (w:World) (hl:w.ownsRow 0 41 2 lv l.length (l.flatMap zQ)) (fc:∀ vs w,(callFunc f vs).run prog w=.ok (.enter f vs) w) (fh:∀ (x:Sample) (w1:World),Fr (fun b=>lv.ownBlock=some b) w w1→Calls prog f (#[.agg (zQ x).toArray]++fcap) w1 (Ret w1 (.bool (fp x))))  :
    Calls prog 122 #[lv,.func (.func f) #[] fcap] w (RetU w lv 41 2 zQ (l.filter fun x=>!fp x)):=by
 refine zq (N:=42) func122 (Mem.ownArg hl) (yW 0 (l:=l) rfl fun A0 cp0 hv0 hc0 hm0 hA0=>?_)
 subst hv0
 refine (go 9) ?_
 refine yF call168 wn rfl (fun w1 hM=>c_idxS _ l f fcap fp w1 (RowSl encSample hM 0 rfl) fc (fun x w2 h2=>fh x w2 (hM.fr.trans h2 (fun _ _ h=>h.elim)))) ?_
 refine (go 10) (zW (fun h1=>?_) fun h1=>?_)
 ·refine (go 8) (zX results122 fun w1 hM=>?_)
  exact hM.uo 0 rfl ((List.filter_eq_self.2 fun y hy=>by rcases Sh.idx_cases fp l with h | ⟨i,x,h,_⟩; exact (by simp [h.2 y hy]); omega).symm)
 obtain ⟨ni,⟨n,xn,hi,hxn,hpn,hnn⟩⟩:Sh.idx fp l≠-1∧∃ (i:Nat) (x:Sample),Sh.idx fp l=(i:Int)∧l[i]?=some x∧fp x=true∧∀ y ∈ l.take i,fp y=false:=⟨h1,(Sh.idx_cases fp l).resolve_left (fun e=>h1 e.1)⟩
 have hnl:=(List.getElem?_eq_some_iff.1 hxn).1
 refine (go 11) ?_
 refine vO (fun (i:Nat) (j:Nat) (r:List Sample) (vr:Value)=>[(0,vr),(1,.func (.func f) #[] fcap),(5,iV i),(6,iV j)]) (fun (i:Nat) (j:Nat) (r:List Sample) (vr:Value)=>[Row vr 41 2 zQ r]) (fun (i:Nat) (j:Nat) (r:List Sample) (vr:Value)=>Sh.Del fp l r i j) (fun (i:Nat) (j:Nat) (r:List Sample) (vr:Value)=>l.length - j) n (n + 1) l (.slice A0 l.length cp0) (sc rfl (sc rfl (sc (ji qO) (sc (ji qO) sn)))) (fun _ h=>h) ?_ (fun i j r vr hI1=>?_)
 ·exact Sh.Del.start hxn hpn hnn
 have hlt:=hI1.lt
 have hle:=hI1.le
 have hlen:=hI1.len
 refine yW 0 (l:=r) rfl fun A1 cp1 hv1 hc1 hm1 hA1=>?_
 subst hv1
 refine (go 9) (zW (fun h2=>?_) fun h2=>?_)
 ·refine (go 8) ?_
  obtain ⟨ad1,s1,hd1,hs1⟩:=elx hA1 j
  refine (go 1) ?_
  refine za (uO 0 [iV s1.time,iV s1.value] encSample rfl rfl hd1 hs1 rfl rfl agg41 inf41) (zw fun b7=>?_)
  refine (go 7) ?_
  refine vN wn rfl rfl fc rfl (fun w1 hM=>fh s1 w1 hM.fr) (za (yE rfl) ?_)
  refine (go 2) (yg (fun h3=>?_) fun h3=>?_)
  ·refine (go 6) ?_
   obtain ⟨s2,hs2⟩:=gx r i
   refine uF 1 (vs:=[iV s1.time,iV s1.value]) s1 encSample wn rfl rfl rfl rfl hd1 hs2 inf41 rfl rfl rfl rfl ?_
   refine (go 13) ?_
   refine zT (yb (i + 1) (j + 1) (r.set i s1) (.slice A1 r.length cp1) (sc rfl (sc rfl (sc (ji qO) (sc (ji qO) sn)))) (S9 [1]) ?_ ?_)
   ·exact hI1.keep hs1 (by simpa using h3)
   omega
  refine (go 7) ?_
  refine zT (yb i (j + 1) r (.slice A1 r.length cp1) (sc rfl (sc rfl (sc rfl (sc (ji qO) sn)))) (S9 [1]) ?_ ?_)
  ·exact hI1.drop hs1 (by simpa using h3)
  omega
 refine (go 9) ?_
 refine za (jK (lo:=i) (hi:=r.length) rfl (lo1 rfl qO) hi0 qI qI qI underlying47 inf41) ?_
 obtain ⟨ad2,hd2⟩:=hA1 (ne_nil (i:=i) qI)
 refine l_clear 0 (lo:=i) encSample wn rfl rfl hd2 underlying47 inf41 rfl rfl qI ?_
 refine (go 6) ?_
 refine za (r_take (hi:=i) (r.take i) rfl (hi1 rfl qO) qI qI (by simp only [List.length_take]; omega) underlying47 inf41) ?_
 refine (go 4) (zX results122 fun w1 hM=>?_)
 exact hM.uo 0 rfl (hI1.done qO)
theorem uc (lv:Value) (l:List Bucket) (f:Nat) (fcap:Array Value) (fp:Bucket→Bool) (w:World) (hl:w.ownsRow 0 163 8 lv l.length (l.flatMap zK)) (fc:∀ vs w,(callFunc f vs).run prog w=.ok (.enter f vs) w) (fh:∀ (x:Bucket) (w1:World),Fr (fun b=>lv.ownBlock=some b) w w1→Calls prog f (#[.agg (zK x).toArray]++fcap) w1 (Ret w1 (.bool (fp x))))  :
    Calls prog 125 #[lv,.func (.func f) #[] fcap] w (RetU w lv 163 8 zK (l.filter fun x=>!fp x)):=by
 refine zq (N:=42) func125 (Mem.ownArg hl) (yW 0 (l:=l) rfl fun A0 cp0 hv0 hc0 hm0 hA0=>?_)
 subst hv0
 refine (go 9) ?_
 refine yF call146 wn rfl (fun w1 hM=>c_idxB _ l f fcap fp w1 (RowSl encBucket hM 0 rfl) fc (fun x w2 h2=>fh x w2 (hM.fr.trans h2 (fun _ _ h=>h.elim)))) ?_
 refine (go 10) (zW (fun h1=>?_) fun h1=>?_)
 ·refine (go 8) (zX results125 fun w1 hM=>?_)
  exact hM.uo 0 rfl ((List.filter_eq_self.2 fun y hy=>by rcases Sh.idx_cases fp l with h | ⟨i,x,h,_⟩; exact (by simp [h.2 y hy]); omega).symm)
 obtain ⟨ni,⟨n,xn,hi,hxn,hpn,hnn⟩⟩:Sh.idx fp l≠-1∧∃ (i:Nat) (x:Bucket),Sh.idx fp l=(i:Int)∧l[i]?=some x∧fp x=true∧∀ y ∈ l.take i,fp y=false:=⟨h1,(Sh.idx_cases fp l).resolve_left (fun e=>h1 e.1)⟩
 have hnl:=(List.getElem?_eq_some_iff.1 hxn).1
 refine (go 11) ?_
 refine vO (fun (i:Nat) (j:Nat) (r:List Bucket) (vr:Value)=>[(0,vr),(1,.func (.func f) #[] fcap),(5,iV i),(6,iV j)]) (fun (i:Nat) (j:Nat) (r:List Bucket) (vr:Value)=>[Row vr 163 8 zK r]) (fun (i:Nat) (j:Nat) (r:List Bucket) (vr:Value)=>Sh.Del fp l r i j) (fun (i:Nat) (j:Nat) (r:List Bucket) (vr:Value)=>l.length - j) n (n + 1) l (.slice A0 l.length cp0) (sc rfl (sc rfl (sc (ji qO) (sc (ji qO) sn)))) (fun _ h=>h) ?_ (fun i j r vr hI1=>?_)
 ·exact Sh.Del.start hxn hpn hnn
 have hlt:=hI1.lt
 have hle:=hI1.le
 have hlen:=hI1.len
 refine yW 0 (l:=r) rfl fun A1 cp1 hv1 hc1 hm1 hA1=>?_
 subst hv1
 refine (go 9) (zW (fun h2=>?_) fun h2=>?_)
 ·refine (go 8) ?_
  obtain ⟨ad1,s1,hd1,hs1⟩:=elx hA1 j
  refine (go 1) ?_
  refine za (uO 0 [iV s1.at_,iV s1.sum.count,iV s1.sum.total,iV s1.sum.min,iV s1.sum.max,iV s1.sum.first,iV s1.sum.last,iV s1.sum.rise] encBucket rfl rfl hd1 hs1 rfl rfl agg163 inf163) (zw fun b7=>?_)
  refine (go 7) ?_
  refine vN wn rfl rfl fc rfl (fun w1 hM=>fh s1 w1 hM.fr) (za (yE rfl) ?_)
  refine (go 2) (yg (fun h3=>?_) fun h3=>?_)
  ·refine (go 6) ?_
   obtain ⟨s2,hs2⟩:=gx r i
   refine uF 1 (vs:=[iV s1.at_,iV s1.sum.count,iV s1.sum.total,iV s1.sum.min,iV s1.sum.max,iV s1.sum.first,iV s1.sum.last,iV s1.sum.rise]) s1 encBucket wn rfl rfl rfl rfl hd1 hs2 inf163 rfl rfl rfl rfl ?_
   refine (go 13) ?_
   refine zT (yb (i + 1) (j + 1) (r.set i s1) (.slice A1 r.length cp1) (sc rfl (sc rfl (sc (ji qO) (sc (ji qO) sn)))) (S9 [1]) ?_ ?_)
   ·exact hI1.keep hs1 (by simpa using h3)
   omega
  refine (go 7) ?_
  refine zT (yb i (j + 1) r (.slice A1 r.length cp1) (sc rfl (sc rfl (sc rfl (sc (ji qO) sn)))) (S9 [1]) ?_ ?_)
  ·exact hI1.drop hs1 (by simpa using h3)
  omega
 refine (go 9) ?_
 refine za (jK (lo:=i) (hi:=r.length) rfl (lo1 rfl qO) hi0 qI qI qI underlying48 inf163) ?_
 obtain ⟨ad2,hd2⟩:=hA1 (ne_nil (i:=i) qI)
 refine l_clear 0 (lo:=i) encBucket wn rfl rfl hd2 underlying48 inf163 rfl rfl qI ?_
 refine (go 6) ?_
 refine za (r_take (hi:=i) (r.take i) rfl (hi1 rfl qO) qI qI (by simp only [List.length_take]; omega) underlying48 inf163) ?_
 refine (go 4) (zX results125 fun w1 hM=>?_)
 exact hM.uo 0 rfl (hI1.done qO)
theorem c_contB (lv:Value) (l:List Bucket) (f:Nat) (fcap:Array Value) (fp:Bucket→Bool) (w:World) (hl:zD (In w) 8 zK lv l w) (fc:∀ vs w,(callFunc f vs).run prog w=.ok (.enter f vs) w) (fh:∀ (x:Bucket) (w1:World),Fr no w w1→Calls prog f (#[.agg (zK x).toArray]++fcap) w1 (Ret w1 (.bool (fp x))))  :
    Calls prog 94 #[lv,.func (.func f) #[] fcap] w (Ret w (.bool (l.any fp))):=by
 obtain ⟨lA,lc,rfl,hlc,hlm,hlA⟩:=hl.form
 refine zq (N:=9) func94 (Mem.ofDats (dc (dl hl) dn)) ?_
 refine (go 9) ?_
 refine yF call146 wn rfl (fun w1 hM=>c_idxB _ l f fcap fp w1 (hM.sl 0 rfl) fc (fun x w2 h2=>fh x w2 (hM.fr.trans h2 (fun _ _ h=>h)))) ?_
 refine (go 5) (zX results94 fun w1 hM=>?_)
 exact zP (congrArg Value.bool (by rw [Bool.eq_iff_iff,decide_eq_true_iff]; exact Sh.idx_any)) hM
theorem uR (lv:Value) (l:List Bucket) (f:Int) (t:Int) (w:World) (hl:zD (In w) 8 zK lv l w)  :
    Calls prog 46 #[lv,iV f,iV t] w (Ret w (.bool (Sh.within l f t))):=by
 obtain ⟨lA,lc,rfl,hlc,hlm,hlA⟩:=hl.form
 refine zq (N:=11) func46 (Mem.ofDats (dc (dl hl) dn)) ?_
 refine (go 2) (jl fun b4=>jl fun b5=>?_)
 refine (go 6) ?_
 refine za (yj rfl rfl) (yF call94 wn rfl (fun w1 hM=>c_contB _ l 95 #[.pointer (some ⟨b4,0,none⟩),.pointer (some ⟨b5,0,none⟩)] (fun x=>!decide (f≤x.at_∧x.at_ < t)) w1 (hM.sl 2 rfl) call95 (fun x w2 h2=>by simpa using c_within1 x b4 f b5 t w2 (hM.blkKeep (i:=1) rfl h2) (hM.blkKeep (i:=0) rfl h2))) (za (yE rfl) ?_))
 refine (go 4) (zX results46 fun w1 hM=>?_)
 exact zP (congrArg Value.bool (by rw [Sh.within,List.all_eq_not_any_not])) hM
theorem c_times (zp:Nat) (z0:Value) (z1:Value) (z2:Value) (z3:Value) (z:Shelf) (w:World) (hzp:w.heap[zp]?=some (.cells [z0,z1,z2,z3,iV z.zU,iV z.zL,iV z.zE,iV z.zH,iV z.zF].toArray 50 (0,0)))  :
    Calls prog 45 #[.pointer (some ⟨zp,0,none⟩)] w (Ret w (.bool (decide (Sh.times z)))):=by
 refine zq (N:=99) func45 (Mem.ofDats (dc (ddb hzp) dn)) ?_
 refine (go 7) ?_
 refine yM (Mem w no [datB zp [z0,z1,z2,z3,iV z.zU,iV z.zL,iV z.zE,iV z.zH,iV z.zF] 50]) mix (fun _ h=>h.drew) rfl (uG (f:=2) [0,1,2,3,4,5,6,7,8,9,10,11,12,13,14,15,16,17,20] rfl rfl (by kernel_rfl) (by kernel_rfl) (fun _ h=>h) fun KS hKS=>?_)
 refine (go 19) ?_
 refine zi hKS (zf 1 18 (zh (i:=18) rfl fun KN hKN=>zy triE ([(⟨z.zL,z.zE,10⟩:Tri),(⟨z.zH,z.zF,60⟩:Tri)]:List Tri) wn underlying165 inf164 rfl rfl rfl rfl qD qD rfl fun b23=>?_))
 refine (go 1) ?_
 refine hKN _ _ (S9 [1]) (yN 0 [19] [1] rfl fun KS hKS=>?_)
 refine (go 1) ?_
 refine zi hKS ?_
 refine zz (by kernel_rfl) ((go 1) ?_)
 refine (go 1) ?_
 refine yJ (fun (k:Nat)=>[(0,.pointer (some ⟨zp,0,none⟩)),(23,.slice (some ⟨b23,0,none⟩) 2 2),(24,iV 2),(25,iV k)]) (fun (k:Nat)=>[Row (.slice (some ⟨b23,0,none⟩) 2 2) 164 3 triE ([(⟨z.zL,z.zE,10⟩:Tri),(⟨z.zH,z.zF,60⟩:Tri)]:List Tri),datB zp [z0,z1,z2,z3,iV z.zU,iV z.zL,iV z.zE,iV z.zH,iV z.zF] 50]) (fun (k:Nat)=>k≤2∧∀ (j:Nat) (y:Tri),j < k→[(⟨z.zL,z.zE,10⟩:Tri),(⟨z.zH,z.zF,60⟩:Tri)][j]?=some y→¬ Sh.badT y) (fun (k:Nat)=>2 - k) 0 (sc rfl (sc rfl (sc rfl (sc (ji qO) sn)))) (fun _ h=>h) ?_ (fun k hI1=>?_)
 ·exact ⟨by omega,fun j y h=>absurd h (Nat.not_lt_zero j)⟩
 refine (go 6) (zW (fun h1=>?_) fun h1=>?_)
 ·refine (go 7) ?_
  obtain ⟨s1,hs1⟩:=gx ([(⟨z.zL,z.zE,10⟩:Tri),(⟨z.zH,z.zF,60⟩:Tri)]:List Tri) k
  have hsc:0 < s1.c:=by rcases Sh.two hs1 with e | e <;> rw [e] <;> simp
  refine za (uO 0 [iV s1.a,iV s1.b,iV s1.c] encTri rfl rfl rfl hs1 rfl rfl agg164 inf164) (zw fun b4=>?_)
  refine (go 9) (yO 32 (fun h2=>?_) fun h2=>?_)
  ·refine (go 41) (zX results45 fun w1 hM=>?_)
   have hb:Sh.badT s1:=by unfold Sh.badT; omega
   exact zP (congrArg Value.bool (decide_eq_false (fun h=>by rcases Sh.two hs1 with e | e <;> rw [e] at hb <;> first | exact h.1.1 hb | exact h.1.2 hb)).symm) hM
  refine (go 7) (yO 39 (fun h3=>?_) fun h3=>?_)
  ·refine (go 34) (zX results45 fun w1 hM=>?_)
   have hb:Sh.badT s1:=by unfold Sh.badT; omega
   exact zP (congrArg Value.bool (decide_eq_false (fun h=>by rcases Sh.two hs1 with e | e <;> rw [e] at hb <;> first | exact h.1.1 hb | exact h.1.2 hb)).symm) hM
  refine (go 5) (yO 44 (fun h4=>?_) fun h4=>?_)
  ·refine (go 29) (zX results45 fun w1 hM=>?_)
   have hb:Sh.badT s1:=by unfold Sh.badT; omega
   exact zP (congrArg Value.bool (decide_eq_false (fun h=>by rcases Sh.two hs1 with e | e <;> rw [e] at hb <;> first | exact h.1.1 hb | exact h.1.2 hb)).symm) hM
  refine (go 8) (yO 52 (fun h5=>?_) fun h5=>?_)
  ·refine (go 21) (zX results45 fun w1 hM=>?_)
   have hb:Sh.badT s1:=by unfold Sh.badT; omega
   exact zP (congrArg Value.bool (decide_eq_false (fun h=>by rcases Sh.two hs1 with e | e <;> rw [e] at hb <;> first | exact h.1.1 hb | exact h.1.2 hb)).symm) hM
  refine (go 9) (zW (fun h6=>?_) fun h6=>?_)
  ·refine (go 11) (zX results45 fun w1 hM=>?_)
   have hb:Sh.badT s1:=by unfold Sh.badT; omega
   exact zP (congrArg Value.bool (decide_eq_false (fun h=>by rcases Sh.two hs1 with e | e <;> rw [e] at hb <;> first | exact h.1.1 hb | exact h.1.2 hb)).symm) hM
  refine (go 6) ?_
  refine zT (zj (k + 1) (sc rfl (sc rfl (sc rfl (sc (ji qO) sn)))) (S9 [1,2]) ?_ ?_)
  ·refine ⟨by omega,fun j y hj hy=>?_⟩
   rcases Nat.lt_or_ge j k with h | h
   ·exact hI1.2 j y h hy
   obtain rfl:j=k:=qO
   obtain rfl:s1=y:=Option.some.inj (hs1.symm.trans hy)
   unfold Sh.badT; omega
  omega
 refine (go 13) (vh 66 (fun h7=>?_) fun h7=>?_)
 ·refine (go 11) (vh 77 (fun h8=>?_) fun h8=>?_)
  ·refine (go 11) (vh 88 (fun h9=>?_) fun h9=>?_)
   ·refine (go 14) (zX results45 fun w1 hM=>?_)
    have hAB:¬ Sh.badT ⟨z.zL,z.zE,10⟩∧¬ Sh.badT ⟨z.zH,z.zF,60⟩:=⟨hI1.2 0 _ qO rfl,hI1.2 1 _ qO rfl⟩
    exact zP (congrArg Value.bool (decide_eq_decide.2 (by rw [Sh.times,and_iff_right hAB]; omega))) hM
   refine (go 14) (zX results45 fun w1 hM=>?_)
   have hAB:¬ Sh.badT ⟨z.zL,z.zE,10⟩∧¬ Sh.badT ⟨z.zH,z.zF,60⟩:=⟨hI1.2 0 _ qO rfl,hI1.2 1 _ qO rfl⟩
   exact zP (congrArg Value.bool (decide_eq_false (fun h=>by have:=h.2; omega)).symm) hM
  refine (go 25) (zX results45 fun w1 hM=>?_)
  have hAB:¬ Sh.badT ⟨z.zL,z.zE,10⟩∧¬ Sh.badT ⟨z.zH,z.zF,60⟩:=⟨hI1.2 0 _ qO rfl,hI1.2 1 _ qO rfl⟩
  exact zP (congrArg Value.bool (decide_eq_false (fun h=>by have:=h.2; omega)).symm) hM
 refine (go 36) (zX results45 fun w1 hM=>?_)
 have hAB:¬ Sh.badT ⟨z.zL,z.zE,10⟩∧¬ Sh.badT ⟨z.zH,z.zF,60⟩:=⟨hI1.2 0 _ qO rfl,hI1.2 1 _ qO rfl⟩
 exact zP (congrArg Value.bool (decide_eq_false (fun h=>by have:=h.2; omega)).symm) hM
set_option maxHeartbeats 2000000 in
theorem vi (z0:Value) (z1:Value) (z2:Value) (z3:Value) (z:Shelf) (P0:Nat→Prop) (w:World) (hP0:∀ b,P0 b→b < w.heap.size) (hz0:zD P0 2 zS z0 z.zJ w) (hz1:zD P0 2 zQ z1 z.raw w) (hz2:zD P0 8 zK z2 z.fine w) (hz3:zD P0 8 zK z3 z.coarse w)  :
    Calls prog 21 #[.agg (List.toArray [z0,z1,z2,z3,iV z.zU,iV z.zL,iV z.zE,iV z.zH,iV z.zF])] w (Ret w (iV (Sh.wrong z))):=by
 obtain ⟨z0A,z0c,rfl,hz0c,hz0m,hz0A⟩:=hz0.form
 obtain ⟨z1A,z1c,rfl,hz1c,hz1m,hz1A⟩:=hz1.form
 obtain ⟨z2A,z2c,rfl,hz2c,hz2m,hz2A⟩:=hz2.form
 obtain ⟨z3A,z3c,rfl,hz3c,hz3m,hz3A⟩:=hz3.form
 refine zq (N:=75) func21 (Mem.ofDatsP hP0 (dc (dlp hz0) (dc (dlp hz1) (dc (dlp hz2) (dc (dlp hz3) dn))))) ?_
 refine (go 2) (yu fun b1=>?_)
 refine (go 8) ?_
 refine yF call42 wn rfl (fun w1 hM=>c_namesWrong _ z.zJ w1 (hM.slp 1 rfl)) ?_
 refine (go 9) (zW (fun h1=>?_) fun h1=>?_)
 ·refine (go 8) (zX results21 fun w1 hM=>?_)
  exact zP (congrArg (Value.int .i64) (by rw [Sh.wrong,if_pos h1])) hM
 refine (go 7) ?_
 refine yF call43 wn rfl (fun w1 hM=>vS _ z.raw w1 (hM.slp 2 rfl)) (zw fun b4=>?_)
 refine (go 10) (zW (fun h2=>?_) fun h2=>?_)
 ·refine (go 9) (zX results21 fun w1 hM=>?_)
  exact zP (congrArg (Value.int .i64) (by rw [Sh.wrong,if_neg h1,if_pos h2])) hM
 refine (go 7) ?_
 refine yF call44 wn rfl (fun w1 hM=>c_rollWrong _ z.fine 1 w1 (hM.slp 4 rfl)) (zw fun b5=>?_)
 refine (go 10) (zW (fun h3=>?_) fun h3=>?_)
 ·refine (go 9) (zX results21 fun w1 hM=>?_)
  exact zP (congrArg (Value.int .i64) (by rw [Sh.wrong,if_neg h1,if_neg h2,if_pos h3])) hM
 refine (go 7) ?_
 refine yF call44 wn rfl (fun w1 hM=>c_rollWrong _ z.coarse 2 w1 (hM.slp 6 rfl)) (zw fun b6=>?_)
 refine (go 10) (zW (fun h4=>?_) fun h4=>?_)
 ·refine (go 9) (zX results21 fun w1 hM=>?_)
  exact zP (congrArg (Value.int .i64) (by rw [Sh.wrong,if_neg h1,if_neg h2,if_neg h3,if_pos h4])) hM
 refine (go 5) ?_
 refine yQ wn rfl call45 rfl (fun w1 hM=>c_times b1 _ _ _ _ z w1 (hM.blk (i:=3) rfl)) ?_
 refine (go 2) (vh 39 (fun h5=>?_) fun h5=>?_)
 ·refine (go 45) (zX results21 fun w1 hM=>?_)
  exact zP (congrArg (Value.int .i64) (by rw [Sh.wrong_end h1 h2 h3 h4,if_neg (fun h=>h5 h.1)])) hM
 refine (go 5) (vh 44 (fun h6=>?_) fun h6=>?_)
 ·refine (go 2) ?_
  obtain ⟨ad1,s1,hd1,hs1⟩:=elx hz1A 0
  refine (go 9) (vh 55 (fun h7=>?_) fun h7=>?_)
  ·refine (go 29) (zX results21 fun w1 hM=>?_)
   exact zP (congrArg (Value.int .i64) (by rw [Sh.wrong_end h1 h2 h3 h4,if_neg (fun h=>absurd ((Sh.headOk_some hs1).symm.trans h.2.1) (by simp; omega))])) hM
  refine (go 6) ?_
  refine yQ (wg rfl rfl rfl) rfl call46 rfl (fun w1 hM=>uR _ z.fine z.zL z.zE w1 (hM.slp 6 rfl)) (vt (yE rfl) ?_)
  refine (go 2) (jy 65 (fun h8=>?_) fun h8=>?_)
  ·refine (go 19) (zX results21 fun w1 hM=>?_)
   exact zP (congrArg (Value.int .i64) (by rw [Sh.wrong_end h1 h2 h3 h4,if_neg (fun h=>by have:=h.2.2.1; simp [this] at h8)])) hM
  refine (go 6) ?_
  refine yQ (wg rfl rfl rfl) rfl call46 rfl (fun w1 hM=>uR _ z.coarse z.zH z.zF w1 (hM.slp 7 rfl)) (vt (yE rfl) ?_)
  refine (go 3) (yg (fun h9=>?_) fun h9=>?_)
  ·refine (go 7) (zX results21 fun w1 hM=>?_)
   exact zP (congrArg (Value.int .i64) (by rw [Sh.wrong_end h1 h2 h3 h4,if_neg (fun h=>by have:=h.2.2.2; simp [this] at h9)])) hM
  refine (go 8) (zX results21 fun w1 hM=>?_)
  exact zP (congrArg (Value.int .i64) (by rw [Sh.wrong_end h1 h2 h3 h4,if_pos ⟨Classical.not_not.1 h5,(Sh.headOk_some hs1).trans (decide_eq_true qO),by simpa using h8,by simpa using h9⟩])) hM
 refine (go 17) ?_
 refine yQ (wg rfl rfl rfl) rfl call46 rfl (fun w1 hM=>uR _ z.fine z.zL z.zE w1 (hM.slp 6 rfl)) (vt (yE rfl) ?_)
 refine (go 2) (jy 65 (fun h10=>?_) fun h10=>?_)
 ·refine (go 19) (zX results21 fun w1 hM=>?_)
  exact zP (congrArg (Value.int .i64) (by rw [Sh.wrong_end h1 h2 h3 h4,if_neg (fun h=>by have:=h.2.2.1; simp [this] at h10)])) hM
 refine (go 6) ?_
 refine yQ (wg rfl rfl rfl) rfl call46 rfl (fun w1 hM=>uR _ z.coarse z.zH z.zF w1 (hM.slp 7 rfl)) (vt (yE rfl) ?_)
 refine (go 3) (yg (fun h11=>?_) fun h11=>?_)
 ·refine (go 7) (zX results21 fun w1 hM=>?_)
  exact zP (congrArg (Value.int .i64) (by rw [Sh.wrong_end h1 h2 h3 h4,if_neg (fun h=>by have:=h.2.2.2; simp [this] at h11)])) hM
 refine (go 8) (zX results21 fun w1 hM=>?_)
 exact zP (congrArg (Value.int .i64) (by rw [Sh.wrong_end h1 h2 h3 h4,if_pos ⟨Classical.not_not.1 h5,Sh.headOk_none h6,by simpa using h10,by simpa using h11⟩])) hM
end
section
open Tryz
open Ex
attribute [local irreducible] WC WL WQ WE WS
set_option linter.unusedVariables false
set_option linter.unusedSimpArgs false
theorem vT (lv:Value) (l:List Label) (w:World) (hl:zD (In w) 2 zS lv l w) (hl1:l.length≤1048576) :
    Calls prog 61 #[lv] w (RetL w 74 2 zS l):=by
 obtain ⟨lA,lc,rfl,hlc,hlm,hlA⟩:=hl.form
 refine zq (N:=8) func61 (Mem.ofDats (dc (dl hl) dn)) ?_
 refine (go 9) ?_
 refine za (u7 rfl rfl underlying39) ?_
 refine (go 2) (yg (fun h1=>?_) fun h1=>?_)
 ·refine (go 7) (zX results61 fun w1 hM=>?_)
  have hM:=hM.vW Label 74 2 zS
  exact hM.vp 0 rfl (Sh.isNone_nil hlA h1)
 refine (go 4) ?_
 refine u6 zS wn underlying39 inf74 rfl fun b5=>?_
 refine (go 1) ?_
 refine yH 0 ([]:List Label) l encLabel wn rfl rfl rfl (fun _ hM=>(hM.sl 1 rfl)) underlying39 inf74 rfl rfl (by simp only [qL]; omega) rfl fun A1 cp1 hc1 hm1 hA1=>?_
 refine (go 4) (zX results61 fun w1 hM=>?_)
 exact hM.vp 0 rfl rfl
theorem c_cloneSample (lv:Value) (l:List Sample) (w:World) (hl:zD (In w) 2 zQ lv l w) (hl1:l.length≤1048576) :
    Calls prog 166 #[lv] w (RetL w 41 2 zQ l):=by
 obtain ⟨lA,lc,rfl,hlc,hlm,hlA⟩:=hl.form
 refine zq (N:=8) func166 (Mem.ofDats (dc (dl hl) dn)) ?_
 refine (go 9) ?_
 refine za (u7 rfl rfl underlying47) ?_
 refine (go 2) (yg (fun h1=>?_) fun h1=>?_)
 ·refine (go 7) (zX results166 fun w1 hM=>?_)
  have hM:=hM.vW Sample 41 2 zQ
  exact hM.vp 0 rfl (Sh.isNone_nil hlA h1)
 refine (go 4) ?_
 refine u6 zQ wn underlying47 inf41 rfl fun b5=>?_
 refine (go 1) ?_
 refine yH 0 ([]:List Sample) l encSample wn rfl rfl rfl (fun _ hM=>(hM.sl 1 rfl)) underlying47 inf41 rfl rfl (by simp only [qL]; omega) rfl fun A1 cp1 hc1 hm1 hA1=>?_
 refine (go 4) (zX results166 fun w1 hM=>?_)
 exact hM.vp 0 rfl rfl
theorem c_cloneBucket (lv:Value) (l:List Bucket) (w:World) (hl:zD (In w) 8 zK lv l w) (hl1:l.length≤1048576) :
    Calls prog 167 #[lv] w (RetL w 163 8 zK l):=by
 obtain ⟨lA,lc,rfl,hlc,hlm,hlA⟩:=hl.form
 refine zq (N:=8) func167 (Mem.ofDats (dc (dl hl) dn)) ?_
 refine (go 9) ?_
 refine za (u7 rfl rfl underlying48) ?_
 refine (go 2) (yg (fun h1=>?_) fun h1=>?_)
 ·refine (go 7) (zX results167 fun w1 hM=>?_)
  have hM:=hM.vW Bucket 163 8 zK
  exact hM.vp 0 rfl (Sh.isNone_nil hlA h1)
 refine (go 4) ?_
 refine u6 zK wn underlying48 inf163 rfl fun b5=>?_
 refine (go 1) ?_
 refine yH 0 ([]:List Bucket) l encBucket wn rfl rfl rfl (fun _ hM=>(hM.sl 1 rfl)) underlying48 inf163 rfl rfl (by simp only [qL]; omega) rfl fun A1 cp1 hc1 hm1 hA1=>?_
 refine (go 4) (zX results167 fun w1 hM=>?_)
 exact hM.vp 0 rfl rfl
theorem jg (z0:Value) (z1:Value) (z2:Value) (z3:Value) (z:Shelf) (P0:Nat→Prop) (w:World) (hP0:∀ b,P0 b→b < w.heap.size) (hz0:zD P0 2 zS z0 z.zJ w) (hz1:zD P0 2 zQ z1 z.raw w) (hz2:zD P0 8 zK z2 z.fine w) (hz3:zD P0 8 zK z3 z.coarse w) (hs1:z.zJ.length≤1048576∧z.raw.length≤1048576∧z.fine.length≤1048576∧z.coarse.length≤1048576) :
    Calls prog 119 #[.agg (List.toArray [z0,z1,z2,z3,iV z.zU,iV z.zL,iV z.zE,iV z.zH,iV z.zF])] w (RetOwn w 74 41 163 163 z):=by
 obtain ⟨z0A,z0c,rfl,hz0c,hz0m,hz0A⟩:=hz0.form
 obtain ⟨z1A,z1c,rfl,hz1c,hz1m,hz1A⟩:=hz1.form
 obtain ⟨z2A,z2c,rfl,hz2c,hz2m,hz2A⟩:=hz2.form
 obtain ⟨z3A,z3c,rfl,hz3c,hz3m,hz3A⟩:=hz3.form
 refine zq (N:=20) func119 (Mem.ofDatsP hP0 (dc (dlp hz0) (dc (dlp hz1) (dc (dlp hz2) (dc (dlp hz3) dn))))) ?_
 refine (go 2) (yu fun b1=>zw fun b2=>?_)
 refine (go 3) ?_
 refine yM (Mem w ⟨no,P0⟩ [.blk b2 [Zs,Zs,Zs,Zs,iV 0,iV 0,iV 0,iV 0,iV 0] 50,slP 2 zS (.slice z0A z.zJ.length z0c) z.zJ,slP 2 zQ (.slice z1A z.raw.length z1c) z.raw,slP 8 zK (.slice z2A z.fine.length z2c) z.fine,slP 8 zK (.slice z3A z.coarse.length z3c) z.coarse]) mix (fun _ h=>h.drew) rfl (yN 16 [0,3,6,9] [0,2,3,4,5] rfl fun KS hKS=>?_)
 refine (go 4) ?_
 refine zi hKS (js (f:=7) [(1,.val 4 (.slice z0A z.zJ.length z0c)),(2,.row 5 74 2 z.zJ.length (z.zJ.flatMap zS)),(4,.val 7 (.slice z1A z.raw.length z1c)),(5,.row 8 41 2 z.raw.length (z.raw.flatMap zQ)),(7,.val 10 (.slice z2A z.fine.length z2c)),(8,.row 11 163 8 z.fine.length (z.fine.flatMap zK)),(10,.val 13 (.slice z3A z.coarse.length z3c)),(11,.row 14 163 8 z.coarse.length (z.coarse.flatMap zK)),(12,.val 15 (.pointer (some ⟨b1,0,none⟩)))] rfl (by kernel_rfl) (nd [1,2,4,5,7,8,10,11,12] rfl qD) (nd [4,5,7,8,10,11,13,14,15] rfl qD) rfl ⟨jv_ [] trivial rfl rfl rfl (uJ 1 rfl rfl rfl flat39),jr_ [(1,4,.slice z0A z.zJ.length z0c)] (⟨⟨0,rfl⟩,rfl,trivial⟩) rfl rfl rfl rfl call61 (fun w1 hM=>vT _ z.zJ w1 (hM.slp 2 rfl) qO),jv_ [] trivial rfl rfl rfl (uJ 1 rfl rfl rfl flat47),jr_ [(4,7,.slice z1A z.raw.length z1c)] (⟨⟨2,rfl⟩,rfl,trivial⟩) rfl rfl rfl rfl call166 (fun w1 hM=>c_cloneSample _ z.raw w1 (hM.slp 3 rfl) qO),jv_ [] trivial rfl rfl rfl (uJ 1 rfl rfl rfl flat48),jr_ [(7,10,.slice z2A z.fine.length z2c)] (⟨⟨4,rfl⟩,rfl,trivial⟩) rfl rfl rfl rfl call167 (fun w1 hM=>c_cloneBucket _ z.fine w1 (hM.slp 4 rfl) qO),jv_ [] trivial rfl rfl rfl (uJ 1 rfl rfl rfl flat48),jr_ [(10,13,.slice z3A z.coarse.length z3c)] (⟨⟨6,rfl⟩,rfl,trivial⟩) rfl rfl rfl rfl call167 (fun w1 hM=>c_cloneBucket _ z.coarse w1 (hM.slp 5 rfl) qO),jv_ [] trivial rfl rfl rfl (uf rfl fld50_0),trivial⟩ (S9 [0,2,3,4,5]) fun val1=>jQ (E':=[(0,.agg (List.toArray [.slice z0A z.zJ.length z0c,.slice z1A z.raw.length z1c,.slice z2A z.fine.length z2c,.slice z3A z.coarse.length z3c,iV z.zU,iV z.zL,iV z.zE,iV z.zH,iV z.zF])),(1,.pointer (some ⟨b1,0,none⟩)),(2,.pointer (some ⟨b2,0,none⟩)),(3,.pointer (some ⟨b1,0,none⟩)),(4,.slice z0A z.zJ.length z0c),(5,(val1 2)),(6,.pointer (some ⟨b1,1,none⟩)),(7,.slice z1A z.raw.length z1c),(8,(val1 5)),(9,.pointer (some ⟨b1,2,none⟩)),(10,.slice z2A z.fine.length z2c),(11,(val1 8)),(12,.pointer (some ⟨b1,3,none⟩)),(13,.slice z3A z.coarse.length z3c),(14,(val1 11)),(15,.pointer (some ⟨b1,0,none⟩))]) (S':=Mem w ⟨no,P0⟩ [Row (val1 2) 74 2 zS z.zJ,Row (val1 5) 41 2 zQ z.raw,Row (val1 8) 163 8 zK z.fine,Row (val1 11) 163 8 zK z.coarse,.blk b2 [Zs,Zs,Zs,Zs,iV 0,iV 0,iV 0,iV 0,iV 0] 50,.blk b1 [.slice z0A z.zJ.length z0c,.slice z1A z.raw.length z1c,.slice z2A z.fine.length z2c,.slice z3A z.coarse.length z3c,iV z.zU,iV z.zL,iV z.zE,iV z.zH,iV z.zF] 50,slP 2 zS (.slice z0A z.zJ.length z0c) z.zJ,slP 2 zQ (.slice z1A z.raw.length z1c) z.raw,slP 8 zK (.slice z2A z.fine.length z2c) z.fine,slP 8 zK (.slice z3A z.coarse.length z3c) z.coarse]) (sc rfl (sc rfl (sc rfl (sc rfl (sc rfl (sc rfl (sc rfl (sc rfl (sc rfl (sc rfl (sc rfl (sc rfl (sc rfl (sc rfl (sc rfl (sc rfl sn)))))))))))))))) (fun _ h=>h) (uW 0 (l:=z.zJ) (enc:=zS) rfl fun A1 cp1 hv1 hc1 hm1 hA1=>?_))
 rw [hv1]
 refine uW 1 (l:=z.raw) (enc:=zQ) rfl fun A2 cp2 hv2 hc2 hm2 hA2=>?_
 rw [hv2]
 refine uW 2 (l:=z.fine) (enc:=zK) rfl fun A3 cp3 hv3 hc3 hm3 hA3=>?_
 rw [hv3]
 refine uW 3 (l:=z.coarse) (enc:=zK) rfl fun A4 cp4 hv4 hc4 hm4 hA4=>?_
 rw [hv4]
 refine zf 6 13 (zh (i:=13) rfl fun KN hKN=>?_)
 refine (go 2) ?_
 refine hKN _ _ (S9 [4,6,7,8,9]) (yN 5 [14] [4,6,7,8,9] rfl fun KS hKS=>?_)
 refine (go 1) ?_
 refine zi hKS (zf 4 15 (zh (i:=15) rfl fun KN hKN=>?_))
 refine (go 2) ?_
 refine hKN _ _ (S9 [4,6,7,8,9]) (yN 3 [16] [4,6,7,8,9] rfl fun KS hKS=>?_)
 refine (go 1) ?_
 refine zi hKS (zf 2 17 (zh (i:=17) rfl fun KN hKN=>?_))
 refine (go 2) ?_
 refine hKN _ _ (S9 [4,6,7,8,9]) (yN 1 [18] [4,6,7,8,9] rfl fun KS hKS=>?_)
 refine (go 1) ?_
 refine zi hKS (zf 0 19 (zh (i:=19) rfl fun KN hKN=>?_))
 refine (go 2) ?_
 refine hKN _ _ (S9 [4,6,7,8,9]) ?_
 refine zz (by kernel_rfl) ((go 1) ?_)
 refine (go 7) (zX results119 fun w1 hM=>?_)
 exact (hM.sel [0,1,2,3] qD rfl).retOwn
end
section
open Tryz
open Ex
attribute [local irreducible] WC WL WQ WE WS
set_option linter.unusedVariables false
set_option linter.unusedSimpArgs false
theorem c_new (lv:Value) (l:List Label) (P0:Nat→Prop) (w:World) (hP0:∀ b,P0 b→b < w.heap.size) (hl:zD P0 2 zS lv l w) (hl1:l.length≤1048576) :
    Calls prog 113 #[lv] w (RetSh w P0 (fun u=>u) ⟨l,[],[],[],0,0,0,0,0⟩):=by
 obtain ⟨lA,lc,rfl,hlc,hlm,hlA⟩:=hl.form
 refine zq (N:=6) func113 (Mem.ofDatsP hP0 (dc (dlp hl) dn)) ?_
 refine (go 2) (zw fun b2=>?_)
 refine (go 5) ?_
 refine vP l wn rfl call61 rfl (fun w1 hM=>vT _ l w1 (hM.slp 1 rfl) qO) fun A1 cp1 hc1 hm1 hA1=>?_
 refine (go 5) (zX results113 fun w1 hM=>?_)
 have hM:=hM.zo encLabel (i:=0) rfl rfl
 exact hM.ym (s':=(⟨l,([]:List Sample),([]:List Bucket),([]:List Bucket),0,0,0,0,0⟩:Shelf)) (fun u=>u) rfl (rfl) (fun _ pp=>pp.sl 0 rfl) (fun _ _=>zD.zu _ _ _ _) (fun _ _=>zD.zu _ _ _ _) (fun _ _=>zD.zu _ _ _ _)
theorem jE (n:Int) (st:Int) (w:World)  (hn:0≤n∧n≤9223372036854775807) (hst:0 < st) :
    Calls prog 124 #[iV n,iV st] w (Ret w (iV (n - n % st))):=by
 obtain ⟨hm1,hm2⟩:=Sh.emod_le hn.1 hst
 refine zq (N:=10) func124 (Mem.ofDats dn) ?_
 refine (go 16) (zX results124 fun w1 hM=>?_)
 exact zP rfl hM
theorem c_append (z0:Value) (z1:Value) (z2:Value) (z3:Value) (z:Shelf) (x:Sample) (P0:Nat→Prop) (w:World) (hP0:∀ b,P0 b→b < w.heap.size) (hz0:zD P0 2 zS z0 z.zJ w) (hz1:zD P0 2 zQ z1 z.raw w) (hz2:zD P0 8 zK z2 z.fine w) (hz3:zD P0 8 zK z3 z.coarse w)  :
    Calls prog 114 #[.agg (List.toArray [z0,z1,z2,z3,iV z.zU,iV z.zL,iV z.zE,iV z.zH,iV z.zF]),.agg (zQ x).toArray] w (RetSh w P0 (fun u=>.tuple (List.toArray [u,iV (Sh.append z x).2])) (Sh.append z x).1):=by
 obtain ⟨z0A,z0c,rfl,hz0c,hz0m,hz0A⟩:=hz0.form
 obtain ⟨z1A,z1c,rfl,hz1c,hz1m,hz1A⟩:=hz1.form
 obtain ⟨z2A,z2c,rfl,hz2c,hz2m,hz2A⟩:=hz2.form
 obtain ⟨z3A,z3c,rfl,hz3c,hz3m,hz3A⟩:=hz3.form
 refine zq (N:=64) func114 (Mem.ofDatsP hP0 (dc (dlp hz0) (dc (dlp hz1) (dc (dlp hz2) (dc (dlp hz3) dn))))) ?_
 refine (go 2) (yu fun b2=>yu fun b3=>zw fun b4=>?_)
 refine (go 7) ?_
 refine yF call21 wn rfl (fun w1 hM=>vi _ _ _ _ z (In w1) w1 (fun _ h=>h) (hM.slp 3 rfl) (hM.slp 4 rfl) (hM.slp 5 rfl) (hM.slp 6 rfl)) ?_
 refine (go 9) (zW (fun h1=>?_) fun h1=>?_)
 ·refine (go 10) (yL results114 fun w1 hM=>?_)
  have he:Sh.append z x=((⟨([]:List Label),([]:List Sample),([]:List Bucket),([]:List Bucket),0,0,0,0,0⟩:Shelf),(Sh.wrong z)):=Sh.append_wrong h1
  rw [he]
  exact hM.ym (s':=(⟨([]:List Label),([]:List Sample),([]:List Bucket),([]:List Bucket),0,0,0,0,0⟩:Shelf)) (fun u=>.tuple (List.toArray [u,iV (Sh.wrong z)])) rfl (rfl) (fun _ _=>zD.zu _ _ _ _) (fun _ _=>zD.zu _ _ _ _) (fun _ _=>zD.zu _ _ _ _) (fun _ _=>zD.zu _ _ _ _)
 obtain ⟨l1,l2,l3,l4⟩:=(Sh.ok_of h1).lens
 refine (go 6) ?_
 refine zy zQ ([x]:List Sample) wn underlying47 inf41 rfl rfl rfl rfl qD qD rfl fun b17=>yF call43 wn rfl (fun w1 hM=>vS _ ([x]:List Sample) w1 (RowSl encSample hM 0 rfl)) (zw fun b7=>?_)
 refine (go 10) (zW (fun h2=>?_) fun h2=>?_)
 ·refine (go 1) ?_
  refine yM (Mem w ⟨no,P0⟩ [.blk b7 [iV ((Codec.wrong ([x]:List Sample)).err),iV ((Codec.wrong ([x]:List Sample)).at_)] 61,Row (.slice (some ⟨b17,0,none⟩) 1 1) 41 2 zQ ([x]:List Sample),.blk b4 [Zs,Zs,Zs,Zs,iV 0,iV 0,iV 0,iV 0,iV 0] 50,.blk b3 [iV x.time,iV x.value] 41,.blk b2 [.slice z0A z.zJ.length z0c,.slice z1A z.raw.length z1c,.slice z2A z.fine.length z2c,.slice z3A z.coarse.length z3c,iV z.zU,iV z.zL,iV z.zE,iV z.zH,iV z.zF] 50,slP 2 zS (.slice z0A z.zJ.length z0c) z.zJ,slP 2 zQ (.slice z1A z.raw.length z1c) z.raw,slP 8 zK (.slice z2A z.fine.length z2c) z.fine,slP 8 zK (.slice z3A z.coarse.length z3c) z.coarse]) mix (fun _ h=>h.drew) rfl (uG (f:=2) [0,1,2] rfl rfl (by kernel_rfl) (by kernel_rfl) (fun _ h=>h) fun KS hKS=>?_)
  refine (go 3) ?_
  refine zi hKS (zf 1 3 (zh (i:=3) rfl fun KN hKN=>?_))
  refine (go 2) ?_
  refine hKN _ _ (fun _ h=>h) (uG (f:=0) [4] rfl rfl (by kernel_rfl) (by kernel_rfl) (fun _ h=>h) fun KS hKS=>?_)
  refine (go 1) ?_
  refine zi hKS ?_
  refine zz (by kernel_rfl) ((go 1) ?_)
  refine (go 2) (yL results114 fun w1 hM=>?_)
  have he:Sh.append z x=((⟨([]:List Label),([]:List Sample),([]:List Bucket),([]:List Bucket),0,0,0,0,0⟩:Shelf),(Codec.wrong ([x]:List Sample)).err):=Sh.append_bad h1 h2
  rw [he]
  exact hM.ym (s':=(⟨([]:List Label),([]:List Sample),([]:List Bucket),([]:List Bucket),0,0,0,0,0⟩:Shelf)) (fun u=>.tuple (List.toArray [u,iV ((Codec.wrong ([x]:List Sample)).err)])) rfl (rfl) (fun _ _=>zD.zu _ _ _ _) (fun _ _=>zD.zu _ _ _ _) (fun _ _=>zD.zu _ _ _ _) (fun _ _=>zD.zu _ _ _ _)
 refine (go 20) (vh 34 (fun h3=>?_) fun h3=>?_)
 ·refine (go 26) (yL results114 fun w1 hM=>?_)
  have he:Sh.append z x=((⟨([]:List Label),([]:List Sample),([]:List Bucket),([]:List Bucket),0,0,0,0,0⟩:Shelf),9):=Sh.append_late h1 h2 (.inl h3)
  rw [he]
  exact hM.ym (s':=(⟨([]:List Label),([]:List Sample),([]:List Bucket),([]:List Bucket),0,0,0,0,0⟩:Shelf)) (fun u=>.tuple (List.toArray [u,iV 9])) rfl (rfl) (fun _ _=>zD.zu _ _ _ _) (fun _ _=>zD.zu _ _ _ _) (fun _ _=>zD.zu _ _ _ _) (fun _ _=>zD.zu _ _ _ _)
 refine (go 3) (vh 37 (fun h4=>?_) fun h4=>?_)
 ·refine (go 5) ?_
  obtain ⟨ad1,s1,hd1,hs1⟩:=elx hz1A (z.raw.length - 1)
  refine vt (yz (i:=(z.raw.length - 1)) rfl hd1 rfl qO qI underlying47 inf41) ?_
  refine (go 7) (zW (fun h5=>?_) fun h5=>?_)
  ·refine (go 9) (yL results114 fun w1 hM=>?_)
   have he:Sh.append z x=((⟨([]:List Label),([]:List Sample),([]:List Bucket),([]:List Bucket),0,0,0,0,0⟩:Shelf),9):=Sh.append_late h1 h2 (.inr (by rw [Sh.late_some hs1]; exact decide_eq_true h5))
   rw [he]
   exact hM.ym (s':=(⟨([]:List Label),([]:List Sample),([]:List Bucket),([]:List Bucket),0,0,0,0,0⟩:Shelf)) (fun u=>.tuple (List.toArray [u,iV 9])) rfl (rfl) (fun _ _=>zD.zu _ _ _ _) (fun _ _=>zD.zu _ _ _ _) (fun _ _=>zD.zu _ _ _ _) (fun _ _=>zD.zu _ _ _ _)
  refine (go 11) (zW (fun h6=>?_) fun h6=>?_)
  ·refine (go 9) (yL results114 fun w1 hM=>?_)
   have he:Sh.append z x=((⟨([]:List Label),([]:List Sample),([]:List Bucket),([]:List Bucket),0,0,0,0,0⟩:Shelf),5):=Sh.append_many h1 h2 (fun g=>g.elim h3 (fun g=>by rw [Sh.late_some hs1] at g; exact h5 (of_decide_eq_true g))) h6
   rw [he]
   exact hM.ym (s':=(⟨([]:List Label),([]:List Sample),([]:List Bucket),([]:List Bucket),0,0,0,0,0⟩:Shelf)) (fun u=>.tuple (List.toArray [u,iV 5])) rfl (rfl) (fun _ _=>zD.zu _ _ _ _) (fun _ _=>zD.zu _ _ _ _) (fun _ _=>zD.zu _ _ _ _) (fun _ _=>zD.zu _ _ _ _)
  refine (go 5) ?_
  refine v8 z wn rfl call119 rfl (fun w1 hM=>jg _ _ _ _ z (In w1) w1 (fun _ h=>h) (hM.slp 5 rfl) (hM.slp 6 rfl) (hM.slp 7 rfl) (hM.slp 8 rfl) (Sh.wrong_lens (by assumption))) fun A1 cp1 A2 cp2 A3 cp3 A4 cp4 hb1 hA1 hA2 hA3 hA4=>zw fun b9=>?_
  refine (go 8) ?_
  refine zy zQ ([x]:List Sample) wn underlying47 inf41 rfl rfl rfl rfl qD qD rfl fun b60=>yH 3 z.raw ([x]:List Sample) encSample wn rfl rfl rfl (fun _ hM=>(RowSl encSample hM 0 rfl)) underlying47 inf41 rfl rfl (by simp only [qL]; omega) rfl fun A5 cp5 hc1 hm1 hA5=>?_
  refine (go 12) (yL results114 fun w1 hM=>?_)
  have he:Sh.append z x=((⟨z.zJ,(z.raw++([x]:List Sample)),z.fine,z.coarse,z.zU,z.zL,z.zE,z.zH,z.zF⟩:Shelf),0):=Sh.append_ok h1 h2 (fun g=>g.elim h3 (fun g=>by rw [Sh.late_some hs1] at g; exact h5 (of_decide_eq_true g))) h6
  rw [he]
  have hM:=hM.zo encLabel (i:=2) rfl rfl
  have hM:=hM.zo encSample (i:=3) rfl rfl
  have hM:=hM.zo encBucket (i:=4) rfl rfl
  have hM:=hM.zo encBucket (i:=5) rfl rfl
  exact hM.ym (s':=(⟨z.zJ,(z.raw++([x]:List Sample)),z.fine,z.coarse,z.zU,z.zL,z.zE,z.zH,z.zF⟩:Shelf)) (fun u=>.tuple (List.toArray [u,iV 0])) rfl (rfl) (fun _ pp=>pp.sl 2 rfl) (fun _ pp=>pp.sl 3 rfl) (fun _ pp=>pp.sl 4 rfl) (fun _ pp=>pp.sl 5 rfl)
 refine (go 25) (zW (fun h7=>?_) fun h7=>?_)
 ·refine (go 9) (yL results114 fun w1 hM=>?_)
  have he:Sh.append z x=((⟨([]:List Label),([]:List Sample),([]:List Bucket),([]:List Bucket),0,0,0,0,0⟩:Shelf),5):=Sh.append_many h1 h2 (fun g=>g.elim h3 (fun g=>by rw [Sh.late_none h4] at g; cases g)) h7
  rw [he]
  exact hM.ym (s':=(⟨([]:List Label),([]:List Sample),([]:List Bucket),([]:List Bucket),0,0,0,0,0⟩:Shelf)) (fun u=>.tuple (List.toArray [u,iV 5])) rfl (rfl) (fun _ _=>zD.zu _ _ _ _) (fun _ _=>zD.zu _ _ _ _) (fun _ _=>zD.zu _ _ _ _) (fun _ _=>zD.zu _ _ _ _)
 refine (go 5) ?_
 refine v8 z wn rfl call119 rfl (fun w1 hM=>jg _ _ _ _ z (In w1) w1 (fun _ h=>h) (hM.slp 5 rfl) (hM.slp 6 rfl) (hM.slp 7 rfl) (hM.slp 8 rfl) (Sh.wrong_lens (by assumption))) fun A6 cp6 A7 cp7 A8 cp8 A9 cp9 hb2 hA6 hA7 hA8 hA9=>zw fun b9=>?_
 refine (go 8) ?_
 refine zy zQ ([x]:List Sample) wn underlying47 inf41 rfl rfl rfl rfl qD qD rfl fun b60=>yH 3 z.raw ([x]:List Sample) encSample wn rfl rfl rfl (fun _ hM=>(RowSl encSample hM 0 rfl)) underlying47 inf41 rfl rfl (by simp only [qL]; omega) rfl fun A10 cp10 hc2 hm2 hA10=>?_
 refine (go 12) (yL results114 fun w1 hM=>?_)
 have he:Sh.append z x=((⟨z.zJ,(z.raw++([x]:List Sample)),z.fine,z.coarse,z.zU,z.zL,z.zE,z.zH,z.zF⟩:Shelf),0):=Sh.append_ok h1 h2 (fun g=>g.elim h3 (fun g=>by rw [Sh.late_none h4] at g; cases g)) h7
 rw [he]
 have hM:=hM.zo encLabel (i:=2) rfl rfl
 have hM:=hM.zo encSample (i:=3) rfl rfl
 have hM:=hM.zo encBucket (i:=4) rfl rfl
 have hM:=hM.zo encBucket (i:=5) rfl rfl
 exact hM.ym (s':=(⟨z.zJ,(z.raw++([x]:List Sample)),z.fine,z.coarse,z.zU,z.zL,z.zE,z.zH,z.zF⟩:Shelf)) (fun u=>.tuple (List.toArray [u,iV 0])) rfl (rfl) (fun _ pp=>pp.sl 2 rfl) (fun _ pp=>pp.sl 3 rfl) (fun _ pp=>pp.sl 4 rfl) (fun _ pp=>pp.sl 5 rfl)
set_option maxHeartbeats 1000000 in
theorem c_roll (z0:Value) (z1:Value) (z2:Value) (z3:Value) (z:Shelf) (to:Int) (P0:Nat→Prop) (w:World) (hP0:∀ b,P0 b→b < w.heap.size) (hz0:zD P0 2 zS z0 z.zJ w) (hz1:zD P0 2 zQ z1 z.raw w) (hz2:zD P0 8 zK z2 z.fine w) (hz3:zD P0 8 zK z3 z.coarse w)  :
    Calls prog 74 #[.agg (List.toArray [z0,z1,z2,z3,iV z.zU,iV z.zL,iV z.zE,iV z.zH,iV z.zF]),iV to] w (RetSh w P0 (fun u=>.tuple (List.toArray [u,iV (Sh.roll z to).2])) (Sh.roll z to).1):=by
 obtain ⟨z0A,z0c,rfl,hz0c,hz0m,hz0A⟩:=hz0.form
 obtain ⟨z1A,z1c,rfl,hz1c,hz1m,hz1A⟩:=hz1.form
 obtain ⟨z2A,z2c,rfl,hz2c,hz2m,hz2A⟩:=hz2.form
 obtain ⟨z3A,z3c,rfl,hz3c,hz3m,hz3A⟩:=hz3.form
 refine zq (N:=115) func74 (Mem.ofDatsP hP0 (dc (dlp hz0) (dc (dlp hz1) (dc (dlp hz2) (dc (dlp hz3) dn))))) ?_
 refine (go 2) (yu fun b2=>zw fun b4=>?_)
 refine (go 7) ?_
 refine yF call21 wn rfl (fun w1 hM=>vi _ _ _ _ z (In w1) w1 (fun _ h=>h) (hM.slp 2 rfl) (hM.slp 3 rfl) (hM.slp 4 rfl) (hM.slp 5 rfl)) ?_
 refine (go 9) (zW (fun h1=>?_) fun h1=>?_)
 ·refine (go 10) (yL results74 fun w1 hM=>?_)
  have he:Sh.roll z to=((⟨([]:List Label),([]:List Sample),([]:List Bucket),([]:List Bucket),0,0,0,0,0⟩:Shelf),(Sh.wrong z)):=Sh.roll_wrong h1
  rw [he]
  exact hM.ym (s':=(⟨([]:List Label),([]:List Sample),([]:List Bucket),([]:List Bucket),0,0,0,0,0⟩:Shelf)) (fun u=>.tuple (List.toArray [u,iV (Sh.wrong z)])) rfl (rfl) (fun _ _=>zD.zu _ _ _ _) (fun _ _=>zD.zu _ _ _ _) (fun _ _=>zD.zu _ _ _ _) (fun _ _=>zD.zu _ _ _ _)
 obtain ⟨l1,l2,l3,l4⟩:=(Sh.ok_of h1).lens
 obtain ⟨⟨g1,g2,g3,g4⟩,⟨g5,g6,g7,g8,g9⟩,g10,g11,g12,g13,g14⟩:=(Sh.ok_of h1).rng
 refine (go 8) (yO 24 (fun h2=>?_) fun h2=>?_)
 ·refine (go 15) (yL results74 fun w1 hM=>?_)
  have he:Sh.roll z to=((⟨([]:List Label),([]:List Sample),([]:List Bucket),([]:List Bucket),0,0,0,0,0⟩:Shelf),3):=Sh.roll_range h1 qO
  rw [he]
  exact hM.ym (s':=(⟨([]:List Label),([]:List Sample),([]:List Bucket),([]:List Bucket),0,0,0,0,0⟩:Shelf)) (fun u=>.tuple (List.toArray [u,iV 3])) rfl (rfl) (fun _ _=>zD.zu _ _ _ _) (fun _ _=>zD.zu _ _ _ _) (fun _ _=>zD.zu _ _ _ _) (fun _ _=>zD.zu _ _ _ _)
 refine (go 5) (zW (fun h3=>?_) fun h3=>?_)
 ·refine (go 9) (yL results74 fun w1 hM=>?_)
  have he:Sh.roll z to=((⟨([]:List Label),([]:List Sample),([]:List Bucket),([]:List Bucket),0,0,0,0,0⟩:Shelf),3):=Sh.roll_range h1 qO
  rw [he]
  exact hM.ym (s':=(⟨([]:List Label),([]:List Sample),([]:List Bucket),([]:List Bucket),0,0,0,0,0⟩:Shelf)) (fun u=>.tuple (List.toArray [u,iV 3])) rfl (rfl) (fun _ _=>zD.zu _ _ _ _) (fun _ _=>zD.zu _ _ _ _) (fun _ _=>zD.zu _ _ _ _) (fun _ _=>zD.zu _ _ _ _)
 obtain ⟨ft1,ft2,ft3,ft4⟩:=Sh.fineTo_rng (Sh.ok_of h1) (to:=to) qO qO
 obtain ⟨ct1,ct2,ct3⟩:=Sh.coarseTo_rng (Sh.ok_of h1) (to:=to) qO qO
 have hu0:=Roll.inT_len z.raw z.zE (Sh.zE z to)
 have hb0:=Sh.bIn_len (z.fine++(Roll.up (Roll.inT z.raw z.zE (Sh.zE z to)) 1)) z.zF (Sh.zF z to)
 have hlen2:(z.fine++(Roll.up (Roll.inT z.raw z.zE (Sh.zE z to)) 1)).length=z.fine.length + _:=List.length_append
 have hu1:=Nat.le_trans (Roll.up_len (Roll.inT z.raw z.zE (Sh.zE z to)) 1) hu0
 have hu2:=Nat.le_trans (Roll.greater_len (Sh.bIn (z.fine++(Roll.up (Roll.inT z.raw z.zE (Sh.zE z to)) 1)) z.zF (Sh.zF z to))) hb0
 refine (go 5) ?_
 refine v8 z wn rfl call119 rfl (fun w1 hM=>jg _ _ _ _ z (In w1) w1 (fun _ h=>h) (hM.slp 2 rfl) (hM.slp 3 rfl) (hM.slp 4 rfl) (hM.slp 5 rfl) (Sh.wrong_lens (by assumption))) fun A1 cp1 A2 cp2 A3 cp3 A4 cp4 hb1 hA1 hA2 hA3 hA4=>zw fun b7=>?_
 refine (go 8) ?_
 refine yQ wn rfl call124 rfl (fun w1 hM=>jE to 10 w1 qO qO) (yZ (jL (show _=(Sh.zE z to) from rfl) (ud rfl rfl)) ?_)
 refine (go 8) ?_
 refine yQ wn rfl call124 rfl (fun w1 hM=>jE (Sh.zE z to) 60 w1 qO qO) (yZ (jL (show _=(Sh.zF z to) from rfl) (ud rfl rfl)) ?_)
 refine (go 5) ?_
 refine yD (zQ:Sample→List Value) 41 2 ?_
 refine (go 13) ?_
 refine va (fun (k:Nat) (vr:Value)=>[(2,.pointer (some ⟨b2,0,none⟩)),(4,.pointer (some ⟨b4,0,none⟩)),(7,.pointer (some ⟨b7,0,none⟩)),(8,iV (Sh.zE z to)),(9,iV (Sh.zF z to)),(10,vr),(42,.slice z1A z.raw.length z1c),(43,iV z.raw.length),(44,iV k)]) (fun (k:Nat) (vr:Value)=>[Row vr 41 2 zQ (Roll.inT (z.raw.take k) z.zE (Sh.zE z to)),.blk b7 [.slice A1 z.zJ.length cp1,.slice A2 z.raw.length cp2,.slice A3 z.fine.length cp3,.slice A4 z.coarse.length cp4,iV z.zU,iV z.zL,iV z.zE,iV z.zH,iV z.zF] 50,Row (.slice A1 z.zJ.length cp1) 74 2 zS z.zJ,Row (.slice A2 z.raw.length cp2) 41 2 zQ z.raw,Row (.slice A3 z.fine.length cp3) 163 8 zK z.fine,Row (.slice A4 z.coarse.length cp4) 163 8 zK z.coarse,.blk b4 [Zs,Zs,Zs,Zs,iV 0,iV 0,iV 0,iV 0,iV 0] 50,.blk b2 [.slice z0A z.zJ.length z0c,.slice z1A z.raw.length z1c,.slice z2A z.fine.length z2c,.slice z3A z.coarse.length z3c,iV z.zU,iV z.zL,iV z.zE,iV z.zH,iV z.zF] 50,slP 2 zS (.slice z0A z.zJ.length z0c) z.zJ,slP 2 zQ (.slice z1A z.raw.length z1c) z.raw,slP 8 zK (.slice z2A z.fine.length z2c) z.fine,slP 8 zK (.slice z3A z.coarse.length z3c) z.coarse]) (fun (k:Nat) (vr:Value)=>k≤z.raw.length) (fun (k:Nat) (vr:Value)=>z.raw.length - k) 0 (Zs) (sc rfl (sc rfl (sc rfl (sc rfl (sc rfl (sc rfl (sc rfl (sc rfl (sc (ji qO) sn))))))))) (fun _ h=>h) ?_ (fun k vr hI1=>?_)
 ·omega
 have hlen:=Nat.le_trans (Roll.inT_len (z.raw.take k) z.zE (Sh.zE z to)) (List.length_take_le k z.raw)
 refine yW 0 (l:=(Roll.inT (z.raw.take k) z.zE (Sh.zE z to))) rfl fun A5 cp5 hv1 hc1 hm1 hA5=>?_
 subst hv1
 refine (go 6) (zW (fun h4=>?_) fun h4=>?_)
 ·refine (go 6) ?_
  obtain ⟨ad1,s1,hd1,hs1⟩:=elx hz1A k
  refine (go 2) (zw fun b12=>?_)
  refine (go 11) (yO 53 (fun h5=>?_) fun h5=>?_)
  ·refine (go 7) (zW (fun h6=>?_) fun h6=>?_)
   ·refine (go 3) ?_
    refine zy zQ ([s1]:List Sample) wn underlying47 inf41 rfl rfl rfl rfl qD qD rfl fun b61=>yH 2 (Roll.inT (z.raw.take k) z.zE (Sh.zE z to)) ([s1]:List Sample) encSample wn rfl rfl rfl (fun _ hM=>(RowSl encSample hM 0 rfl)) underlying47 inf41 rfl rfl (by first | omega | (simp only [qL]; omega)) rfl fun A6 cp6 hc2 hm2 hA6=>?_
    refine (go 7) ?_
    refine zT (yd (k + 1) (.slice A6 (((Roll.inT (z.raw.take k) z.zE (Sh.zE z to))++([s1]:List Sample)).length) cp6) (sc rfl (sc rfl (sc rfl (sc rfl (sc rfl (sc rfl (sc rfl (sc rfl (sc (ji qO) sn))))))))) (fun _ h=>by rw [(Roll.inT_succ (a:=z.zE) (b:=Sh.zE z to) hs1).trans (if_pos qO)]; exact (h.sel [2,3,4,5,6,7,8,9,10,11,12,13] qD rfl)) ?_ ?_)
    ·omega
    omega
   refine (go 6) ?_
   refine zT (yd (k + 1) (.slice A5 ((Roll.inT (z.raw.take k) z.zE (Sh.zE z to)).length) cp5) (sc rfl (sc rfl (sc rfl (sc rfl (sc rfl (sc rfl (sc rfl (sc rfl (sc (ji qO) sn))))))))) (fun _ h=>by rw [(Roll.inT_succ (a:=z.zE) (b:=Sh.zE z to) hs1).trans (if_neg qO)]; exact (h.sel [1,2,3,4,5,6,7,8,9,10,11,12] qD rfl)) ?_ ?_)
   ·omega
   omega
  refine (go 14) ?_
  refine zT (yd (k + 1) (.slice A5 ((Roll.inT (z.raw.take k) z.zE (Sh.zE z to)).length) cp5) (sc rfl (sc rfl (sc rfl (sc rfl (sc rfl (sc rfl (sc rfl (sc rfl (sc (ji qO) sn))))))))) (fun _ h=>by rw [(Roll.inT_succ (a:=z.zE) (b:=Sh.zE z to) hs1).trans (if_neg qO)]; exact (h.sel [1,2,3,4,5,6,7,8,9,10,11,12] qD rfl)) ?_ ?_)
  ·omega
  omega
 have hk1:z.raw.take k=z.raw:=List.take_of_length_le qO
 rw [hk1]
 rw [hk1] at hA5
 refine (go 6) ?_
 refine yM (Mem w ⟨no,P0⟩ [Row (.slice A5 ((Roll.inT z.raw z.zE (Sh.zE z to)).length) cp5) 41 2 zQ (Roll.inT z.raw z.zE (Sh.zE z to)),Row (.slice A1 z.zJ.length cp1) 74 2 zS z.zJ,Row (.slice A2 z.raw.length cp2) 41 2 zQ z.raw,Row (.slice A4 z.coarse.length cp4) 163 8 zK z.coarse,.blk b4 [Zs,Zs,Zs,Zs,iV 0,iV 0,iV 0,iV 0,iV 0] 50,.blk b2 [.slice z0A z.zJ.length z0c,.slice z1A z.raw.length z1c,.slice z2A z.fine.length z2c,.slice z3A z.coarse.length z3c,iV z.zU,iV z.zL,iV z.zE,iV z.zH,iV z.zF] 50,slP 2 zS (.slice z0A z.zJ.length z0c) z.zJ,slP 2 zQ (.slice z1A z.raw.length z1c) z.raw,slP 8 zK (.slice z2A z.fine.length z2c) z.fine,slP 8 zK (.slice z3A z.coarse.length z3c) z.coarse]) mix (fun _ h=>h.drew) rfl (yN 5 [0,2] [0,2,3,5,6,7,8,9,10,11] rfl fun KS hKS=>?_)
 refine (go 2) ?_
 refine zi hKS (js (f:=3) [(1,.val 65 (.slice A3 z.fine.length cp3)),(3,.row 67 163 8 (Roll.up (Roll.inT z.raw z.zE (Sh.zE z to)) 1).length ((Roll.up (Roll.inT z.raw z.zE (Sh.zE z to)) 1).flatMap zK))] rfl (by kernel_rfl) (nd [1,3] rfl qD) (nd [65,67] rfl qD) rfl ⟨jv_ [] trivial rfl rfl rfl (uJ 1 rfl rfl rfl flat48),jr_ [] trivial rfl rfl rfl rfl call126 (fun w1 hM=>c_Up _ (Roll.inT z.raw z.zE (Sh.zE z to)) 1 w1 (RowSl encSample hM 0 rfl) (by first | assumption | omega | (simp only [List.length_cons,List.length_nil]; omega) | exact Nat.le_trans (Roll.up_len _ _) (by first | omega | simp))),trivial⟩ (S9 [0,2,3,5,6,7,8,9,10,11]) fun val1=>jQ (E':=[(2,.pointer (some ⟨b2,0,none⟩)),(4,.pointer (some ⟨b4,0,none⟩)),(7,.pointer (some ⟨b7,0,none⟩)),(8,iV (Sh.zE z to)),(9,iV (Sh.zF z to)),(10,.slice A5 ((Roll.inT z.raw z.zE (Sh.zE z to)).length) cp5),(42,.slice z1A z.raw.length z1c),(43,iV z.raw.length),(44,iV k),(45,.bool (decide ((k:Int) < (z.raw.length:Int)))),(64,.pointer (some ⟨b7,2,none⟩)),(65,.slice A3 z.fine.length cp3),(66,.slice A5 ((Roll.inT z.raw z.zE (Sh.zE z to)).length) cp5),(67,(val1 3))]) (S':=Mem w ⟨no,P0⟩ [Row (val1 3) 163 8 zK (Roll.up (Roll.inT z.raw z.zE (Sh.zE z to)) 1),Row (.slice A5 ((Roll.inT z.raw z.zE (Sh.zE z to)).length) cp5) 41 2 zQ (Roll.inT z.raw z.zE (Sh.zE z to)),.blk b7 [.slice A1 z.zJ.length cp1,.slice A2 z.raw.length cp2,.slice A3 z.fine.length cp3,.slice A4 z.coarse.length cp4,iV z.zU,iV z.zL,iV z.zE,iV z.zH,iV z.zF] 50,Row (.slice A1 z.zJ.length cp1) 74 2 zS z.zJ,Row (.slice A2 z.raw.length cp2) 41 2 zQ z.raw,Row (.slice A3 z.fine.length cp3) 163 8 zK z.fine,Row (.slice A4 z.coarse.length cp4) 163 8 zK z.coarse,.blk b4 [Zs,Zs,Zs,Zs,iV 0,iV 0,iV 0,iV 0,iV 0] 50,.blk b2 [.slice z0A z.zJ.length z0c,.slice z1A z.raw.length z1c,.slice z2A z.fine.length z2c,.slice z3A z.coarse.length z3c,iV z.zU,iV z.zL,iV z.zE,iV z.zH,iV z.zF] 50,slP 2 zS (.slice z0A z.zJ.length z0c) z.zJ,slP 2 zQ (.slice z1A z.raw.length z1c) z.raw,slP 8 zK (.slice z2A z.fine.length z2c) z.fine,slP 8 zK (.slice z3A z.coarse.length z3c) z.coarse]) (sc rfl (sc rfl (sc rfl (sc rfl (sc rfl (sc rfl (sc rfl (sc rfl (sc rfl (sc rfl (sc rfl (sc rfl (sc rfl (sc rfl sn)))))))))))))) (fun _ h=>h) (uW 0 (l:=(Roll.up (Roll.inT z.raw z.zE (Sh.zE z to)) 1)) (enc:=zK) rfl fun A7 cp7 hv2 hc3 hm3 hA7=>?_))
 rw [hv2]
 refine zf 2 4 (zh (i:=4) rfl fun KN hKN=>yH 5 z.fine (Roll.up (Roll.inT z.raw z.zE (Sh.zE z to)) 1) encBucket wn rfl rfl rfl (fun _ hM=>(RowSl encBucket hM 0 rfl)) underlying48 inf163 rfl rfl (by first | omega | (simp only [qL]; omega)) rfl fun A8 cp8 hc4 hm4 hA8=>?_)
 refine (go 1) ?_
 refine hKN _ _ (S9 [1,3,4,6,7,8,9,10,11,12]) (yN 1 [5] [1,3,4,6,7,8,9,10,11,12] rfl fun KS hKS=>?_)
 refine (go 1) ?_
 refine zi hKS (zf 0 6 (zh (i:=6) rfl fun KN hKN=>?_))
 refine (go 2) ?_
 refine hKN _ _ (S9 [1,3,4,6,7,8,9,10,11,12]) ?_
 refine zz (by kernel_rfl) ((go 1) ?_)
 refine (go 2) ?_
 refine yD (zK:Bucket→List Value) 163 8 ?_
 refine (go 13) ?_
 refine va (fun (k:Nat) (vr2:Value)=>[(2,.pointer (some ⟨b2,0,none⟩)),(4,.pointer (some ⟨b4,0,none⟩)),(7,.pointer (some ⟨b7,0,none⟩)),(8,iV (Sh.zE z to)),(9,iV (Sh.zF z to)),(13,vr2),(71,.slice A8 ((z.fine++(Roll.up (Roll.inT z.raw z.zE (Sh.zE z to)) 1)).length) cp8),(72,iV ((z.fine++(Roll.up (Roll.inT z.raw z.zE (Sh.zE z to)) 1)).length:Int)),(73,iV k)]) (fun (k:Nat) (vr2:Value)=>[Row vr2 163 8 zK (Sh.bIn ((z.fine++(Roll.up (Roll.inT z.raw z.zE (Sh.zE z to)) 1)).take k) z.zF (Sh.zF z to)),Row (.slice A7 ((Roll.up (Roll.inT z.raw z.zE (Sh.zE z to)) 1).length) cp7) 163 8 zK (Roll.up (Roll.inT z.raw z.zE (Sh.zE z to)) 1),Row (.slice A5 ((Roll.inT z.raw z.zE (Sh.zE z to)).length) cp5) 41 2 zQ (Roll.inT z.raw z.zE (Sh.zE z to)),.blk b7 [.slice A1 z.zJ.length cp1,.slice A2 z.raw.length cp2,.slice A8 ((z.fine++(Roll.up (Roll.inT z.raw z.zE (Sh.zE z to)) 1)).length) cp8,.slice A4 z.coarse.length cp4,iV z.zU,iV z.zL,iV z.zE,iV z.zH,iV z.zF] 50,Row (.slice A1 z.zJ.length cp1) 74 2 zS z.zJ,Row (.slice A2 z.raw.length cp2) 41 2 zQ z.raw,Row (.slice A8 ((z.fine++(Roll.up (Roll.inT z.raw z.zE (Sh.zE z to)) 1)).length) cp8) 163 8 zK (z.fine++(Roll.up (Roll.inT z.raw z.zE (Sh.zE z to)) 1)),Row (.slice A4 z.coarse.length cp4) 163 8 zK z.coarse,.blk b4 [Zs,Zs,Zs,Zs,iV 0,iV 0,iV 0,iV 0,iV 0] 50,.blk b2 [.slice z0A z.zJ.length z0c,.slice z1A z.raw.length z1c,.slice z2A z.fine.length z2c,.slice z3A z.coarse.length z3c,iV z.zU,iV z.zL,iV z.zE,iV z.zH,iV z.zF] 50,slP 2 zS (.slice z0A z.zJ.length z0c) z.zJ,slP 2 zQ (.slice z1A z.raw.length z1c) z.raw,slP 8 zK (.slice z2A z.fine.length z2c) z.fine,slP 8 zK (.slice z3A z.coarse.length z3c) z.coarse]) (fun (k:Nat) (vr2:Value)=>k≤(z.fine++(Roll.up (Roll.inT z.raw z.zE (Sh.zE z to)) 1)).length) (fun (k:Nat) (vr2:Value)=>(z.fine++(Roll.up (Roll.inT z.raw z.zE (Sh.zE z to)) 1)).length - k) 0 (Zs) (sc rfl (sc rfl (sc rfl (sc rfl (sc rfl (sc rfl (sc rfl (sc rfl (sc (ji qO) sn))))))))) (fun _ h=>h) ?_ (fun k vr2 hI2=>?_)
 ·omega
 have hlen:=Nat.le_trans (Sh.bIn_len ((z.fine++(Roll.up (Roll.inT z.raw z.zE (Sh.zE z to)) 1)).take k) z.zF (Sh.zF z to)) (List.length_take_le k (z.fine++(Roll.up (Roll.inT z.raw z.zE (Sh.zE z to)) 1)))
 refine yW 0 (l:=(Sh.bIn ((z.fine++(Roll.up (Roll.inT z.raw z.zE (Sh.zE z to)) 1)).take k) z.zF (Sh.zF z to))) rfl fun A9 cp9 hv3 hc5 hm5 hA9=>?_
 subst hv3
 refine (go 6) (zW (fun h7=>?_) fun h7=>?_)
 ·refine (go 6) ?_
  obtain ⟨ad2,s2,hd2,hs2⟩:=elx hA8 k
  refine (go 1) ?_
  refine za (uO 6 [iV s2.at_,iV s2.sum.count,iV s2.sum.total,iV s2.sum.min,iV s2.sum.max,iV s2.sum.first,iV s2.sum.last,iV s2.sum.rise] encBucket rfl rfl hd2 hs2 rfl rfl agg163 inf163) (zw fun b15=>?_)
  refine (go 11) (yO 82 (fun h8=>?_) fun h8=>?_)
  ·refine (go 7) (zW (fun h9=>?_) fun h9=>?_)
   ·refine (go 3) ?_
    refine zy zK ([s2]:List Bucket) wn underlying48 inf163 rfl rfl rfl rfl qD qD rfl fun b90=>yH 2 (Sh.bIn ((z.fine++(Roll.up (Roll.inT z.raw z.zE (Sh.zE z to)) 1)).take k) z.zF (Sh.zF z to)) ([s2]:List Bucket) encBucket wn rfl rfl rfl (fun _ hM=>(RowSl encBucket hM 0 rfl)) underlying48 inf163 rfl rfl (by first | omega | (simp only [qL]; omega)) rfl fun A10 cp10 hc6 hm6 hA10=>?_
    refine (go 7) ?_
    refine zT (yd (k + 1) (.slice A10 (((Sh.bIn ((z.fine++(Roll.up (Roll.inT z.raw z.zE (Sh.zE z to)) 1)).take k) z.zF (Sh.zF z to))++([s2]:List Bucket)).length) cp10) (sc rfl (sc rfl (sc rfl (sc rfl (sc rfl (sc rfl (sc rfl (sc rfl (sc (ji qO) sn))))))))) (fun _ h=>by rw [(Sh.bIn_succ (a:=z.zF) (b:=Sh.zF z to) hs2).trans (if_pos qO)]; exact (h.sel [2,3,4,5,6,7,8,9,10,11,12,13,14,15] qD rfl)) ?_ ?_)
    ·omega
    omega
   refine (go 6) ?_
   refine zT (yd (k + 1) (.slice A9 ((Sh.bIn ((z.fine++(Roll.up (Roll.inT z.raw z.zE (Sh.zE z to)) 1)).take k) z.zF (Sh.zF z to)).length) cp9) (sc rfl (sc rfl (sc rfl (sc rfl (sc rfl (sc rfl (sc rfl (sc rfl (sc (ji qO) sn))))))))) (fun _ h=>by rw [(Sh.bIn_succ (a:=z.zF) (b:=Sh.zF z to) hs2).trans (if_neg qO)]; exact (h.sel [1,2,3,4,5,6,7,8,9,10,11,12,13,14] qD rfl)) ?_ ?_)
   ·omega
   omega
  refine (go 14) ?_
  refine zT (yd (k + 1) (.slice A9 ((Sh.bIn ((z.fine++(Roll.up (Roll.inT z.raw z.zE (Sh.zE z to)) 1)).take k) z.zF (Sh.zF z to)).length) cp9) (sc rfl (sc rfl (sc rfl (sc rfl (sc rfl (sc rfl (sc rfl (sc rfl (sc (ji qO) sn))))))))) (fun _ h=>by rw [(Sh.bIn_succ (a:=z.zF) (b:=Sh.zF z to) hs2).trans (if_neg qO)]; exact (h.sel [1,2,3,4,5,6,7,8,9,10,11,12,13,14] qD rfl)) ?_ ?_)
  ·omega
  omega
 have hk2:(z.fine++(Roll.up (Roll.inT z.raw z.zE (Sh.zE z to)) 1)).take k=(z.fine++(Roll.up (Roll.inT z.raw z.zE (Sh.zE z to)) 1)):=List.take_of_length_le qO
 rw [hk2]
 rw [hk2] at hA9
 refine (go 6) ?_
 refine yM (Mem w ⟨no,P0⟩ [Row (.slice A9 ((Sh.bIn (z.fine++(Roll.up (Roll.inT z.raw z.zE (Sh.zE z to)) 1)) z.zF (Sh.zF z to)).length) cp9) 163 8 zK (Sh.bIn (z.fine++(Roll.up (Roll.inT z.raw z.zE (Sh.zE z to)) 1)) z.zF (Sh.zF z to)),Row (.slice A7 ((Roll.up (Roll.inT z.raw z.zE (Sh.zE z to)) 1).length) cp7) 163 8 zK (Roll.up (Roll.inT z.raw z.zE (Sh.zE z to)) 1),Row (.slice A5 ((Roll.inT z.raw z.zE (Sh.zE z to)).length) cp5) 41 2 zQ (Roll.inT z.raw z.zE (Sh.zE z to)),Row (.slice A1 z.zJ.length cp1) 74 2 zS z.zJ,Row (.slice A2 z.raw.length cp2) 41 2 zQ z.raw,Row (.slice A8 ((z.fine++(Roll.up (Roll.inT z.raw z.zE (Sh.zE z to)) 1)).length) cp8) 163 8 zK (z.fine++(Roll.up (Roll.inT z.raw z.zE (Sh.zE z to)) 1)),.blk b4 [Zs,Zs,Zs,Zs,iV 0,iV 0,iV 0,iV 0,iV 0] 50,.blk b2 [.slice z0A z.zJ.length z0c,.slice z1A z.raw.length z1c,.slice z2A z.fine.length z2c,.slice z3A z.coarse.length z3c,iV z.zU,iV z.zL,iV z.zE,iV z.zH,iV z.zF] 50,slP 2 zS (.slice z0A z.zJ.length z0c) z.zJ,slP 2 zQ (.slice z1A z.raw.length z1c) z.raw,slP 8 zK (.slice z2A z.fine.length z2c) z.fine,slP 8 zK (.slice z3A z.coarse.length z3c) z.coarse]) mix (fun _ h=>h.drew) rfl (yN 5 [0,2] [0,1,2,4,5,6,8,9,10,11,12,13] rfl fun KS hKS=>?_)
 refine (go 2) ?_
 refine zi hKS (js (f:=3) [(1,.val 94 (.slice A4 z.coarse.length cp4)),(3,.row 96 163 8 (Roll.greater (Sh.bIn (z.fine++(Roll.up (Roll.inT z.raw z.zE (Sh.zE z to)) 1)) z.zF (Sh.zF z to))).length ((Roll.greater (Sh.bIn (z.fine++(Roll.up (Roll.inT z.raw z.zE (Sh.zE z to)) 1)) z.zF (Sh.zF z to))).flatMap zK))] rfl (by kernel_rfl) (nd [1,3] rfl qD) (nd [94,96] rfl qD) rfl ⟨jv_ [] trivial rfl rfl rfl (uJ 3 rfl rfl rfl flat48),jr_ [] trivial rfl rfl rfl rfl call127 (fun w1 hM=>c_Greater _ (Sh.bIn (z.fine++(Roll.up (Roll.inT z.raw z.zE (Sh.zE z to)) 1)) z.zF (Sh.zF z to)) w1 (RowSl encBucket hM 0 rfl) (by first | assumption | omega | (simp only [List.length_cons,List.length_nil]; omega) | exact Nat.le_trans (Roll.up_len _ _) (by first | omega | simp))),trivial⟩ (S9 [0,1,2,4,5,6,8,9,10,11,12,13]) fun val2=>jQ (E':=[(2,.pointer (some ⟨b2,0,none⟩)),(4,.pointer (some ⟨b4,0,none⟩)),(7,.pointer (some ⟨b7,0,none⟩)),(8,iV (Sh.zE z to)),(9,iV (Sh.zF z to)),(13,.slice A9 ((Sh.bIn (z.fine++(Roll.up (Roll.inT z.raw z.zE (Sh.zE z to)) 1)) z.zF (Sh.zF z to)).length) cp9),(71,.slice A8 ((z.fine++(Roll.up (Roll.inT z.raw z.zE (Sh.zE z to)) 1)).length) cp8),(72,iV ((z.fine++(Roll.up (Roll.inT z.raw z.zE (Sh.zE z to)) 1)).length:Int)),(73,iV k),(74,.bool (decide ((k:Int) < ((z.fine++(Roll.up (Roll.inT z.raw z.zE (Sh.zE z to)) 1)).length:Int)))),(93,.pointer (some ⟨b7,3,none⟩)),(94,.slice A4 z.coarse.length cp4),(95,.slice A9 ((Sh.bIn (z.fine++(Roll.up (Roll.inT z.raw z.zE (Sh.zE z to)) 1)) z.zF (Sh.zF z to)).length) cp9),(96,(val2 3))]) (S':=Mem w ⟨no,P0⟩ [Row (val2 3) 163 8 zK (Roll.greater (Sh.bIn (z.fine++(Roll.up (Roll.inT z.raw z.zE (Sh.zE z to)) 1)) z.zF (Sh.zF z to))),Row (.slice A9 ((Sh.bIn (z.fine++(Roll.up (Roll.inT z.raw z.zE (Sh.zE z to)) 1)) z.zF (Sh.zF z to)).length) cp9) 163 8 zK (Sh.bIn (z.fine++(Roll.up (Roll.inT z.raw z.zE (Sh.zE z to)) 1)) z.zF (Sh.zF z to)),Row (.slice A7 ((Roll.up (Roll.inT z.raw z.zE (Sh.zE z to)) 1).length) cp7) 163 8 zK (Roll.up (Roll.inT z.raw z.zE (Sh.zE z to)) 1),Row (.slice A5 ((Roll.inT z.raw z.zE (Sh.zE z to)).length) cp5) 41 2 zQ (Roll.inT z.raw z.zE (Sh.zE z to)),.blk b7 [.slice A1 z.zJ.length cp1,.slice A2 z.raw.length cp2,.slice A8 ((z.fine++(Roll.up (Roll.inT z.raw z.zE (Sh.zE z to)) 1)).length) cp8,.slice A4 z.coarse.length cp4,iV z.zU,iV z.zL,iV z.zE,iV z.zH,iV z.zF] 50,Row (.slice A1 z.zJ.length cp1) 74 2 zS z.zJ,Row (.slice A2 z.raw.length cp2) 41 2 zQ z.raw,Row (.slice A8 ((z.fine++(Roll.up (Roll.inT z.raw z.zE (Sh.zE z to)) 1)).length) cp8) 163 8 zK (z.fine++(Roll.up (Roll.inT z.raw z.zE (Sh.zE z to)) 1)),Row (.slice A4 z.coarse.length cp4) 163 8 zK z.coarse,.blk b4 [Zs,Zs,Zs,Zs,iV 0,iV 0,iV 0,iV 0,iV 0] 50,.blk b2 [.slice z0A z.zJ.length z0c,.slice z1A z.raw.length z1c,.slice z2A z.fine.length z2c,.slice z3A z.coarse.length z3c,iV z.zU,iV z.zL,iV z.zE,iV z.zH,iV z.zF] 50,slP 2 zS (.slice z0A z.zJ.length z0c) z.zJ,slP 2 zQ (.slice z1A z.raw.length z1c) z.raw,slP 8 zK (.slice z2A z.fine.length z2c) z.fine,slP 8 zK (.slice z3A z.coarse.length z3c) z.coarse]) (sc rfl (sc rfl (sc rfl (sc rfl (sc rfl (sc rfl (sc rfl (sc rfl (sc rfl (sc rfl (sc rfl (sc rfl (sc rfl (sc rfl sn)))))))))))))) (fun _ h=>h) (uW 0 (l:=(Roll.greater (Sh.bIn (z.fine++(Roll.up (Roll.inT z.raw z.zE (Sh.zE z to)) 1)) z.zF (Sh.zF z to)))) (enc:=zK) rfl fun A11 cp11 hv4 hc7 hm7 hA11=>?_))
 rw [hv4]
 refine zf 2 4 (zh (i:=4) rfl fun KN hKN=>yH 8 z.coarse (Roll.greater (Sh.bIn (z.fine++(Roll.up (Roll.inT z.raw z.zE (Sh.zE z to)) 1)) z.zF (Sh.zF z to))) encBucket wn rfl rfl rfl (fun _ hM=>(RowSl encBucket hM 0 rfl)) underlying48 inf163 rfl rfl (by first | omega | (simp only [qL]; omega)) rfl fun A12 cp12 hc8 hm8 hA12=>?_)
 refine (go 1) ?_
 refine hKN _ _ (S9 [1,2,3,5,6,7,9,10,11,12,13,14]) (yN 1 [5] [1,2,3,5,6,7,9,10,11,12,13,14] rfl fun KS hKS=>?_)
 refine (go 1) ?_
 refine zi hKS (zf 0 6 (zh (i:=6) rfl fun KN hKN=>?_))
 refine (go 2) ?_
 refine hKN _ _ (S9 [1,2,3,5,6,7,9,10,11,12,13,14]) ?_
 refine zz (by kernel_rfl) ((go 1) ?_)
 refine (go 8) (yO 103 (fun h10=>?_) fun h10=>?_)
 ·refine (go 17) (yL results74 fun w1 hM=>?_)
  have he:Sh.roll z to=((⟨([]:List Label),([]:List Sample),([]:List Bucket),([]:List Bucket),0,0,0,0,0⟩:Shelf),5):=Sh.roll_many h1 (fun g=>by omega) (.inl h10)
  rw [he]
  exact hM.ym (s':=(⟨([]:List Label),([]:List Sample),([]:List Bucket),([]:List Bucket),0,0,0,0,0⟩:Shelf)) (fun u=>.tuple (List.toArray [u,iV 5])) rfl (rfl) (fun _ _=>zD.zu _ _ _ _) (fun _ _=>zD.zu _ _ _ _) (fun _ _=>zD.zu _ _ _ _) (fun _ _=>zD.zu _ _ _ _)
 refine (go 7) (zW (fun h11=>?_) fun h11=>?_)
 ·refine (go 9) (yL results74 fun w1 hM=>?_)
  have he:Sh.roll z to=((⟨([]:List Label),([]:List Sample),([]:List Bucket),([]:List Bucket),0,0,0,0,0⟩:Shelf),5):=Sh.roll_many h1 (fun g=>by omega) (.inr h11)
  rw [he]
  exact hM.ym (s':=(⟨([]:List Label),([]:List Sample),([]:List Bucket),([]:List Bucket),0,0,0,0,0⟩:Shelf)) (fun u=>.tuple (List.toArray [u,iV 5])) rfl (rfl) (fun _ _=>zD.zu _ _ _ _) (fun _ _=>zD.zu _ _ _ _) (fun _ _=>zD.zu _ _ _ _) (fun _ _=>zD.zu _ _ _ _)
 refine (go 20) (yL results74 fun w1 hM=>?_)
 have he:Sh.roll z to=((⟨z.zJ,z.raw,(z.fine++(Roll.up (Roll.inT z.raw z.zE (Sh.zE z to)) 1)),(z.coarse++(Roll.greater (Sh.bIn (z.fine++(Roll.up (Roll.inT z.raw z.zE (Sh.zE z to)) 1)) z.zF (Sh.zF z to)))),z.zU,z.zL,(Sh.zE z to),z.zH,(Sh.zF z to)⟩:Shelf),0):=Sh.roll_ok h1 (fun g=>by omega) h10 h11
 rw [he]
 have hM:=hM.zo encLabel (i:=5) rfl rfl
 have hM:=hM.zo encSample (i:=6) rfl rfl
 have hM:=hM.zo encBucket (i:=7) rfl rfl
 have hM:=hM.zo encBucket (i:=8) rfl rfl
 exact hM.ym (s':=(⟨z.zJ,z.raw,(z.fine++(Roll.up (Roll.inT z.raw z.zE (Sh.zE z to)) 1)),(z.coarse++(Roll.greater (Sh.bIn (z.fine++(Roll.up (Roll.inT z.raw z.zE (Sh.zE z to)) 1)) z.zF (Sh.zF z to)))),z.zU,z.zL,(Sh.zE z to),z.zH,(Sh.zF z to)⟩:Shelf)) (fun u=>.tuple (List.toArray [u,iV 0])) rfl (rfl) (fun _ pp=>pp.sl 5 rfl) (fun _ pp=>pp.sl 6 rfl) (fun _ pp=>pp.sl 7 rfl) (fun _ pp=>pp.sl 8 rfl)
theorem vj (x:Bucket) (fp:Nat) (f:Int) (w:World) (hfp:w.heap[fp]?=some (.cells [iV f].toArray 3 (0,0)))  :
    Calls prog 121 #[.agg (zK x).toArray,.pointer (some ⟨fp,0,none⟩)] w (Ret w (.bool (decide (x.at_ < f)))):=by
 refine zq (N:=8) func121 (Mem.ofDats (dc (ddb hfp) dn)) ?_
 refine (go 2) (yu fun b2=>?_)
 refine (go 13) (zX results121 fun w1 hM=>?_)
 exact zP rfl hM
theorem c_forget2 (x:Sample) (zp:Nat) (z0:Value) (z1:Value) (z2:Value) (z3:Value) (z:Shelf) (w:World) (hzp:w.heap[zp]?=some (.cells [z0,z1,z2,z3,iV z.zU,iV z.zL,iV z.zE,iV z.zH,iV z.zF].toArray 50 (0,0)))  :
    Calls prog 123 #[.agg (zQ x).toArray,.pointer (some ⟨zp,0,none⟩)] w (Ret w (.bool (decide (x.time < z.zU)))):=by
 refine zq (N:=9) func123 (Mem.ofDats (dc (ddb hzp) dn)) ?_
 refine (go 2) (yu fun b2=>?_)
 refine (go 14) (zX results123 fun w1 hM=>?_)
 exact zP rfl hM
theorem uC (f:Int) (w:World)   :
    Calls prog 120 #[iV f] w (RetMk w (fun b=>.func (.func 121) #[] #[.pointer (some ⟨b,0,none⟩)]) (fun b=>.blk b [iV f] 3)):=by
 refine zq (N:=4) func120 (Mem.ofDats dn) ?_
 refine (go 2) (jl fun b1=>?_)
 refine (go 5) ?_
 refine za (yj rfl rfl) ?_
 refine (go 4) (zX results120 fun w1 hM=>?_)
 exact ⟨b1,rfl,hM⟩
set_option maxHeartbeats 1000000 in
theorem c_forget (z0:Value) (z1:Value) (z2:Value) (z3:Value) (z:Shelf) (tier:Int) (to:Int) (P0:Nat→Prop) (w:World) (hP0:∀ b,P0 b→b < w.heap.size) (hz0:zD P0 2 zS z0 z.zJ w) (hz1:zD P0 2 zQ z1 z.raw w) (hz2:zD P0 8 zK z2 z.fine w) (hz3:zD P0 8 zK z3 z.coarse w)  :
    Calls prog 72 #[.agg (List.toArray [z0,z1,z2,z3,iV z.zU,iV z.zL,iV z.zE,iV z.zH,iV z.zF]),iV tier,iV to] w (RetSh w P0 (fun u=>.tuple (List.toArray [u,iV (Sh.forget z tier to).2])) (Sh.forget z tier to).1):=by
 obtain ⟨z0A,z0c,rfl,hz0c,hz0m,hz0A⟩:=hz0.form
 obtain ⟨z1A,z1c,rfl,hz1c,hz1m,hz1A⟩:=hz1.form
 obtain ⟨z2A,z2c,rfl,hz2c,hz2m,hz2A⟩:=hz2.form
 obtain ⟨z3A,z3c,rfl,hz3c,hz3m,hz3A⟩:=hz3.form
 refine zq (N:=82) func72 (Mem.ofDatsP hP0 (dc (dlp hz0) (dc (dlp hz1) (dc (dlp hz2) (dc (dlp hz3) dn))))) ?_
 refine (go 2) (yu fun b3=>zw fun b6=>?_)
 refine (go 7) ?_
 refine yF call21 wn rfl (fun w1 hM=>vi _ _ _ _ z (In w1) w1 (fun _ h=>h) (hM.slp 2 rfl) (hM.slp 3 rfl) (hM.slp 4 rfl) (hM.slp 5 rfl)) ?_
 refine (go 9) (zW (fun h1=>?_) fun h1=>?_)
 ·refine (go 10) (yL results72 fun w1 hM=>?_)
  have he:Sh.forget z tier to=((⟨([]:List Label),([]:List Sample),([]:List Bucket),([]:List Bucket),0,0,0,0,0⟩:Shelf),(Sh.wrong z)):=Sh.forget_wrong h1
  rw [he]
  exact hM.ym (s':=(⟨([]:List Label),([]:List Sample),([]:List Bucket),([]:List Bucket),0,0,0,0,0⟩:Shelf)) (fun u=>.tuple (List.toArray [u,iV (Sh.wrong z)])) rfl (rfl) (fun _ _=>zD.zu _ _ _ _) (fun _ _=>zD.zu _ _ _ _) (fun _ _=>zD.zu _ _ _ _) (fun _ _=>zD.zu _ _ _ _)
 obtain ⟨l1,l2,l3,l4⟩:=(Sh.ok_of h1).lens
 obtain ⟨⟨g1,g2,g3,g4⟩,⟨g5,g6,g7,g8,g9⟩,g10,g11,g12,g13,g14⟩:=(Sh.ok_of h1).rng
 refine (go 8) (yO 19 (fun h2=>?_) fun h2=>?_)
 ·refine (go 15) (yL results72 fun w1 hM=>?_)
  have he:Sh.forget z tier to=((⟨([]:List Label),([]:List Sample),([]:List Bucket),([]:List Bucket),0,0,0,0,0⟩:Shelf),3):=Sh.forget_range h1 qO
  rw [he]
  exact hM.ym (s':=(⟨([]:List Label),([]:List Sample),([]:List Bucket),([]:List Bucket),0,0,0,0,0⟩:Shelf)) (fun u=>.tuple (List.toArray [u,iV 3])) rfl (rfl) (fun _ _=>zD.zu _ _ _ _) (fun _ _=>zD.zu _ _ _ _) (fun _ _=>zD.zu _ _ _ _) (fun _ _=>zD.zu _ _ _ _)
 refine (go 5) (zW (fun h3=>?_) fun h3=>?_)
 ·refine (go 9) (yL results72 fun w1 hM=>?_)
  have he:Sh.forget z tier to=((⟨([]:List Label),([]:List Sample),([]:List Bucket),([]:List Bucket),0,0,0,0,0⟩:Shelf),3):=Sh.forget_range h1 qO
  rw [he]
  exact hM.ym (s':=(⟨([]:List Label),([]:List Sample),([]:List Bucket),([]:List Bucket),0,0,0,0,0⟩:Shelf)) (fun u=>.tuple (List.toArray [u,iV 3])) rfl (rfl) (fun _ _=>zD.zu _ _ _ _) (fun _ _=>zD.zu _ _ _ _) (fun _ _=>zD.zu _ _ _ _) (fun _ _=>zD.zu _ _ _ _)
 refine (go 5) ?_
 refine v8 z wn rfl call119 rfl (fun w1 hM=>jg _ _ _ _ z (In w1) w1 (fun _ h=>h) (hM.slp 2 rfl) (hM.slp 3 rfl) (hM.slp 4 rfl) (hM.slp 5 rfl) (Sh.wrong_lens (by assumption))) fun A1 cp1 A2 cp2 A3 cp3 A4 cp4 hb1 hA1 hA2 hA3 hA4=>zw fun b9=>?_
 refine (go 21) (zW (fun h4=>?_) fun h4=>?_)
 ·refine (go 8) ?_
  refine za (jL (show _=(Sh.rawF z to) from rfl) (ud rfl rfl)) ?_
  refine (go 7) ?_
  refine za (yj rfl rfl) (vQ 2 (Sh.fromS z.raw (Sh.rawF z to)) rfl wn rfl call122 rfl (fun w1 hM=>c_delS _ z.raw 123 #[.pointer (some ⟨b9,0,none⟩)] (fun x=>decide (x.time < (Sh.rawF z to))) w1 (hM.row (i:=2) rfl) call123 (fun x w2 h2=>c_forget2 x b9 _ _ _ _ (⟨z.zJ,z.raw,z.fine,z.coarse,(Sh.rawF z to),z.zL,z.zE,z.zH,z.zF⟩:Shelf) w2 (hM.blkStay (i:=0) (j:=2) rfl rfl h2))) fun A5 cp5 hc1 hm1 hA5=>?_)
  refine (go 13) (yL results72 fun w1 hM=>?_)
  have he:Sh.forget z tier to=((⟨z.zJ,(Sh.fromS z.raw (Sh.rawF z to)),z.fine,z.coarse,(Sh.rawF z to),z.zL,z.zE,z.zH,z.zF⟩:Shelf),0):=Sh.forget_raw h1 (fun g=>by omega) h4
  rw [he]
  have hM:=hM.zo encLabel (i:=1) rfl rfl
  have hM:=hM.zo encSample (i:=2) rfl rfl
  have hM:=hM.zo encBucket (i:=3) rfl rfl
  have hM:=hM.zo encBucket (i:=4) rfl rfl
  exact hM.ym (s':=(⟨z.zJ,(Sh.fromS z.raw (Sh.rawF z to)),z.fine,z.coarse,(Sh.rawF z to),z.zL,z.zE,z.zH,z.zF⟩:Shelf)) (fun u=>.tuple (List.toArray [u,iV 0])) rfl (rfl) (fun _ pp=>pp.sl 1 rfl) (fun _ pp=>pp.sl 2 rfl) (fun _ pp=>pp.sl 3 rfl) (fun _ pp=>pp.sl 4 rfl)
 refine (go 6) (zW (fun h5=>?_) fun h5=>?_)
 ·refine (go 1) (vE 9 ?_)
  refine (go 6) ?_
  refine yQ wn rfl call124 rfl (fun w1 hM=>jE (if z.zF < to then z.zF else to) 10 w1 qO qO) (yZ (jL (show _=(Sh.fineF z to) from rfl) (ud rfl rfl)) ?_)
  refine (go 5) ?_
  refine yM (Mem w ⟨no,P0⟩ [Row (.slice A1 z.zJ.length cp1) 74 2 zS z.zJ,Row (.slice A2 z.raw.length cp2) 41 2 zQ z.raw,Row (.slice A4 z.coarse.length cp4) 163 8 zK z.coarse,.blk b6 [Zs,Zs,Zs,Zs,iV 0,iV 0,iV 0,iV 0,iV 0] 50,.blk b3 [.slice z0A z.zJ.length z0c,.slice z1A z.raw.length z1c,.slice z2A z.fine.length z2c,.slice z3A z.coarse.length z3c,iV z.zU,iV z.zL,iV z.zE,iV z.zH,iV z.zF] 50,slP 2 zS (.slice z0A z.zJ.length z0c) z.zJ,slP 2 zQ (.slice z1A z.raw.length z1c) z.raw,slP 8 zK (.slice z2A z.fine.length z2c) z.fine,slP 8 zK (.slice z3A z.coarse.length z3c) z.coarse]) mix (fun _ h=>h.drew) rfl (yN 6 [0,2,3] [1,2,4,5,6,7,8,9,10] rfl fun KS hKS=>?_)
  refine (go 3) ?_
  refine zi hKS (ya (f:=5) (i:=1) (j:=4) rfl (by kernel_rfl) ?_ ?_)
  ·refine zh (i:=1) rfl fun KN hKN=>?_
   refine (go 2) ?_
   refine hKN _ _ (S9 [1,2,4,5,6,7,8,9,10]) (zf 4 4 (zh (i:=4) rfl fun KN hKN=>?_))
   refine (go 2) ?_
   refine hKN _ _ (S9 [1,2,4,5,6,7,8,9,10]) (zf 3 5 (zh (i:=5) rfl fun KN hKN=>vg (fun b=>.func (.func 121) #[] #[.pointer (some ⟨b,0,none⟩)]) (fun b=>.blk b [iV (Sh.fineF z to)] 3) (fun _=>rfl) wn rfl rfl call120 rfl (fun w1 hM=>uC (Sh.fineF z to) w1) fun be1=>?_))
   refine (go 1) ?_
   refine hKN _ _ (S9 [2,3,5,6,7,8,9,10,11]) (zf 2 6 (zh (i:=6) rfl fun KN hKN=>vQ 4 (Sh.fromB z.fine (Sh.fineF z to)) rfl wn rfl call125 rfl (fun w1 hM=>uc _ z.fine 121 #[.pointer (some ⟨be1,0,none⟩)] (fun x=>decide (x.at_ < (Sh.fineF z to))) w1 (hM.row (i:=4) rfl) call121 (fun x w2 h2=>vj x be1 (Sh.fineF z to) w2 (hM.blkStay (i:=0) (j:=4) rfl rfl h2))) fun A6 cp6 hc2 hm2 hA6=>?_))
   refine (go 1) ?_
   refine hKN _ _ (S9 [2,3,5,6,7,8,9,10,11]) (yN 1 [7] [2,3,5,6,7,8,9,10,11] rfl fun KS hKS=>?_)
   refine (go 1) ?_
   refine zi hKS (zf 0 8 (zh (i:=8) rfl fun KN hKN=>?_))
   refine (go 2) ?_
   refine hKN _ _ (S9 [2,3,5,6,7,8,9,10,11]) ?_
   refine zz (by kernel_rfl) ((go 2) ?_)
   refine (go 8) (yL results72 fun w1 hM=>?_)
   have he:Sh.forget z tier to=((⟨z.zJ,z.raw,(Sh.fromB z.fine (Sh.fineF z to)),z.coarse,z.zU,(Sh.fineF z to),z.zE,z.zH,z.zF⟩:Shelf),0):=Sh.forget_fine h1 (fun g=>by omega) h4 h5
   rw [he]
   have hM:=hM.zo encLabel (i:=2) rfl rfl
   have hM:=hM.zo encSample (i:=3) rfl rfl
   have hM:=hM.zo encBucket (i:=4) rfl rfl
   have hM:=hM.zo encBucket (i:=5) rfl rfl
   exact hM.ym (s':=(⟨z.zJ,z.raw,(Sh.fromB z.fine (Sh.fineF z to)),z.coarse,z.zU,(Sh.fineF z to),z.zE,z.zH,z.zF⟩:Shelf)) (fun u=>.tuple (List.toArray [u,iV 0])) rfl (rfl) (fun _ pp=>pp.sl 2 rfl) (fun _ pp=>pp.sl 3 rfl) (fun _ pp=>pp.sl 4 rfl) (fun _ pp=>pp.sl 5 rfl)
  refine zh (i:=4) rfl fun KN hKN=>?_
  refine (go 2) ?_
  refine hKN _ _ (S9 [1,2,4,5,6,7,8,9,10]) (ya (f:=4) (i:=1) (j:=5) rfl (by kernel_rfl) ?_ ?_)
  ·refine zh (i:=1) rfl fun KN hKN=>?_
   refine (go 2) ?_
   refine hKN _ _ (S9 [1,2,4,5,6,7,8,9,10]) (zf 3 5 (zh (i:=5) rfl fun KN hKN=>vg (fun b=>.func (.func 121) #[] #[.pointer (some ⟨b,0,none⟩)]) (fun b=>.blk b [iV (Sh.fineF z to)] 3) (fun _=>rfl) wn rfl rfl call120 rfl (fun w1 hM=>uC (Sh.fineF z to) w1) fun be2=>?_))
   refine (go 1) ?_
   refine hKN _ _ (S9 [2,3,5,6,7,8,9,10,11]) (zf 2 6 (zh (i:=6) rfl fun KN hKN=>vQ 4 (Sh.fromB z.fine (Sh.fineF z to)) rfl wn rfl call125 rfl (fun w1 hM=>uc _ z.fine 121 #[.pointer (some ⟨be2,0,none⟩)] (fun x=>decide (x.at_ < (Sh.fineF z to))) w1 (hM.row (i:=4) rfl) call121 (fun x w2 h2=>vj x be2 (Sh.fineF z to) w2 (hM.blkStay (i:=0) (j:=4) rfl rfl h2))) fun A7 cp7 hc3 hm3 hA7=>?_))
   refine (go 1) ?_
   refine hKN _ _ (S9 [2,3,5,6,7,8,9,10,11]) (yN 1 [7] [2,3,5,6,7,8,9,10,11] rfl fun KS hKS=>?_)
   refine (go 1) ?_
   refine zi hKS (zf 0 8 (zh (i:=8) rfl fun KN hKN=>?_))
   refine (go 2) ?_
   refine hKN _ _ (S9 [2,3,5,6,7,8,9,10,11]) ?_
   refine zz (by kernel_rfl) ((go 2) ?_)
   refine (go 8) (yL results72 fun w1 hM=>?_)
   have he:Sh.forget z tier to=((⟨z.zJ,z.raw,(Sh.fromB z.fine (Sh.fineF z to)),z.coarse,z.zU,(Sh.fineF z to),z.zE,z.zH,z.zF⟩:Shelf),0):=Sh.forget_fine h1 (fun g=>by omega) h4 h5
   rw [he]
   have hM:=hM.zo encLabel (i:=2) rfl rfl
   have hM:=hM.zo encSample (i:=3) rfl rfl
   have hM:=hM.zo encBucket (i:=4) rfl rfl
   have hM:=hM.zo encBucket (i:=5) rfl rfl
   exact hM.ym (s':=(⟨z.zJ,z.raw,(Sh.fromB z.fine (Sh.fineF z to)),z.coarse,z.zU,(Sh.fineF z to),z.zE,z.zH,z.zF⟩:Shelf)) (fun u=>.tuple (List.toArray [u,iV 0])) rfl (rfl) (fun _ pp=>pp.sl 2 rfl) (fun _ pp=>pp.sl 3 rfl) (fun _ pp=>pp.sl 4 rfl) (fun _ pp=>pp.sl 5 rfl)
  refine zh (i:=5) rfl fun KN hKN=>vg (fun b=>.func (.func 121) #[] #[.pointer (some ⟨b,0,none⟩)]) (fun b=>.blk b [iV (Sh.fineF z to)] 3) (fun _=>rfl) wn rfl rfl call120 rfl (fun w1 hM=>uC (Sh.fineF z to) w1) fun be3=>?_
  refine (go 1) ?_
  refine hKN _ _ (S9 [2,3,5,6,7,8,9,10,11]) (zf 3 1 (zh (i:=1) rfl fun KN hKN=>?_))
  refine (go 2) ?_
  refine hKN _ _ (S9 [2,3,5,6,7,8,9,10,11]) (zf 2 6 (zh (i:=6) rfl fun KN hKN=>vQ 4 (Sh.fromB z.fine (Sh.fineF z to)) rfl wn rfl call125 rfl (fun w1 hM=>uc _ z.fine 121 #[.pointer (some ⟨be3,0,none⟩)] (fun x=>decide (x.at_ < (Sh.fineF z to))) w1 (hM.row (i:=4) rfl) call121 (fun x w2 h2=>vj x be3 (Sh.fineF z to) w2 (hM.blkStay (i:=0) (j:=4) rfl rfl h2))) fun A8 cp8 hc4 hm4 hA8=>?_))
  refine (go 1) ?_
  refine hKN _ _ (S9 [2,3,5,6,7,8,9,10,11]) (yN 1 [7] [2,3,5,6,7,8,9,10,11] rfl fun KS hKS=>?_)
  refine (go 1) ?_
  refine zi hKS (zf 0 8 (zh (i:=8) rfl fun KN hKN=>?_))
  refine (go 2) ?_
  refine hKN _ _ (S9 [2,3,5,6,7,8,9,10,11]) ?_
  refine zz (by kernel_rfl) ((go 2) ?_)
  refine (go 8) (yL results72 fun w1 hM=>?_)
  have he:Sh.forget z tier to=((⟨z.zJ,z.raw,(Sh.fromB z.fine (Sh.fineF z to)),z.coarse,z.zU,(Sh.fineF z to),z.zE,z.zH,z.zF⟩:Shelf),0):=Sh.forget_fine h1 (fun g=>by omega) h4 h5
  rw [he]
  have hM:=hM.zo encLabel (i:=2) rfl rfl
  have hM:=hM.zo encSample (i:=3) rfl rfl
  have hM:=hM.zo encBucket (i:=4) rfl rfl
  have hM:=hM.zo encBucket (i:=5) rfl rfl
  exact hM.ym (s':=(⟨z.zJ,z.raw,(Sh.fromB z.fine (Sh.fineF z to)),z.coarse,z.zU,(Sh.fineF z to),z.zE,z.zH,z.zF⟩:Shelf)) (fun u=>.tuple (List.toArray [u,iV 0])) rfl (rfl) (fun _ pp=>pp.sl 2 rfl) (fun _ pp=>pp.sl 3 rfl) (fun _ pp=>pp.sl 4 rfl) (fun _ pp=>pp.sl 5 rfl)
 refine (go 6) (zW (fun h6=>?_) fun h6=>?_)
 ·refine (go 1) (vE 9 ?_)
  refine (go 6) ?_
  refine yQ wn rfl call124 rfl (fun w1 hM=>jE (if z.zF < to then z.zF else to) 60 w1 qO qO) (yZ (jL (show _=(Sh.coarseF z to) from rfl) (ud rfl rfl)) ?_)
  refine (go 5) ?_
  refine yM (Mem w ⟨no,P0⟩ [Row (.slice A1 z.zJ.length cp1) 74 2 zS z.zJ,Row (.slice A2 z.raw.length cp2) 41 2 zQ z.raw,Row (.slice A3 z.fine.length cp3) 163 8 zK z.fine,.blk b6 [Zs,Zs,Zs,Zs,iV 0,iV 0,iV 0,iV 0,iV 0] 50,.blk b3 [.slice z0A z.zJ.length z0c,.slice z1A z.raw.length z1c,.slice z2A z.fine.length z2c,.slice z3A z.coarse.length z3c,iV z.zU,iV z.zL,iV z.zE,iV z.zH,iV z.zF] 50,slP 2 zS (.slice z0A z.zJ.length z0c) z.zJ,slP 2 zQ (.slice z1A z.raw.length z1c) z.raw,slP 8 zK (.slice z2A z.fine.length z2c) z.fine,slP 8 zK (.slice z3A z.coarse.length z3c) z.coarse]) mix (fun _ h=>h.drew) rfl (yN 6 [0,2,3] [1,2,3,5,6,7,8,9,10] rfl fun KS hKS=>?_)
  refine (go 3) ?_
  refine zi hKS (ya (f:=5) (i:=1) (j:=4) rfl (by kernel_rfl) ?_ ?_)
  ·refine zh (i:=1) rfl fun KN hKN=>?_
   refine (go 2) ?_
   refine hKN _ _ (S9 [1,2,3,5,6,7,8,9,10]) (zf 4 4 (zh (i:=4) rfl fun KN hKN=>?_))
   refine (go 2) ?_
   refine hKN _ _ (S9 [1,2,3,5,6,7,8,9,10]) (zf 3 5 (zh (i:=5) rfl fun KN hKN=>vg (fun b=>.func (.func 121) #[] #[.pointer (some ⟨b,0,none⟩)]) (fun b=>.blk b [iV (Sh.coarseF z to)] 3) (fun _=>rfl) wn rfl rfl call120 rfl (fun w1 hM=>uC (Sh.coarseF z to) w1) fun be4=>?_))
   refine (go 1) ?_
   refine hKN _ _ (S9 [2,3,4,6,7,8,9,10,11]) (zf 2 6 (zh (i:=6) rfl fun KN hKN=>vQ 5 (Sh.fromB z.coarse (Sh.coarseF z to)) rfl wn rfl call125 rfl (fun w1 hM=>uc _ z.coarse 121 #[.pointer (some ⟨be4,0,none⟩)] (fun x=>decide (x.at_ < (Sh.coarseF z to))) w1 (hM.row (i:=5) rfl) call121 (fun x w2 h2=>vj x be4 (Sh.coarseF z to) w2 (hM.blkStay (i:=0) (j:=5) rfl rfl h2))) fun A9 cp9 hc5 hm5 hA9=>?_))
   refine (go 1) ?_
   refine hKN _ _ (S9 [2,3,4,6,7,8,9,10,11]) (yN 1 [7] [2,3,4,6,7,8,9,10,11] rfl fun KS hKS=>?_)
   refine (go 1) ?_
   refine zi hKS (zf 0 8 (zh (i:=8) rfl fun KN hKN=>?_))
   refine (go 2) ?_
   refine hKN _ _ (S9 [2,3,4,6,7,8,9,10,11]) ?_
   refine zz (by kernel_rfl) ((go 2) ?_)
   refine (go 8) (yL results72 fun w1 hM=>?_)
   have he:Sh.forget z tier to=((⟨z.zJ,z.raw,z.fine,(Sh.fromB z.coarse (Sh.coarseF z to)),z.zU,z.zL,z.zE,(Sh.coarseF z to),z.zF⟩:Shelf),0):=Sh.forget_coarse h1 (fun g=>by omega) h4 h5 h6
   rw [he]
   have hM:=hM.zo encLabel (i:=2) rfl rfl
   have hM:=hM.zo encSample (i:=3) rfl rfl
   have hM:=hM.zo encBucket (i:=4) rfl rfl
   have hM:=hM.zo encBucket (i:=5) rfl rfl
   exact hM.ym (s':=(⟨z.zJ,z.raw,z.fine,(Sh.fromB z.coarse (Sh.coarseF z to)),z.zU,z.zL,z.zE,(Sh.coarseF z to),z.zF⟩:Shelf)) (fun u=>.tuple (List.toArray [u,iV 0])) rfl (rfl) (fun _ pp=>pp.sl 2 rfl) (fun _ pp=>pp.sl 3 rfl) (fun _ pp=>pp.sl 4 rfl) (fun _ pp=>pp.sl 5 rfl)
  refine zh (i:=4) rfl fun KN hKN=>?_
  refine (go 2) ?_
  refine hKN _ _ (S9 [1,2,3,5,6,7,8,9,10]) (ya (f:=4) (i:=1) (j:=5) rfl (by kernel_rfl) ?_ ?_)
  ·refine zh (i:=1) rfl fun KN hKN=>?_
   refine (go 2) ?_
   refine hKN _ _ (S9 [1,2,3,5,6,7,8,9,10]) (zf 3 5 (zh (i:=5) rfl fun KN hKN=>vg (fun b=>.func (.func 121) #[] #[.pointer (some ⟨b,0,none⟩)]) (fun b=>.blk b [iV (Sh.coarseF z to)] 3) (fun _=>rfl) wn rfl rfl call120 rfl (fun w1 hM=>uC (Sh.coarseF z to) w1) fun be5=>?_))
   refine (go 1) ?_
   refine hKN _ _ (S9 [2,3,4,6,7,8,9,10,11]) (zf 2 6 (zh (i:=6) rfl fun KN hKN=>vQ 5 (Sh.fromB z.coarse (Sh.coarseF z to)) rfl wn rfl call125 rfl (fun w1 hM=>uc _ z.coarse 121 #[.pointer (some ⟨be5,0,none⟩)] (fun x=>decide (x.at_ < (Sh.coarseF z to))) w1 (hM.row (i:=5) rfl) call121 (fun x w2 h2=>vj x be5 (Sh.coarseF z to) w2 (hM.blkStay (i:=0) (j:=5) rfl rfl h2))) fun A10 cp10 hc6 hm6 hA10=>?_))
   refine (go 1) ?_
   refine hKN _ _ (S9 [2,3,4,6,7,8,9,10,11]) (yN 1 [7] [2,3,4,6,7,8,9,10,11] rfl fun KS hKS=>?_)
   refine (go 1) ?_
   refine zi hKS (zf 0 8 (zh (i:=8) rfl fun KN hKN=>?_))
   refine (go 2) ?_
   refine hKN _ _ (S9 [2,3,4,6,7,8,9,10,11]) ?_
   refine zz (by kernel_rfl) ((go 2) ?_)
   refine (go 8) (yL results72 fun w1 hM=>?_)
   have he:Sh.forget z tier to=((⟨z.zJ,z.raw,z.fine,(Sh.fromB z.coarse (Sh.coarseF z to)),z.zU,z.zL,z.zE,(Sh.coarseF z to),z.zF⟩:Shelf),0):=Sh.forget_coarse h1 (fun g=>by omega) h4 h5 h6
   rw [he]
   have hM:=hM.zo encLabel (i:=2) rfl rfl
   have hM:=hM.zo encSample (i:=3) rfl rfl
   have hM:=hM.zo encBucket (i:=4) rfl rfl
   have hM:=hM.zo encBucket (i:=5) rfl rfl
   exact hM.ym (s':=(⟨z.zJ,z.raw,z.fine,(Sh.fromB z.coarse (Sh.coarseF z to)),z.zU,z.zL,z.zE,(Sh.coarseF z to),z.zF⟩:Shelf)) (fun u=>.tuple (List.toArray [u,iV 0])) rfl (rfl) (fun _ pp=>pp.sl 2 rfl) (fun _ pp=>pp.sl 3 rfl) (fun _ pp=>pp.sl 4 rfl) (fun _ pp=>pp.sl 5 rfl)
  refine zh (i:=5) rfl fun KN hKN=>vg (fun b=>.func (.func 121) #[] #[.pointer (some ⟨b,0,none⟩)]) (fun b=>.blk b [iV (Sh.coarseF z to)] 3) (fun _=>rfl) wn rfl rfl call120 rfl (fun w1 hM=>uC (Sh.coarseF z to) w1) fun be6=>?_
  refine (go 1) ?_
  refine hKN _ _ (S9 [2,3,4,6,7,8,9,10,11]) (zf 3 1 (zh (i:=1) rfl fun KN hKN=>?_))
  refine (go 2) ?_
  refine hKN _ _ (S9 [2,3,4,6,7,8,9,10,11]) (zf 2 6 (zh (i:=6) rfl fun KN hKN=>vQ 5 (Sh.fromB z.coarse (Sh.coarseF z to)) rfl wn rfl call125 rfl (fun w1 hM=>uc _ z.coarse 121 #[.pointer (some ⟨be6,0,none⟩)] (fun x=>decide (x.at_ < (Sh.coarseF z to))) w1 (hM.row (i:=5) rfl) call121 (fun x w2 h2=>vj x be6 (Sh.coarseF z to) w2 (hM.blkStay (i:=0) (j:=5) rfl rfl h2))) fun A11 cp11 hc7 hm7 hA11=>?_))
  refine (go 1) ?_
  refine hKN _ _ (S9 [2,3,4,6,7,8,9,10,11]) (yN 1 [7] [2,3,4,6,7,8,9,10,11] rfl fun KS hKS=>?_)
  refine (go 1) ?_
  refine zi hKS (zf 0 8 (zh (i:=8) rfl fun KN hKN=>?_))
  refine (go 2) ?_
  refine hKN _ _ (S9 [2,3,4,6,7,8,9,10,11]) ?_
  refine zz (by kernel_rfl) ((go 2) ?_)
  refine (go 8) (yL results72 fun w1 hM=>?_)
  have he:Sh.forget z tier to=((⟨z.zJ,z.raw,z.fine,(Sh.fromB z.coarse (Sh.coarseF z to)),z.zU,z.zL,z.zE,(Sh.coarseF z to),z.zF⟩:Shelf),0):=Sh.forget_coarse h1 (fun g=>by omega) h4 h5 h6
  rw [he]
  have hM:=hM.zo encLabel (i:=2) rfl rfl
  have hM:=hM.zo encSample (i:=3) rfl rfl
  have hM:=hM.zo encBucket (i:=4) rfl rfl
  have hM:=hM.zo encBucket (i:=5) rfl rfl
  exact hM.ym (s':=(⟨z.zJ,z.raw,z.fine,(Sh.fromB z.coarse (Sh.coarseF z to)),z.zU,z.zL,z.zE,(Sh.coarseF z to),z.zF⟩:Shelf)) (fun u=>.tuple (List.toArray [u,iV 0])) rfl (rfl) (fun _ pp=>pp.sl 2 rfl) (fun _ pp=>pp.sl 3 rfl) (fun _ pp=>pp.sl 4 rfl) (fun _ pp=>pp.sl 5 rfl)
 refine (go 10) (yL results72 fun w1 hM=>?_)
 have he:Sh.forget z tier to=((⟨([]:List Label),([]:List Sample),([]:List Bucket),([]:List Bucket),0,0,0,0,0⟩:Shelf),1):=Sh.forget_kind h1 (fun g=>by omega) h4 h5 h6
 rw [he]
 exact hM.ym (s':=(⟨([]:List Label),([]:List Sample),([]:List Bucket),([]:List Bucket),0,0,0,0,0⟩:Shelf)) (fun u=>.tuple (List.toArray [u,iV 1])) rfl (rfl) (fun _ _=>zD.zu _ _ _ _) (fun _ _=>zD.zu _ _ _ _) (fun _ _=>zD.zu _ _ _ _) (fun _ _=>zD.zu _ _ _ _)
end
section
open Tryz
open Ex
attribute [local irreducible] WC WL WQ WE WS
set_option linter.unusedVariables false
set_option linter.unusedSimpArgs false
set_option maxHeartbeats 1000000 in
theorem c_insertS (sv vv:Value) (l:List zC) (x:zC) (i:Nat) (Pb:Nat→Prop) (w:World) (hG:Mem w ⟨fpOf [Row sv 50 9 zY l,Row vv 50 9 zY [x]],Pb⟩ [Row sv 50 9 zY l,Row vv 50 9 zY [x]] w) (hil:i≤l.length) (hl1:l.length≤1048576) :
    Calls prog 115 #[sv,iV i,vv] w (RetA w [Row sv 50 9 zY l,Row vv 50 9 zY [x]] Pb (fun z:Value=>z) (fun _=>True) (fun z=>[Row z 50 9 zY (l.take i++x::l.drop i)])):=by
 obtain ⟨sA,sc,rfl,hsc,hsm,hsA⟩:=row_form' (hG.row (i:=0) rfl)
 obtain ⟨vA,vc,hv0,hvc,hvm,hvA⟩:=row_form' (hG.row (i:=1) rfl)
 have hv0:vv=.slice vA 1 vc:=hv0
 have hvc:1≤vc:=hvc
 subst hv0
 refine zq (N:=95) func115 hG ?_
 refine (go 9) ?_
 refine za (jK (lo:=i) (hi:=l.length) rfl (lo1 rfl qO) hi0 qI qI qI underlying23 inf50) ?_
 refine (go 16) ?_
 refine yU rfl (decide_eq_false qD) ?_
 refine (go 17) (zW (fun h1=>?_) fun h1=>?_)
 ·refine (go 4) ?_
  refine yH 0 l [x] encShelfX wn rfl rfl rfl (fun _ hM=>(RowSl encShelfX hM 1 rfl)) underlying23 inf50 rfl rfl (by simp only [qL]; omega) rfl fun A1 cp1 hc1 hm1 hA1=>?_
  refine (go 5) (zX results115 fun w1 hM=>?_)
  exact hM.yR (.slice A1 ((l++[x]).length) cp1) rfl trivial (fun h=>row_as (v:=.slice A1 ((l++[x]).length) cp1) (n:=(l++[x]).length) (by rw [ins_len hil,List.length_append]; rfl) (ins_end qO) (h.sel [0] qD rfl))
 refine (go 5) ?_
 obtain ⟨sad,hsd⟩:=hsA (ne_nil (i:=i) qO)
 obtain ⟨vad,hvd⟩:=hvA qS
 refine (go 4) ?_
 refine za (r_cap rfl underlying23) ?_
 refine (go 3) (zW (fun h2=>?_) fun h2=>?_)
 ·refine (go 4) ?_
  refine za (jx (by rw [subA_zero,Nat.sub_zero,Nat.sub_zero]) (yt (lo:=0) (hi:=i) rfl lo0 (hi1 rfl qO) qO qO underlying23 inf50)) ?_
  refine (go 5) ?_
  refine l_appZ (enc:=zY) (l.take i++List.replicate (l.length + 1 - i) zeroSh) (l.length + 1) (kk:=l.length + 1 - i) (olds:=(l.take i).flatMap zY) wn rfl rfl qO qO (by rw [flat_len encShelfX.len,List.length_take]; omega) (fun h=>by rw [hsd] at h; cases h) (fun ad h=>by rw [hsd] at h; injection h with h; subst h; exact fun w hS p u hu=>rowCells 0 rfl hsd w hS p u (by have:=flat_pre (k:=9) hu; rwa [Nat.zero_mul,Nat.zero_add] at this)) qO qO rfl qD underlying23 underlying3 inf50 rfl (by rw [List.flatMap_append]; exact congrArg _ (zero_any qD encShelfX _ _ rfl _)) qO rfl fun b1 C1 hc2 hm2=>?_
  refine (go 7) ?_
  refine za (yt (lo:=i) (hi:=(l.length + 1)) rfl (lo1 rfl qO) hi0 qO qO underlying23 inf50) ?_
  refine (go 1) ?_
  refine uA 0 (j:=i) (l.take i++List.replicate (l.length + 1 - i) zeroSh) [x] encShelfX wn rfl (subA_some rfl qO) rfl hvd rfl rfl underlying23 inf50 (by simp only [List.length_drop,List.length_cons,List.length_nil]; show _=min _ _; omega) (by simp only [List.length_append,List.length_take,List.length_drop,List.length_replicate,List.length_cons,List.length_nil]; omega) (by simp only [List.length_append,List.length_take,List.length_drop,List.length_replicate,List.length_cons,List.length_nil]; omega) (rowCells 2 rfl hvd) rfl ?_
  refine (go 3) (vE 8 ?_)
  refine (go 4) ?_
  refine yZ (yt (lo:=(i + 1)) (hi:=(l.length + 1)) rfl (lo1 rfl qO) hi0 qO qO underlying23 inf50) ?_
  refine (go 2) ?_
  refine yZ (yt (lo:=i) (hi:=l.length) rfl (lo1 rfl qO) hi0 qO qO underlying23 inf50) ?_
  refine (go 1) ?_
  refine uA 0 (j:=(i + 1)) ((l.take i++List.replicate (l.length + 1 - i) zeroSh).take i++[x]++(l.take i++List.replicate (l.length + 1 - i) zeroSh).drop (i + [x].length)) (l.drop i) encShelfX wn rfl (subA_some rfl qO) rfl (subA_some hsd qO) rfl rfl underlying23 inf50 (by simp only [List.length_drop,List.length_cons,List.length_nil]; show _=min _ _; omega) (by simp only [List.length_append,List.length_take,List.length_drop,List.length_replicate,List.length_cons,List.length_nil]; omega) (by simp only [List.length_append,List.length_take,List.length_drop,List.length_replicate,List.length_cons,List.length_nil]; omega) (subCells (rowCells 1 rfl hsd) fun p u hu=>flat_suf encShelfX.len qO hu) rfl ?_
  refine (go 10) (zX results115 fun w1 hM=>?_)
  exact hM.yR (.slice (some ⟨b1,0,none⟩) (l.length + 1) C1) rfl trivial (fun h=>row_as (ins_len qO) (ins_grow qO (List.length_replicate)) (h.sel [0] qD rfl))
 refine (go 8) ?_
 refine za (jx (by rw [subA_zero,Nat.sub_zero,Nat.sub_zero]) (yt (lo:=0) (hi:=(l.length + 1)) rfl lo0 (hi1 rfl qO) qO qO underlying23 inf50)) (l_more 0 1 rfl hsd qO fun ys hys=>?_)
 refine (go 11) ?_
 refine za (yt (lo:=(i + 1)) (hi:=(l.length + 1)) rfl (lo1 rfl qO) hi0 qO qO underlying23 inf50) (za (r_ext rfl (over_apart (T':=4) (fn:=Tryz.f161) (qa:=1) (qb:=0) qD rfl rfl qO qO qD sad hsd (subA_some hsd qO) func161 (by kernel_rfl) (by kernel_rfl) (by kernel_rfl) (by kernel_rfl) underlying23 inf50)) (za (yE rfl) ?_))
 refine (go 4) (vE 8 ?_)
 refine (go 4) ?_
 refine yZ (yt (lo:=(i + 1)) (hi:=(l.length + 1)) rfl (lo1 rfl qO) hi0 qO qO underlying23 inf50) ?_
 refine (go 2) ?_
 refine yZ (yt (lo:=i) (hi:=(l.length + 1)) rfl (lo1 rfl qO) hi0 qO qO underlying23 inf50) ?_
 refine (go 1) ?_
 refine jS 0 (ad:=sad) (j:=i + 1) (cs:=(l.drop i).flatMap zY) _ wn rfl (subA_some hsd qO) rfl (subA_some hsd qO) rfl hsd underlying23 inf50 (by rw [flat_len encShelfX.len,List.length_drop]; show _=min _ _ * 9; omega) (by rw [flat_len encShelfX.len,List.length_drop]; omega) (subCells (rowCells 0 rfl hsd) fun p u hu=>by have:=flat_suf encShelfX.len qO hu; rw [List.getElem?_append_left (List.getElem?_eq_some_iff.1 this).1]; exact this) (fun u hu=>by obtain ⟨a,_,ha⟩:=List.mem_flatMap.1 hu; exact encShelfX.one a u ha) (ins_shift encShelfX.len qO hys) rfl ?_
 refine (go 6) ?_
 refine za (yt (lo:=i) (hi:=(l.length + 1)) rfl (lo1 rfl qO) hi0 qO qO underlying23 inf50) ?_
 refine (go 1) ?_
 refine uA 0 (j:=i) (l.take (i + 1)++l.drop i) [x] encShelfX wn rfl (subA_some hsd qO) rfl hvd rfl hsd underlying23 inf50 (by simp only [List.length_drop,List.length_cons,List.length_nil]; show _=min _ _; omega) (by simp only [List.length_append,List.length_take,List.length_drop,List.length_replicate,List.length_cons,List.length_nil]; omega) (by simp only [List.length_append,List.length_take,List.length_drop,List.length_replicate,List.length_cons,List.length_nil]; omega) (rowCells 1 rfl hvd) rfl ?_
 refine (go 10) (zX results115 fun w1 hM=>?_)
 exact hM.yR (.slice sA (l.length + 1) sc) rfl trivial (fun h=>row_as (ins_len qO) (ins_place qO) (h.sel [0] qD rfl))
theorem c_add1 (d:zC) (tv:Value) (t:List Label) (P0:Nat→Prop) (w:World) (hP0:∀ b,P0 b→b < w.heap.size) (hd:zC.Ok P0 d w) (ht:zD P0 2 zS tv t w)  :
    Calls prog 112 #[.agg (zY d).toArray,tv] w (Ret w (iV (zI.compare d.sr.l t))):=by
 have hwd:=hd.wf
 obtain ⟨tA,tc,rfl,htc,htm,htA⟩:=ht.form
 refine zq (N:=9) func112 (Mem.ofDatsP hP0 (dc (dp (zC.Ok.loc _) hd) (dc (dlp ht) dn))) ?_
 refine (go 2) (yu fun b2=>?_)
 refine (go 8) ?_
 refine zc (fun _ h=>h.shelfX 1 rfl) ?_
 obtain ⟨hc1,hm1,hA1⟩:=hwd.sr
 obtain ⟨hc2,hm2,hA2⟩:=hwd.raw
 obtain ⟨hc3,hm3,hA3⟩:=hwd.fine
 obtain ⟨hc4,hm4,hA4⟩:=hwd.coarse
 refine yF call22 wn rfl (fun w1 hM=>c_compare _ d.sr.l _ t w1 (hM.slp 0 rfl) (hM.slp 6 rfl)) ?_
 refine (go 4) (zX results112 fun w1 hM=>?_)
 exact zP rfl hM
theorem c_bsS (clv:Value) (cl:List zC) (tv:Value) (t:List Label) (P0:Nat→Prop) (w:World) (hP0:∀ b,P0 b→b < w.heap.size) (hcl:zD P0 9 zY clv cl w) (hcla:∀ x ∈ cl,zC.Ok P0 x w) (ht:zD P0 2 zS tv t w) (has:Mn.Asc (cl.map zC.k)) (hl1:cl.length≤1048576) :
    Calls prog 111 #[clv,tv,.func (.func 112) #[] #[]] w (Ret w (.tuple #[iV (Mn.pos (cl.map zC.k) t:Nat),.bool (Mn.has (cl.map zC.k) t)])):=by
 have hwcl:∀ x ∈ cl,zC.Wf x:=fun x hx=>(hcla x hx).wf
 obtain ⟨clA,clc,rfl,hclc,hclm,hclA⟩:=hcl.form
 obtain ⟨tA,tc,rfl,htc,htm,htA⟩:=ht.form
 refine zq (N:=49) func111 (Mem.ofDatsP hP0 (dc (dlp hcl) (dc (dp (all_loc zC.Ok.loc _) hcla) (dc (dlp ht) dn)))) ?_
 refine (go 22) ?_
 refine va (fun (i:Nat) (j:Nat)=>[(0,.slice clA cl.length clc),(1,.slice tA t.length tc),(2,.func (.func 112) #[] #[]),(8,iV cl.length),(9,iV i),(10,iV j)]) (fun (i:Nat) (j:Nat)=>[slP 9 zY (.slice clA cl.length clc) cl,allP zC.Ok cl,slP 2 zS (.slice tA t.length tc) t]) (fun (i:Nat) (j:Nat)=>i≤j∧j≤cl.length∧(∀ (q:Nat) (y:Cell),(cl.map zC.k)[q]?=some y→q < i→zI.compare y.sr t < 0)∧(∀ (q:Nat) (y:Cell),(cl.map zC.k)[q]?=some y→j≤q→¬ zI.compare y.sr t < 0)) (fun (i:Nat) (j:Nat)=>j - i) 0 cl.length (sc rfl (sc rfl (sc rfl (sc rfl (sc (ji qO) (sc rfl sn)))))) (fun _ h=>h) ?_ (fun i j hI1=>?_)
 ·exact ⟨Nat.zero_le _,Nat.le_refl _,fun q y _ h=>absurd h (Nat.not_lt_zero _),fun q y h h2=>by have:=(List.getElem?_eq_some_iff.1 h).1; simp only [List.length_map] at this; omega⟩
 refine (go 8) (zW (fun h1=>?_) fun h1=>?_)
 ·refine (go 8) ?_
  refine za (r_natu64 (a:=(i + j)) rfl qO qO (by rw [underlying3]; rfl) underlying228) (za (r_shr (u:=(i + j)) (j:=1) rfl rfl qO qO) (za (r_int64 (a:=((i + j) / 2 ^ 1)) rfl qO (by rw [underlying228]; rfl) underlying3) ?_))
  refine (go 8) ?_
  obtain ⟨ad1,s1,hd1,hs1⟩:=elx hclA ((i + j) / 2 ^ 1)
  refine za (yz (i:=((i + j) / 2 ^ 1)) rfl hd1 rfl qO qI underlying23 inf50) ?_
  refine (go 2) ?_
  have hw1:=hwcl _ (List.mem_of_getElem? hs1)
  refine zc (fun _ h=>h.one 1 zC.Ok.loc rfl hs1) (uN wn rfl rfl call112 rfl (fun w1 hM=>c_add1 s1 _ t (In w1) w1 (fun _ h=>h) (hM.yS (i:=0) rfl) (hM.slp 3 rfl)) ?_)
  refine (go 3) (zW (fun h2=>?_) fun h2=>?_)
  ·refine (go 4) ?_
   refine zT (yK (yd (((i + j) / 2 ^ 1) + 1) j (sc rfl (sc rfl (sc rfl (sc rfl (sc (ji qO) (sc rfl sn)))))) (S9 [1,2,3]) ?_ ?_))
   ·exact ⟨by omega,by omega,Mn.asc_lt (x:=zC.k s1) has (by rw [List.getElem?_map,hs1]; rfl) h2,hI1.2.2.2⟩
   omega
  refine (go 3) ?_
  refine zT (yK (yd i ((i + j) / 2 ^ 1) (sc rfl (sc rfl (sc rfl (sc rfl (sc rfl (sc (ji qO) sn)))))) (S9 [1,2,3]) ?_ ?_))
  ·exact ⟨by omega,by omega,hI1.2.2.1,Mn.asc_ge (x:=zC.k s1) has (by rw [List.getElem?_map,hs1]; rfl) h2⟩
  omega
 refine (go 12) (yO 39 (fun h3=>?_) fun h3=>?_)
 ·refine (go 3) ?_
  obtain ⟨ad2,s2,hd2,hs2⟩:=elx hclA i
  refine (go 3) ?_
  have hw2:=hwcl _ (List.mem_of_getElem? hs2)
  refine zc (fun _ h=>h.one 1 zC.Ok.loc rfl hs2) (uN (wg rfl rfl rfl) rfl rfl call112 rfl (fun w1 hM=>c_add1 s2 _ t (In w1) w1 (fun _ h=>h) (hM.yS (i:=0) rfl) (hM.slp 3 rfl)) ?_)
  refine (go 7) (yL results111 fun w1 hM=>?_)
  have hp9:Mn.pos (cl.map zC.k) t=i:=Mn.pos_eq (by simp only [List.length_map]; omega) hI1.2.2.1 (by have:i=j:=qO; rw [this]; exact hI1.2.2.2)
  have hh9:Mn.has (cl.map zC.k) t=decide (zI.compare s2.sr.l t=0):=Mn.bs_has (x:=zC.k s2) has (by rw [List.getElem?_map,hs2]; rfl) hI1.2.2.1 (by have:j=i:=qO; exact hI1.2.2.2 i _ (by rw [List.getElem?_map,hs2]; rfl) qO)
  exact zP (by rw [hp9,hh9]) hM
 refine (go 14) (yL results111 fun w1 hM=>?_)
 have hp9:Mn.pos (cl.map zC.k) t=i:=Mn.pos_eq (by simp only [List.length_map]; omega) hI1.2.2.1 (by have:i=j:=qO; rw [this]; exact hI1.2.2.2)
 have hh9:Mn.has (cl.map zC.k) t=false:=Mn.bs_no (i:=i) (by simp only [List.length_map]; omega) hI1.2.2.1
 exact zP (by rw [hp9,hh9]) hM
end
section
open Tryz
open Ex
attribute [local irreducible] WC WL WQ WE WS
set_option linter.unusedVariables false
set_option linter.unusedSimpArgs false
theorem c_newE (lv:Value) (l:List Label) (P0:Nat→Prop) (w:World) (hP0:∀ b,P0 b→b < w.heap.size) (hl:zD P0 2 zS lv l w) (hl1:l.length≤1048576):Calls prog 113 #[lv] w (RetE w P0 (fun z:zC=>.agg (zY z).toArray) (fun z=>z.e=⟨l,[],[],[],0,0,0,0,0⟩) (fun z S=>zC.Ok S z)):=(c_new lv l P0 w hP0 hl hl1).mono fun _ _ h=>h.toE
theorem c_rollE (z0 z1 z2 z3:Value) (z:Shelf) (to:Int) (P0:Nat→Prop) (w:World) (hP0:∀ b,P0 b→b < w.heap.size) (hz0:zD P0 2 zS z0 z.zJ w) (hz1:zD P0 2 zQ z1 z.raw w) (hz2:zD P0 8 zK z2 z.fine w) (hz3:zD P0 8 zK z3 z.coarse w):Calls prog 74 #[.agg (List.toArray [z0,z1,z2,z3,iV z.zU,iV z.zL,iV z.zE,iV z.zH,iV z.zF]),iV to] w (RetE w P0 (fun y:zC=>.tuple #[.agg (zY y).toArray,iV (Sh.roll z to).2]) (fun y=>y.e=(Sh.roll z to).1) (fun y S=>zC.Ok S y)):=(c_roll z0 z1 z2 z3 z to P0 w hP0 hz0 hz1 hz2 hz3).mono fun _ _ h=>h.toE
theorem c_appendE (z0 z1 z2 z3:Value) (z:Shelf) (x:Sample) (P0:Nat→Prop) (w:World) (hP0:∀ b,P0 b→b < w.heap.size) (hz0:zD P0 2 zS z0 z.zJ w) (hz1:zD P0 2 zQ z1 z.raw w) (hz2:zD P0 8 zK z2 z.fine w) (hz3:zD P0 8 zK z3 z.coarse w):Calls prog 114 #[.agg (List.toArray [z0,z1,z2,z3,iV z.zU,iV z.zL,iV z.zE,iV z.zH,iV z.zF]),.agg (zQ x).toArray] w (RetE w P0 (fun y:zC=>.tuple #[.agg (zY y).toArray,iV (Sh.append z x).2]) (fun y=>y.e=(Sh.append z x).1) (fun y S=>zC.Ok S y)):=(c_append z0 z1 z2 z3 z x P0 w hP0 hz0 hz1 hz2 hz3).mono fun _ _ h=>h.toE
set_option maxHeartbeats 2000000 in
theorem c_badd (bp:Nat) (x:yB) (dad:Addr) (d:zm) (Pb:Nat→Prop) (w:World) (hG:Mem w ⟨fpOf [.blk bp [.slice x.zA.A x.zA.l.length x.zA.c,iV x.zM] 93,Row (.slice x.zA.A x.zA.l.length x.zA.c) 50 9 zY x.zA.l,allP zC.Ok x.zA.l,celP dad [iV d.kind,iV d.tier,iV d.to,.slice d.sr.A d.sr.l.length d.sr.c,iV d.zO.time,iV d.zO.value,.string d.text],okP zm.Ok d],Pb⟩ [.blk bp [.slice x.zA.A x.zA.l.length x.zA.c,iV x.zM] 93,Row (.slice x.zA.A x.zA.l.length x.zA.c) 50 9 zY x.zA.l,allP zC.Ok x.zA.l,celP dad [iV d.kind,iV d.tier,iV d.to,.slice d.sr.A d.sr.l.length d.sr.c,iV d.zO.time,iV d.zO.value,.string d.text],okP zm.Ok d] w) (hi:Bs.Inv x.e 120) :
    Calls prog 68 #[.pointer (some ⟨bp,0,none⟩),.pointer (some ((Addr.add dad 0).add 0))] w (RetA w [.blk bp [.slice x.zA.A x.zA.l.length x.zA.c,iV x.zM] 93,Row (.slice x.zA.A x.zA.l.length x.zA.c) 50 9 zY x.zA.l,allP zC.Ok x.zA.l,celP dad [iV d.kind,iV d.tier,iV d.to,.slice d.sr.A d.sr.l.length d.sr.c,iV d.zO.time,iV d.zO.value,.string d.text],okP zm.Ok d] Pb (fun z:yB × zn=>.agg (vJ z.2).toArray) (fun z=>(z.1.e,z.2.e)=Bs.add x.e d.e) (fun z=>[okP zn.Ok z.2,.blk bp [.slice z.1.zA.A z.1.zA.l.length z.1.zA.c,iV z.1.zM] 93,Row (.slice z.1.zA.A z.1.zA.l.length z.1.zA.c) 50 9 zY z.1.zA.l,allP zC.Ok z.1.zA.l,celP dad (y5 d),okP zm.Ok d])):=by
 have hwf:∀ y ∈ x.zA.l,zC.Wf y:=fun y hy=>((hG.yS (i:=2) rfl) y hy).wf
 have hwd:=(hG.yS (i:=4) rfl).wf
 obtain ⟨hsc,hsm,hsA⟩:=row_wf (hG.row (i:=1) rfl)
 have hasc:=asc_k hi
 have hlen:=len_k hi
 refine zq (N:=125) (vals:=[.pointer (some ⟨bp,0,none⟩),.pointer (some ((Addr.add dad 0).add 0))]) func68 hG ?_
 refine (go 2) (zw fun b4=>?_)
 refine (go 9) ?_
 refine zc (fun _ h=>h.doX 5 rfl) ?_
 obtain ⟨hc1,hm1,hA1⟩:=hwd.sr
 refine yF call42 wn rfl (fun w1 hM=>c_namesWrong _ d.sr.l w1 (hM.slp 0 rfl)) ?_
 refine (go 9) (zW (fun h1=>?_) fun h1=>?_)
 ·refine (go 9) (zX results68 fun w1 hM=>?_)
  have hM:=hM.yX (zn.Ok.loc (noX (zI.wrong d.sr.l))) fun Pb pp=>noX_ok _ _ _
  exact hM.yR (x,noX (zI.wrong d.sr.l)) rfl (add_1 h1) (fun h=>h.sel [0,3,4,5,6,7] qD rfl)
 have hsl:=Sh.names_len (Classical.not_not.1 (show ¬ zI.wrong d.sr.l≠0 from h1))
 refine (go 8) ?_
 refine za (jR 5 [iV d.zO.time,iV d.zO.value] rfl rfl rfl rfl agg41 inf41) (zy zQ ([d.zO]:List Sample) wn underlying47 inf41 rfl rfl rfl rfl qD qD rfl fun b24=>yF call43 wn rfl (fun w1 hM=>vS _ ([d.zO]:List Sample) w1 (RowSl encSample hM 0 rfl)) (zw fun b6=>?_))
 refine (go 10) (zW (fun h2=>?_) fun h2=>?_)
 ·refine (go 10) (zX results68 fun w1 hM=>?_)
  have hM:=hM.yX (zn.Ok.loc (noX ((Codec.wrong ([d.zO]:List Sample)).err))) fun Pb pp=>noX_ok _ _ _
  exact hM.yR (x,noX ((Codec.wrong ([d.zO]:List Sample)).err)) rfl (add_2 h1 h2) (fun h=>h.sel [0,5,6,7,8,9] qD rfl)
 refine (go 18) (zW (fun h3=>?_) fun h3=>?_)
 ·refine (go 8) (zX results68 fun w1 hM=>?_)
  have hM:=hM.yX (zn.Ok.loc (noX 9)) fun Pb pp=>noX_ok _ _ _
  exact hM.yR (x,noX 9) rfl (add_3 h1 h2 h3) (fun h=>h.sel [0,5,6,7,8,9] qD rfl)
 refine (go 13) ?_
 refine yQ wn rfl call111 rfl (fun w1 hM=>c_bsS _ x.zA.l _ d.sr.l (In w1) w1 (fun _ h=>h) (RowSl encShelfX hM 5 rfl) (hM.yS (i:=6) rfl) (hM.slp 2 rfl) hasc qO) ?_
 refine (go 13) ?_
 refine yY (β:=zC) (fun z=>.agg (zY z).toArray) (fun z=>z.e=(⟨d.sr.l,[],[],[],0,0,0,0,0⟩:Shelf)) (fun z S=>zC.Ok S z) (fun z=>zC.Ok.loc z) wn rfl call113 rfl (fun w1 Pb hM pp=>c_newE _ d.sr.l Pb w1 pp.lt (pp.sl 2 rfl) qO) fun z1 hz1=>yn 0 rfl (fun S w h=>zC.Ok.wf h) fun hw1=>zw fun b9=>?_
 refine (go 9) (yg (fun h4=>?_) fun h4=>?_)
 ·have hpl:=pos_ltS hasc h4
  refine (go 7) ?_
  obtain ⟨ad1,s1,hd1,hs1⟩:=elx hsA (Mn.pos (x.zA.l.map zC.k) d.sr.l)
  refine za (yz (i:=(Mn.pos (x.zA.l.map zC.k) d.sr.l)) rfl hd1 rfl qO qI underlying23 inf50) (za (uO 7 [.slice s1.sr.A s1.sr.l.length s1.sr.c,.slice s1.raw.A s1.raw.l.length s1.raw.c,.slice s1.fine.A s1.fine.l.length s1.fine.c,.slice s1.coarse.A s1.coarse.l.length s1.coarse.c,iV s1.zU,iV s1.zL,iV s1.zE,iV s1.zH,iV s1.zF] encShelfX rfl rfl hd1 hs1 rfl rfl agg50 inf50) ?_)
  refine (go 4) ?_
  refine yM (Mem w ⟨fpOf [.blk bp [.slice x.zA.A x.zA.l.length x.zA.c,iV x.zM] 93,Row (.slice x.zA.A x.zA.l.length x.zA.c) 50 9 zY x.zA.l,allP zC.Ok x.zA.l,celP dad [iV d.kind,iV d.tier,iV d.to,.slice d.sr.A d.sr.l.length d.sr.c,iV d.zO.time,iV d.zO.value,.string d.text],okP zm.Ok d],Pb⟩ [okP zC.Ok z1,.blk b6 [iV ((Codec.wrong ([d.zO]:List Sample)).err),iV ((Codec.wrong ([d.zO]:List Sample)).at_)] 61,Row (.slice (some ⟨b24,0,none⟩) 1 1) 41 2 zQ ([d.zO]:List Sample),slP 2 zS (.slice d.sr.A d.sr.l.length d.sr.c) d.sr.l,.blk b4 [iV 0,iV 0,Zs,iV 0] 34,.blk bp [.slice x.zA.A x.zA.l.length x.zA.c,iV x.zM] 93,Row (.slice x.zA.A x.zA.l.length x.zA.c) 50 9 zY x.zA.l,allP zC.Ok x.zA.l,celP dad [iV d.kind,iV d.tier,iV d.to,.slice d.sr.A d.sr.l.length d.sr.c,iV d.zO.time,iV d.zO.value,.string d.text],okP zm.Ok d]) mix (fun _ h=>h.drew) rfl (yN 7 [1,2,3,4] [1,2,3,4,5,6,7,8,9,10] rfl fun KS hKS=>?_)
  refine (go 3) ?_
  refine uq (jR 8 [iV d.zO.time,iV d.zO.value] rfl rfl rfl rfl agg41 inf41) (zi hKS (zf 6 0 (zh (i:=0) rfl fun KN hKN=>?_)))
  refine (go 2) ?_
  refine hKN _ _ (S9 [1,2,3,4,5,6,7,8,9,10]) (zf 5 5 (zh (i:=5) rfl fun KN hKN=>?_))
  have hw2:=hwf _ (List.mem_of_getElem? hs1)
  refine zc (fun _ h=>h.one 8 zC.Ok.loc rfl hs1) (zc (fun _ h=>h.shelfX 0 rfl) ?_)
  obtain ⟨hc2,hm2,hA2⟩:=hw2.sr
  obtain ⟨hc3,hm3,hA3⟩:=hw2.raw
  obtain ⟨hc4,hm4,hA4⟩:=hw2.fine
  obtain ⟨hc5,hm5,hA5⟩:=hw2.coarse
  refine yY (β:=zC) (fun z=>.tuple #[.agg (zY z).toArray,iV (Sh.append (zC.e s1) d.zO).2]) (fun z=>z.e=(Sh.append (zC.e s1) d.zO).1) (fun z S=>zC.Ok S z) (fun z=>zC.Ok.loc z) wn rfl call114 rfl (fun w1 Pb hM pp=>c_appendE _ _ _ _ (zC.e s1) d.zO Pb w1 pp.lt (pp.sl 0 rfl) (pp.sl 1 rfl) (pp.sl 2 rfl) (pp.sl 3 rfl)) fun z2 hz2=>yn 0 rfl (fun S w h=>zC.Ok.wf h) fun hw3=>?_
  refine (go 1) ?_
  refine hKN _ _ (S9 [7,8,9,10,11,12,13,14,15,16]) (yN 2 [6,7,8] [7,8,9,10,11,12,13,14,15,16] rfl fun KS hKS=>?_)
  refine (go 3) ?_
  refine zi hKS (zf 1 9 (zh (i:=9) rfl fun KN hKN=>?_))
  refine (go 2) ?_
  refine hKN _ _ (S9 [7,8,9,10,11,12,13,14,15,16]) (yN 0 [10] [7,8,9,10,11,12,13,14,15,16] rfl fun KS hKS=>?_)
  refine (go 1) ?_
  refine zi hKS ?_
  refine zz (by kernel_rfl) ((go 1) ?_)
  refine (go 7) (zW (fun h5=>?_) fun h5=>?_)
  ·refine (go 9) (zX results68 fun w1 hM=>?_)
   have hM:=hM.yX (zn.Ok.loc (noX ((Sh.append (zC.e s1) d.zO).2))) fun Pb pp=>noX_ok _ _ _
   exact hM.yR (x,noX ((Sh.append (zC.e s1) d.zO).2)) rfl (add_4 h1 h2 h3 h4 hs1 h5) (fun h=>h.sel [0,13,14,15,16,17] qD rfl)
  refine (go 8) ?_
  refine yx rfl (by simpa using h4) (vE 8 ?_)
  refine (go 7) ?_
  refine yZ (yz (i:=(Mn.pos (x.zA.l.map zC.k) d.sr.l)) rfl hd1 rfl qO qI underlying23 inf50) ?_
  refine (go 1) ?_
  refine uF 13 (vs:=[.slice z2.sr.A z2.sr.l.length z2.sr.c,.slice z2.raw.A z2.raw.l.length z2.raw.c,.slice z2.fine.A z2.fine.l.length z2.fine.c,.slice z2.coarse.A z2.coarse.l.length z2.coarse.c,iV z2.zU,iV z2.zL,iV z2.zE,iV z2.zH,iV z2.zF]) z2 encShelfX wn rfl rfl rfl rfl hd1 hs1 inf50 rfl rfl rfl rfl (zc (fun _ h=>h.allNew (l':=(x.zA.l.set (Mn.pos (x.zA.l.map zC.k) d.sr.l) z2)) 14 0 zC.Ok.loc rfl rfl mem_set_of) ?_)
  have hw4:∀ y ∈ (x.zA.l.set (Mn.pos (x.zA.l.map zC.k) d.sr.l) z2),zC.Wf y:=wf_new mem_set_of hwf hw3
  refine (go 9) (zX results68 fun w1 hM=>?_)
  have hM:=hM.yX (zn.Ok.loc (noX 0)) fun Pb pp=>noX_ok _ _ _
  exact hM.yR (⟨⟨x.zA.A,x.zA.c,(x.zA.l.set (Mn.pos (x.zA.l.map zC.k) d.sr.l) z2)⟩,x.zM⟩,noX 0) rfl (add_5 h1 h2 h3 h4 hs1 h5 hz2) (fun h=>as_set1 (n:=x.zA.l.length) (List.length_set).symm (h.sel [0,14,15,1,17,18] qD rfl))
 refine (go 12) (zW (fun h6=>?_) fun h6=>?_)
 ·refine (go 9) (zX results68 fun w1 hM=>?_)
  have hM:=hM.yX (zn.Ok.loc (noX 5)) fun Pb pp=>noX_ok _ _ _
  exact hM.yR (x,noX 5) rfl (add_6 h1 h2 h3 h4 h6) (fun h=>h.sel [0,7,8,9,10,11] qD rfl)
 refine (go 2) ?_
 refine yM (Mem w ⟨fpOf [.blk bp [.slice x.zA.A x.zA.l.length x.zA.c,iV x.zM] 93,Row (.slice x.zA.A x.zA.l.length x.zA.c) 50 9 zY x.zA.l,allP zC.Ok x.zA.l,celP dad [iV d.kind,iV d.tier,iV d.to,.slice d.sr.A d.sr.l.length d.sr.c,iV d.zO.time,iV d.zO.value,.string d.text],okP zm.Ok d],Pb⟩ [okP zC.Ok z1,.blk b6 [iV ((Codec.wrong ([d.zO]:List Sample)).err),iV ((Codec.wrong ([d.zO]:List Sample)).at_)] 61,Row (.slice (some ⟨b24,0,none⟩) 1 1) 41 2 zQ ([d.zO]:List Sample),slP 2 zS (.slice d.sr.A d.sr.l.length d.sr.c) d.sr.l,.blk b4 [iV 0,iV 0,Zs,iV 0] 34,.blk bp [.slice x.zA.A x.zA.l.length x.zA.c,iV x.zM] 93,Row (.slice x.zA.A x.zA.l.length x.zA.c) 50 9 zY x.zA.l,allP zC.Ok x.zA.l,celP dad [iV d.kind,iV d.tier,iV d.to,.slice d.sr.A d.sr.l.length d.sr.c,iV d.zO.time,iV d.zO.value,.string d.text],okP zm.Ok d]) mix (fun _ h=>h.drew) rfl (yN 6 [1,2,3,4,5] [1,2,3,4,5,6,7,8,9,10] rfl fun KS hKS=>?_)
 refine (go 5) ?_
 refine zi hKS (zf 5 0 (zh (i:=0) rfl fun KN hKN=>?_))
 refine (go 2) ?_
 refine hKN _ _ (S9 [1,2,3,4,5,6,7,8,9,10]) (zf 4 6 (zh (i:=6) rfl fun KN hKN=>zc (fun _ h=>h.shelfX 1 rfl) ?_))
 obtain ⟨hc6,hm6,hA6⟩:=hw1.sr
 obtain ⟨hc7,hm7,hA7⟩:=hw1.raw
 obtain ⟨hc8,hm8,hA8⟩:=hw1.fine
 obtain ⟨hc9,hm9,hA9⟩:=hw1.coarse
 refine yY (β:=zC) (fun z=>.tuple #[.agg (zY z).toArray,iV (Sh.roll (zC.e z1) x.zM).2]) (fun z=>z.e=(Sh.roll (zC.e z1) x.zM).1) (fun z S=>zC.Ok S z) (fun z=>zC.Ok.loc z) wn rfl call74 rfl (fun w1 Pb hM pp=>c_rollE _ _ _ _ (zC.e z1) x.zM Pb w1 pp.lt (pp.sl 0 rfl) (pp.sl 1 rfl) (pp.sl 2 rfl) (pp.sl 3 rfl)) fun z3 hz3=>yn 0 rfl (fun S w h=>zC.Ok.wf h) fun hw5=>?_
 refine (go 1) ?_
 refine hKN _ _ (S9 [6,7,8,9,10,11,12,13,14,15]) (yN 1 [7,8,9] [6,7,8,9,10,11,12,13,14,15] rfl fun KS hKS=>?_)
 refine (go 3) ?_
 refine zi hKS (zf 0 10 (zh (i:=10) rfl fun KN hKN=>?_))
 refine (go 2) ?_
 refine hKN _ _ (S9 [6,7,8,9,10,11,12,13,14,15]) ?_
 refine zz (by kernel_rfl) ((go 1) ?_)
 refine (go 1) ?_
 refine yM (Mem w ⟨fpOf [.blk bp [.slice x.zA.A x.zA.l.length x.zA.c,iV x.zM] 93,Row (.slice x.zA.A x.zA.l.length x.zA.c) 50 9 zY x.zA.l,allP zC.Ok x.zA.l,celP dad [iV d.kind,iV d.tier,iV d.to,.slice d.sr.A d.sr.l.length d.sr.c,iV d.zO.time,iV d.zO.value,.string d.text],okP zm.Ok d],Pb⟩ [okP zC.Ok z3,slP 2 zS (.slice z1.sr.A z1.sr.l.length z1.sr.c) z1.sr.l,slP 2 zQ (.slice z1.raw.A z1.raw.l.length z1.raw.c) z1.raw.l,slP 8 zK (.slice z1.fine.A z1.fine.l.length z1.fine.c) z1.fine.l,slP 8 zK (.slice z1.coarse.A z1.coarse.l.length z1.coarse.c) z1.coarse.l,okP zC.Ok z1,.blk b6 [iV ((Codec.wrong ([d.zO]:List Sample)).err),iV ((Codec.wrong ([d.zO]:List Sample)).at_)] 61,Row (.slice (some ⟨b24,0,none⟩) 1 1) 41 2 zQ ([d.zO]:List Sample),slP 2 zS (.slice d.sr.A d.sr.l.length d.sr.c) d.sr.l,.blk b4 [iV 0,iV 0,Zs,iV 0] 34,.blk bp [.slice x.zA.A x.zA.l.length x.zA.c,iV x.zM] 93,Row (.slice x.zA.A x.zA.l.length x.zA.c) 50 9 zY x.zA.l,allP zC.Ok x.zA.l,celP dad [iV d.kind,iV d.tier,iV d.to,.slice d.sr.A d.sr.l.length d.sr.c,iV d.zO.time,iV d.zO.value,.string d.text],okP zm.Ok d]) mix (fun _ h=>h.drew) rfl (yN 7 [1,2,3,4] [0,1,2,3,4,6,7,8,9,10,11,12,13,14,15] rfl fun KS hKS=>?_)
 refine (go 3) ?_
 refine uq (jR 13 [iV d.zO.time,iV d.zO.value] rfl rfl rfl rfl agg41 inf41) (zi hKS (zf 6 0 (zh (i:=0) rfl fun KN hKN=>?_)))
 refine (go 2) ?_
 refine hKN _ _ (S9 [0,1,2,3,4,6,7,8,9,10,11,12,13,14,15]) (zf 5 5 (zh (i:=5) rfl fun KN hKN=>zc (fun _ h=>h.shelfX 0 rfl) ?_))
 obtain ⟨hc10,hm10,hA10⟩:=hw5.sr
 obtain ⟨hc11,hm11,hA11⟩:=hw5.raw
 obtain ⟨hc12,hm12,hA12⟩:=hw5.fine
 obtain ⟨hc13,hm13,hA13⟩:=hw5.coarse
 refine yY (β:=zC) (fun z=>.tuple #[.agg (zY z).toArray,iV (Sh.append (zC.e z3) d.zO).2]) (fun z=>z.e=(Sh.append (zC.e z3) d.zO).1) (fun z S=>zC.Ok S z) (fun z=>zC.Ok.loc z) wn rfl call114 rfl (fun w1 Pb hM pp=>c_appendE _ _ _ _ (zC.e z3) d.zO Pb w1 pp.lt (pp.sl 0 rfl) (pp.sl 1 rfl) (pp.sl 2 rfl) (pp.sl 3 rfl)) fun z4 hz4=>yn 0 rfl (fun S w h=>zC.Ok.wf h) fun hw6=>?_
 refine (go 1) ?_
 refine hKN _ _ (S9 [5,6,7,8,9,11,12,13,14,15,16,17,18,19,20]) (yN 2 [6,7,8] [5,6,7,8,9,11,12,13,14,15,16,17,18,19,20] rfl fun KS hKS=>?_)
 refine (go 3) ?_
 refine zi hKS (zf 1 9 (zh (i:=9) rfl fun KN hKN=>?_))
 refine (go 2) ?_
 refine hKN _ _ (S9 [5,6,7,8,9,11,12,13,14,15,16,17,18,19,20]) (yN 0 [10] [5,6,7,8,9,11,12,13,14,15,16,17,18,19,20] rfl fun KS hKS=>?_)
 refine (go 1) ?_
 refine zi hKS ?_
 refine zz (by kernel_rfl) ((go 1) ?_)
 refine (go 7) (zW (fun h7=>?_) fun h7=>?_)
 ·refine (go 9) (zX results68 fun w1 hM=>?_)
  have hf9:Bs.fresh d.sr.l x.zM=zC.e z3:=by rw [hz3,hz1]; rfl
  have hM:=hM.yX (zn.Ok.loc (noX ((Sh.append (zC.e z3) d.zO).2))) fun Pb pp=>noX_ok _ _ _
  exact hM.yR (x,noX ((Sh.append (zC.e z3) d.zO).2)) rfl (by have e9:=add_7 (x:=x) (d:=d) h1 h2 h3 h4 h6; rw [hf9] at e9; exact e9 h7) (fun h=>h.sel [0,17,18,19,20,21] qD rfl)
 refine (go 8) ?_
 refine yU rfl (by simpa using h4) (yM (Mem w ⟨fpOf [.blk bp [.slice x.zA.A x.zA.l.length x.zA.c,iV x.zM] 93,Row (.slice x.zA.A x.zA.l.length x.zA.c) 50 9 zY x.zA.l,allP zC.Ok x.zA.l,celP dad [iV d.kind,iV d.tier,iV d.to,.slice d.sr.A d.sr.l.length d.sr.c,iV d.zO.time,iV d.zO.value,.string d.text],okP zm.Ok d],Pb⟩ [okP zC.Ok z4,slP 2 zS (.slice z3.sr.A z3.sr.l.length z3.sr.c) z3.sr.l,slP 2 zQ (.slice z3.raw.A z3.raw.l.length z3.raw.c) z3.raw.l,slP 8 zK (.slice z3.fine.A z3.fine.l.length z3.fine.c) z3.fine.l,slP 8 zK (.slice z3.coarse.A z3.coarse.l.length z3.coarse.c) z3.coarse.l,okP zC.Ok z3,slP 2 zS (.slice z1.sr.A z1.sr.l.length z1.sr.c) z1.sr.l,slP 2 zQ (.slice z1.raw.A z1.raw.l.length z1.raw.c) z1.raw.l,slP 8 zK (.slice z1.fine.A z1.fine.l.length z1.fine.c) z1.fine.l,slP 8 zK (.slice z1.coarse.A z1.coarse.l.length z1.coarse.c) z1.coarse.l,.blk b9 [.slice z4.sr.A z4.sr.l.length z4.sr.c,.slice z4.raw.A z4.raw.l.length z4.raw.c,.slice z4.fine.A z4.fine.l.length z4.fine.c,.slice z4.coarse.A z4.coarse.l.length z4.coarse.c,iV z4.zU,iV z4.zL,iV z4.zE,iV z4.zH,iV z4.zF] 50,okP zC.Ok z1,.blk b6 [iV ((Codec.wrong ([d.zO]:List Sample)).err),iV ((Codec.wrong ([d.zO]:List Sample)).at_)] 61,Row (.slice (some ⟨b24,0,none⟩) 1 1) 41 2 zQ ([d.zO]:List Sample),slP 2 zS (.slice d.sr.A d.sr.l.length d.sr.c) d.sr.l,.blk b4 [iV 0,iV 0,Zs,iV 0] 34,celP dad [iV d.kind,iV d.tier,iV d.to,.slice d.sr.A d.sr.l.length d.sr.c,iV d.zO.time,iV d.zO.value,.string d.text],okP zm.Ok d]) mix (fun _ h=>h.drew) rfl (yN 7 [0,1,2,3,4,6,7] [0,1,2,3,4,5,6,7,8,9,10,11,12,13,14,15,19,20] rfl fun KS hKS=>?_))
 refine (go 7) ?_
 refine zi hKS (ya (f:=6) (i:=5) (j:=8) rfl (by kernel_rfl) ?_ ?_)
 ·refine zh (i:=5) rfl fun KN hKN=>?_
  refine (go 2) ?_
  refine hKN _ _ (S9 [0,1,2,3,4,5,6,7,8,9,10,11,12,13,14,15,19,20]) (zf 5 8 (zh (i:=8) rfl fun KN hKN=>zy zY ([z4]:List zC) wn underlying23 inf50 rfl rfl rfl rfl qD qD rfl fun b119=>?_))
  refine (go 1) ?_
  refine hKN _ _ (S9 [1,2,3,4,5,6,7,8,9,10,11,12,13,14,15,16,20,21]) (zf 4 9 (zh (i:=9) rfl fun KN hKN=>zg (α:=Value) [Row (.slice x.zA.A x.zA.l.length x.zA.c) 50 9 zY x.zA.l,Row (.slice (some ⟨b119,0,none⟩) 1 1) 50 9 zY ([z4]:List zC)] [okP zC.Ok z4,slP 2 zS (.slice z3.sr.A z3.sr.l.length z3.sr.c) z3.sr.l,slP 2 zQ (.slice z3.raw.A z3.raw.l.length z3.raw.c) z3.raw.l,slP 8 zK (.slice z3.fine.A z3.fine.l.length z3.fine.c) z3.fine.l,slP 8 zK (.slice z3.coarse.A z3.coarse.l.length z3.coarse.c) z3.coarse.l,okP zC.Ok z3,slP 2 zS (.slice z1.sr.A z1.sr.l.length z1.sr.c) z1.sr.l,slP 2 zQ (.slice z1.raw.A z1.raw.l.length z1.raw.c) z1.raw.l,slP 8 zK (.slice z1.fine.A z1.fine.l.length z1.fine.c) z1.fine.l,slP 8 zK (.slice z1.coarse.A z1.coarse.l.length z1.coarse.c) z1.coarse.l,.blk b9 [.slice z4.sr.A z4.sr.l.length z4.sr.c,.slice z4.raw.A z4.raw.l.length z4.raw.c,.slice z4.fine.A z4.fine.l.length z4.fine.c,.slice z4.coarse.A z4.coarse.l.length z4.coarse.c,iV z4.zU,iV z4.zL,iV z4.zE,iV z4.zH,iV z4.zF] 50,okP zC.Ok z1,.blk b6 [iV ((Codec.wrong ([d.zO]:List Sample)).err),iV ((Codec.wrong ([d.zO]:List Sample)).at_)] 61,Row (.slice (some ⟨b24,0,none⟩) 1 1) 41 2 zQ ([d.zO]:List Sample),slP 2 zS (.slice d.sr.A d.sr.l.length d.sr.c) d.sr.l,.blk b4 [iV 0,iV 0,Zs,iV 0] 34,.blk bp [.slice x.zA.A x.zA.l.length x.zA.c,iV x.zM] 93,allP zC.Ok x.zA.l,celP dad [iV d.kind,iV d.tier,iV d.to,.slice d.sr.A d.sr.l.length d.sr.c,iV d.zO.time,iV d.zO.value,.string d.text],okP zm.Ok d] (fun z=>z) (fun z5=>True) (fun z5=>[Row z5 50 9 zY (x.zA.l.take (Mn.pos (x.zA.l.map zC.k) d.sr.l)++z4::x.zA.l.drop (Mn.pos (x.zA.l.map zC.k) d.sr.l))]) _ (fun _=>rfl) (S9 [18,0,1,2,3,4,5,6,7,8,9,10,11,12,13,14,15,16,17,19,20,21]) (fun _=>rfl) wn rfl rfl call115 rfl (fun w1 Pb hG=>c_insertS _ _ x.zA.l z4 (Mn.pos (x.zA.l.map zC.k) d.sr.l) Pb w1 hG pos_leS qO) fun z5 hz5=>yP 0 (l:=(x.zA.l.take (Mn.pos (x.zA.l.map zC.k) d.sr.l)++z4::x.zA.l.drop (Mn.pos (x.zA.l.map zC.k) d.sr.l))) rfl fun A1 cp1 hv1 hc14 hm14 hA14=>?_))
  subst hv1
  refine zc (fun _ h=>h.allNew (l':=(x.zA.l.take (Mn.pos (x.zA.l.map zC.k) d.sr.l)++z4::x.zA.l.drop (Mn.pos (x.zA.l.map zC.k) d.sr.l))) 18 1 zC.Ok.loc rfl rfl mem_ins_of) ?_
  have hw7:∀ y ∈ (x.zA.l.take (Mn.pos (x.zA.l.map zC.k) d.sr.l)++z4::x.zA.l.drop (Mn.pos (x.zA.l.map zC.k) d.sr.l)),zC.Wf y:=wf_new mem_ins_of hwf hw6
  refine (go 1) ?_
  refine hKN _ _ (S9 [2,3,4,5,6,7,8,9,10,11,12,13,14,15,16,17,20,21]) (yN 1 [10,11,12] [2,3,4,5,6,7,8,9,10,11,12,13,14,15,16,17,20,21] rfl fun KS hKS=>?_)
  refine (go 3) ?_
  refine zi hKS (zf 0 13 (zh (i:=13) rfl fun KN hKN=>?_))
  refine (go 2) ?_
  refine hKN _ _ (S9 [2,3,4,5,6,7,8,9,10,11,12,13,14,15,16,17,20,21]) ?_
  refine zz (by kernel_rfl) ((go 1) ?_)
  refine (go 7) (zX results68 fun w1 hM=>?_)
  have hf9:Bs.fresh d.sr.l x.zM=zC.e z3:=by rw [hz3,hz1]; rfl
  have hM:=hM.yX (zn.Ok.loc (noX 0)) fun Pb pp=>noX_ok _ _ _
  exact hM.yR (⟨⟨A1,cp1,(x.zA.l.take (Mn.pos (x.zA.l.map zC.k) d.sr.l)++z4::x.zA.l.drop (Mn.pos (x.zA.l.map zC.k) d.sr.l))⟩,x.zM⟩,noX 0) rfl (by have e9:=add_8 (x:=x) (d:=d) (z:=z4) (A:=A1) (c:=cp1) h1 h2 h3 h4 h6; rw [hf9] at e9; exact e9 h7 hz4) (fun h=>h.sel [0,19,2,1,21,22] qD rfl)
 refine zh (i:=8) rfl fun KN hKN=>zy zY ([z4]:List zC) wn underlying23 inf50 rfl rfl rfl rfl qD qD rfl fun b119=>?_
 refine (go 1) ?_
 refine hKN _ _ (S9 [1,2,3,4,5,6,7,8,9,10,11,12,13,14,15,16,20,21]) (zf 5 5 (zh (i:=5) rfl fun KN hKN=>?_))
 refine (go 2) ?_
 refine hKN _ _ (S9 [1,2,3,4,5,6,7,8,9,10,11,12,13,14,15,16,20,21]) (zf 4 9 (zh (i:=9) rfl fun KN hKN=>zg (α:=Value) [Row (.slice x.zA.A x.zA.l.length x.zA.c) 50 9 zY x.zA.l,Row (.slice (some ⟨b119,0,none⟩) 1 1) 50 9 zY ([z4]:List zC)] [okP zC.Ok z4,slP 2 zS (.slice z3.sr.A z3.sr.l.length z3.sr.c) z3.sr.l,slP 2 zQ (.slice z3.raw.A z3.raw.l.length z3.raw.c) z3.raw.l,slP 8 zK (.slice z3.fine.A z3.fine.l.length z3.fine.c) z3.fine.l,slP 8 zK (.slice z3.coarse.A z3.coarse.l.length z3.coarse.c) z3.coarse.l,okP zC.Ok z3,slP 2 zS (.slice z1.sr.A z1.sr.l.length z1.sr.c) z1.sr.l,slP 2 zQ (.slice z1.raw.A z1.raw.l.length z1.raw.c) z1.raw.l,slP 8 zK (.slice z1.fine.A z1.fine.l.length z1.fine.c) z1.fine.l,slP 8 zK (.slice z1.coarse.A z1.coarse.l.length z1.coarse.c) z1.coarse.l,.blk b9 [.slice z4.sr.A z4.sr.l.length z4.sr.c,.slice z4.raw.A z4.raw.l.length z4.raw.c,.slice z4.fine.A z4.fine.l.length z4.fine.c,.slice z4.coarse.A z4.coarse.l.length z4.coarse.c,iV z4.zU,iV z4.zL,iV z4.zE,iV z4.zH,iV z4.zF] 50,okP zC.Ok z1,.blk b6 [iV ((Codec.wrong ([d.zO]:List Sample)).err),iV ((Codec.wrong ([d.zO]:List Sample)).at_)] 61,Row (.slice (some ⟨b24,0,none⟩) 1 1) 41 2 zQ ([d.zO]:List Sample),slP 2 zS (.slice d.sr.A d.sr.l.length d.sr.c) d.sr.l,.blk b4 [iV 0,iV 0,Zs,iV 0] 34,.blk bp [.slice x.zA.A x.zA.l.length x.zA.c,iV x.zM] 93,allP zC.Ok x.zA.l,celP dad [iV d.kind,iV d.tier,iV d.to,.slice d.sr.A d.sr.l.length d.sr.c,iV d.zO.time,iV d.zO.value,.string d.text],okP zm.Ok d] (fun z=>z) (fun z6=>True) (fun z6=>[Row z6 50 9 zY (x.zA.l.take (Mn.pos (x.zA.l.map zC.k) d.sr.l)++z4::x.zA.l.drop (Mn.pos (x.zA.l.map zC.k) d.sr.l))]) _ (fun _=>rfl) (S9 [18,0,1,2,3,4,5,6,7,8,9,10,11,12,13,14,15,16,17,19,20,21]) (fun _=>rfl) wn rfl rfl call115 rfl (fun w1 Pb hG=>c_insertS _ _ x.zA.l z4 (Mn.pos (x.zA.l.map zC.k) d.sr.l) Pb w1 hG pos_leS qO) fun z6 hz6=>yP 0 (l:=(x.zA.l.take (Mn.pos (x.zA.l.map zC.k) d.sr.l)++z4::x.zA.l.drop (Mn.pos (x.zA.l.map zC.k) d.sr.l))) rfl fun A2 cp2 hv2 hc15 hm15 hA15=>?_))
 subst hv2
 refine zc (fun _ h=>h.allNew (l':=(x.zA.l.take (Mn.pos (x.zA.l.map zC.k) d.sr.l)++z4::x.zA.l.drop (Mn.pos (x.zA.l.map zC.k) d.sr.l))) 18 1 zC.Ok.loc rfl rfl mem_ins_of) ?_
 have hw8:∀ y ∈ (x.zA.l.take (Mn.pos (x.zA.l.map zC.k) d.sr.l)++z4::x.zA.l.drop (Mn.pos (x.zA.l.map zC.k) d.sr.l)),zC.Wf y:=wf_new mem_ins_of hwf hw6
 refine (go 1) ?_
 refine hKN _ _ (S9 [2,3,4,5,6,7,8,9,10,11,12,13,14,15,16,17,20,21]) (yN 1 [10,11,12] [2,3,4,5,6,7,8,9,10,11,12,13,14,15,16,17,20,21] rfl fun KS hKS=>?_)
 refine (go 3) ?_
 refine zi hKS (zf 0 13 (zh (i:=13) rfl fun KN hKN=>?_))
 refine (go 2) ?_
 refine hKN _ _ (S9 [2,3,4,5,6,7,8,9,10,11,12,13,14,15,16,17,20,21]) ?_
 refine zz (by kernel_rfl) ((go 1) ?_)
 refine (go 7) (zX results68 fun w1 hM=>?_)
 have hf9:Bs.fresh d.sr.l x.zM=zC.e z3:=by rw [hz3,hz1]; rfl
 have hM:=hM.yX (zn.Ok.loc (noX 0)) fun Pb pp=>noX_ok _ _ _
 exact hM.yR (⟨⟨A2,cp2,(x.zA.l.take (Mn.pos (x.zA.l.map zC.k) d.sr.l)++z4::x.zA.l.drop (Mn.pos (x.zA.l.map zC.k) d.sr.l))⟩,x.zM⟩,noX 0) rfl (by have e9:=add_8 (x:=x) (d:=d) (z:=z4) (A:=A2) (c:=cp2) h1 h2 h3 h4 h6; rw [hf9] at e9; exact e9 h7 hz4) (fun h=>h.sel [0,19,2,1,21,22] qD rfl)
end
section
open Tryz
open Ex
attribute [local irreducible] WC WL WQ WE WS
set_option linter.unusedVariables false
set_option linter.unusedSimpArgs false
theorem c_do1 (s:zC) (db dad:Addr) (d:zm) (P0:Nat→Prop) (w:World) (hP0:∀ b,P0 b→b < w.heap.size) (hs:zC.Ok P0 s w) (hdb:yf P0 db [.pointer (some ((Addr.add dad 0).add 0))] w) (hdc:yf P0 dad (y5 d) w) (hd:zm.Ok P0 d w)  :
    Calls prog 71 #[.agg (zY s).toArray,.pointer (some db)] w (RetE w P0 (fun z:zC=>.tuple #[.agg (zY z).toArray,iV (Sh.forget s.e d.tier d.to).2]) (fun z=>z.e=(Sh.forget s.e d.tier d.to).1) (fun z S=>zC.Ok S z)):=by
 have hws:=hs.wf
 have hwd:=hd.wf
 refine zq (N:=17) (vals:=[.agg (zY s).toArray,.pointer (some ((Addr.add db 0).add 0))]) func71 (Mem.ofDatsP hP0 (dc (dp (zC.Ok.loc _) hs) (dc (dp (yf.loc _ _) hdb) (dc (dp (yf.loc _ _) hdc) (dc (dp (zm.Ok.loc _) hd) dn))))) ?_
 refine (go 2) (yu fun b2=>zw fun b3=>?_)
 refine (go 4) ?_
 refine yM (Mem w ⟨no,P0⟩ [.blk b2 [.slice s.sr.A s.sr.l.length s.sr.c,.slice s.raw.A s.raw.l.length s.raw.c,.slice s.fine.A s.fine.l.length s.fine.c,.slice s.coarse.A s.coarse.l.length s.coarse.c,iV s.zU,iV s.zL,iV s.zE,iV s.zH,iV s.zF] 50,okP zC.Ok s,celP db [.pointer (some ((Addr.add dad 0).add 0))],celP dad [iV d.kind,iV d.tier,iV d.to,.slice d.sr.A d.sr.l.length d.sr.c,iV d.zO.time,iV d.zO.value,.string d.text],okP zm.Ok d]) mix (fun _ h=>h.drew) rfl (yN 5 [0,1,2,3,4,5,6,7,8] [1,2,3,4,5] rfl fun KS hKS=>?_)
 refine (go 9) ?_
 refine zi hKS (zf 4 9 (zh (i:=9) rfl fun KN hKN=>zc (fun _ h=>h.shelfX 2 rfl) ?_))
 obtain ⟨hc1,hm1,hA1⟩:=hws.sr
 obtain ⟨hc2,hm2,hA2⟩:=hws.raw
 obtain ⟨hc3,hm3,hA3⟩:=hws.fine
 obtain ⟨hc4,hm4,hA4⟩:=hws.coarse
 refine l_callSh (fun u=>.tuple (List.toArray [u,iV ((Sh.forget (zC.e s) d.tier d.to).2)])) ((Sh.forget (zC.e s) d.tier d.to).1) wn rfl call72 rfl (fun w1 Pb hM pp=>c_forget _ _ _ _ (zC.e s) d.tier d.to Pb w1 pp.lt (pp.sl 0 rfl) (pp.sl 1 rfl) (pp.sl 2 rfl) (pp.sl 3 rfl)) fun A1 cp1 A2 cp2 A3 cp3 A4 cp4 hb1 hA5 hA6 hA7 hA8=>?_
 refine (go 1) ?_
 refine hKN _ _ (S9 [9,10,11,12,13]) (yN 2 [10,11] [9,10,11,12,13] rfl fun KS hKS=>?_)
 refine (go 2) ?_
 refine zi hKS (zf 1 12 (zh (i:=12) rfl fun KN hKN=>?_))
 refine (go 2) ?_
 refine hKN _ _ (S9 [9,10,11,12,13]) (yN 0 [13] [9,10,11,12,13] rfl fun KS hKS=>?_)
 refine (go 1) ?_
 refine zi hKS ?_
 refine zz (by kernel_rfl) ((go 1) ?_)
 refine (go 1) (yL results71 fun w1 hM=>?_)
 exact hM.vD (zC.mk ⟨A1,cp1,((Sh.forget (zC.e s) d.tier d.to).1).zJ⟩ ⟨A2,cp2,((Sh.forget (zC.e s) d.tier d.to).1).raw⟩ ⟨A3,cp3,((Sh.forget (zC.e s) d.tier d.to).1).fine⟩ ⟨A4,cp4,((Sh.forget (zC.e s) d.tier d.to).1).coarse⟩ (((Sh.forget (zC.e s) d.tier d.to).1).zU) (((Sh.forget (zC.e s) d.tier d.to).1).zL) (((Sh.forget (zC.e s) d.tier d.to).1).zE) (((Sh.forget (zC.e s) d.tier d.to).1).zH) (((Sh.forget (zC.e s) d.tier d.to).1).zF)) rfl rfl fun Pb pp=>⟨pp.sl 0 rfl,pp.sl 1 rfl,pp.sl 2 rfl,pp.sl 3 rfl⟩
theorem c_do2 (s:zC) (db dad:Addr) (d:zm) (P0:Nat→Prop) (w:World) (hP0:∀ b,P0 b→b < w.heap.size) (hs:zC.Ok P0 s w) (hdb:yf P0 db [.pointer (some ((Addr.add dad 0).add 0))] w) (hdc:yf P0 dad (y5 d) w) (hd:zm.Ok P0 d w)  :
    Calls prog 73 #[.agg (zY s).toArray,.pointer (some db)] w (RetE w P0 (fun z:zC=>.tuple #[.agg (zY z).toArray,iV (Sh.roll s.e d.to).2]) (fun z=>z.e=(Sh.roll s.e d.to).1) (fun z S=>zC.Ok S z)):=by
 have hws:=hs.wf
 have hwd:=hd.wf
 refine zq (N:=13) (vals:=[.agg (zY s).toArray,.pointer (some ((Addr.add db 0).add 0))]) func73 (Mem.ofDatsP hP0 (dc (dp (zC.Ok.loc _) hs) (dc (dp (yf.loc _ _) hdb) (dc (dp (yf.loc _ _) hdc) (dc (dp (zm.Ok.loc _) hd) dn))))) ?_
 refine (go 2) (yu fun b2=>zw fun b3=>?_)
 refine (go 4) ?_
 refine yM (Mem w ⟨no,P0⟩ [.blk b2 [.slice s.sr.A s.sr.l.length s.sr.c,.slice s.raw.A s.raw.l.length s.raw.c,.slice s.fine.A s.fine.l.length s.fine.c,.slice s.coarse.A s.coarse.l.length s.coarse.c,iV s.zU,iV s.zL,iV s.zE,iV s.zH,iV s.zF] 50,okP zC.Ok s,celP db [.pointer (some ((Addr.add dad 0).add 0))],celP dad [iV d.kind,iV d.tier,iV d.to,.slice d.sr.A d.sr.l.length d.sr.c,iV d.zO.time,iV d.zO.value,.string d.text],okP zm.Ok d]) mix (fun _ h=>h.drew) rfl (yN 5 [0,1,2,3,4] [1,2,3,4,5] rfl fun KS hKS=>?_)
 refine (go 5) ?_
 refine zi hKS (zf 4 5 (zh (i:=5) rfl fun KN hKN=>zc (fun _ h=>h.shelfX 2 rfl) ?_))
 obtain ⟨hc1,hm1,hA1⟩:=hws.sr
 obtain ⟨hc2,hm2,hA2⟩:=hws.raw
 obtain ⟨hc3,hm3,hA3⟩:=hws.fine
 obtain ⟨hc4,hm4,hA4⟩:=hws.coarse
 refine l_callSh (fun u=>.tuple (List.toArray [u,iV ((Sh.roll (zC.e s) d.to).2)])) ((Sh.roll (zC.e s) d.to).1) wn rfl call74 rfl (fun w1 Pb hM pp=>c_roll _ _ _ _ (zC.e s) d.to Pb w1 pp.lt (pp.sl 0 rfl) (pp.sl 1 rfl) (pp.sl 2 rfl) (pp.sl 3 rfl)) fun A1 cp1 A2 cp2 A3 cp3 A4 cp4 hb1 hA5 hA6 hA7 hA8=>?_
 refine (go 1) ?_
 refine hKN _ _ (S9 [9,10,11,12,13]) (yN 2 [6,7] [9,10,11,12,13] rfl fun KS hKS=>?_)
 refine (go 2) ?_
 refine zi hKS (zf 1 8 (zh (i:=8) rfl fun KN hKN=>?_))
 refine (go 2) ?_
 refine hKN _ _ (S9 [9,10,11,12,13]) (yN 0 [9] [9,10,11,12,13] rfl fun KS hKS=>?_)
 refine (go 1) ?_
 refine zi hKS ?_
 refine zz (by kernel_rfl) ((go 1) ?_)
 refine (go 1) (yL results73 fun w1 hM=>?_)
 exact hM.vD (zC.mk ⟨A1,cp1,((Sh.roll (zC.e s) d.to).1).zJ⟩ ⟨A2,cp2,((Sh.roll (zC.e s) d.to).1).raw⟩ ⟨A3,cp3,((Sh.roll (zC.e s) d.to).1).fine⟩ ⟨A4,cp4,((Sh.roll (zC.e s) d.to).1).coarse⟩ (((Sh.roll (zC.e s) d.to).1).zU) (((Sh.roll (zC.e s) d.to).1).zL) (((Sh.roll (zC.e s) d.to).1).zE) (((Sh.roll (zC.e s) d.to).1).zH) (((Sh.roll (zC.e s) d.to).1).zF)) rfl rfl fun Pb pp=>⟨pp.sl 0 rfl,pp.sl 1 rfl,pp.sl 2 rfl,pp.sl 3 rfl⟩
set_option maxHeartbeats 1000000 in
theorem c_each (bp:Nat) (x:yB) (f:Nat) (fcap:Array Value) (C:(Nat→Prop)→World→Prop) (g:Shelf→Shelf × Int) (Pb:Nat→Prop) (w:World) (hG:Mem w ⟨fpOf [.blk bp [.slice x.zA.A x.zA.l.length x.zA.c,iV x.zM] 93,Row (.slice x.zA.A x.zA.l.length x.zA.c) 50 9 zY x.zA.l,allP zC.Ok x.zA.l,.pub C],Pb⟩ [.blk bp [.slice x.zA.A x.zA.l.length x.zA.c,iV x.zM] 93,Row (.slice x.zA.A x.zA.l.length x.zA.c) 50 9 zY x.zA.l,allP zC.Ok x.zA.l,.pub C] w) (hf:ShFn prog f fcap C g) (hlen:x.zA.l.length≤8) :
    Calls prog 70 #[.pointer (some ⟨bp,0,none⟩),.func (.func f) #[] fcap] w (RetA w [.blk bp [.slice x.zA.A x.zA.l.length x.zA.c,iV x.zM] 93,Row (.slice x.zA.A x.zA.l.length x.zA.c) 50 9 zY x.zA.l,allP zC.Ok x.zA.l,.pub C] Pb (fun _:yB=>iV (Bs.each g x.e.zA).2) (fun z=>z.e=if (Bs.each g x.e.zA).2≠0 then x.e else ⟨(Bs.each g x.e.zA).1,x.zM⟩) (fun z=>[.blk bp [.slice z.zA.A z.zA.l.length z.zA.c,iV z.zM] 93,Row (.slice z.zA.A z.zA.l.length z.zA.c) 50 9 zY z.zA.l,allP zC.Ok z.zA.l,.pub C])):=by
 have hwf:∀ y ∈ x.zA.l,zC.Wf y:=fun y hy=>((hG.yS (i:=2) rfl) y hy).wf
 obtain ⟨hsc,hsm,hsA⟩:=row_wf (hG.row (i:=1) rfl)
 refine zq (N:=39) func70 hG ?_
 refine (go 7) ?_
 refine yD (zY:zC→List Value) 50 9 (zc (fun _ h=>h.all0 zC.Ok.loc) ?_)
 refine (go 16) ?_
 refine vb (fun (k:Nat) (zs:List zC) (ov:Value)=>[(0,.pointer (some ⟨bp,0,none⟩)),(1,.func (.func f) #[] fcap),(5,ov),(14,.slice x.zA.A x.zA.l.length x.zA.c),(15,iV x.zA.l.length),(16,iV k)]) (fun (k:Nat) (zs:List zC) (ov:Value)=>[allP zC.Ok zs,Row ov 50 9 zY zs,.blk bp [.slice x.zA.A x.zA.l.length x.zA.c,iV x.zM] 93,Row (.slice x.zA.A x.zA.l.length x.zA.c) 50 9 zY x.zA.l,allP zC.Ok x.zA.l,.pub C]) (fun (k:Nat) (zs:List zC) (ov:Value)=>k≤x.zA.l.length∧(∀ y ∈ zs,zC.Wf y)∧Bs.each g ((x.zA.l.take k).map zC.e)=(zs.map zC.e,0)∧zs.length=k) (fun (k:Nat) (zs:List zC) (ov:Value)=>x.zA.l.length - k) 0 [] (Zs) (sc rfl (sc rfl (sc rfl (sc rfl (sc rfl (sc (ji qO) sn)))))) (fun _ h=>h) ?_ (fun k zs ov hI1=>?_)
 ·exact ⟨Nat.zero_le _,fun x hx=>(by cases hx),rfl,rfl⟩
 have hwz:=hI1.2.1
 have hzl:=hI1.2.2.2
 refine yW 1 (l:=zs) rfl fun A1 cp1 hv1 hc1 hm1 hA1=>?_
 subst hv1
 refine (go 6) (zW (fun h1=>?_) fun h1=>?_)
 ·refine (go 6) ?_
  obtain ⟨ad1,s1,hd1,hs1⟩:=elx hsA k
  refine (go 1) ?_
  refine za (uO 3 [.slice s1.sr.A s1.sr.l.length s1.sr.c,.slice s1.raw.A s1.raw.l.length s1.raw.c,.slice s1.fine.A s1.fine.l.length s1.fine.c,.slice s1.coarse.A s1.coarse.l.length s1.coarse.c,iV s1.zU,iV s1.zL,iV s1.zE,iV s1.zH,iV s1.zF] encShelfX rfl rfl hd1 hs1 rfl rfl agg50 inf50) (zw fun b7=>?_)
  refine (go 7) ?_
  have hw1:=hwf _ (List.mem_of_getElem? hs1)
  refine zc (fun _ h=>h.one 5 zC.Ok.loc rfl hs1) (l_callE (β:=zC) (fun z=>.tuple #[.agg (zY z).toArray,iV (g (zC.e s1)).2]) (fun z=>z.e=(g (zC.e s1)).1) (fun z S=>zC.Ok S z) (fun z=>zC.Ok.loc z) wn rfl rfl hf.call rfl (fun w1 Pb hM pp=>hf.run s1 w1 Pb pp.lt (pp.at_ 0 _ rfl) (pp.at_ 7 _ rfl)) fun z1 hz1=>yn 0 rfl (fun S w h=>zC.Ok.wf h) fun hw2=>?_)
  refine (go 3) (zw fun b8=>?_)
  refine (go 11) (zW (fun h2=>?_) fun h2=>?_)
  ·refine (go 13) (zX results70 fun w1 hM=>?_)
   have hb9:(Bs.each g x.e.zA).2=(g s1.e).2:=eachX_bad hs1 hI1.2.2.1 h2
   exact hM.yR x (by rw [hb9]) (by rw [hb9,if_pos h2]) (fun h=>h.sel [6,7,8,9] qD rfl)
  refine (go 5) ?_
  refine zy zY ([z1]:List zC) wn underlying23 inf50 rfl rfl rfl rfl qD qD rfl fun b31=>yH 6 zs ([z1]:List zC) encShelfX wn rfl rfl rfl (fun _ hM=>(RowSl encShelfX hM 0 rfl)) underlying23 inf50 rfl rfl (by simp only [qL]; omega) rfl fun A2 cp2 hc2 hm2 hA2=>zc (fun _ h=>h.allSnoc 5 2 zC.Ok.loc rfl rfl) ?_
  have hw3:∀ x ∈ (zs++([z1]:List zC)),zC.Wf x:=fun x hx=>(List.mem_append.1 hx).elim (hwz x) fun h=>by rw [List.mem_singleton.1 h]; exact hw2
  refine (go 7) ?_
  refine zT (yG (k + 1) (zs++([z1]:List zC)) (.slice A2 ((zs++([z1]:List zC)).length) cp2) (sc rfl (sc rfl (sc rfl (sc rfl (sc rfl (sc (ji qO) sn)))))) (S9 [0,7,8,9,10,11]) ?_ ?_)
  ·exact ⟨by omega,hw3,eachX_next hs1 hI1.2.2.1 h2 hz1,by rw [List.length_append,List.length_singleton]; omega⟩
  omega
 refine (go 21) (zX results70 fun w1 hM=>?_)
 have hb9:Bs.each g x.e.zA=(zs.map zC.e,0):=eachX_end hI1.2.2.1 qO
 exact hM.yR (⟨⟨A1,cp1,zs⟩,x.zM⟩:yB) (by rw [hb9]) (by rw [hb9]; rfl) (fun h=>h.sel [2,1,0,5] qD rfl)
end
section
open Tryz
open Ex
attribute [local irreducible] WC WL WQ WE WS
set_option linter.unusedVariables false
set_option linter.unusedSimpArgs false
theorem c_span (zp:Nat) (z0:Value) (z1:Value) (z2:Value) (z3:Value) (z:Shelf) (tier:Int) (w:World) (hzp:w.heap[zp]?=some (.cells [z0,z1,z2,z3,iV z.zU,iV z.zL,iV z.zE,iV z.zH,iV z.zF].toArray 50 (0,0)))  :
    Calls prog 202 #[.pointer (some ⟨zp,0,none⟩),iV tier] w (Ret w (.tuple #[iV (Sh.spanFrom z tier),iV (Sh.spanTo z tier)])):=by
 refine zq (N:=31) func202 (Mem.ofDats (dc (ddb hzp) dn)) ?_
 refine (go 19) (zW (fun h1=>?_) fun h1=>?_)
 ·refine (go 17) (yL results202 fun w1 hM=>?_)
  exact zP (by simp [Sh.spanFrom,Sh.spanTo,h1]) hM
 refine (go 6) (zW (fun h2=>?_) fun h2=>?_)
 ·refine (go 17) (yL results202 fun w1 hM=>?_)
  exact zP (by simp [Sh.spanFrom,Sh.spanTo,h1,h2]) hM
 refine (go 14) (yL results202 fun w1 hM=>?_)
 exact zP (by simp [Sh.spanFrom,Sh.spanTo,h1,h2]) hM
theorem jh (zp:Nat) (z0:Value) (z1:Value) (z2:Value) (z3:Value) (z:Shelf) (p:Part) (w:World) (hzp:w.heap[zp]?=some (.cells [z0,z1,z2,z3,iV z.zU,iV z.zL,iV z.zE,iV z.zH,iV z.zF].toArray 50 (0,0)))  :
    Calls prog 163 #[.pointer (some ⟨zp,0,none⟩),.agg (yh p).toArray] w (Ret w (.bool (decide (Sh.may z p)))):=by
 refine zq (N:=58) func163 (Mem.ofDats (dc (ddb hzp) dn)) ?_
 refine (go 2) (yu fun b3=>?_)
 refine (go 4) ?_
 refine yq [(0,.pointer (some ⟨zp,0,none⟩)),(3,.pointer (some ⟨b3,0,none⟩)),(22,.bool (decide ((p.tier < 0)∨((2 < p.tier)∨(p.to≤p.frm)))))] (Mem w no [.blk b3 [iV p.tier,iV p.frm,iV p.to] 217,datB zp [z0,z1,z2,z3,iV z.zU,iV z.zL,iV z.zE,iV z.zH,iV z.zF] 50]) (fun _ hK3=>?_) ?_
 ·refine (go 5) (yO 11 (fun h1=>?_) fun h1=>?_)
  ·refine (go 11) ?_
   refine zT (zt hK3 (sc rfl (sc rfl (sc (jt (Or.inl h1)) sn))) (fun _ h=>h))
  have hst:=Sh.stepOf_pos p.tier
  refine (go 5) (yO 16 (fun h2=>?_) fun h2=>?_)
  ·refine (go 6) ?_
   refine zT (zt hK3 (sc rfl (sc rfl (sc (jt (Or.inr (Or.inl h2))) sn))) (fun _ h=>h))
  refine (go 6) ?_
  refine zT (zt hK3 (sc rfl (sc rfl (sc (jp (iff_or_right h1 (iff_or_right h2 Iff.rfl))) sn))) (fun _ h=>h))
 refine zW (fun h3=>?_) fun h3=>?_
 ·refine (go 7) (zX results163 fun w1 hM=>?_)
  exact zP (congrArg Value.bool (decide_eq_false (fun g=>g.1 h3)).symm) hM
 have hst:=Sh.stepOf_pos p.tier
 refine (go 7) ?_
 refine yF call202 wn rfl (fun w1 hM=>c_span zp _ _ _ _ z p.tier w1 (hM.datb (i:=1) rfl)) ?_
 refine (go 11) ?_
 refine yF call93 wn rfl (fun w1 hM=>ub p.tier w1) (za (jL (show _=Sh.stepOf p.tier from rfl) (ud rfl rfl)) ?_)
 refine (go 10) (yO 38 (fun h4=>?_) fun h4=>?_)
 ·refine (go 6) (yO 44 (fun h5=>?_) fun h5=>?_)
  ·refine (go 3) ?_
   refine y6 (jG rfl rfl qO) ?_
   refine (go 3) (yO 51 (fun h6=>?_) fun h6=>?_)
   ·refine (go 3) ?_
    refine y6 (jG rfl rfl qO) ?_
    refine (go 6) (zX results163 fun w1 hM=>?_)
    exact zP (congrArg Value.bool (decide_eq_decide.2 ⟨fun g=>⟨h3,h4,h5,h6,g⟩,fun g=>g.2.2.2.2⟩)) hM
   refine (go 10) (zX results163 fun w1 hM=>?_)
   exact zP (congrArg Value.bool (decide_eq_false (fun g=>h6 g.2.2.2.1)).symm) hM
  refine (go 17) (zX results163 fun w1 hM=>?_)
  exact zP (congrArg Value.bool (decide_eq_false (fun g=>h5 g.2.2.1)).symm) hM
 refine (go 23) (zX results163 fun w1 hM=>?_)
 exact zP (congrArg Value.bool (decide_eq_false (fun g=>h4 g.2.1)).symm) hM
theorem uk (lv:Value) (l:List Bucket) (p:Part) (w:World) (hl:zD (In w) 8 zK lv l w) (hl1:l.length≤1048576) :
    Calls prog 165 #[lv,.agg (yh p).toArray] w (Ret w (iV ((Sh.bIn l p.frm p.to).length:Int))):=by
 obtain ⟨lA,lc,rfl,hlc,hlm,hlA⟩:=hl.form
 refine zq (N:=30) func165 (Mem.ofDats (dc (dl hl) dn)) ?_
 refine (go 2) (yu fun b3=>?_)
 refine (go 17) ?_
 refine yJ (fun (k:Nat)=>[(3,.pointer (some ⟨b3,0,none⟩)),(5,iV ((Sh.bIn (l.take k) p.frm p.to).length:Int)),(8,.slice lA l.length lc),(9,iV l.length),(10,iV k)]) (fun (k:Nat)=>[.blk b3 [iV p.tier,iV p.frm,iV p.to] 217,slO (In w) 8 zK (.slice lA l.length lc) l]) (fun (k:Nat)=>k≤l.length) (fun (k:Nat)=>l.length - k) 0 (sc rfl (sc (ji (by first | omega | rfl | (rw [hst]; simp) | (rw [hst]))) (sc rfl (sc rfl (sc (ji (by first | omega | rfl | (rw [hst]; simp) | (rw [hst]))) sn))))) (fun _ h=>h) ?_ (fun k hI1=>?_)
 ·omega
 have hlen:=Nat.le_trans (Sh.bIn_len (l.take k) p.frm p.to) (List.length_take_le k l)
 refine (go 6) (zW (fun h1=>?_) fun h1=>?_)
 ·refine (go 6) ?_
  obtain ⟨ad1,s1,hd1,hs1⟩:=elx hlA k
  refine (go 2) (zw fun b7=>?_)
  refine (go 11) (yO 19 (fun h2=>?_) fun h2=>?_)
  ·refine (go 8) (zW (fun h3=>?_) fun h3=>?_)
   ·refine (go 10) ?_
    have hst:=(Sh.bIn_succ (a:=p.frm) (b:=p.to) hs1).trans (if_pos qO)
    refine zT (zj (k + 1) (sc rfl (sc (ji (by first | omega | rfl | (rw [hst]; simp) | (rw [hst]))) (sc rfl (sc rfl (sc (ji (by first | omega | rfl | (rw [hst]; simp) | (rw [hst]))) sn))))) (S9 [1,2]) ?_ ?_)
    ·omega
    omega
   refine (go 6) ?_
   have hst:=(Sh.bIn_succ (a:=p.frm) (b:=p.to) hs1).trans (if_neg qO)
   refine zT (zj (k + 1) (sc rfl (sc (ji (by first | omega | rfl | (rw [hst]; simp) | (rw [hst]))) (sc rfl (sc rfl (sc (ji (by first | omega | rfl | (rw [hst]; simp) | (rw [hst]))) sn))))) (S9 [1,2]) ?_ ?_)
   ·omega
   omega
  refine (go 15) ?_
  have hst:=(Sh.bIn_succ (a:=p.frm) (b:=p.to) hs1).trans (if_neg qO)
  refine zT (zj (k + 1) (sc rfl (sc (ji (by first | omega | rfl | (rw [hst]; simp) | (rw [hst]))) (sc rfl (sc rfl (sc (ji (by first | omega | rfl | (rw [hst]; simp) | (rw [hst]))) sn))))) (S9 [1,2]) ?_ ?_)
  ·omega
  omega
 refine (go 12) (zX results165 fun w1 hM=>?_)
 exact zP (congrArg (Value.int .i64) (by rw [List.take_of_length_le qO])) hM
set_option maxHeartbeats 4000000 in
theorem c_choose (z0:Value) (z1:Value) (z2:Value) (z3:Value) (z:Shelf) (f:Int) (t:Int) (P0:Nat→Prop) (w:World) (hP0:∀ b,P0 b→b < w.heap.size) (hz0:zD P0 2 zS z0 z.zJ w) (hz1:zD P0 2 zQ z1 z.raw w) (hz2:zD P0 8 zK z2 z.fine w) (hz3:zD P0 8 zK z3 z.coarse w)  :
    Calls prog 117 #[.agg (List.toArray [z0,z1,z2,z3,iV z.zU,iV z.zL,iV z.zE,iV z.zH,iV z.zF]),iV f,iV t] w (RetLT w 217 3 yh (Sh.choose z f t).1 (fun r=>.tuple [r,iV (Sh.choose z f t).2].toArray)):=by
 obtain ⟨z0A,z0c,rfl,hz0c,hz0m,hz0A⟩:=hz0.form
 obtain ⟨z1A,z1c,rfl,hz1c,hz1m,hz1A⟩:=hz1.form
 obtain ⟨z2A,z2c,rfl,hz2c,hz2m,hz2A⟩:=hz2.form
 obtain ⟨z3A,z3c,rfl,hz3c,hz3m,hz3A⟩:=hz3.form
 refine zq (N:=99) func117 (Mem.ofDatsP hP0 (dc (dlp hz0) (dc (dlp hz1) (dc (dlp hz2) (dc (dlp hz3) dn))))) ?_
 refine (go 2) (yu fun b3=>?_)
 refine yD (yh:Part→List Value) 217 3 ?_
 refine (go 8) ?_
 refine yF call21 wn rfl (fun w1 hM=>vi _ _ _ _ z (In w1) w1 (fun _ h=>h) (hM.slp 2 rfl) (hM.slp 3 rfl) (hM.slp 4 rfl) (hM.slp 5 rfl)) ?_
 refine (go 9) (zW (fun h1=>?_) fun h1=>?_)
 ·refine (go 3) ?_
  refine yD (yh:Part→List Value) 217 3 ?_
  refine (go 6) (yL results117 fun w1 hM=>?_)
  have he:Sh.choose z f t=(([]:List Part),(Sh.wrong z)):=Sh.choose_wrong h1
  exact hM.jd 0 rfl (by rw [he]) (by rw [he])
 have hs2:Roll.step 2=60:=rfl
 have hs1_:Roll.step 1=10:=rfl
 have hs0:Roll.step 0=0:=rfl
 refine (go 3) ?_
 refine yq [(1,iV f),(2,iV t),(3,.pointer (some ⟨b3,0,none⟩)),(31,.bool (decide ((f < 0)∨((t < f)∨(1000000 < t)))))] (Mem w ⟨no,P0⟩ [Row (Zs) 217 3 yh ([]:List Part),.blk b3 [.slice z0A z.zJ.length z0c,.slice z1A z.raw.length z1c,.slice z2A z.fine.length z2c,.slice z3A z.coarse.length z3c,iV z.zU,iV z.zL,iV z.zE,iV z.zH,iV z.zF] 50,slP 2 zS (.slice z0A z.zJ.length z0c) z.zJ,slP 2 zQ (.slice z1A z.raw.length z1c) z.raw,slP 8 zK (.slice z2A z.fine.length z2c) z.fine,slP 8 zK (.slice z3A z.coarse.length z3c) z.coarse]) (fun _ hK7=>?_) ?_
 ·refine (go 4) (yO 23 (fun h2=>?_) fun h2=>?_)
  ·refine (go 8) ?_
   refine zT (zt hK7 (sc rfl (sc rfl (sc rfl (sc (jt (Or.inl h2)) sn)))) (fun _ h=>h))
  refine (go 5) (yO 28 (fun h3=>?_) fun h3=>?_)
  ·refine (go 3) ?_
   refine zT (zt hK7 (sc rfl (sc rfl (sc rfl (sc (jt (Or.inr (Or.inl h3))) sn)))) (fun _ h=>h))
  refine (go 3) ?_
  refine zT (zt hK7 (sc rfl (sc rfl (sc rfl (sc (jp (iff_or_right h2 (iff_or_right h3 Iff.rfl))) sn)))) (fun _ h=>h))
 refine zW (fun h4=>?_) fun h4=>?_
 ·refine (go 2) ?_
  refine yD (yh:Part→List Value) 217 3 ?_
  refine (go 6) (yL results117 fun w1 hM=>?_)
  have he:Sh.choose z f t=(([]:List Part),3):=Sh.choose_range h1 qO
  exact hM.jd 0 rfl (by rw [he]) (by rw [he])
 refine (go 4) ?_
 refine yD (yh:Part→List Value) 217 3 ?_
 refine (go 5) ?_
 refine vb (fun (g:Int) (out:List Part) (vr:Value)=>[(1,iV g),(2,iV t),(3,.pointer (some ⟨b3,0,none⟩)),(9,vr)]) (fun (g:Int) (out:List Part) (vr:Value)=>[Row vr 217 3 yh out,Row (Zs) 217 3 yh ([]:List Part),.blk b3 [.slice z0A z.zJ.length z0c,.slice z1A z.raw.length z1c,.slice z2A z.fine.length z2c,.slice z3A z.coarse.length z3c,iV z.zU,iV z.zL,iV z.zE,iV z.zH,iV z.zF] 50,slP 2 zS (.slice z0A z.zJ.length z0c) z.zJ,slP 2 zQ (.slice z1A z.raw.length z1c) z.raw,slP 8 zK (.slice z2A z.fine.length z2c) z.fine,slP 8 zK (.slice z3A z.coarse.length z3c) z.coarse]) (fun (g:Int) (out:List Part) (vr:Value)=>(Sh.chooseL z f t []=Sh.chooseL z g t out)∧0≤g∧g≤t∧(out.length:Int)≤g) (fun (g:Int) (out:List Part) (vr:Value)=>(t - g).toNat) f [] (Zs) (sc rfl (sc rfl (sc rfl (sc rfl sn)))) (fun _ h=>h) ?_ (fun g out vr hI1=>?_)
 ·exact ⟨rfl,by omega,by omega,by simp; omega⟩
 refine yW 0 (l:=out) rfl fun A1 cp1 hv1 hc1 hm1 hA1=>?_
 subst hv1
 refine (go 8) (zW (fun h5=>?_) fun h5=>?_)
 ·refine (go 6) (zw fun b10=>?_)
  refine (go 6) ?_
  refine zy intE ([2,1,0]:List Int) wn underlying37 inf3 rfl rfl rfl rfl qD qD rfl fun b36=>?_
  refine (go 5) ?_
  refine c_enter (ui fun _ hK16=>?_)
  refine (go 6) ?_
  refine yx rfl (decide_eq_true qD) ?_
  refine (go 6) ?_
  refine za (yz (i:=0) rfl rfl rfl qO (by first | omega | decide) underlying37 inf3) (za (uE 0 encInt rfl rfl rfl (show ([2,1,0]:List Int)[0]?=some 2 from rfl) rfl flat3) ?_)
  refine (go 7) ?_
  refine yF call93 wn rfl (fun w1 hM=>ub 2 w1) ?_
  refine (go 11) ?_
  refine yU rfl (decide_eq_false qD) ?_
  refine (go 8) (zw fun b14=>?_)
  refine (go 3) ?_
  refine yq [(1,iV g),(2,iV t),(3,.pointer (some ⟨b3,0,none⟩)),(9,.slice A1 out.length cp1),(10,.pointer (some ⟨b10,0,none⟩)),(14,.pointer (some ⟨b14,0,none⟩)),(36,.slice (some ⟨b36,0,none⟩) 3 3),(37,iV 3),(38,iV 0),(65,.bool (decide (((g + (Roll.step 2))≤t)∧(Sh.may z (⟨2,g,(g + (Roll.step 2))⟩:Part)))))] (Mem w ⟨no,P0⟩ [.blk b14 [iV 2,iV g,iV (g + (Roll.step 2))] 217,Row (.slice (some ⟨b36,0,none⟩) 3 3) 3 1 intE ([2,1,0]:List Int),.blk b10 [iV (-1),iV 0,iV 0] 217,Row (.slice A1 out.length cp1) 217 3 yh out,Row (Zs) 217 3 yh ([]:List Part),.blk b3 [.slice z0A z.zJ.length z0c,.slice z1A z.raw.length z1c,.slice z2A z.fine.length z2c,.slice z3A z.coarse.length z3c,iV z.zU,iV z.zL,iV z.zE,iV z.zH,iV z.zF] 50,slP 2 zS (.slice z0A z.zJ.length z0c) z.zJ,slP 2 zQ (.slice z1A z.raw.length z1c) z.raw,slP 8 zK (.slice z2A z.fine.length z2c) z.fine,slP 8 zK (.slice z3A z.coarse.length z3c) z.coarse]) (fun _ hK25=>?_) ?_
  ·refine (go 5) (yO 62 (fun h6=>?_) fun h6=>?_)
   ·refine (go 1) ?_
    refine yF call163 (wg rfl rfl rfl) rfl (fun w1 hM=>jh b3 _ _ _ _ z (⟨2,g,(g + (Roll.step 2))⟩:Part) w1 (hM.blk (i:=5) rfl)) ?_
    refine (go 1) ?_
    refine zT (zt hK25 (sc rfl (sc rfl (sc rfl (sc rfl (sc rfl (sc rfl (sc rfl (sc rfl (sc rfl (sc (jp (iff_and_right h6 Iff.rfl)) sn)))))))))) (fun _ h=>h))
   refine (go 3) ?_
   refine zT (zt hK25 (sc rfl (sc rfl (sc rfl (sc rfl (sc rfl (sc rfl (sc rfl (sc rfl (sc rfl (sc (jf (fun g=>h6 g.1)) sn)))))))))) (fun _ h=>h))
  refine zW (fun h7=>?_) fun h7=>?_
  ·refine (go 20) ?_
   refine yU rfl (decide_eq_false qD) ?_
   refine (go 16) (vh 76 (fun h8=>?_) fun h8=>?_)
   ·refine (go 2) ?_
    obtain ⟨ad1,hd1⟩:=hA1 (ne_nil (i:=(out.length - 1)) (by first | omega | decide))
    refine vt (yz (i:=(out.length - 1)) rfl hd1 rfl qO (by first | omega | decide) underlying152 inf217) ?_
    refine (go 1) ?_
    obtain ⟨s1,hs1⟩:∃ x,out[(out.length - 1)]?=some x:=⟨_,List.getElem?_eq_getElem (by first | omega | decide)⟩
    refine vt (uE 3 encPart rfl rfl hd1 hs1 rfl flat3) ?_
    refine (go 6) (zW (fun h9=>?_) fun h9=>?_)
    ·refine (go 5) ?_
     refine za (yz (i:=(out.length - 1)) rfl hd1 rfl qO (by first | omega | decide) underlying152 inf217) ?_
     refine (go 1) ?_
     refine uF 3 (vs:=[iV (g + (Roll.step 2))]) (⟨s1.tier,s1.frm,(g + (Roll.step 2))⟩:Part) encPart wn rfl rfl rfl rfl hd1 hs1 inf3 rfl rfl rfl rfl ?_
     refine (go 6) ?_
     refine zT (yK (yG (g + (Roll.step 2)) (out.set (out.length - 1) (⟨s1.tier,s1.frm,(g + (Roll.step 2))⟩:Part)) (.slice A1 out.length cp1) (sc rfl (sc rfl (sc rfl (sc rfl sn)))) (S9 [3,4,5,6,7,8,9]) ?_ ?_))
     ·have hp:Sh.pick z g t=(⟨2,g,(g + (Roll.step 2))⟩:Part):=Sh.pick_2 (z:=z) (f:=g) (t:=t) h7.1 h7.2
      have hpt:¬ (Sh.pick z g t).tier < 0:=by rw [hp]; dsimp only; omega
      have hto:=Sh.pick_to hpt
      have hnx:=hI1.1.trans (Sh.chooseL_next (out:=out) qO hpt)
      have hpl:=Sh.push_len out (Sh.pick z g t)
      rw [hp] at hto hnx hpl
      have hpu:Sh.push out _=_:=Sh.push_last (p:=(⟨2,g,(g + (Roll.step 2))⟩:Part)) hs1 h9
      rw [hpu] at hnx hpl
      try dsimp only at hto
      try dsimp only at hnx
      try dsimp only at hpl
      exact ⟨hnx,by omega,by omega,by omega⟩
     have hp:Sh.pick z g t=(⟨2,g,(g + (Roll.step 2))⟩:Part):=Sh.pick_2 (z:=z) (f:=g) (t:=t) h7.1 h7.2
     have hpt:¬ (Sh.pick z g t).tier < 0:=by rw [hp]; dsimp only; omega
     have hto:=Sh.pick_to hpt
     rw [hp] at hto
     try dsimp only at hto
     omega
    refine (go 3) ?_
    refine zy yh ([(⟨2,g,(g + (Roll.step 2))⟩:Part)]:List Part) wn underlying152 inf217 rfl rfl rfl rfl qD qD rfl fun b94=>yH 4 out ([(⟨2,g,(g + (Roll.step 2))⟩:Part)]:List Part) encPart wn rfl rfl rfl (fun _ hM=>(RowSl encPart hM 0 rfl)) underlying152 inf217 rfl rfl (by first | omega | (simp only [qL]; omega)) rfl fun A2 cp2 hc2 hm2 hA2=>?_
    refine (go 7) ?_
    refine zT (yK (yG (g + (Roll.step 2)) (out++([(⟨2,g,(g + (Roll.step 2))⟩:Part)]:List Part)) (.slice A2 ((out++([(⟨2,g,(g + (Roll.step 2))⟩:Part)]:List Part)).length) cp2) (sc rfl (sc rfl (sc rfl (sc rfl sn)))) (S9 [4,5,6,7,8,9,10]) ?_ ?_))
    ·have hp:Sh.pick z g t=(⟨2,g,(g + (Roll.step 2))⟩:Part):=Sh.pick_2 (z:=z) (f:=g) (t:=t) h7.1 h7.2
     have hpt:¬ (Sh.pick z g t).tier < 0:=by rw [hp]; dsimp only; omega
     have hto:=Sh.pick_to hpt
     have hnx:=hI1.1.trans (Sh.chooseL_next (out:=out) qO hpt)
     have hpl:=Sh.push_len out (Sh.pick z g t)
     rw [hp] at hto hnx hpl
     have hpu:Sh.push out _=_:=Sh.push_new (p:=(⟨2,g,(g + (Roll.step 2))⟩:Part)) hs1 h9
     rw [hpu] at hnx hpl
     try dsimp only at hto
     try dsimp only at hnx
     try dsimp only at hpl
     exact ⟨hnx,by omega,by omega,by omega⟩
    have hp:Sh.pick z g t=(⟨2,g,(g + (Roll.step 2))⟩:Part):=Sh.pick_2 (z:=z) (f:=g) (t:=t) h7.1 h7.2
    have hpt:¬ (Sh.pick z g t).tier < 0:=by rw [hp]; dsimp only; omega
    have hto:=Sh.pick_to hpt
    rw [hp] at hto
    try dsimp only at hto
    omega
   refine (go 15) ?_
   refine zy yh ([(⟨2,g,(g + (Roll.step 2))⟩:Part)]:List Part) wn underlying152 inf217 rfl rfl rfl rfl qD qD rfl fun b94=>yH 4 out ([(⟨2,g,(g + (Roll.step 2))⟩:Part)]:List Part) encPart wn rfl rfl rfl (fun _ hM=>(RowSl encPart hM 0 rfl)) underlying152 inf217 rfl rfl (by first | omega | (simp only [qL]; omega)) rfl fun A3 cp3 hc3 hm3 hA3=>?_
   refine (go 7) ?_
   refine zT (yK (yG (g + (Roll.step 2)) (out++([(⟨2,g,(g + (Roll.step 2))⟩:Part)]:List Part)) (.slice A3 ((out++([(⟨2,g,(g + (Roll.step 2))⟩:Part)]:List Part)).length) cp3) (sc rfl (sc rfl (sc rfl (sc rfl sn)))) (S9 [4,5,6,7,8,9,10]) ?_ ?_))
   ·have hp:Sh.pick z g t=(⟨2,g,(g + (Roll.step 2))⟩:Part):=Sh.pick_2 (z:=z) (f:=g) (t:=t) h7.1 h7.2
    have hpt:¬ (Sh.pick z g t).tier < 0:=by rw [hp]; dsimp only; omega
    have hto:=Sh.pick_to hpt
    have hnx:=hI1.1.trans (Sh.chooseL_next (out:=out) qO hpt)
    have hpl:=Sh.push_len out (Sh.pick z g t)
    rw [hp] at hto hnx hpl
    have hpu:Sh.push out _=_:=Sh.push_nil (p:=(⟨2,g,(g + (Roll.step 2))⟩:Part)) qO
    rw [hpu] at hnx hpl
    try dsimp only at hto
    try dsimp only at hnx
    try dsimp only at hpl
    exact ⟨hnx,by omega,by omega,by omega⟩
   have hp:Sh.pick z g t=(⟨2,g,(g + (Roll.step 2))⟩:Part):=Sh.pick_2 (z:=z) (f:=g) (t:=t) h7.1 h7.2
   have hpt:¬ (Sh.pick z g t).tier < 0:=by rw [hp]; dsimp only; omega
   have hto:=Sh.pick_to hpt
   rw [hp] at hto
   try dsimp only at hto
   omega
  refine (go 7) ?_
  refine ju hK16 (ui fun _ hK32=>?_)
  refine (go 6) ?_
  refine yx rfl (decide_eq_true qD) ?_
  refine (go 6) ?_
  refine za (yz (i:=1) rfl rfl rfl qO (by first | omega | decide) underlying37 inf3) (za (uE 1 encInt rfl rfl rfl (show ([2,1,0]:List Int)[1]?=some 1 from rfl) rfl flat3) ?_)
  refine (go 7) ?_
  refine yF call93 wn rfl (fun w1 hM=>ub 1 w1) ?_
  refine (go 11) ?_
  refine yU rfl (decide_eq_false qD) ?_
  refine (go 8) (zw fun b14_1=>?_)
  refine (go 3) ?_
  refine yq [(1,iV g),(2,iV t),(3,.pointer (some ⟨b3,0,none⟩)),(9,.slice A1 out.length cp1),(10,.pointer (some ⟨b10,0,none⟩)),(14,.pointer (some ⟨b14_1,0,none⟩)),(36,.slice (some ⟨b36,0,none⟩) 3 3),(37,iV 3),(38,iV 1),(65,.bool (decide (((g + (Roll.step 1))≤t)∧(Sh.may z (⟨1,g,(g + (Roll.step 1))⟩:Part)))))] (Mem w ⟨no,P0⟩ [.blk b14_1 [iV 1,iV g,iV (g + (Roll.step 1))] 217,.blk b14 [iV 2,iV g,iV (g + (Roll.step 2))] 217,Row (.slice (some ⟨b36,0,none⟩) 3 3) 3 1 intE ([2,1,0]:List Int),.blk b10 [iV (-1),iV 0,iV 0] 217,Row (.slice A1 out.length cp1) 217 3 yh out,Row (Zs) 217 3 yh ([]:List Part),.blk b3 [.slice z0A z.zJ.length z0c,.slice z1A z.raw.length z1c,.slice z2A z.fine.length z2c,.slice z3A z.coarse.length z3c,iV z.zU,iV z.zL,iV z.zE,iV z.zH,iV z.zF] 50,slP 2 zS (.slice z0A z.zJ.length z0c) z.zJ,slP 2 zQ (.slice z1A z.raw.length z1c) z.raw,slP 8 zK (.slice z2A z.fine.length z2c) z.fine,slP 8 zK (.slice z3A z.coarse.length z3c) z.coarse]) (fun _ hK41=>?_) ?_
  ·refine (go 5) (yO 62 (fun h10=>?_) fun h10=>?_)
   ·refine (go 1) ?_
    refine yF call163 (wg rfl rfl rfl) rfl (fun w1 hM=>jh b3 _ _ _ _ z (⟨1,g,(g + (Roll.step 1))⟩:Part) w1 (hM.blk (i:=6) rfl)) ?_
    refine (go 1) ?_
    refine zT (zt hK41 (sc rfl (sc rfl (sc rfl (sc rfl (sc rfl (sc rfl (sc rfl (sc rfl (sc rfl (sc (jp (iff_and_right h10 Iff.rfl)) sn)))))))))) (fun _ h=>h))
   refine (go 3) ?_
   refine zT (zt hK41 (sc rfl (sc rfl (sc rfl (sc rfl (sc rfl (sc rfl (sc rfl (sc rfl (sc rfl (sc (jf (fun g=>h10 g.1)) sn)))))))))) (fun _ h=>h))
  refine zW (fun h11=>?_) fun h11=>?_
  ·refine (go 20) ?_
   refine yU rfl (decide_eq_false qD) ?_
   refine (go 16) (vh 76 (fun h12=>?_) fun h12=>?_)
   ·refine (go 2) ?_
    obtain ⟨ad2,hd2⟩:=hA1 (ne_nil (i:=(out.length - 1)) (by first | omega | decide))
    refine vt (yz (i:=(out.length - 1)) rfl hd2 rfl qO (by first | omega | decide) underlying152 inf217) ?_
    refine (go 1) ?_
    obtain ⟨s2,hs2⟩:∃ x,out[(out.length - 1)]?=some x:=⟨_,List.getElem?_eq_getElem (by first | omega | decide)⟩
    refine vt (uE 4 encPart rfl rfl hd2 hs2 rfl flat3) ?_
    refine (go 6) (zW (fun h13=>?_) fun h13=>?_)
    ·refine (go 5) ?_
     refine za (yz (i:=(out.length - 1)) rfl hd2 rfl qO (by first | omega | decide) underlying152 inf217) ?_
     refine (go 1) ?_
     refine uF 4 (vs:=[iV (g + (Roll.step 1))]) (⟨s2.tier,s2.frm,(g + (Roll.step 1))⟩:Part) encPart wn rfl rfl rfl rfl hd2 hs2 inf3 rfl rfl rfl rfl ?_
     refine (go 6) ?_
     refine zT (yK (yG (g + (Roll.step 1)) (out.set (out.length - 1) (⟨s2.tier,s2.frm,(g + (Roll.step 1))⟩:Part)) (.slice A1 out.length cp1) (sc rfl (sc rfl (sc rfl (sc rfl sn)))) (S9 [4,5,6,7,8,9,10]) ?_ ?_))
     ·have hp:Sh.pick z g t=(⟨1,g,(g + (Roll.step 1))⟩:Part):=Sh.pick_1 (z:=z) (f:=g) (t:=t) h7 h11.1 h11.2
      have hpt:¬ (Sh.pick z g t).tier < 0:=by rw [hp]; dsimp only; omega
      have hto:=Sh.pick_to hpt
      have hnx:=hI1.1.trans (Sh.chooseL_next (out:=out) qO hpt)
      have hpl:=Sh.push_len out (Sh.pick z g t)
      rw [hp] at hto hnx hpl
      have hpu:Sh.push out _=_:=Sh.push_last (p:=(⟨1,g,(g + (Roll.step 1))⟩:Part)) hs2 h13
      rw [hpu] at hnx hpl
      try dsimp only at hto
      try dsimp only at hnx
      try dsimp only at hpl
      exact ⟨hnx,by omega,by omega,by omega⟩
     have hp:Sh.pick z g t=(⟨1,g,(g + (Roll.step 1))⟩:Part):=Sh.pick_1 (z:=z) (f:=g) (t:=t) h7 h11.1 h11.2
     have hpt:¬ (Sh.pick z g t).tier < 0:=by rw [hp]; dsimp only; omega
     have hto:=Sh.pick_to hpt
     rw [hp] at hto
     try dsimp only at hto
     omega
    refine (go 3) ?_
    refine zy yh ([(⟨1,g,(g + (Roll.step 1))⟩:Part)]:List Part) wn underlying152 inf217 rfl rfl rfl rfl qD qD rfl fun b94=>yH 5 out ([(⟨1,g,(g + (Roll.step 1))⟩:Part)]:List Part) encPart wn rfl rfl rfl (fun _ hM=>(RowSl encPart hM 0 rfl)) underlying152 inf217 rfl rfl (by first | omega | (simp only [qL]; omega)) rfl fun A4 cp4 hc4 hm4 hA4=>?_
    refine (go 7) ?_
    refine zT (yK (yG (g + (Roll.step 1)) (out++([(⟨1,g,(g + (Roll.step 1))⟩:Part)]:List Part)) (.slice A4 ((out++([(⟨1,g,(g + (Roll.step 1))⟩:Part)]:List Part)).length) cp4) (sc rfl (sc rfl (sc rfl (sc rfl sn)))) (S9 [5,6,7,8,9,10,11]) ?_ ?_))
    ·have hp:Sh.pick z g t=(⟨1,g,(g + (Roll.step 1))⟩:Part):=Sh.pick_1 (z:=z) (f:=g) (t:=t) h7 h11.1 h11.2
     have hpt:¬ (Sh.pick z g t).tier < 0:=by rw [hp]; dsimp only; omega
     have hto:=Sh.pick_to hpt
     have hnx:=hI1.1.trans (Sh.chooseL_next (out:=out) qO hpt)
     have hpl:=Sh.push_len out (Sh.pick z g t)
     rw [hp] at hto hnx hpl
     have hpu:Sh.push out _=_:=Sh.push_new (p:=(⟨1,g,(g + (Roll.step 1))⟩:Part)) hs2 h13
     rw [hpu] at hnx hpl
     try dsimp only at hto
     try dsimp only at hnx
     try dsimp only at hpl
     exact ⟨hnx,by omega,by omega,by omega⟩
    have hp:Sh.pick z g t=(⟨1,g,(g + (Roll.step 1))⟩:Part):=Sh.pick_1 (z:=z) (f:=g) (t:=t) h7 h11.1 h11.2
    have hpt:¬ (Sh.pick z g t).tier < 0:=by rw [hp]; dsimp only; omega
    have hto:=Sh.pick_to hpt
    rw [hp] at hto
    try dsimp only at hto
    omega
   refine (go 15) ?_
   refine zy yh ([(⟨1,g,(g + (Roll.step 1))⟩:Part)]:List Part) wn underlying152 inf217 rfl rfl rfl rfl qD qD rfl fun b94=>yH 5 out ([(⟨1,g,(g + (Roll.step 1))⟩:Part)]:List Part) encPart wn rfl rfl rfl (fun _ hM=>(RowSl encPart hM 0 rfl)) underlying152 inf217 rfl rfl (by first | omega | (simp only [qL]; omega)) rfl fun A5 cp5 hc5 hm5 hA5=>?_
   refine (go 7) ?_
   refine zT (yK (yG (g + (Roll.step 1)) (out++([(⟨1,g,(g + (Roll.step 1))⟩:Part)]:List Part)) (.slice A5 ((out++([(⟨1,g,(g + (Roll.step 1))⟩:Part)]:List Part)).length) cp5) (sc rfl (sc rfl (sc rfl (sc rfl sn)))) (S9 [5,6,7,8,9,10,11]) ?_ ?_))
   ·have hp:Sh.pick z g t=(⟨1,g,(g + (Roll.step 1))⟩:Part):=Sh.pick_1 (z:=z) (f:=g) (t:=t) h7 h11.1 h11.2
    have hpt:¬ (Sh.pick z g t).tier < 0:=by rw [hp]; dsimp only; omega
    have hto:=Sh.pick_to hpt
    have hnx:=hI1.1.trans (Sh.chooseL_next (out:=out) qO hpt)
    have hpl:=Sh.push_len out (Sh.pick z g t)
    rw [hp] at hto hnx hpl
    have hpu:Sh.push out _=_:=Sh.push_nil (p:=(⟨1,g,(g + (Roll.step 1))⟩:Part)) qO
    rw [hpu] at hnx hpl
    try dsimp only at hto
    try dsimp only at hnx
    try dsimp only at hpl
    exact ⟨hnx,by omega,by omega,by omega⟩
   have hp:Sh.pick z g t=(⟨1,g,(g + (Roll.step 1))⟩:Part):=Sh.pick_1 (z:=z) (f:=g) (t:=t) h7 h11.1 h11.2
   have hpt:¬ (Sh.pick z g t).tier < 0:=by rw [hp]; dsimp only; omega
   have hto:=Sh.pick_to hpt
   rw [hp] at hto
   try dsimp only at hto
   omega
  refine (go 7) ?_
  refine ju hK32 (ui fun _ hK48=>?_)
  refine (go 6) ?_
  refine yx rfl (decide_eq_true qD) ?_
  refine (go 6) ?_
  refine za (yz (i:=2) rfl rfl rfl qO (by first | omega | decide) underlying37 inf3) (za (uE 2 encInt rfl rfl rfl (show ([2,1,0]:List Int)[2]?=some 0 from rfl) rfl flat3) ?_)
  refine (go 7) ?_
  refine yF call93 wn rfl (fun w1 hM=>ub 0 w1) ?_
  refine (go 11) ?_
  refine yx rfl (decide_eq_true qD) ?_
  refine (go 7) ?_
  refine za (jL (show _=(Sh.mn (g - g % 10 + 10) t) from rfl) (r_min rfl rfl)) ?_
  refine (go 9) (zw fun b14_2=>?_)
  refine (go 3) ?_
  refine yq [(1,iV g),(2,iV t),(3,.pointer (some ⟨b3,0,none⟩)),(9,.slice A1 out.length cp1),(10,.pointer (some ⟨b10,0,none⟩)),(14,.pointer (some ⟨b14_2,0,none⟩)),(36,.slice (some ⟨b36,0,none⟩) 3 3),(37,iV 3),(38,iV 2),(65,.bool (decide (((Sh.mn (g - g % 10 + 10) t)≤t)∧(Sh.may z (⟨0,g,(Sh.mn (g - g % 10 + 10) t)⟩:Part)))))] (Mem w ⟨no,P0⟩ [.blk b14_2 [iV 0,iV g,iV (Sh.mn (g - g % 10 + 10) t)] 217,.blk b14_1 [iV 1,iV g,iV (g + (Roll.step 1))] 217,.blk b14 [iV 2,iV g,iV (g + (Roll.step 2))] 217,Row (.slice (some ⟨b36,0,none⟩) 3 3) 3 1 intE ([2,1,0]:List Int),.blk b10 [iV (-1),iV 0,iV 0] 217,Row (.slice A1 out.length cp1) 217 3 yh out,Row (Zs) 217 3 yh ([]:List Part),.blk b3 [.slice z0A z.zJ.length z0c,.slice z1A z.raw.length z1c,.slice z2A z.fine.length z2c,.slice z3A z.coarse.length z3c,iV z.zU,iV z.zL,iV z.zE,iV z.zH,iV z.zF] 50,slP 2 zS (.slice z0A z.zJ.length z0c) z.zJ,slP 2 zQ (.slice z1A z.raw.length z1c) z.raw,slP 8 zK (.slice z2A z.fine.length z2c) z.fine,slP 8 zK (.slice z3A z.coarse.length z3c) z.coarse]) (fun _ hK57=>?_) ?_
  ·refine (go 5) (yO 62 (fun h14=>?_) fun h14=>?_)
   ·refine (go 1) ?_
    refine yF call163 (wg rfl rfl rfl) rfl (fun w1 hM=>jh b3 _ _ _ _ z (⟨0,g,(Sh.mn (g - g % 10 + 10) t)⟩:Part) w1 (hM.blk (i:=7) rfl)) ?_
    refine (go 1) ?_
    refine zT (zt hK57 (sc rfl (sc rfl (sc rfl (sc rfl (sc rfl (sc rfl (sc rfl (sc rfl (sc rfl (sc (jp (iff_and_right h14 Iff.rfl)) sn)))))))))) (fun _ h=>h))
   refine (go 3) ?_
   refine zT (zt hK57 (sc rfl (sc rfl (sc rfl (sc rfl (sc rfl (sc rfl (sc rfl (sc rfl (sc rfl (sc (jf (fun g=>h14 g.1)) sn)))))))))) (fun _ h=>h))
  refine zW (fun h15=>?_) fun h15=>?_
  ·refine (go 20) ?_
   refine yU rfl (decide_eq_false qD) ?_
   refine (go 16) (vh 76 (fun h16=>?_) fun h16=>?_)
   ·refine (go 2) ?_
    obtain ⟨ad3,hd3⟩:=hA1 (ne_nil (i:=(out.length - 1)) (by first | omega | decide))
    refine vt (yz (i:=(out.length - 1)) rfl hd3 rfl qO (by first | omega | decide) underlying152 inf217) ?_
    refine (go 1) ?_
    obtain ⟨s3,hs3⟩:∃ x,out[(out.length - 1)]?=some x:=⟨_,List.getElem?_eq_getElem (by first | omega | decide)⟩
    refine vt (uE 5 encPart rfl rfl hd3 hs3 rfl flat3) ?_
    refine (go 6) (zW (fun h17=>?_) fun h17=>?_)
    ·refine (go 5) ?_
     refine za (yz (i:=(out.length - 1)) rfl hd3 rfl qO (by first | omega | decide) underlying152 inf217) ?_
     refine (go 1) ?_
     refine uF 5 (vs:=[iV (Sh.mn (g - g % 10 + 10) t)]) (⟨s3.tier,s3.frm,(Sh.mn (g - g % 10 + 10) t)⟩:Part) encPart wn rfl rfl rfl rfl hd3 hs3 inf3 rfl rfl rfl rfl ?_
     refine (go 6) ?_
     refine zT (yK (yG (Sh.mn (g - g % 10 + 10) t) (out.set (out.length - 1) (⟨s3.tier,s3.frm,(Sh.mn (g - g % 10 + 10) t)⟩:Part)) (.slice A1 out.length cp1) (sc rfl (sc rfl (sc rfl (sc rfl sn)))) (S9 [5,6,7,8,9,10,11]) ?_ ?_))
     ·have hp:=Sh.pick_0 (z:=z) (f:=g) (t:=t) h7 h11 h15.1 h15.2
      have hpt:¬ (Sh.pick z g t).tier < 0:=by rw [hp]; dsimp only; omega
      have hto:=Sh.pick_to hpt
      have hnx:=hI1.1.trans (Sh.chooseL_next (out:=out) qO hpt)
      have hpl:=Sh.push_len out (Sh.pick z g t)
      rw [hp] at hto hnx hpl
      have hpu:Sh.push out _=_:=Sh.push_last (p:=(⟨0,g,(Sh.mn (g - g % 10 + 10) t)⟩:Part)) hs3 h17
      rw [hpu] at hnx hpl
      try dsimp only at hto
      try dsimp only at hnx
      try dsimp only at hpl
      exact ⟨hnx,by omega,by omega,by omega⟩
     have hp:=Sh.pick_0 (z:=z) (f:=g) (t:=t) h7 h11 h15.1 h15.2
     have hpt:¬ (Sh.pick z g t).tier < 0:=by rw [hp]; dsimp only; omega
     have hto:=Sh.pick_to hpt
     rw [hp] at hto
     try dsimp only at hto
     omega
    refine (go 3) ?_
    refine zy yh ([(⟨0,g,(Sh.mn (g - g % 10 + 10) t)⟩:Part)]:List Part) wn underlying152 inf217 rfl rfl rfl rfl qD qD rfl fun b94=>yH 6 out ([(⟨0,g,(Sh.mn (g - g % 10 + 10) t)⟩:Part)]:List Part) encPart wn rfl rfl rfl (fun _ hM=>(RowSl encPart hM 0 rfl)) underlying152 inf217 rfl rfl (by first | omega | (simp only [qL]; omega)) rfl fun A6 cp6 hc6 hm6 hA6=>?_
    refine (go 7) ?_
    refine zT (yK (yG (Sh.mn (g - g % 10 + 10) t) (out++([(⟨0,g,(Sh.mn (g - g % 10 + 10) t)⟩:Part)]:List Part)) (.slice A6 ((out++([(⟨0,g,(Sh.mn (g - g % 10 + 10) t)⟩:Part)]:List Part)).length) cp6) (sc rfl (sc rfl (sc rfl (sc rfl sn)))) (S9 [6,7,8,9,10,11,12]) ?_ ?_))
    ·have hp:=Sh.pick_0 (z:=z) (f:=g) (t:=t) h7 h11 h15.1 h15.2
     have hpt:¬ (Sh.pick z g t).tier < 0:=by rw [hp]; dsimp only; omega
     have hto:=Sh.pick_to hpt
     have hnx:=hI1.1.trans (Sh.chooseL_next (out:=out) qO hpt)
     have hpl:=Sh.push_len out (Sh.pick z g t)
     rw [hp] at hto hnx hpl
     have hpu:Sh.push out _=_:=Sh.push_new (p:=(⟨0,g,(Sh.mn (g - g % 10 + 10) t)⟩:Part)) hs3 h17
     rw [hpu] at hnx hpl
     try dsimp only at hto
     try dsimp only at hnx
     try dsimp only at hpl
     exact ⟨hnx,by omega,by omega,by omega⟩
    have hp:=Sh.pick_0 (z:=z) (f:=g) (t:=t) h7 h11 h15.1 h15.2
    have hpt:¬ (Sh.pick z g t).tier < 0:=by rw [hp]; dsimp only; omega
    have hto:=Sh.pick_to hpt
    rw [hp] at hto
    try dsimp only at hto
    omega
   refine (go 15) ?_
   refine zy yh ([(⟨0,g,(Sh.mn (g - g % 10 + 10) t)⟩:Part)]:List Part) wn underlying152 inf217 rfl rfl rfl rfl qD qD rfl fun b94=>yH 6 out ([(⟨0,g,(Sh.mn (g - g % 10 + 10) t)⟩:Part)]:List Part) encPart wn rfl rfl rfl (fun _ hM=>(RowSl encPart hM 0 rfl)) underlying152 inf217 rfl rfl (by first | omega | (simp only [qL]; omega)) rfl fun A7 cp7 hc7 hm7 hA7=>?_
   refine (go 7) ?_
   refine zT (yK (yG (Sh.mn (g - g % 10 + 10) t) (out++([(⟨0,g,(Sh.mn (g - g % 10 + 10) t)⟩:Part)]:List Part)) (.slice A7 ((out++([(⟨0,g,(Sh.mn (g - g % 10 + 10) t)⟩:Part)]:List Part)).length) cp7) (sc rfl (sc rfl (sc rfl (sc rfl sn)))) (S9 [6,7,8,9,10,11,12]) ?_ ?_))
   ·have hp:=Sh.pick_0 (z:=z) (f:=g) (t:=t) h7 h11 h15.1 h15.2
    have hpt:¬ (Sh.pick z g t).tier < 0:=by rw [hp]; dsimp only; omega
    have hto:=Sh.pick_to hpt
    have hnx:=hI1.1.trans (Sh.chooseL_next (out:=out) qO hpt)
    have hpl:=Sh.push_len out (Sh.pick z g t)
    rw [hp] at hto hnx hpl
    have hpu:Sh.push out _=_:=Sh.push_nil (p:=(⟨0,g,(Sh.mn (g - g % 10 + 10) t)⟩:Part)) qO
    rw [hpu] at hnx hpl
    try dsimp only at hto
    try dsimp only at hnx
    try dsimp only at hpl
    exact ⟨hnx,by omega,by omega,by omega⟩
   have hp:=Sh.pick_0 (z:=z) (f:=g) (t:=t) h7 h11 h15.1 h15.2
   have hpt:¬ (Sh.pick z g t).tier < 0:=by rw [hp]; dsimp only; omega
   have hto:=Sh.pick_to hpt
   rw [hp] at hto
   try dsimp only at hto
   omega
  refine (go 7) ?_
  refine ju hK48 (ui fun _ hK64=>?_)
  refine (go 6) ?_
  refine yU rfl (decide_eq_false qD) ?_
  refine (go 13) ?_
  refine yx rfl (decide_eq_true qD) ?_
  refine (go 2) ?_
  refine yD (yh:Part→List Value) 217 3 ?_
  refine (go 10) (yL results117 fun w1 hM=>?_)
  have hp:=Sh.pick_no (z:=z) (f:=g) (t:=t) h7 h11 h15
  have he:Sh.choose z f t=(([]:List Part),10):=Sh.choose_gone h1 qO hI1.1 qO (by rw [hp]; decide)
  exact hM.jd 0 rfl (by rw [he]) (by rw [he])
 refine (go 13) (yL results117 fun w1 hM=>?_)
 have he:Sh.choose z f t=(out,0):=Sh.choose_end h1 qO hI1.1 qO
 exact hM.jd 0 rfl (by rw [he]) (by rw [he])
set_option maxHeartbeats 4000000 in
theorem c_read (z0:Value) (z1:Value) (z2:Value) (z3:Value) (z:Shelf) (lv:Value) (l:List Part) (P0:Nat→Prop) (w:World) (hP0:∀ b,P0 b→b < w.heap.size) (hz0:zD P0 2 zS z0 z.zJ w) (hz1:zD P0 2 zQ z1 z.raw w) (hz2:zD P0 8 zK z2 z.fine w) (hz3:zD P0 8 zK z3 z.coarse w) (hl:zD P0 3 yh lv l w) (hl1:l.length≤1048576) :
    Calls prog 118 #[.agg (List.toArray [z0,z1,z2,z3,iV z.zU,iV z.zL,iV z.zE,iV z.zH,iV z.zF]),lv] w (Ret w (.tuple #[.agg (sumE (Sh.read z l).1).toArray,iV (Sh.read z l).2.1,iV (Sh.read z l).2.2])):=by
 obtain ⟨z0A,z0c,rfl,hz0c,hz0m,hz0A⟩:=hz0.form
 obtain ⟨z1A,z1c,rfl,hz1c,hz1m,hz1A⟩:=hz1.form
 obtain ⟨z2A,z2c,rfl,hz2c,hz2m,hz2A⟩:=hz2.form
 obtain ⟨z3A,z3c,rfl,hz3c,hz3m,hz3A⟩:=hz3.form
 obtain ⟨lA,lc,rfl,hlc,hlm,hlA⟩:=hl.form
 refine zq (N:=112) func118 (Mem.ofDatsP hP0 (dc (dlp hz0) (dc (dlp hz1) (dc (dlp hz2) (dc (dlp hz3) (dc (dlp hl) dn)))))) ?_
 refine (go 2) (yu fun b2=>zw fun b4=>?_)
 refine (go 8) ?_
 refine yF call21 wn rfl (fun w1 hM=>vi _ _ _ _ z (In w1) w1 (fun _ h=>h) (hM.slp 2 rfl) (hM.slp 3 rfl) (hM.slp 4 rfl) (hM.slp 5 rfl)) ?_
 refine (go 9) (zW (fun h1=>?_) fun h1=>?_)
 ·refine (go 11) (jC results118 fun w1 hM=>?_)
  have he:Sh.read z l=(Sum.zero,0,(Sh.wrong z)):=Sh.read_wrong h1
  rw [he]
  exact zP rfl hM
 obtain ⟨l1,l2,l3,l4⟩:=(Sh.ok_of h1).lens
 refine (go 4) (zw fun b8=>?_)
 refine (go 16) ?_
 refine vb (fun (k:Nat) (u:Sum) (c:Int)=>[(1,.slice lA l.length lc),(2,.pointer (some ⟨b2,0,none⟩)),(4,.pointer (some ⟨b4,0,none⟩)),(8,.pointer (some ⟨b8,0,none⟩)),(9,iV c),(21,.slice lA l.length lc),(22,iV l.length),(23,iV k)]) (fun (k:Nat) (u:Sum) (c:Int)=>[.blk b8 [iV u.count,iV u.total,iV u.min,iV u.max,iV u.first,iV u.last,iV u.rise] 89,.blk b4 [iV 0,iV 0,iV 0,iV 0,iV 0,iV 0,iV 0] 89,.blk b2 [.slice z0A z.zJ.length z0c,.slice z1A z.raw.length z1c,.slice z2A z.fine.length z2c,.slice z3A z.coarse.length z3c,iV z.zU,iV z.zL,iV z.zE,iV z.zH,iV z.zF] 50,slP 2 zS (.slice z0A z.zJ.length z0c) z.zJ,slP 2 zQ (.slice z1A z.raw.length z1c) z.raw,slP 8 zK (.slice z2A z.fine.length z2c) z.fine,slP 8 zK (.slice z3A z.coarse.length z3c) z.coarse,slP 3 yh (.slice lA l.length lc) l]) (fun (k:Nat) (u:Sum) (c:Int)=>k≤l.length∧Sh.readN z none l Sum.zero 0=Sh.readN z (Sh.prevP l k) (l.drop k) u c∧(0≤c∧c≤500 * (k:Int))∧Sh.good u (30000 * (k:Int))) (fun (k:Nat) (u:Sum) (c:Int)=>l.length - k) 0 Sum.zero 0 (sc rfl (sc rfl (sc rfl (sc rfl (sc rfl (sc rfl (sc rfl (sc (ji (by first | omega | (simp [Roll.inT,Sh.bIn]; done) | (rw [hst2,List.length_append]; simp only [List.length_cons,List.length_nil]; omega) | (rw [hst2]; done) | (rw [hst2]; omega))) sn)))))))) (fun _ h=>h) ?_ (fun k u c hI1=>?_)
 ·exact ⟨by omega,rfl,by omega,by simpa using Sh.good_zero⟩
 refine (go 6) (zW (fun h2=>?_) fun h2=>?_)
 ·refine (go 7) ?_
  obtain ⟨ad1,s1,hd1,hs1⟩:=elx hlA k
  refine (go 1) ?_
  have hc91:=Sh.bIn_len z.fine s1.frm s1.to
  have hc92:=Sh.bIn_len z.coarse s1.frm s1.to
  have hc93:=Roll.inT_len z.raw s1.frm s1.to
  refine (go 1) (zw fun b11=>?_)
  refine (go 8) ?_
  refine yQ wn rfl call163 rfl (fun w1 hM=>jh b2 _ _ _ _ z s1 w1 (hM.blk (i:=3) rfl)) ?_
  refine (go 2) (vh 31 (fun h3=>?_) fun h3=>?_)
  ·refine (go 32) (jC results118 fun w1 hM=>?_)
   have he:Sh.read z l=(Sum.zero,0,8):=Sh.read_bad h1 hI1.2.1 hs1 (.inl h3)
   rw [he]
   exact zP rfl hM
  refine (go 3) (vh 34 (fun h4=>?_) fun h4=>?_)
  ·refine (go 3) ?_
   refine vt (yz (i:=(k - 1)) rfl hd1 rfl qO qI underlying152 inf217) ?_
   refine (go 1) ?_
   obtain ⟨s2,hs2⟩:=gx l ((k - 1))
   refine (go 8) (zW (fun h5=>?_) fun h5=>?_)
   ·refine (go 15) (jC results118 fun w1 hM=>?_)
    have he:Sh.read z l=(Sum.zero,0,8):=Sh.read_bad h1 hI1.2.1 hs1 (.inr ((Sh.apart_pos qO hs2).2 h5))
    rw [he]
    exact zP rfl hM
   refine (go 4) (zw fun b12=>?_)
   refine (go 16) (zW (fun h6=>?_) fun h6=>?_)
   ·refine (go 8) ?_
    refine yF call164 wn rfl (fun w1 hM=>uQ _ z.fine s1.frm s1.to w1 (hM.slp 7 rfl)) ?_
    refine (go 8) ?_
    refine yF call165 wn rfl (fun w1 hM=>uk _ z.fine s1 w1 (hM.slp 7 rfl) qO) ?_
    refine (go 8) ?_
    refine yF call66 wn rfl (fun w1 hM=>vY u (Roll.of z.fine s1.frm s1.to) w1) ?_
    refine (go 7) ?_
    refine zT (yG (k + 1) (Agg.join u (Roll.of z.fine s1.frm s1.to)) (c + ((Sh.bIn z.fine s1.frm s1.to).length:Int)) (sc rfl (sc rfl (sc rfl (sc rfl (sc rfl (sc rfl (sc rfl (sc (ji (by first | omega | (simp [Roll.inT,Sh.bIn]; done) | (rw [hst2,List.length_append]; simp only [List.length_cons,List.length_nil]; omega) | (rw [hst2]; done) | (rw [hst2]; omega))) sn)))))))) (S9 [2,3,4,5,6,7,8,9]) ?_ ?_)
    ·have hps:=Sh.partSum_1 (z:=z) h6
     have hgd:=Sh.partSum_good (Sh.ok_of h1) (Classical.not_not.1 h3)
     have hcr:=Sh.partCost_rng (Sh.ok_of h1) s1
     rw [hps.1] at hgd
     rw [hps.2] at hcr
     exact ⟨by omega,Sh.read_next hI1.2.1 hs1 (Classical.not_not.1 h3) (fun q=>h5 ((Sh.apart_pos qO hs2).1 q)) hps.1 hps.2,by omega,(hI1.2.2.2.join hgd qO).mono qO⟩
    omega
   refine (go 6) (zW (fun h7=>?_) fun h7=>?_)
   ·refine (go 8) ?_
    refine yF call164 wn rfl (fun w1 hM=>uQ _ z.coarse s1.frm s1.to w1 (hM.slp 8 rfl)) ?_
    refine (go 8) ?_
    refine yF call165 wn rfl (fun w1 hM=>uk _ z.coarse s1 w1 (hM.slp 8 rfl) qO) ?_
    refine (go 8) ?_
    refine yF call66 wn rfl (fun w1 hM=>vY u (Roll.of z.coarse s1.frm s1.to) w1) ?_
    refine (go 7) ?_
    refine zT (yG (k + 1) (Agg.join u (Roll.of z.coarse s1.frm s1.to)) (c + ((Sh.bIn z.coarse s1.frm s1.to).length:Int)) (sc rfl (sc rfl (sc rfl (sc rfl (sc rfl (sc rfl (sc rfl (sc (ji (by first | omega | (simp [Roll.inT,Sh.bIn]; done) | (rw [hst2,List.length_append]; simp only [List.length_cons,List.length_nil]; omega) | (rw [hst2]; done) | (rw [hst2]; omega))) sn)))))))) (S9 [2,3,4,5,6,7,8,9]) ?_ ?_)
    ·have hps:=Sh.partSum_2 (z:=z) h6 h7
     have hgd:=Sh.partSum_good (Sh.ok_of h1) (Classical.not_not.1 h3)
     have hcr:=Sh.partCost_rng (Sh.ok_of h1) s1
     rw [hps.1] at hgd
     rw [hps.2] at hcr
     exact ⟨by omega,Sh.read_next hI1.2.1 hs1 (Classical.not_not.1 h3) (fun q=>h5 ((Sh.apart_pos qO hs2).1 q)) hps.1 hps.2,by omega,(hI1.2.2.2.join hgd qO).mono qO⟩
    omega
   refine (go 9) ?_
   refine yJ (fun (j:Nat)=>[(1,.slice lA l.length lc),(2,.pointer (some ⟨b2,0,none⟩)),(4,.pointer (some ⟨b4,0,none⟩)),(8,.pointer (some ⟨b8,0,none⟩)),(9,iV (c + ((Roll.inT (z.raw.take j) s1.frm s1.to).length:Int))),(11,.pointer (some ⟨b11,0,none⟩)),(12,.pointer (some ⟨b12,0,none⟩)),(21,.slice lA l.length lc),(22,iV l.length),(23,iV k),(50,.slice z1A z.raw.length z1c),(51,iV z.raw.length),(52,iV j)]) (fun (j:Nat)=>[.blk b12 [iV ((Agg.of (Roll.inT (z.raw.take j) s1.frm s1.to)).count),iV ((Agg.of (Roll.inT (z.raw.take j) s1.frm s1.to)).total),iV ((Agg.of (Roll.inT (z.raw.take j) s1.frm s1.to)).min),iV ((Agg.of (Roll.inT (z.raw.take j) s1.frm s1.to)).max),iV ((Agg.of (Roll.inT (z.raw.take j) s1.frm s1.to)).first),iV ((Agg.of (Roll.inT (z.raw.take j) s1.frm s1.to)).last),iV ((Agg.of (Roll.inT (z.raw.take j) s1.frm s1.to)).rise)] 89,.blk b11 [iV s1.tier,iV s1.frm,iV s1.to] 217,.blk b8 [iV u.count,iV u.total,iV u.min,iV u.max,iV u.first,iV u.last,iV u.rise] 89,.blk b4 [iV 0,iV 0,iV 0,iV 0,iV 0,iV 0,iV 0] 89,.blk b2 [.slice z0A z.zJ.length z0c,.slice z1A z.raw.length z1c,.slice z2A z.fine.length z2c,.slice z3A z.coarse.length z3c,iV z.zU,iV z.zL,iV z.zE,iV z.zH,iV z.zF] 50,slP 2 zS (.slice z0A z.zJ.length z0c) z.zJ,slP 2 zQ (.slice z1A z.raw.length z1c) z.raw,slP 8 zK (.slice z2A z.fine.length z2c) z.fine,slP 8 zK (.slice z3A z.coarse.length z3c) z.coarse,slP 3 yh (.slice lA l.length lc) l]) (fun (j:Nat)=>j≤z.raw.length) (fun (j:Nat)=>z.raw.length - j) 0 (sc rfl (sc rfl (sc rfl (sc rfl (sc (ji (by first | omega | (simp [Roll.inT,Sh.bIn]; done) | (rw [hst2,List.length_append]; simp only [List.length_cons,List.length_nil]; omega) | (rw [hst2]; done) | (rw [hst2]; omega))) (sc rfl (sc rfl (sc rfl (sc rfl (sc rfl (sc rfl (sc rfl (sc (ji (by first | omega | (simp [Roll.inT,Sh.bIn]; done) | (rw [hst2,List.length_append]; simp only [List.length_cons,List.length_nil]; omega) | (rw [hst2]; done) | (rw [hst2]; omega))) sn))))))))))))) (fun _ h=>h) ?_ (fun j hI2=>?_)
   ·omega
   have hlj:=Nat.le_trans (Roll.inT_len (z.raw.take j) s1.frm s1.to) (List.length_take_le' j z.raw)
   refine (go 6) (zW (fun h8=>?_) fun h8=>?_)
   ·refine (go 6) ?_
    obtain ⟨ad2,s3,hd2,hs3⟩:=elx hz1A j
    refine (go 2) (zw fun b14=>?_)
    refine (go 11) (yO 61 (fun h9=>?_) fun h9=>?_)
    ·refine (go 8) (zW (fun h10=>?_) fun h10=>?_)
     ·refine (go 1) (vE 5 ?_)
      refine (go 3) ?_
      refine yQ wn rfl call67 rfl (fun w1 hM=>je s3.value w1) (yQ wn rfl call66 rfl (fun w1 hM=>vY (Agg.of (Roll.inT (z.raw.take j) s1.frm s1.to)) (Agg.one s3.value) w1) ?_)
      refine (go 14) ?_
      have hst:=(Sh.inT_of_succ (a:=s1.frm) (b:=s1.to) hs3).trans (if_pos qO)
      have hst2:=(Roll.inT_succ (a:=s1.frm) (b:=s1.to) hs3).trans (if_pos qO)
      refine zT (zj (j + 1) (sc rfl (sc rfl (sc rfl (sc rfl (sc (ji (by first | omega | (simp [Roll.inT,Sh.bIn]; done) | (rw [hst2,List.length_append]; simp only [List.length_cons,List.length_nil]; omega) | (rw [hst2]; done) | (rw [hst2]; omega))) (sc rfl (sc rfl (sc rfl (sc rfl (sc rfl (sc rfl (sc rfl (sc (ji (by first | omega | (simp [Roll.inT,Sh.bIn]; done) | (rw [hst2,List.length_append]; simp only [List.length_cons,List.length_nil]; omega) | (rw [hst2]; done) | (rw [hst2]; omega))) sn))))))))))))) (fun _ h=>by rw [hst]; exact (h.sel [1,2,3,4,5,6,7,8,9,10] qD rfl)) ?_ ?_)
      ·omega
      omega
     refine (go 6) ?_
     have hst:=(Sh.inT_of_succ (a:=s1.frm) (b:=s1.to) hs3).trans (if_neg qO)
     have hst2:=(Roll.inT_succ (a:=s1.frm) (b:=s1.to) hs3).trans (if_neg qO)
     refine zT (zj (j + 1) (sc rfl (sc rfl (sc rfl (sc rfl (sc (ji (by first | omega | (simp [Roll.inT,Sh.bIn]; done) | (rw [hst2,List.length_append]; simp only [List.length_cons,List.length_nil]; omega) | (rw [hst2]; done) | (rw [hst2]; omega))) (sc rfl (sc rfl (sc rfl (sc rfl (sc rfl (sc rfl (sc rfl (sc (ji (by first | omega | (simp [Roll.inT,Sh.bIn]; done) | (rw [hst2,List.length_append]; simp only [List.length_cons,List.length_nil]; omega) | (rw [hst2]; done) | (rw [hst2]; omega))) sn))))))))))))) (fun _ h=>by rw [hst]; exact (h.sel [1,2,3,4,5,6,7,8,9,10] qD rfl)) ?_ ?_)
     ·omega
     omega
    refine (go 15) ?_
    have hst:=(Sh.inT_of_succ (a:=s1.frm) (b:=s1.to) hs3).trans (if_neg qO)
    have hst2:=(Roll.inT_succ (a:=s1.frm) (b:=s1.to) hs3).trans (if_neg qO)
    refine zT (zj (j + 1) (sc rfl (sc rfl (sc rfl (sc rfl (sc (ji (by first | omega | (simp [Roll.inT,Sh.bIn]; done) | (rw [hst2,List.length_append]; simp only [List.length_cons,List.length_nil]; omega) | (rw [hst2]; done) | (rw [hst2]; omega))) (sc rfl (sc rfl (sc rfl (sc rfl (sc rfl (sc rfl (sc rfl (sc (ji (by first | omega | (simp [Roll.inT,Sh.bIn]; done) | (rw [hst2,List.length_append]; simp only [List.length_cons,List.length_nil]; omega) | (rw [hst2]; done) | (rw [hst2]; omega))) sn))))))))))))) (fun _ h=>by rw [hst]; exact (h.sel [1,2,3,4,5,6,7,8,9,10] qD rfl)) ?_ ?_)
    ·omega
    omega
   have hk1:z.raw.take j=z.raw:=List.take_of_length_le qO
   rw [hk1]
   refine (go 9) ?_
   refine yF call66 wn rfl (fun w1 hM=>vY u (Agg.of (Roll.inT z.raw s1.frm s1.to)) w1) ?_
   refine (go 7) ?_
   refine zT (yG (k + 1) (Agg.join u (Agg.of (Roll.inT z.raw s1.frm s1.to))) (c + ((Roll.inT z.raw s1.frm s1.to).length:Int)) (sc rfl (sc rfl (sc rfl (sc rfl (sc rfl (sc rfl (sc rfl (sc (ji (by first | omega | (simp [Roll.inT,Sh.bIn]; done) | (rw [hst2,List.length_append]; simp only [List.length_cons,List.length_nil]; omega) | (rw [hst2]; done) | (rw [hst2]; omega))) sn)))))))) (S9 [2,3,4,5,6,7,8,9]) ?_ ?_)
   ·have hps:=Sh.partSum_0 (z:=z) h6 h7
    have hgd:=Sh.partSum_good (Sh.ok_of h1) (Classical.not_not.1 h3)
    have hcr:=Sh.partCost_rng (Sh.ok_of h1) s1
    rw [hps.1] at hgd
    rw [hps.2] at hcr
    exact ⟨by omega,Sh.read_next hI1.2.1 hs1 (Classical.not_not.1 h3) (fun q=>h5 ((Sh.apart_pos qO hs2).1 q)) hps.1 hps.2,by omega,(hI1.2.2.2.join hgd qO).mono qO⟩
   omega
  refine (go 18) (zw fun b12=>?_)
  refine (go 16) (zW (fun h11=>?_) fun h11=>?_)
  ·refine (go 8) ?_
   refine yF call164 wn rfl (fun w1 hM=>uQ _ z.fine s1.frm s1.to w1 (hM.slp 7 rfl)) ?_
   refine (go 8) ?_
   refine yF call165 wn rfl (fun w1 hM=>uk _ z.fine s1 w1 (hM.slp 7 rfl) qO) ?_
   refine (go 8) ?_
   refine yF call66 wn rfl (fun w1 hM=>vY u (Roll.of z.fine s1.frm s1.to) w1) ?_
   refine (go 7) ?_
   refine zT (yG (k + 1) (Agg.join u (Roll.of z.fine s1.frm s1.to)) (c + ((Sh.bIn z.fine s1.frm s1.to).length:Int)) (sc rfl (sc rfl (sc rfl (sc rfl (sc rfl (sc rfl (sc rfl (sc (ji (by first | omega | (simp [Roll.inT,Sh.bIn]; done) | (rw [hst2,List.length_append]; simp only [List.length_cons,List.length_nil]; omega) | (rw [hst2]; done) | (rw [hst2]; omega))) sn)))))))) (S9 [2,3,4,5,6,7,8,9]) ?_ ?_)
   ·have hps:=Sh.partSum_1 (z:=z) h11
    have hgd:=Sh.partSum_good (Sh.ok_of h1) (Classical.not_not.1 h3)
    have hcr:=Sh.partCost_rng (Sh.ok_of h1) s1
    rw [hps.1] at hgd
    rw [hps.2] at hcr
    exact ⟨by omega,Sh.read_next hI1.2.1 hs1 (Classical.not_not.1 h3) (Sh.apart_zero qO) hps.1 hps.2,by omega,(hI1.2.2.2.join hgd qO).mono qO⟩
   omega
  refine (go 6) (zW (fun h12=>?_) fun h12=>?_)
  ·refine (go 8) ?_
   refine yF call164 wn rfl (fun w1 hM=>uQ _ z.coarse s1.frm s1.to w1 (hM.slp 8 rfl)) ?_
   refine (go 8) ?_
   refine yF call165 wn rfl (fun w1 hM=>uk _ z.coarse s1 w1 (hM.slp 8 rfl) qO) ?_
   refine (go 8) ?_
   refine yF call66 wn rfl (fun w1 hM=>vY u (Roll.of z.coarse s1.frm s1.to) w1) ?_
   refine (go 7) ?_
   refine zT (yG (k + 1) (Agg.join u (Roll.of z.coarse s1.frm s1.to)) (c + ((Sh.bIn z.coarse s1.frm s1.to).length:Int)) (sc rfl (sc rfl (sc rfl (sc rfl (sc rfl (sc rfl (sc rfl (sc (ji (by first | omega | (simp [Roll.inT,Sh.bIn]; done) | (rw [hst2,List.length_append]; simp only [List.length_cons,List.length_nil]; omega) | (rw [hst2]; done) | (rw [hst2]; omega))) sn)))))))) (S9 [2,3,4,5,6,7,8,9]) ?_ ?_)
   ·have hps:=Sh.partSum_2 (z:=z) h11 h12
    have hgd:=Sh.partSum_good (Sh.ok_of h1) (Classical.not_not.1 h3)
    have hcr:=Sh.partCost_rng (Sh.ok_of h1) s1
    rw [hps.1] at hgd
    rw [hps.2] at hcr
    exact ⟨by omega,Sh.read_next hI1.2.1 hs1 (Classical.not_not.1 h3) (Sh.apart_zero qO) hps.1 hps.2,by omega,(hI1.2.2.2.join hgd qO).mono qO⟩
   omega
  refine (go 9) ?_
  refine yJ (fun (j:Nat)=>[(1,.slice lA l.length lc),(2,.pointer (some ⟨b2,0,none⟩)),(4,.pointer (some ⟨b4,0,none⟩)),(8,.pointer (some ⟨b8,0,none⟩)),(9,iV (c + ((Roll.inT (z.raw.take j) s1.frm s1.to).length:Int))),(11,.pointer (some ⟨b11,0,none⟩)),(12,.pointer (some ⟨b12,0,none⟩)),(21,.slice lA l.length lc),(22,iV l.length),(23,iV k),(50,.slice z1A z.raw.length z1c),(51,iV z.raw.length),(52,iV j)]) (fun (j:Nat)=>[.blk b12 [iV ((Agg.of (Roll.inT (z.raw.take j) s1.frm s1.to)).count),iV ((Agg.of (Roll.inT (z.raw.take j) s1.frm s1.to)).total),iV ((Agg.of (Roll.inT (z.raw.take j) s1.frm s1.to)).min),iV ((Agg.of (Roll.inT (z.raw.take j) s1.frm s1.to)).max),iV ((Agg.of (Roll.inT (z.raw.take j) s1.frm s1.to)).first),iV ((Agg.of (Roll.inT (z.raw.take j) s1.frm s1.to)).last),iV ((Agg.of (Roll.inT (z.raw.take j) s1.frm s1.to)).rise)] 89,.blk b11 [iV s1.tier,iV s1.frm,iV s1.to] 217,.blk b8 [iV u.count,iV u.total,iV u.min,iV u.max,iV u.first,iV u.last,iV u.rise] 89,.blk b4 [iV 0,iV 0,iV 0,iV 0,iV 0,iV 0,iV 0] 89,.blk b2 [.slice z0A z.zJ.length z0c,.slice z1A z.raw.length z1c,.slice z2A z.fine.length z2c,.slice z3A z.coarse.length z3c,iV z.zU,iV z.zL,iV z.zE,iV z.zH,iV z.zF] 50,slP 2 zS (.slice z0A z.zJ.length z0c) z.zJ,slP 2 zQ (.slice z1A z.raw.length z1c) z.raw,slP 8 zK (.slice z2A z.fine.length z2c) z.fine,slP 8 zK (.slice z3A z.coarse.length z3c) z.coarse,slP 3 yh (.slice lA l.length lc) l]) (fun (j:Nat)=>j≤z.raw.length) (fun (j:Nat)=>z.raw.length - j) 0 (sc rfl (sc rfl (sc rfl (sc rfl (sc (ji (by first | omega | (simp [Roll.inT,Sh.bIn]; done) | (rw [hst2,List.length_append]; simp only [List.length_cons,List.length_nil]; omega) | (rw [hst2]; done) | (rw [hst2]; omega))) (sc rfl (sc rfl (sc rfl (sc rfl (sc rfl (sc rfl (sc rfl (sc (ji (by first | omega | (simp [Roll.inT,Sh.bIn]; done) | (rw [hst2,List.length_append]; simp only [List.length_cons,List.length_nil]; omega) | (rw [hst2]; done) | (rw [hst2]; omega))) sn))))))))))))) (fun _ h=>h) ?_ (fun j hI3=>?_)
  ·omega
  have hlj:=Nat.le_trans (Roll.inT_len (z.raw.take j) s1.frm s1.to) (List.length_take_le' j z.raw)
  refine (go 6) (zW (fun h13=>?_) fun h13=>?_)
  ·refine (go 6) ?_
   obtain ⟨ad3,s4,hd3,hs4⟩:=elx hz1A j
   refine (go 2) (zw fun b14=>?_)
   refine (go 11) (yO 61 (fun h14=>?_) fun h14=>?_)
   ·refine (go 8) (zW (fun h15=>?_) fun h15=>?_)
    ·refine (go 1) (vE 5 ?_)
     refine (go 3) ?_
     refine yQ wn rfl call67 rfl (fun w1 hM=>je s4.value w1) (yQ wn rfl call66 rfl (fun w1 hM=>vY (Agg.of (Roll.inT (z.raw.take j) s1.frm s1.to)) (Agg.one s4.value) w1) ?_)
     refine (go 14) ?_
     have hst:=(Sh.inT_of_succ (a:=s1.frm) (b:=s1.to) hs4).trans (if_pos qO)
     have hst2:=(Roll.inT_succ (a:=s1.frm) (b:=s1.to) hs4).trans (if_pos qO)
     refine zT (zj (j + 1) (sc rfl (sc rfl (sc rfl (sc rfl (sc (ji (by first | omega | (simp [Roll.inT,Sh.bIn]; done) | (rw [hst2,List.length_append]; simp only [List.length_cons,List.length_nil]; omega) | (rw [hst2]; done) | (rw [hst2]; omega))) (sc rfl (sc rfl (sc rfl (sc rfl (sc rfl (sc rfl (sc rfl (sc (ji (by first | omega | (simp [Roll.inT,Sh.bIn]; done) | (rw [hst2,List.length_append]; simp only [List.length_cons,List.length_nil]; omega) | (rw [hst2]; done) | (rw [hst2]; omega))) sn))))))))))))) (fun _ h=>by rw [hst]; exact (h.sel [1,2,3,4,5,6,7,8,9,10] qD rfl)) ?_ ?_)
     ·omega
     omega
    refine (go 6) ?_
    have hst:=(Sh.inT_of_succ (a:=s1.frm) (b:=s1.to) hs4).trans (if_neg qO)
    have hst2:=(Roll.inT_succ (a:=s1.frm) (b:=s1.to) hs4).trans (if_neg qO)
    refine zT (zj (j + 1) (sc rfl (sc rfl (sc rfl (sc rfl (sc (ji (by first | omega | (simp [Roll.inT,Sh.bIn]; done) | (rw [hst2,List.length_append]; simp only [List.length_cons,List.length_nil]; omega) | (rw [hst2]; done) | (rw [hst2]; omega))) (sc rfl (sc rfl (sc rfl (sc rfl (sc rfl (sc rfl (sc rfl (sc (ji (by first | omega | (simp [Roll.inT,Sh.bIn]; done) | (rw [hst2,List.length_append]; simp only [List.length_cons,List.length_nil]; omega) | (rw [hst2]; done) | (rw [hst2]; omega))) sn))))))))))))) (fun _ h=>by rw [hst]; exact (h.sel [1,2,3,4,5,6,7,8,9,10] qD rfl)) ?_ ?_)
    ·omega
    omega
   refine (go 15) ?_
   have hst:=(Sh.inT_of_succ (a:=s1.frm) (b:=s1.to) hs4).trans (if_neg qO)
   have hst2:=(Roll.inT_succ (a:=s1.frm) (b:=s1.to) hs4).trans (if_neg qO)
   refine zT (zj (j + 1) (sc rfl (sc rfl (sc rfl (sc rfl (sc (ji (by first | omega | (simp [Roll.inT,Sh.bIn]; done) | (rw [hst2,List.length_append]; simp only [List.length_cons,List.length_nil]; omega) | (rw [hst2]; done) | (rw [hst2]; omega))) (sc rfl (sc rfl (sc rfl (sc rfl (sc rfl (sc rfl (sc rfl (sc (ji (by first | omega | (simp [Roll.inT,Sh.bIn]; done) | (rw [hst2,List.length_append]; simp only [List.length_cons,List.length_nil]; omega) | (rw [hst2]; done) | (rw [hst2]; omega))) sn))))))))))))) (fun _ h=>by rw [hst]; exact (h.sel [1,2,3,4,5,6,7,8,9,10] qD rfl)) ?_ ?_)
   ·omega
   omega
  have hk2:z.raw.take j=z.raw:=List.take_of_length_le qO
  rw [hk2]
  refine (go 9) ?_
  refine yF call66 wn rfl (fun w1 hM=>vY u (Agg.of (Roll.inT z.raw s1.frm s1.to)) w1) ?_
  refine (go 7) ?_
  refine zT (yG (k + 1) (Agg.join u (Agg.of (Roll.inT z.raw s1.frm s1.to))) (c + ((Roll.inT z.raw s1.frm s1.to).length:Int)) (sc rfl (sc rfl (sc rfl (sc rfl (sc rfl (sc rfl (sc rfl (sc (ji (by first | omega | (simp [Roll.inT,Sh.bIn]; done) | (rw [hst2,List.length_append]; simp only [List.length_cons,List.length_nil]; omega) | (rw [hst2]; done) | (rw [hst2]; omega))) sn)))))))) (S9 [2,3,4,5,6,7,8,9]) ?_ ?_)
  ·have hps:=Sh.partSum_0 (z:=z) h11 h12
   have hgd:=Sh.partSum_good (Sh.ok_of h1) (Classical.not_not.1 h3)
   have hcr:=Sh.partCost_rng (Sh.ok_of h1) s1
   rw [hps.1] at hgd
   rw [hps.2] at hcr
   exact ⟨by omega,Sh.read_next hI1.2.1 hs1 (Classical.not_not.1 h3) (Sh.apart_zero qO) hps.1 hps.2,by omega,(hI1.2.2.2.join hgd qO).mono qO⟩
  omega
 refine (go 15) (jC results118 fun w1 hM=>?_)
 have he:Sh.read z l=(u,c,0):=Sh.read_ok h1 hI1.2.1 qO
 rw [he]
 exact zP rfl hM
end
section
open Tryz
open Ex
attribute [local irreducible] WC WL WQ WE WS
set_option linter.unusedVariables false
set_option linter.unusedSimpArgs false
theorem c_check (e:zB) (time:Int) (P0:Nat→Prop) (w:World) (hP0:∀ b,P0 b→b < w.heap.size) (he:zB.Ok P0 e w)  :
    Calls prog 57 #[.agg (zk e).toArray,iV time] w (Ret w (iV (Mn.check e.e time))):=by
 have hwe:=he.wf
 refine zq (N:=23) func57 (Mem.ofDatsP hP0 (dc (dp (zB.Ok.loc _) he) dn)) ?_
 refine (go 2) (yu fun b2=>?_)
 refine (go 7) ?_
 refine yF call62 wn rfl (fun w1 hM=>c_langWrong e (In w1) w1 (fun _ h=>h) (hM.yS (i:=1) rfl)) ?_
 refine (go 9) (zW (fun h1=>?_) fun h1=>?_)
 ·refine (go 8) (zX results57 fun w1 hM=>?_)
  exact zP (congrArg (Value.int .i64) (by unfold Mn.check; grind)) hM
 refine (go 6) ?_
 refine yF call102 wn rfl (fun w1 hM=>c_typed e (In w1) w1 (fun _ h=>h) (hM.yS (i:=1) rfl)) ?_
 refine (go 9) (zW (fun h2=>?_) fun h2=>?_)
 ·refine (go 8) (zX results57 fun w1 hM=>?_)
  exact zP (congrArg (Value.int .i64) (by unfold Mn.check; grind)) hM
 refine (go 3) ?_
 refine yq [(22,.bool (decide ((time < 0)∨(1000000 < time))))] (Mem w ⟨no,P0⟩ [.blk b2 [iV e.kind,iV e.n,iV e.range,.string e.word,.slice e.ms.A e.ms.l.length e.ms.c,.slice e.by_.A e.by_.l.length e.by_.c,.slice e.kids.A e.kids.l.length e.kids.c] 59,okP zB.Ok e]) (fun _ hK11=>?_) ?_
 ·refine (go 4) (yO 19 (fun h3=>?_) fun h3=>?_)
  ·refine (go 3) ?_
   refine zT (zt hK11 (sc (jt (Or.inl h3)) sn) (fun _ h=>h))
  refine (go 3) ?_
  refine zT (zt hK11 (sc (jp (iff_or_right h3 Iff.rfl)) sn) (fun _ h=>h))
 refine zW (fun h4=>?_) fun h4=>?_
 ·refine (go 7) (zX results57 fun w1 hM=>?_)
  exact zP (congrArg (Value.int .i64) (by unfold Mn.check; grind)) hM
 refine (go 8) (zX results57 fun w1 hM=>?_)
 exact zP (congrArg (Value.int .i64) (by unfold Mn.check; grind)) hM
theorem ut (n:Int) (w:World)   :
    Calls prog 192 #[iV n] w (Ret w (.bool (Mn.fits n))):=by
 refine zq (N:=9) func192 (Mem.ofDats dn) ?_
 refine (go 10) (yO 5 (fun h1=>?_) fun h1=>?_)
 ·refine (go 7) (zX results192 fun w1 hM=>?_)
  exact zP (congrArg Value.bool (by unfold Mn.fits; grind)) hM
 refine (go 7) (zX results192 fun w1 hM=>?_)
 exact zP (congrArg Value.bool (by unfold Mn.fits; grind)) hM
theorem c_abs (n:Int) (w:World)  (hn:-9223372036854775807≤n∧n≤9223372036854775807) :
    Calls prog 217 #[iV n] w (Ret w (iV (Mn.abs n))):=by
 refine zq (N:=7) func217 (Mem.ofDats dn) ?_
 refine (go 9) ?_
 refine za (r_neg rfl qO) ?_
 refine (go 5) (zX results217 fun w1 hM=>?_)
 exact zP (congrArg (Value.int .i64) (by unfold Mn.abs; grind)) hM
theorem c_op (v:ByteArray) (a:Int) (b:Int) (w:World)  (hab:-1125899906842624≤a∧a≤1125899906842624) (hbb:-1125899906842624≤b∧b≤1125899906842624) :
    Calls prog 194 #[.string v,iV a,iV b] w (Ret w (.tuple #[iV (Mn.op v a b).1,.bool (Mn.op v a b).2])):=by
 have ha3:=Mn.abs_all a
 have hb3:=Mn.abs_all b
 have hd3:0≤1125899906842624 / Mn.abs b:=Int.ediv_nonneg qO hb3.1
 refine zq (N:=44) func194 (Mem.ofDats dn) ?_
 refine (go 19) (zW (fun h1=>?_) fun h1=>?_)
 ·refine (go 4) ?_
  refine za (uI rfl rfl (by first | omega | (have:=Mn.mul_rng (a:=a) (b:=b) (by unfold Mn.tooBig; grind); omega))) ?_
  refine (go 2) ?_
  refine za (uI rfl rfl (by first | omega | (have:=Mn.mul_rng (a:=a) (b:=b) (by unfold Mn.tooBig; grind); omega))) (yF call192 wn rfl (fun w1 hM=>ut (a + b) w1) ?_)
  refine (go 7) (yL results194 fun w1 hM=>?_)
  exact zP (by rw [show Mn.op v a b=((a + b),(Mn.fits (a + b))) from by unfold Mn.op Mn.tooBig; grind]) hM
 refine (go 6) (zW (fun h2=>?_) fun h2=>?_)
 ·refine (go 4) ?_
  refine za (jM rfl rfl (by first | omega | (have:=Mn.mul_rng (a:=a) (b:=b) (by unfold Mn.tooBig; grind); omega))) ?_
  refine (go 2) ?_
  refine za (jM rfl rfl (by first | omega | (have:=Mn.mul_rng (a:=a) (b:=b) (by unfold Mn.tooBig; grind); omega))) (yF call192 wn rfl (fun w1 hM=>ut (a - b) w1) ?_)
  refine (go 7) (yL results194 fun w1 hM=>?_)
  exact zP (by rw [show Mn.op v a b=((a - b),(Mn.fits (a - b))) from by unfold Mn.op Mn.tooBig; grind]) hM
 refine (go 4) ?_
 refine yq [(1,iV a),(2,iV b),(40,.bool (decide ((a≠0)∧((b≠0)∧((1125899906842624 / (Mn.abs b)) < (Mn.abs a))))))] (Mem w no []) (fun _ hK9=>?_) ?_
 ·refine (go 4) (yO 29 (fun h3=>?_) fun h3=>?_)
  ·refine (go 4) (yO 33 (fun h4=>?_) fun h4=>?_)
   ·refine (go 1) ?_
    refine yF call217 (wg rfl rfl rfl) rfl (fun w1 hM=>c_abs a w1 qO) ?_
    refine (go 1) ?_
    refine yF call217 (wg rfl rfl rfl) rfl (fun w1 hM=>c_abs b w1 qO) ?_
    refine (go 3) ?_
    refine zT (zt hK9 (sc rfl (sc rfl (sc (jp (iff_and_right h3 (iff_and_right h4 Iff.rfl))) sn))) (fun _ h=>h))
   refine (go 7) ?_
   refine zT (zt hK9 (sc rfl (sc rfl (sc (jf (fun g=>(fun g=>h4 g.1) g.2)) sn))) (fun _ h=>h))
  refine (go 11) ?_
  refine zT (zt hK9 (sc rfl (sc rfl (sc (jf (fun g=>h3 g.1)) sn))) (fun _ h=>h))
 refine zW (fun h5=>?_) fun h5=>?_
 ·refine (go 8) (yL results194 fun w1 hM=>?_)
  exact zP (by rw [show Mn.op v a b=(0,false) from by unfold Mn.op Mn.tooBig; grind]) hM
 refine (go 6) ?_
 refine za (r_muln rfl rfl (by first | omega | (have:=Mn.mul_rng (a:=a) (b:=b) (by unfold Mn.tooBig; grind); omega))) ?_
 refine (go 5) (yL results194 fun w1 hM=>?_)
 exact zP (by rw [show Mn.op v a b=((a * b),true) from by unfold Mn.op Mn.tooBig; grind]) hM
theorem c_equalL (av:Value) (a:List Label) (bv:Value) (b:List Label) (w:World) (ha:zD (In w) 2 zS av a w) (hb:zD (In w) 2 zS bv b w)  :
    Calls prog 197 #[av,bv] w (Ret w (.bool (decide (a=b)))):=by
 obtain ⟨aA,ac,rfl,hac,ham,haA⟩:=ha.form
 obtain ⟨bA,bc,rfl,hbc,hbm,hbA⟩:=hb.form
 refine zq (N:=26) func197 (Mem.ofDats (dc (dl ha) (dc (dl hb) dn))) ?_
 refine (go 15) (zW (fun h1=>?_) fun h1=>?_)
 ·refine (go 7) (zX results197 fun w1 hM=>?_)
  exact zP (by rw [decide_eq_false (fun e=>h1 (by rw [e]))]) hM
 refine (go 11) ?_
 refine yJ (fun (k:Nat)=>[(0,.slice aA a.length ac),(1,.slice bA b.length bc),(12,iV a.length),(13,iV k)]) (fun (k:Nat)=>[slO (In w) 2 zS (.slice aA a.length ac) a,slO (In w) 2 zS (.slice bA b.length bc) b]) (fun (k:Nat)=>k≤a.length∧a.take k=b.take k) (fun (k:Nat)=>a.length - k) 0 (sc rfl (sc rfl (sc rfl (sc (ji qO) sn)))) (fun _ h=>h) ?_ (fun k hI1=>?_)
 ·simp
 refine (go 6) (zW (fun h2=>?_) fun h2=>?_)
 ·refine (go 14) ?_
  obtain ⟨ad1,s1,hd1,hs1⟩:=elx haA k
  refine (go 4) ?_
  obtain ⟨ad2,s2,hd2,hs2⟩:=elx hbA k
  refine (go 2) ?_
  refine yZ (r_neqS (a:=s1) (b:=s2) rfl rfl eqv74) ?_
  refine (go 2) (zW (fun h3=>?_) fun h3=>?_)
  ·refine (go 11) (zX results197 fun w1 hM=>?_)
   exact zP (by rw [decide_eq_false (fun e=>h3 (Option.some.inj (hs1.symm.trans (by rw [e]; exact hs2))))]) hM
  refine (go 6) ?_
  refine zT (zj (k + 1) (sc rfl (sc rfl (sc rfl (sc (ji qO) sn)))) (fun _ h=>h) ?_ ?_)
  ·exact ⟨by omega,same_step hI1.2 hs1 hs2 (Classical.not_not.1 h3)⟩
  omega
 refine (go 11) (zX results197 fun w1 hM=>?_)
 exact zP (by rw [decide_eq_true (same_done qO qO hI1.2)]) hM
theorem c_idxC (lv:Value) (l:List zG) (f:Nat) (fcap:Array Value) (fp:zG→Bool) (P0:Nat→Prop) (w:World) (hP0:∀ b,P0 b→b < w.heap.size) (hl:zD P0 2 zx lv l w) (hla:∀ x ∈ l,zG.Ok P0 x w) (fc:∀ vs w,(callFunc f vs).run prog w=.ok (.enter f vs) w) (fh:∀ x:zG,x ∈ l→∀ w1:World,Fr no w w1→Calls prog f (#[.agg (zx x).toArray]++fcap) w1 (Ret w1 (.bool (fp x))))  :
    Calls prog 195 #[lv,.func (.func f) #[] fcap] w (Ret w (iV (Sh.idx fp l))):=by
 have hwl:∀ x ∈ l,zG.Wf x:=fun x hx=>(hla x hx).wf
 obtain ⟨lA,lc,rfl,hlc,hlm,hlA⟩:=hl.form
 refine zq (N:=19) func195 (Mem.ofDatsP hP0 (dc (dlp hl) (dc (dp (all_loc zG.Ok.loc _) hla) dn))) ?_
 refine (go 14) ?_
 refine yJ (fun (k:Nat)=>[(0,.slice lA l.length lc),(1,.func (.func f) #[] fcap),(7,iV l.length),(8,iV k)]) (fun (k:Nat)=>[slP 2 zx (.slice lA l.length lc) l,allP zG.Ok l]) (fun (k:Nat)=>k≤l.length∧∀ y ∈ l.take k,fp y=false) (fun (k:Nat)=>l.length - k) 0 (sc rfl (sc rfl (sc rfl (sc (ji qO) sn)))) (fun _ h=>h) ?_ (fun k hI1=>?_)
 ·simp
 refine (go 6) (zW (fun h1=>?_) fun h1=>?_)
 ·refine (go 15) ?_
  obtain ⟨ad1,s1,hd1,hs1⟩:=elx hlA k
  refine (go 2) ?_
  refine vN wn rfl rfl fc rfl (fun w1 hM=>fh s1 (List.mem_of_getElem? hs1) w1 hM.fr) ?_
  refine (go 2) (yg (fun h2=>?_) fun h2=>?_)
  ·refine (go 12) (zX results195 fun w1 hM=>?_)
   exact zP (by rw [Sh.idx_at hI1.2 hs1 h2]) hM
  refine (go 6) ?_
  refine zT (zj (k + 1) (sc rfl (sc rfl (sc rfl (sc (ji qO) sn)))) (fun _ h=>h) ?_ ?_)
  ·exact ⟨by omega,Sh.none_step hI1.2 hs1 h2⟩
  omega
 refine (go 11) (zX results195 fun w1 hM=>?_)
 exact zP (by rw [Sh.idx_none hI1.2 qO]) hM
theorem c_bin2 (d:zG) (cad:Addr) (c:zG) (P0:Nat→Prop) (w:World) (hP0:∀ b,P0 b→b < w.heap.size) (hd:zG.Ok P0 d w) (hcc:yf P0 cad (zx c) w) (hc:zG.Ok P0 c w)  :
    Calls prog 196 #[.agg (zx d).toArray,.pointer (some cad)] w (Ret w (.bool (decide (c.sr.l=d.sr.l)))):=by
 have hwd:=hd.wf
 have hwc:=hc.wf
 refine zq (N:=9) (vals:=[.agg (zx d).toArray,.pointer (some ((Addr.add cad 0).add 0))]) func196 (Mem.ofDatsP hP0 (dc (dp (zG.Ok.loc _) hd) (dc (dp (yf.loc _ _) hcc) (dc (dp (zG.Ok.loc _) hc) dn)))) ?_
 refine (go 2) (yu fun b2=>?_)
 refine (go 9) ?_
 refine zc (fun _ h=>h.cellX 3 rfl) ?_
 obtain ⟨hc1,hm1,hA1⟩:=hwc.sr
 refine zc (fun _ h=>h.cellX 2 rfl) ?_
 obtain ⟨hc2,hm2,hA2⟩:=hwd.sr
 refine yF call197 wn rfl (fun w1 hM=>c_equalL _ c.sr.l _ d.sr.l w1 (hM.slp 1 rfl) (hM.slp 0 rfl)) ?_
 refine (go 4) (zX results196 fun w1 hM=>?_)
 exact zP rfl hM
theorem jv (word:ByteArray) (vec:Bool) (n:Int) (v:Value) (l:List zG) (z:SlX Label) (a b:Int) (wp op:Nat) (Pb:Nat→Prop) (w:World) (hG:Mem w ⟨fpOf [.blk wp [.string word] 9,.blk op [.bool vec,iV n,v] 172,Row v 81 2 zx l,allP zG.Ok l,slP 2 zS (.slice z.A z.l.length z.c) z.l],Pb⟩ [.blk wp [.string word] 9,.blk op [.bool vec,iV n,v] 172,Row v 81 2 zx l,allP zG.Ok l,slP 2 zS (.slice z.A z.l.length z.c) z.l] w) (hab:-1125899906842624≤a∧a≤1125899906842624) (hbb:-1125899906842624≤b∧b≤1125899906842624) (hl1:l.length≤1048576) :
    Calls prog 193 #[.slice z.A z.l.length z.c,iV a,iV b,.pointer (some ⟨wp,0,none⟩),.pointer (some ⟨op,0,none⟩)] w (RetA w [.blk wp [.string word] 9,.blk op [.bool vec,iV n,v] 172,Row v 81 2 zx l,allP zG.Ok l,slP 2 zS (.slice z.A z.l.length z.c) z.l] Pb (fun _:Value=>.bool (Mn.op word a b).2) (fun _=>True) (fun v=>[.blk wp [.string word] 9,.blk op [.bool vec,iV n,v] 172,Row v 81 2 zx (l++[zG.mk z (Mn.op word a b).1]),allP zG.Ok (l++[zG.mk z (Mn.op word a b).1]),slP 2 zS (.slice z.A z.l.length z.c) z.l])):=by
 obtain ⟨rA,rc,rfl,hrc,hrm,hrA⟩:=row_form' (hG.row (i:=2) rfl)
 obtain ⟨hzc,hzm,hzA⟩:=zD.wf (hG.yS (i:=4) rfl)
 have hwl:∀ x ∈ l,zG.Wf x:=fun x hx=>(hG.yS (i:=3) rfl x hx).wf
 refine zq (N:=27) func193 hG ?_
 refine (go 10) ?_
 refine yF call194 wn rfl (fun w1 hM=>c_op word a b w1 (by first | assumption | omega) (by first | assumption | omega)) ?_
 refine (go 14) ?_
 refine zy zx ([(zG.mk ⟨z.A,z.c,z.l⟩ ((Mn.op word a b).1))]:List zG) wn underlying32 inf81 rfl rfl rfl rfl qD qD rfl fun b23=>yH 3 l ([(zG.mk ⟨z.A,z.c,z.l⟩ ((Mn.op word a b).1))]:List zG) encCellX wn rfl rfl rfl (fun _ hM=>(RowSl encCellX hM 0 rfl)) underlying32 inf81 rfl rfl (by simp only [qL]; omega) rfl fun A1 cp1 hc1 hm1 hA1=>zc (fun _ h=>h.allCell (n:=(Mn.op word a b).1) 4 5 rfl rfl) ?_
 have hw1:∀ x ∈ (l++([(zG.mk ⟨z.A,z.c,z.l⟩ ((Mn.op word a b).1))]:List zG)),zG.Wf x:=fun x hx=>(List.mem_append.1 hx).elim (hwl x) fun h=>by rw [List.mem_singleton.1 h]; exact ⟨⟨by omega,by omega,hzA⟩⟩
 refine (go 11) (zX results193 fun w1 hM=>?_)
 exact hM.yR (.slice A1 ((l++([(zG.mk ⟨z.A,z.c,z.l⟩ ((Mn.op word a b).1))]:List zG)).length) cp1) rfl trivial (fun h=>h.sel [2,3,4,0,6] qD rfl)
end
section
open Tryz
open Ex
attribute [local irreducible] WC WL WQ WE WS
set_option linter.unusedVariables false
set_option linter.unusedSimpArgs false
set_option maxHeartbeats 2000000 in
theorem c_bask1 (box bp cost:Nat) (x:yB) (S:Nat→Prop) (ms:SlX Match) (a b n:Int) (Pb:Nat→Prop) (w:World) (hG:Mem w ⟨fpOf [.blk cost [iV n] 3,.dat S (Lent 91 93 S box bp x),slP 3 zl (.slice ms.A ms.l.length ms.c) ms.l],Pb⟩ [.blk cost [iV n] 3,.dat S (Lent 91 93 S box bp x),slP 3 zl (.slice ms.A ms.l.length ms.c) ms.l] w) (hok:∀ s ∈ x.zA.l,s.sr.l.length≤1048576) (hlen:x.zA.l.length≤8) :
    Calls prog 116 #[.slice ms.A ms.l.length ms.c,iV a,iV b,.pointer (some ⟨box,0,none⟩),.pointer (some ⟨cost,0,none⟩)] w (RetA w [.blk cost [iV n] 3,.dat S (Lent 91 93 S box bp x),slP 3 zl (.slice ms.A ms.l.length ms.c) ms.l] Pb (winV (Bs.look (x.zA.l.map zC.e) ms.l a b).2) (fun z=>yw.is z (Bs.look (x.zA.l.map zC.e) ms.l a b).1) (fun z=>[.pub (fun S=>yw.Ok S z),.blk cost [iV (Bs.cost (x.zA.l.map zC.e) ms.l a b n)] 3])):=by
 obtain ⟨hwf,hsc,hsm,hsA⟩:=hG.lentWf 1 rfl
 obtain ⟨hmc,hmm,hmA⟩:=zD.wf (hG.slp 2 rfl)
 have hG:=hG.lent 1 rfl
 refine zq (N:=68) func116 hG ?_
 refine (go 2) ?_
 refine yD (serE:yI→List Value) 39 1 (zc (fun _ h=>h.all0 yI.Ok.loc) ?_)
 refine (go 1) ?_
 refine yD (sumE:Sum→List Value) 89 7 ?_
 refine (go 17) ?_
 refine c_loop7 (fun (k:Nat) (ss:List yI) (us:List Sum) (acc:List (List Label × Sum)) (c:Int) (sv:Value) (uv:Value)=>[(0,.slice ms.A ms.l.length ms.c),(1,iV a),(2,iV b),(4,.pointer (some ⟨cost,0,none⟩)),(8,sv),(9,uv),(21,.slice x.zA.A x.zA.l.length x.zA.c),(22,iV x.zA.l.length),(23,iV k)]) (fun (k:Nat) (ss:List yI) (us:List Sum) (acc:List (List Label × Sum)) (c:Int) (sv:Value) (uv:Value)=>[Row uv 89 7 sumE us,allP yI.Ok ss,Row sv 39 1 serE ss,datB box [.pointer (some ⟨bp,0,none⟩)] 91,datB bp [.slice x.zA.A x.zA.l.length x.zA.c,iV x.zM] 93,slO S 9 zY (.slice x.zA.A x.zA.l.length x.zA.c) x.zA.l,.blk cost [iV c] 3,.dat S (Lent 91 93 S box bp x),slP 3 zl (.slice ms.A ms.l.length ms.c) ms.l]) (fun (k:Nat) (ss:List yI) (us:List Sum) (acc:List (List Label × Sum)) (c:Int) (sv:Value) (uv:Value)=>k≤x.zA.l.length∧(∀ y ∈ ss,yI.Wf y)∧ss.map (fun y=>y.sr.l)=acc.map (·.1)∧us=acc.map (·.2)∧Bs.look (x.zA.l.map zC.e) ms.l a b=Bs.pre acc (Bs.look ((x.zA.l.map zC.e).drop k) ms.l a b)∧Bs.cost (x.zA.l.map zC.e) ms.l a b n=Bs.cost ((x.zA.l.map zC.e).drop k) ms.l a b c∧(ss.length≤k∧us.length≤k)) (fun (k:Nat) (ss:List yI) (us:List Sum) (acc:List (List Label × Sum)) (c:Int) (sv:Value) (uv:Value)=>x.zA.l.length - k) 0 [] [] [] n (Zs) (Zs) (sc rfl (sc rfl (sc rfl (sc rfl (sc rfl (sc rfl (sc rfl (sc rfl (sc (ji qO) sn))))))))) (fun _ h=>h) ?_ (fun k ss us acc c sv uv hI1=>?_)
 ·exact ⟨Nat.zero_le _,fun x hx=>(by cases hx),rfl,rfl,Bs.pre_0 _ _ _,rfl,Nat.le_refl _,Nat.le_refl _⟩
 have hwl:=hI1.2.1
 have hll:=hI1.2.2.2.2.2.2
 refine yW 2 (l:=ss) rfl fun A1 cp1 hv1 hc1 hm1 hA1=>?_
 subst hv1
 refine yW 0 (l:=us) rfl fun A2 cp2 hv2 hc2 hm2 hA2=>?_
 subst hv2
 refine (go 6) (zW (fun h1=>?_) fun h1=>?_)
 ·refine (go 6) ?_
  obtain ⟨ad1,s1,hd1,hs1⟩:=elx hsA k
  refine (go 1) ?_
  refine zc (fun _ h=>h.lentAt 7 rfl hs1) ?_
  have hw1:=hwf _ (List.mem_of_getElem? hs1)
  have hs4:=hok _ (List.mem_of_getElem? hs1)
  obtain ⟨hc3,hm3,hA3⟩:=hw1.sr
  obtain ⟨hc4,hm4,hA4⟩:=hw1.raw
  obtain ⟨hc5,hm5,hA5⟩:=hw1.fine
  obtain ⟨hc6,hm6,hA6⟩:=hw1.coarse
  refine (go 1) (zw fun b12=>?_)
  refine (go 9) ?_
  refine yF call60 wn rfl (fun w1 hM=>c_matches _ s1.sr.l _ ms.l w1 (hM.sl 1 rfl) (hM.slp 13 rfl)) (za (yE rfl) ?_)
  refine (go 2) (yg (fun h2=>?_) fun h2=>?_)
  ·refine (go 7) ?_
   refine zT (vw (k + 1) ss us acc c (.slice A1 ss.length cp1) (.slice A2 us.length cp2) (sc rfl (sc rfl (sc rfl (sc rfl (sc rfl (sc rfl (sc rfl (sc rfl (sc (ji qO) sn))))))))) (S9 [5,6,7,8,9,10,11,12,13]) ?_ ?_)
   ·have hm9:¬ zI.yC (zC.e s1).zJ ms.l=true:=by simpa [zC.e] using h2
    exact ⟨by omega,hwl,hI1.2.2.1,hI1.2.2.2.1,Bs.look_skip (by rw [List.getElem?_map,hs1]; rfl) hI1.2.2.2.2.1 hm9,Bs.cost_skip (by rw [List.getElem?_map,hs1]; rfl) hI1.2.2.2.2.2.1 hm9,by omega⟩
   omega
  refine (go 7) ?_
  refine l_callLT ((Sh.choose (zC.e s1) a b).1) (fun r=>.tuple (List.toArray [r,iV ((Sh.choose (zC.e s1) a b).2)])) wn rfl rfl call117 rfl (fun w1 hM=>c_choose _ _ _ _ (zC.e s1) a b (In w1) w1 (fun _ h=>h) (hM.sl 1 rfl) (hM.sl 2 rfl) (hM.sl 3 rfl) (hM.sl 4 rfl)) fun A3 cp3 hc7 hm7 hA7=>?_
  refine (go 14) (zW (fun h3=>?_) fun h3=>?_)
  ·refine (go 3) ?_
   refine yD (serE:yI→List Value) 39 1 (zc (fun _ h=>h.all0 yI.Ok.loc) ?_)
   refine (go 1) ?_
   refine yD (sumE:Sum→List Value) 89 7 ?_
   refine (go 11) (jC results116 fun w1 hM=>?_)
   have hm9:zI.yC (zC.e s1).zJ ms.l=true:=by simpa [zC.e] using h2
   have h9:=Bs.look_bad1 (by rw [List.getElem?_map,hs1]; rfl) hI1.2.2.2.2.1 hm9 h3
   have h8:=Bs.cost_bad1 (by rw [List.getElem?_map,hs1]; rfl) hI1.2.2.2.2.2.1 hm9 h3
   have hM:=hM.yX (yw.Ok.loc (⟨⟨none,0,[]⟩,⟨none,0,[]⟩⟩:yw)) fun Pb pp=>⟨zD.zu _ _ _ _,fun c hc=>(by cases hc),zD.zu _ _ _ _⟩
   exact hM.yR (⟨⟨none,0,[]⟩,⟨none,0,[]⟩⟩:yw) (by rw [h9]; rfl) ⟨by rw [h9]; rfl,by rw [h9]; rfl⟩ (fun h=>by rw [h8]; exact h.sel [0,16] qD rfl)
  refine (go 6) ?_
  refine yF call118 wn rfl (fun w1 hM=>c_read _ _ _ _ (zC.e s1) _ ((Sh.choose (zC.e s1) a b).1) (In w1) w1 (fun _ h=>h) (hM.sl 2 rfl) (hM.sl 3 rfl) (hM.sl 4 rfl) (hM.sl 5 rfl) (RowSl encPart hM 0 rfl) (by first | omega | assumption | exact Sh.choose_len _ _ _ | simp)) ?_
  refine (go 4) (zw fun b15=>?_)
  refine (go 12) (zW (fun h4=>?_) fun h4=>?_)
  ·refine (go 3) ?_
   refine yD (serE:yI→List Value) 39 1 (zc (fun _ h=>h.all0 yI.Ok.loc) ?_)
   refine (go 1) ?_
   refine yD (sumE:Sum→List Value) 89 7 ?_
   refine (go 11) (jC results116 fun w1 hM=>?_)
   have hm9:zI.yC (zC.e s1).zJ ms.l=true:=by simpa [zC.e] using h2
   have h9:=Bs.look_bad2 (by rw [List.getElem?_map,hs1]; rfl) hI1.2.2.2.2.1 hm9 h3 h4
   have h8:=Bs.cost_bad2 (by rw [List.getElem?_map,hs1]; rfl) hI1.2.2.2.2.2.1 hm9 h3 h4
   have hM:=hM.yX (yw.Ok.loc (⟨⟨none,0,[]⟩,⟨none,0,[]⟩⟩:yw)) fun Pb pp=>⟨zD.zu _ _ _ _,fun c hc=>(by cases hc),zD.zu _ _ _ _⟩
   exact hM.yR (⟨⟨none,0,[]⟩,⟨none,0,[]⟩⟩:yw) (by rw [h9]; rfl) ⟨by rw [h9]; rfl,by rw [h9]; rfl⟩ (fun h=>by rw [h8]; exact h.sel [0,17] qD rfl)
  refine (go 6) ?_
  refine za (uu rfl rfl) ?_
  refine (go 3) ?_
  refine yM (Mem w ⟨fpOf [.blk cost [iV n] 3,.dat S (Lent 91 93 S box bp x),slP 3 zl (.slice ms.A ms.l.length ms.c) ms.l],Pb⟩ [.blk b15 [iV (((Sh.read (zC.e s1) ((Sh.choose (zC.e s1) a b).1)).1).count),iV (((Sh.read (zC.e s1) ((Sh.choose (zC.e s1) a b).1)).1).total),iV (((Sh.read (zC.e s1) ((Sh.choose (zC.e s1) a b).1)).1).min),iV (((Sh.read (zC.e s1) ((Sh.choose (zC.e s1) a b).1)).1).max),iV (((Sh.read (zC.e s1) ((Sh.choose (zC.e s1) a b).1)).1).first),iV (((Sh.read (zC.e s1) ((Sh.choose (zC.e s1) a b).1)).1).last),iV (((Sh.read (zC.e s1) ((Sh.choose (zC.e s1) a b).1)).1).rise)] 89,Row (.slice A3 (((Sh.choose (zC.e s1) a b).1).length) cp3) 217 3 yh ((Sh.choose (zC.e s1) a b).1),.blk b12 [.slice s1.sr.A s1.sr.l.length s1.sr.c,.slice s1.raw.A s1.raw.l.length s1.raw.c,.slice s1.fine.A s1.fine.l.length s1.fine.c,.slice s1.coarse.A s1.coarse.l.length s1.coarse.c,iV s1.zU,iV s1.zL,iV s1.zE,iV s1.zH,iV s1.zF] 50,slO S 2 zS (.slice s1.sr.A s1.sr.l.length s1.sr.c) s1.sr.l,slO S 2 zQ (.slice s1.raw.A s1.raw.l.length s1.raw.c) s1.raw.l,slO S 8 zK (.slice s1.fine.A s1.fine.l.length s1.fine.c) s1.fine.l,slO S 8 zK (.slice s1.coarse.A s1.coarse.l.length s1.coarse.c) s1.coarse.l,datB box [.pointer (some ⟨bp,0,none⟩)] 91,datB bp [.slice x.zA.A x.zA.l.length x.zA.c,iV x.zM] 93,slO S 9 zY (.slice x.zA.A x.zA.l.length x.zA.c) x.zA.l,.blk cost [iV (IntKind.wrap .i64 (c + (Sh.read (zC.e s1) ((Sh.choose (zC.e s1) a b).1)).2.1))] 3,.dat S (Lent 91 93 S box bp x),slP 3 zl (.slice ms.A ms.l.length ms.c) ms.l]) mix (fun _ h=>h.drew) rfl (yN 7 [0,1,2,6,7] [0,1,2,3,4,5,6,10,11,12,13,14,15] rfl fun KS hKS=>?_)
  refine (go 5) ?_
  refine zi hKS (ya (f:=6) (i:=3) (j:=8) rfl (by kernel_rfl) ?_ ?_)
  ·refine zh (i:=3) rfl fun KN hKN=>vP s1.sr.l wn rfl call61 rfl (fun w1 hM=>vT _ s1.sr.l w1 (hM.sl 3 rfl) qO) fun A4 cp4 hc8 hm8 hA8=>?_
   refine (go 1) ?_
   refine hKN _ _ (S9 [1,2,3,4,5,6,7,11,12,13,14,15,16]) (ya (f:=5) (i:=4) (j:=8) rfl (by kernel_rfl) ?_ ?_)
   ·refine zh (i:=4) rfl fun KN hKN=>zy serE ([(yI.mk ⟨A4,cp4,s1.sr.l⟩)]:List yI) wn underlying125 inf39 rfl rfl rfl rfl qD qD rfl fun b59=>?_
    refine (go 1) ?_
    refine hKN _ _ (S9 [2,3,4,5,6,7,8,12,13,14,15,16,17]) (ya (f:=4) (i:=5) (j:=8) rfl (by kernel_rfl) ?_ ?_)
    ·refine zh (i:=5) rfl fun KN hKN=>yH 11 ss ([(yI.mk ⟨A4,cp4,s1.sr.l⟩)]:List yI) encSerX wn rfl rfl rfl (fun _ hM=>(RowSl encSerX hM 0 rfl)) underlying125 inf39 rfl rfl (by simp only [qL]; omega) rfl fun A5 cp5 hc9 hm9 hA9=>uj 1 15 encLabel rfl rfl rfl onlyC (zc (fun _ h=>h.allSer 10 1 rfl rfl) ?_)
     have hw2:∀ x ∈ (ss++([(yI.mk ⟨A4,cp4,s1.sr.l⟩)]:List yI)),yI.Wf x:=fun x hx=>(List.mem_append.1 hx).elim (hwl x) fun h=>by rw [List.mem_singleton.1 h]; exact ⟨⟨by omega,by omega,hA8⟩⟩
     refine (go 1) ?_
     refine hKN _ _ (S9 [3,4,5,6,7,8,9,13,14,15,16,17,18]) (zf 3 8 (zh (i:=8) rfl fun KN hKN=>zy sumE ([((Sh.read (zC.e s1) ((Sh.choose (zC.e s1) a b).1)).1)]:List Sum) wn underlying126 inf89 rfl rfl rfl rfl qD qD rfl fun b63=>?_))
     refine (go 1) ?_
     refine hKN _ _ (S9 [4,5,6,7,8,9,10,14,15,16,17,18,19]) (zf 2 9 (zh (i:=9) rfl fun KN hKN=>yH 11 us ([((Sh.read (zC.e s1) ((Sh.choose (zC.e s1) a b).1)).1)]:List Sum) encSum wn rfl rfl rfl (fun _ hM=>(RowSl encSum hM 0 rfl)) underlying126 inf89 rfl rfl (by simp only [qL]; omega) rfl fun A6 cp6 hc10 hm10 hA10=>?_))
     refine (go 1) ?_
     refine hKN _ _ (S9 [4,5,6,7,8,9,10,14,15,16,17,18,19]) (yN 0 [10,11] [4,5,6,7,8,9,10,14,15,16,17,18,19] rfl fun KS hKS=>?_)
     refine (go 2) ?_
     refine zi hKS ?_
     refine zz (by kernel_rfl) ((go 2) ?_)
     refine (go 3) ?_
     refine zT (vw (k + 1) (ss++([(yI.mk ⟨A4,cp4,s1.sr.l⟩)]:List yI)) (us++([((Sh.read (zC.e s1) ((Sh.choose (zC.e s1) a b).1)).1)]:List Sum)) (acc++[(s1.sr.l,(Sh.read (zC.e s1) (Sh.choose (zC.e s1) a b).1).1)]) (IntKind.wrap .i64 (c + (Sh.read (zC.e s1) ((Sh.choose (zC.e s1) a b).1)).2.1)) (.slice A5 ((ss++([(yI.mk ⟨A4,cp4,s1.sr.l⟩)]:List yI)).length) cp5) (.slice A6 ((us++([((Sh.read (zC.e s1) ((Sh.choose (zC.e s1) a b).1)).1)]:List Sum)).length) cp6) (sc rfl (sc rfl (sc rfl (sc rfl (sc rfl (sc rfl (sc rfl (sc rfl (sc (ji qO) sn))))))))) (S9 [11,1,13,14,15,16,17,18,19]) ?_ ?_)
     ·have hm9:zI.yC (zC.e s1).zJ ms.l=true:=by simpa [zC.e] using h2
      exact ⟨by omega,hw2,by rw [List.map_append,List.map_append,← hI1.2.2.1]; rfl,by rw [List.map_append,← hI1.2.2.2.1]; rfl,Bs.look_more (by rw [List.getElem?_map,hs1]; rfl) hI1.2.2.2.2.1 hm9 h3 h4,Bs.cost_more (by rw [List.getElem?_map,hs1]; rfl) hI1.2.2.2.2.2.1 hm9 h3 h4,by simp only [qL]; omega⟩
     omega
    refine zh (i:=8) rfl fun KN hKN=>zy sumE ([((Sh.read (zC.e s1) ((Sh.choose (zC.e s1) a b).1)).1)]:List Sum) wn underlying126 inf89 rfl rfl rfl rfl qD qD rfl fun b63=>?_
    refine (go 1) ?_
    refine hKN _ _ (S9 [3,4,5,6,7,8,9,13,14,15,16,17,18]) (zf 3 5 (zh (i:=5) rfl fun KN hKN=>yH 12 ss ([(yI.mk ⟨A4,cp4,s1.sr.l⟩)]:List yI) encSerX wn rfl rfl rfl (fun _ hM=>(RowSl encSerX hM 1 rfl)) underlying125 inf39 rfl rfl (by simp only [qL]; omega) rfl fun A7 cp7 hc11 hm11 hA11=>uj 2 16 encLabel rfl rfl rfl onlyC (zc (fun _ h=>h.allSer 11 2 rfl rfl) ?_)))
    have hw3:∀ x ∈ (ss++([(yI.mk ⟨A4,cp4,s1.sr.l⟩)]:List yI)),yI.Wf x:=fun x hx=>(List.mem_append.1 hx).elim (hwl x) fun h=>by rw [List.mem_singleton.1 h]; exact ⟨⟨by omega,by omega,hA8⟩⟩
    refine (go 1) ?_
    refine hKN _ _ (S9 [4,5,6,7,8,9,10,14,15,16,17,18,19]) (zf 2 9 (zh (i:=9) rfl fun KN hKN=>yH 11 us ([((Sh.read (zC.e s1) ((Sh.choose (zC.e s1) a b).1)).1)]:List Sum) encSum wn rfl rfl rfl (fun _ hM=>(RowSl encSum hM 1 rfl)) underlying126 inf89 rfl rfl (by simp only [qL]; omega) rfl fun A8 cp8 hc12 hm12 hA12=>?_))
    refine (go 1) ?_
    refine hKN _ _ (S9 [4,5,6,7,8,9,10,14,15,16,17,18,19]) (yN 0 [10,11] [4,5,6,7,8,9,10,14,15,16,17,18,19] rfl fun KS hKS=>?_)
    refine (go 2) ?_
    refine zi hKS ?_
    refine zz (by kernel_rfl) ((go 2) ?_)
    refine (go 3) ?_
    refine zT (vw (k + 1) (ss++([(yI.mk ⟨A4,cp4,s1.sr.l⟩)]:List yI)) (us++([((Sh.read (zC.e s1) ((Sh.choose (zC.e s1) a b).1)).1)]:List Sum)) (acc++[(s1.sr.l,(Sh.read (zC.e s1) (Sh.choose (zC.e s1) a b).1).1)]) (IntKind.wrap .i64 (c + (Sh.read (zC.e s1) ((Sh.choose (zC.e s1) a b).1)).2.1)) (.slice A7 ((ss++([(yI.mk ⟨A4,cp4,s1.sr.l⟩)]:List yI)).length) cp7) (.slice A8 ((us++([((Sh.read (zC.e s1) ((Sh.choose (zC.e s1) a b).1)).1)]:List Sum)).length) cp8) (sc rfl (sc rfl (sc rfl (sc rfl (sc rfl (sc rfl (sc rfl (sc rfl (sc (ji qO) sn))))))))) (S9 [11,0,13,14,15,16,17,18,19]) ?_ ?_)
    ·have hm9:zI.yC (zC.e s1).zJ ms.l=true:=by simpa [zC.e] using h2
     exact ⟨by omega,hw3,by rw [List.map_append,List.map_append,← hI1.2.2.1]; rfl,by rw [List.map_append,← hI1.2.2.2.1]; rfl,Bs.look_more (by rw [List.getElem?_map,hs1]; rfl) hI1.2.2.2.2.1 hm9 h3 h4,Bs.cost_more (by rw [List.getElem?_map,hs1]; rfl) hI1.2.2.2.2.2.1 hm9 h3 h4,by simp only [qL]; omega⟩
    omega
   refine zh (i:=8) rfl fun KN hKN=>zy sumE ([((Sh.read (zC.e s1) ((Sh.choose (zC.e s1) a b).1)).1)]:List Sum) wn underlying126 inf89 rfl rfl rfl rfl qD qD rfl fun b63=>?_
   refine (go 1) ?_
   refine hKN _ _ (S9 [2,3,4,5,6,7,8,12,13,14,15,16,17]) (zf 4 4 (zh (i:=4) rfl fun KN hKN=>zy serE ([(yI.mk ⟨A4,cp4,s1.sr.l⟩)]:List yI) wn underlying125 inf39 rfl rfl rfl rfl qD qD rfl fun b59=>?_))
   refine (go 1) ?_
   refine hKN _ _ (S9 [3,4,5,6,7,8,9,13,14,15,16,17,18]) (zf 3 5 (zh (i:=5) rfl fun KN hKN=>yH 12 ss ([(yI.mk ⟨A4,cp4,s1.sr.l⟩)]:List yI) encSerX wn rfl rfl rfl (fun _ hM=>(RowSl encSerX hM 0 rfl)) underlying125 inf39 rfl rfl (by simp only [qL]; omega) rfl fun A9 cp9 hc13 hm13 hA13=>uj 2 16 encLabel rfl rfl rfl onlyC (zc (fun _ h=>h.allSer 11 2 rfl rfl) ?_)))
   have hw4:∀ x ∈ (ss++([(yI.mk ⟨A4,cp4,s1.sr.l⟩)]:List yI)),yI.Wf x:=fun x hx=>(List.mem_append.1 hx).elim (hwl x) fun h=>by rw [List.mem_singleton.1 h]; exact ⟨⟨by omega,by omega,hA8⟩⟩
   refine (go 1) ?_
   refine hKN _ _ (S9 [4,5,6,7,8,9,10,14,15,16,17,18,19]) (zf 2 9 (zh (i:=9) rfl fun KN hKN=>yH 11 us ([((Sh.read (zC.e s1) ((Sh.choose (zC.e s1) a b).1)).1)]:List Sum) encSum wn rfl rfl rfl (fun _ hM=>(RowSl encSum hM 2 rfl)) underlying126 inf89 rfl rfl (by simp only [qL]; omega) rfl fun A10 cp10 hc14 hm14 hA14=>?_))
   refine (go 1) ?_
   refine hKN _ _ (S9 [4,5,6,7,8,9,10,14,15,16,17,18,19]) (yN 0 [10,11] [4,5,6,7,8,9,10,14,15,16,17,18,19] rfl fun KS hKS=>?_)
   refine (go 2) ?_
   refine zi hKS ?_
   refine zz (by kernel_rfl) ((go 2) ?_)
   refine (go 3) ?_
   refine zT (vw (k + 1) (ss++([(yI.mk ⟨A4,cp4,s1.sr.l⟩)]:List yI)) (us++([((Sh.read (zC.e s1) ((Sh.choose (zC.e s1) a b).1)).1)]:List Sum)) (acc++[(s1.sr.l,(Sh.read (zC.e s1) (Sh.choose (zC.e s1) a b).1).1)]) (IntKind.wrap .i64 (c + (Sh.read (zC.e s1) ((Sh.choose (zC.e s1) a b).1)).2.1)) (.slice A9 ((ss++([(yI.mk ⟨A4,cp4,s1.sr.l⟩)]:List yI)).length) cp9) (.slice A10 ((us++([((Sh.read (zC.e s1) ((Sh.choose (zC.e s1) a b).1)).1)]:List Sum)).length) cp10) (sc rfl (sc rfl (sc rfl (sc rfl (sc rfl (sc rfl (sc rfl (sc rfl (sc (ji qO) sn))))))))) (S9 [11,0,13,14,15,16,17,18,19]) ?_ ?_)
   ·have hm9:zI.yC (zC.e s1).zJ ms.l=true:=by simpa [zC.e] using h2
    exact ⟨by omega,hw4,by rw [List.map_append,List.map_append,← hI1.2.2.1]; rfl,by rw [List.map_append,← hI1.2.2.2.1]; rfl,Bs.look_more (by rw [List.getElem?_map,hs1]; rfl) hI1.2.2.2.2.1 hm9 h3 h4,Bs.cost_more (by rw [List.getElem?_map,hs1]; rfl) hI1.2.2.2.2.2.1 hm9 h3 h4,by simp only [qL]; omega⟩
   omega
  refine zh (i:=8) rfl fun KN hKN=>zy sumE ([((Sh.read (zC.e s1) ((Sh.choose (zC.e s1) a b).1)).1)]:List Sum) wn underlying126 inf89 rfl rfl rfl rfl qD qD rfl fun b63=>?_
  refine (go 1) ?_
  refine hKN _ _ (S9 [1,2,3,4,5,6,7,11,12,13,14,15,16]) (zf 5 3 (zh (i:=3) rfl fun KN hKN=>vP s1.sr.l wn rfl call61 rfl (fun w1 hM=>vT _ s1.sr.l w1 (hM.sl 4 rfl) qO) fun A11 cp11 hc15 hm15 hA15=>?_))
  refine (go 1) ?_
  refine hKN _ _ (S9 [2,3,4,5,6,7,8,12,13,14,15,16,17]) (zf 4 4 (zh (i:=4) rfl fun KN hKN=>zy serE ([(yI.mk ⟨A11,cp11,s1.sr.l⟩)]:List yI) wn underlying125 inf39 rfl rfl rfl rfl qD qD rfl fun b59=>?_))
  refine (go 1) ?_
  refine hKN _ _ (S9 [3,4,5,6,7,8,9,13,14,15,16,17,18]) (zf 3 5 (zh (i:=5) rfl fun KN hKN=>yH 12 ss ([(yI.mk ⟨A11,cp11,s1.sr.l⟩)]:List yI) encSerX wn rfl rfl rfl (fun _ hM=>(RowSl encSerX hM 0 rfl)) underlying125 inf39 rfl rfl (by simp only [qL]; omega) rfl fun A12 cp12 hc16 hm16 hA16=>uj 1 16 encLabel rfl rfl rfl onlyC (zc (fun _ h=>h.allSer 11 1 rfl rfl) ?_)))
  have hw5:∀ x ∈ (ss++([(yI.mk ⟨A11,cp11,s1.sr.l⟩)]:List yI)),yI.Wf x:=fun x hx=>(List.mem_append.1 hx).elim (hwl x) fun h=>by rw [List.mem_singleton.1 h]; exact ⟨⟨by omega,by omega,hA15⟩⟩
  refine (go 1) ?_
  refine hKN _ _ (S9 [4,5,6,7,8,9,10,14,15,16,17,18,19]) (zf 2 9 (zh (i:=9) rfl fun KN hKN=>yH 11 us ([((Sh.read (zC.e s1) ((Sh.choose (zC.e s1) a b).1)).1)]:List Sum) encSum wn rfl rfl rfl (fun _ hM=>(RowSl encSum hM 3 rfl)) underlying126 inf89 rfl rfl (by simp only [qL]; omega) rfl fun A13 cp13 hc17 hm17 hA17=>?_))
  refine (go 1) ?_
  refine hKN _ _ (S9 [4,5,6,7,8,9,10,14,15,16,17,18,19]) (yN 0 [10,11] [4,5,6,7,8,9,10,14,15,16,17,18,19] rfl fun KS hKS=>?_)
  refine (go 2) ?_
  refine zi hKS ?_
  refine zz (by kernel_rfl) ((go 2) ?_)
  refine (go 3) ?_
  refine zT (vw (k + 1) (ss++([(yI.mk ⟨A11,cp11,s1.sr.l⟩)]:List yI)) (us++([((Sh.read (zC.e s1) ((Sh.choose (zC.e s1) a b).1)).1)]:List Sum)) (acc++[(s1.sr.l,(Sh.read (zC.e s1) (Sh.choose (zC.e s1) a b).1).1)]) (IntKind.wrap .i64 (c + (Sh.read (zC.e s1) ((Sh.choose (zC.e s1) a b).1)).2.1)) (.slice A12 ((ss++([(yI.mk ⟨A11,cp11,s1.sr.l⟩)]:List yI)).length) cp12) (.slice A13 ((us++([((Sh.read (zC.e s1) ((Sh.choose (zC.e s1) a b).1)).1)]:List Sum)).length) cp13) (sc rfl (sc rfl (sc rfl (sc rfl (sc rfl (sc rfl (sc rfl (sc rfl (sc (ji qO) sn))))))))) (S9 [11,0,13,14,15,16,17,18,19]) ?_ ?_)
  ·have hm9:zI.yC (zC.e s1).zJ ms.l=true:=by simpa [zC.e] using h2
   exact ⟨by omega,hw5,by rw [List.map_append,List.map_append,← hI1.2.2.1]; rfl,by rw [List.map_append,← hI1.2.2.2.1]; rfl,Bs.look_more (by rw [List.getElem?_map,hs1]; rfl) hI1.2.2.2.2.1 hm9 h3 h4,Bs.cost_more (by rw [List.getElem?_map,hs1]; rfl) hI1.2.2.2.2.2.1 hm9 h3 h4,by simp only [qL]; omega⟩
  omega
 refine (go 15) (jC results116 fun w1 hM=>?_)
 have hM:=hM.vy encSerX (i:=2) (j:=6) rfl rfl qD onlyC
 have hM:=hM.vy encSum (i:=0) (j:=6) rfl rfl qD onlyC
 have h9:=Bs.look_end hI1.2.2.2.2.1 (by rw [List.length_map]; omega)
 have h8:=Bs.cost_end hI1.2.2.2.2.2.1 (by rw [List.length_map]; omega)
 have hM:=hM.yX (yw.Ok.loc (⟨⟨A1,cp1,ss⟩,⟨A2,cp2,us⟩⟩:yw)) fun Pb pp=>⟨pp.sl 2 rfl,pp.at_ 1 _ rfl,pp.sl 0 rfl⟩
 exact hM.yR (⟨⟨A1,cp1,ss⟩,⟨A2,cp2,us⟩⟩:yw) (by rw [h9]) ⟨by rw [h9]; exact hI1.2.2.1,by rw [h9]; exact hI1.2.2.2.1⟩ (fun h=>by rw [h8]; exact h.sel [0,7] qD rfl)
end
end Go.Proofs.YtgojhpocpajmlaaGreatDoor
