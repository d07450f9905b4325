/- Laws and walks for the proof of TopLate, packed by program; each theorem bears its own conditions. -/
import Derived.Test.YtgojhpocpajmlaaGreatDoorProg
import Derived.KernelRfl
import Derived.Test.YtgojhpocpajmlaaGreatDoorKTopLate2
namespace Go.Proofs.YtgojhpocpajmlaaGreatDoor
section
open Ex
set_option maxRecDepth 100000
theorem mix:Tryz.prog.follows .mixedOrders=true:=by kernel_rfl
theorem inf3:Ex.Inf Tryz.prog 3 1 8 (.int .i64 0):=by unfold Ex.Inf; kernel_rfl
theorem flat3:Ex.flatT Tryz.prog 3=true:=by kernel_rfl
theorem flat4:Ex.flatT Tryz.prog 4=true:=by kernel_rfl
theorem inf9:Ex.Inf Tryz.prog 9 1 16 (.string ⟨#[]⟩):=by unfold Ex.Inf; kernel_rfl
theorem flat9:Ex.flatT Tryz.prog 9=true:=by kernel_rfl
theorem inf23:Ex.Inf Tryz.prog 23 1 24 (.slice none 0 0):=by unfold Ex.Inf; kernel_rfl
theorem flat23:Ex.flatT Tryz.prog 23=true:=by kernel_rfl
theorem inf25:Ex.Inf Tryz.prog 25 2 32 (.agg [.slice none 0 0,.int .i64 0].toArray):=by unfold Ex.Inf; kernel_rfl
theorem agg25:Ex.aggT Tryz.prog 25=true:=by kernel_rfl
theorem pl25:Ex.placesOf Tryz.prog 25=some [(0,1),(1,1)]:=by kernel_rfl
theorem fld25_0:Ex.fldAt Tryz.prog 25 0=some 0:=by kernel_rfl
theorem fld25_1:Ex.fldAt Tryz.prog 25 1=some 1:=by kernel_rfl
theorem flat27:Ex.flatT Tryz.prog 27=true:=by kernel_rfl
theorem inf32:Ex.Inf Tryz.prog 32 1 24 (.slice none 0 0):=by unfold Ex.Inf; kernel_rfl
theorem flat32:Ex.flatT Tryz.prog 32=true:=by kernel_rfl
theorem inf34:Ex.Inf Tryz.prog 34 4 48 (.agg [.int .i64 0,.int .i64 0,.slice none 0 0,.int .i64 0].toArray):=by unfold Ex.Inf; kernel_rfl
theorem agg34:Ex.aggT Tryz.prog 34=true:=by kernel_rfl
theorem pl34:Ex.placesOf Tryz.prog 34=some [(0,1),(1,1),(2,1),(3,1)]:=by kernel_rfl
theorem fld34_0:Ex.fldAt Tryz.prog 34 0=some 0:=by kernel_rfl
theorem fld34_2:Ex.fldAt Tryz.prog 34 2=some 2:=by kernel_rfl
theorem inf39:Ex.Inf Tryz.prog 39 1 24 (.slice none 0 0):=by unfold Ex.Inf; kernel_rfl
theorem flat39:Ex.flatT Tryz.prog 39=true:=by kernel_rfl
theorem inf41:Ex.Inf Tryz.prog 41 2 16 (.agg [.int .i64 0,.int .i64 0].toArray):=by unfold Ex.Inf; kernel_rfl
theorem agg41:Ex.aggT Tryz.prog 41=true:=by kernel_rfl
theorem pl41:Ex.placesOf Tryz.prog 41=some [(0,1),(1,1)]:=by kernel_rfl
theorem fld41_0:Ex.fldAt Tryz.prog 41 0=some 0:=by kernel_rfl
theorem fld41_1:Ex.fldAt Tryz.prog 41 1=some 1:=by kernel_rfl
theorem inf43:Ex.Inf Tryz.prog 43 7 80 (.agg [.int .i64 0,.int .i64 0,.int .i64 0,.slice none 0 0,.int .i64 0,.int .i64 0,.string ⟨#[]⟩].toArray):=by unfold Ex.Inf; kernel_rfl
theorem agg43:Ex.aggT Tryz.prog 43=true:=by kernel_rfl
theorem pl43:Ex.placesOf Tryz.prog 43=some [(0,1),(1,1),(2,1),(3,1),(4,2),(6,1)]:=by kernel_rfl
theorem fld43_0:Ex.fldAt Tryz.prog 43 0=some 0:=by kernel_rfl
theorem fld43_1:Ex.fldAt Tryz.prog 43 1=some 1:=by kernel_rfl
theorem fld43_2:Ex.fldAt Tryz.prog 43 2=some 2:=by kernel_rfl
theorem fld43_3:Ex.fldAt Tryz.prog 43 3=some 3:=by kernel_rfl
theorem fld43_4:Ex.fldAt Tryz.prog 43 4=some 4:=by kernel_rfl
theorem fld43_5:Ex.fldAt Tryz.prog 43 5=some 6:=by kernel_rfl
theorem inf47:Ex.Inf Tryz.prog 47 1 24 (.slice none 0 0):=by unfold Ex.Inf; kernel_rfl
theorem flat47:Ex.flatT Tryz.prog 47=true:=by kernel_rfl
theorem inf48:Ex.Inf Tryz.prog 48 1 24 (.slice none 0 0):=by unfold Ex.Inf; kernel_rfl
theorem flat48:Ex.flatT Tryz.prog 48=true:=by kernel_rfl
theorem inf50:Ex.Inf Tryz.prog 50 9 136 (.agg [.slice none 0 0,.slice none 0 0,.slice none 0 0,.slice none 0 0,.int .i64 0,.int .i64 0,.int .i64 0,.int .i64 0,.int .i64 0].toArray):=by unfold Ex.Inf; kernel_rfl
theorem agg50:Ex.aggT Tryz.prog 50=true:=by kernel_rfl
theorem pl50:Ex.placesOf Tryz.prog 50=some [(0,1),(1,1),(2,1),(3,1),(4,1),(5,1),(6,1),(7,1),(8,1)]:=by kernel_rfl
theorem fld50_0:Ex.fldAt Tryz.prog 50 0=some 0:=by kernel_rfl
theorem fld50_1:Ex.fldAt Tryz.prog 50 1=some 1:=by kernel_rfl
theorem fld50_2:Ex.fldAt Tryz.prog 50 2=some 2:=by kernel_rfl
theorem fld50_3:Ex.fldAt Tryz.prog 50 3=some 3:=by kernel_rfl
theorem fld50_4:Ex.fldAt Tryz.prog 50 4=some 4:=by kernel_rfl
theorem fld50_5:Ex.fldAt Tryz.prog 50 5=some 5:=by kernel_rfl
theorem fld50_6:Ex.fldAt Tryz.prog 50 6=some 6:=by kernel_rfl
theorem fld50_7:Ex.fldAt Tryz.prog 50 7=some 7:=by kernel_rfl
theorem fld50_8:Ex.fldAt Tryz.prog 50 8=some 8:=by kernel_rfl
theorem inf55:Ex.Inf Tryz.prog 55 1 24 (.slice none 0 0):=by unfold Ex.Inf; kernel_rfl
theorem flat55:Ex.flatT Tryz.prog 55=true:=by kernel_rfl
theorem inf56:Ex.Inf Tryz.prog 56 1 24 (.slice none 0 0):=by unfold Ex.Inf; kernel_rfl
theorem flat56:Ex.flatT Tryz.prog 56=true:=by kernel_rfl
theorem inf57:Ex.Inf Tryz.prog 57 1 24 (.slice none 0 0):=by unfold Ex.Inf; kernel_rfl
theorem flat57:Ex.flatT Tryz.prog 57=true:=by kernel_rfl
theorem inf59:Ex.Inf Tryz.prog 59 7 112 (.agg [.int .i64 0,.int .i64 0,.int .i64 0,.string ⟨#[]⟩,.slice none 0 0,.slice none 0 0,.slice none 0 0].toArray):=by unfold Ex.Inf; kernel_rfl
theorem agg59:Ex.aggT Tryz.prog 59=true:=by kernel_rfl
theorem pl59:Ex.placesOf Tryz.prog 59=some [(0,1),(1,1),(2,1),(3,1),(4,1),(5,1),(6,1)]:=by kernel_rfl
theorem fld59_0:Ex.fldAt Tryz.prog 59 0=some 0:=by kernel_rfl
theorem fld59_1:Ex.fldAt Tryz.prog 59 1=some 1:=by kernel_rfl
theorem fld59_2:Ex.fldAt Tryz.prog 59 2=some 2:=by kernel_rfl
theorem fld59_3:Ex.fldAt Tryz.prog 59 3=some 3:=by kernel_rfl
theorem fld59_4:Ex.fldAt Tryz.prog 59 4=some 4:=by kernel_rfl
theorem fld59_5:Ex.fldAt Tryz.prog 59 5=some 5:=by kernel_rfl
theorem fld59_6:Ex.fldAt Tryz.prog 59 6=some 6:=by kernel_rfl
theorem inf61:Ex.Inf Tryz.prog 61 2 16 (.agg [.int .i64 0,.int .i64 0].toArray):=by unfold Ex.Inf; kernel_rfl
theorem agg61:Ex.aggT Tryz.prog 61=true:=by kernel_rfl
theorem pl61:Ex.placesOf Tryz.prog 61=some [(0,1),(1,1)]:=by kernel_rfl
theorem fld61_0:Ex.fldAt Tryz.prog 61 0=some 0:=by kernel_rfl
theorem fld61_1:Ex.fldAt Tryz.prog 61 1=some 1:=by kernel_rfl
theorem inf74:Ex.Inf Tryz.prog 74 2 32 (.agg [.string ⟨#[]⟩,.string ⟨#[]⟩].toArray):=by unfold Ex.Inf; kernel_rfl
theorem agg74:Ex.aggT Tryz.prog 74=true:=by kernel_rfl
theorem pl74:Ex.placesOf Tryz.prog 74=some [(0,1),(1,1)]:=by kernel_rfl
theorem fld74_0:Ex.fldAt Tryz.prog 74 0=some 0:=by kernel_rfl
theorem fld74_1:Ex.fldAt Tryz.prog 74 1=some 1:=by kernel_rfl
theorem inf81:Ex.Inf Tryz.prog 81 2 32 (.agg [.slice none 0 0,.int .i64 0].toArray):=by unfold Ex.Inf; kernel_rfl
theorem agg81:Ex.aggT Tryz.prog 81=true:=by kernel_rfl
theorem pl81:Ex.placesOf Tryz.prog 81=some [(0,1),(1,1)]:=by kernel_rfl
theorem fld81_0:Ex.fldAt Tryz.prog 81 0=some 0:=by kernel_rfl
theorem fld81_1:Ex.fldAt Tryz.prog 81 1=some 1:=by kernel_rfl
theorem inf89:Ex.Inf Tryz.prog 89 7 56 (.agg [.int .i64 0,.int .i64 0,.int .i64 0,.int .i64 0,.int .i64 0,.int .i64 0,.int .i64 0].toArray):=by unfold Ex.Inf; kernel_rfl
theorem agg89:Ex.aggT Tryz.prog 89=true:=by kernel_rfl
theorem pl89:Ex.placesOf Tryz.prog 89=some [(0,1),(1,1),(2,1),(3,1),(4,1),(5,1),(6,1)]:=by kernel_rfl
theorem fld89_0:Ex.fldAt Tryz.prog 89 0=some 0:=by kernel_rfl
theorem fld89_1:Ex.fldAt Tryz.prog 89 1=some 1:=by kernel_rfl
theorem fld89_2:Ex.fldAt Tryz.prog 89 2=some 2:=by kernel_rfl
theorem fld89_3:Ex.fldAt Tryz.prog 89 3=some 3:=by kernel_rfl
theorem fld89_4:Ex.fldAt Tryz.prog 89 4=some 4:=by kernel_rfl
theorem fld89_5:Ex.fldAt Tryz.prog 89 5=some 5:=by kernel_rfl
theorem fld89_6:Ex.fldAt Tryz.prog 89 6=some 6:=by kernel_rfl
theorem flat91:Ex.flatT Tryz.prog 91=true:=by kernel_rfl
theorem inf93:Ex.Inf Tryz.prog 93 2 32 (.agg [.slice none 0 0,.int .i64 0].toArray):=by unfold Ex.Inf; kernel_rfl
theorem pl93:Ex.placesOf Tryz.prog 93=some [(0,2)]:=by kernel_rfl
theorem fld93_0:Ex.fldAt Tryz.prog 93 0=some 0:=by kernel_rfl
theorem flat95:Ex.flatT Tryz.prog 95=true:=by kernel_rfl
theorem inf111:Ex.Inf Tryz.prog 111 2 16 (.agg [.int .i64 0,.int .i64 0].toArray):=by unfold Ex.Inf; kernel_rfl
theorem pl111:Ex.placesOf Tryz.prog 111=some [(0,2)]:=by kernel_rfl
theorem fld111_0:Ex.fldAt Tryz.prog 111 0=some 0:=by kernel_rfl
theorem inf114:Ex.Inf Tryz.prog 114 3 32 (.agg [.string ⟨#[]⟩,.int .i64 0,.int .i64 0].toArray):=by unfold Ex.Inf; kernel_rfl
theorem pl114:Ex.placesOf Tryz.prog 114=some [(0,1),(1,1),(2,1)]:=by kernel_rfl
theorem fld114_0:Ex.fldAt Tryz.prog 114 0=some 0:=by kernel_rfl
theorem fld114_1:Ex.fldAt Tryz.prog 114 1=some 1:=by kernel_rfl
theorem fld114_2:Ex.fldAt Tryz.prog 114 2=some 2:=by kernel_rfl
theorem inf119:Ex.Inf Tryz.prog 119 1 8 (.agg [.int .i64 0].toArray):=by unfold Ex.Inf; kernel_rfl
theorem pl119:Ex.placesOf Tryz.prog 119=some [(0,1)]:=by kernel_rfl
theorem fld119_0:Ex.fldAt Tryz.prog 119 0=some 0:=by kernel_rfl
theorem inf163:Ex.Inf Tryz.prog 163 8 64 (.agg [.int .i64 0,.int .i64 0,.int .i64 0,.int .i64 0,.int .i64 0,.int .i64 0,.int .i64 0,.int .i64 0].toArray):=by unfold Ex.Inf; kernel_rfl
theorem agg163:Ex.aggT Tryz.prog 163=true:=by kernel_rfl
theorem pl163:Ex.placesOf Tryz.prog 163=some [(0,1),(1,7)]:=by kernel_rfl
theorem fld163_0:Ex.fldAt Tryz.prog 163 0=some 0:=by kernel_rfl
theorem fld163_1:Ex.fldAt Tryz.prog 163 1=some 1:=by kernel_rfl
theorem inf164:Ex.Inf Tryz.prog 164 3 24 (.agg [.int .i64 0,.int .i64 0,.int .i64 0].toArray):=by unfold Ex.Inf; kernel_rfl
theorem agg164:Ex.aggT Tryz.prog 164=true:=by kernel_rfl
theorem pl164:Ex.placesOf Tryz.prog 164=some [(0,1),(1,1),(2,1)]:=by kernel_rfl
theorem fld164_0:Ex.fldAt Tryz.prog 164 0=some 0:=by kernel_rfl
theorem fld164_1:Ex.fldAt Tryz.prog 164 1=some 1:=by kernel_rfl
theorem fld164_2:Ex.fldAt Tryz.prog 164 2=some 2:=by kernel_rfl
theorem flat170:Ex.flatT Tryz.prog 170=true:=by kernel_rfl
theorem inf172:Ex.Inf Tryz.prog 172 3 40 (.agg [.bool false,.int .i64 0,.slice none 0 0].toArray):=by unfold Ex.Inf; kernel_rfl
theorem agg172:Ex.aggT Tryz.prog 172=true:=by kernel_rfl
theorem pl172:Ex.placesOf Tryz.prog 172=some [(0,1),(1,1),(2,1)]:=by kernel_rfl
theorem fld172_0:Ex.fldAt Tryz.prog 172 0=some 0:=by kernel_rfl
theorem fld172_1:Ex.fldAt Tryz.prog 172 1=some 1:=by kernel_rfl
theorem fld172_2:Ex.fldAt Tryz.prog 172 2=some 2:=by kernel_rfl
theorem inf176:Ex.Inf Tryz.prog 176 2 16 (.agg [.int .i64 0,.nilFunc].toArray):=by unfold Ex.Inf; kernel_rfl
theorem pl176:Ex.placesOf Tryz.prog 176=some [(0,1),(1,1)]:=by kernel_rfl
theorem fld176_0:Ex.fldAt Tryz.prog 176 0=some 0:=by kernel_rfl
theorem fld176_1:Ex.fldAt Tryz.prog 176 1=some 1:=by kernel_rfl
theorem inf179:Ex.Inf Tryz.prog 179 3 40 (.agg [.int .i64 0,.string ⟨#[]⟩,.string ⟨#[]⟩].toArray):=by unfold Ex.Inf; kernel_rfl
theorem agg179:Ex.aggT Tryz.prog 179=true:=by kernel_rfl
theorem pl179:Ex.placesOf Tryz.prog 179=some [(0,1),(1,1),(2,1)]:=by kernel_rfl
theorem fld179_0:Ex.fldAt Tryz.prog 179 0=some 0:=by kernel_rfl
theorem fld179_1:Ex.fldAt Tryz.prog 179 1=some 1:=by kernel_rfl
theorem fld179_2:Ex.fldAt Tryz.prog 179 2=some 2:=by kernel_rfl
theorem inf217:Ex.Inf Tryz.prog 217 3 24 (.agg [.int .i64 0,.int .i64 0,.int .i64 0].toArray):=by unfold Ex.Inf; kernel_rfl
theorem agg217:Ex.aggT Tryz.prog 217=true:=by kernel_rfl
theorem pl217:Ex.placesOf Tryz.prog 217=some [(0,1),(1,1),(2,1)]:=by kernel_rfl
theorem fld217_0:Ex.fldAt Tryz.prog 217 0=some 0:=by kernel_rfl
theorem fld217_1:Ex.fldAt Tryz.prog 217 1=some 1:=by kernel_rfl
theorem fld217_2:Ex.fldAt Tryz.prog 217 2=some 2:=by kernel_rfl
theorem eqv74 : EqV Tryz.prog 74 Label zk := ⟨fun a b w => by
  obtain ⟨a0,a1⟩:=a
  obtain ⟨c0,c1⟩:=b
  rw [run_equalIn_struct (P:=Tryz.prog) w 9999 74 _ _ Tryz.underlying74 (by kernel_rfl)]
  simp [go_sem,zk,toList_inj]
  try ((repeat' split) <;> simp_all),by kernel_rfl⟩
end
section
namespace Ex
@[reducible] def iV (n:Int):Value:=.int .i64 n
@[reducible] def Zs:Value:=.slice none 0 0
@[reducible] def Zx:List Value:=[.int .i64 0,.int .i64 0,.int .i64 0,.string ⟨#[]⟩,.slice none 0 0,.slice none 0 0,.slice none 0 0]
@[reducible] def Rb (T:TypeId) (p:Nat) (s:ByteArray) (i:Nat) (n:Int):Own:=.blk p [.string s,.int .i64 (i:Int),.int .i64 n] T
end Ex
end
section
open Tryz
open Ex
set_option linter.unusedVariables false
set_option linter.unusedSimpArgs false
theorem c_rise (a : Int) (b : Int) (w : World)   :
    Calls prog 110 #[iV a,iV b] w (Ret w (iV (Agg.rise a b))):=by
 refine fstart (N:=12) (vals:=[iV a,iV b]) (S:=Mem w no []) func110 rfl rfl rfl (Mem.ofDats dn) (zG fun _ hK1=>zO rfl (zD hK1 (zS fun _ hK2=>zG fun _ hK3=>zE rfl (zE rfl (zB (yR rfl rfl) (zD hK3 (za rfl (fun h1=>?_) (fun h1=>?_))))))))
 · refine zG fun _ hK4=>zE rfl (zO rfl (zD hK4 (zV (zJ (zY (.inl rfl) results110 (zQ rfl) fun w1 hM=>?_)))))
   exact zq (by simp [Agg.rise,h1]) hM
 refine yL hK2 (zG fun _ hK5=>zE rfl (zE rfl (zB (gH rfl rfl) (zO rfl (zD hK5 (zV (zY (.inl rfl) results110 (zQ rfl) fun w1 hM=>?_)))))))
 exact zq (by simp [Agg.rise,h1]) hM
theorem gL (v : Int) (w : World)   :
    Calls prog 67 #[iV v] w (Ret w (.agg (sumE (Agg.one v)).toArray)):=by
 refine fstart (N:=9) (vals:=[iV v]) (S:=Mem w no []) func67 rfl rfl rfl (Mem.ofDats dn) (zG fun _ hK1=>zy wn inf89 rfl fun b2=>zD hK1 (zG fun _ hK2=>zE rfl (zE rfl (zE rfl (zE rfl (zE rfl (zB (zw [iV 1,iV v,iV v,iV v,iV v,iV v,iV 0] pl89 inf89 rfl rfl) (zn 0 wn rfl rfl rfl inf89 rfl rfl rfl ?_))))))))
 refine zD hK2 (zV (zY (.inl rfl) results67 (zo 0 rfl rfl agg89 inf89 rfl) fun w1 hM=>?_))
 exact vq rfl hM
theorem uS (a : Sum) (b : Sum) (w : World)   :
    Calls prog 66 #[.agg (sumE a).toArray,.agg (sumE b).toArray] w (Ret w (.agg (sumE (Agg.join a b)).toArray)):=by
 refine fstart (N:=51) (vals:=[.agg (sumE a).toArray,.agg (sumE b).toArray]) (S:=Mem w no []) func66 rfl rfl rfl (Mem.ofDats dn) (zG fun _ hK1=>vR wn rfl rfl fun b2=>vR wn rfl rfl fun b3=>zy wn inf89 rfl fun b4=>zD hK1 (zS fun _ hK2=>zl (zG fun _ hK3=>zB (zc rfl fld89_0) (zB (zi 2 rfl rfl rfl flat3) (zB (yj rfl rfl) ?_)))))
 refine zO rfl (zD hK3 (za rfl (fun h1=>?_) (fun h1=>?_)))
 · refine zG fun _ hK4=>zB (yM 1 [iV b.count,iV b.total,iV b.min,iV b.max,iV b.first,iV b.last,iV b.rise] rfl rfl rfl rfl agg89 inf89) (zn 0 wn rfl rfl rfl inf89 rfl rfl rfl (zD hK4 (zV (yD (zJ (zY (.inl rfl) results66 (zo 0 rfl rfl agg89 inf89 rfl) fun w1 hM=>?_))))))
   exact vq (l1:=[iV b.count,iV b.total,iV b.min,iV b.max,iV b.first,iV b.last,iV b.rise]) (by simp [Agg.join,sumE,h1]) hM
 refine zG fun _ hK5=>zB (zc rfl fld89_0) (zB (zi 1 rfl rfl rfl flat3) (zB (yj rfl rfl) (zO rfl (zD hK5 (za rfl (fun h2=>?_) (fun h2=>?_))))))
 · refine zG fun _ hK6=>zB (yM 2 [iV a.count,iV a.total,iV a.min,iV a.max,iV a.first,iV a.last,iV a.rise] rfl rfl rfl rfl agg89 inf89) (zn 0 wn rfl rfl rfl inf89 rfl rfl rfl (zD hK6 (zV (yD (zJ (zY (.inl rfl) results66 (zo 0 rfl rfl agg89 inf89 rfl) fun w1 hM=>?_))))))
   exact vq (l1:=[iV a.count,iV a.total,iV a.min,iV a.max,iV a.first,iV a.last,iV a.rise]) (by simp [Agg.join,sumE,h1,h2]) hM
 refine yV (zm (yC hK2 (zS fun _ hK7=>vY 36 mix (by kernel_rfl) (fun _ h=>h.drew) fun _ hT1=>zt (zc rfl fld89_0) (zt (zi 2 rfl rfl rfl flat3) (zt (zc rfl fld89_0) (zt (zi 1 rfl rfl rfl flat3) (zt (jX rfl rfl) (zt (zc rfl fld89_1) (zt (zi 2 rfl rfl rfl flat3) (zt (zc rfl fld89_1) (zt (zi 1 rfl rfl rfl flat3) ?_)))))))))))
 refine zt (jX rfl rfl) (zt (zc rfl fld89_2) (zt (zi 2 rfl rfl rfl flat3) (zt (zc rfl fld89_2) (zt (zi 1 rfl rfl rfl flat3) (zt (jY rfl rfl) (zt (zc rfl fld89_3) (zt (zi 2 rfl rfl rfl flat3) (zt (zc rfl fld89_3) (zt (zi 1 rfl rfl rfl flat3) (zt (uh rfl rfl) (zt (zc rfl fld89_4) ?_)))))))))))
 refine zt (zi 2 rfl rfl rfl flat3) (zt (zc rfl fld89_5) (zt (zi 1 rfl rfl rfl flat3) (zt (zc rfl fld89_6) (zt (zi 2 rfl rfl rfl flat3) (zt (zc rfl fld89_5) (zt (zi 2 rfl rfl rfl flat3) (zt (zc rfl fld89_4) (zt (zi 1 rfl rfl rfl flat3) (vO wn rfl call110 rfl (fun w1 hM=>c_rise a.last b.first w1) (zt (jX rfl rfl) (zt (zc rfl fld89_6) ?_)))))))))))
 refine zt (zi 1 rfl rfl rfl flat3) (zt (jX rfl rfl) (zt (zw [iV (IntKind.wrap .i64 (a.count + b.count)),iV (IntKind.wrap .i64 (a.total + b.total)),iV (if b.min < a.min then b.min else a.min),iV (if a.max < b.max then b.max else a.max),iV a.first,iV b.last,iV (IntKind.wrap .i64 ((IntKind.wrap .i64 (a.rise + (Agg.rise a.last b.first))) + b.rise))] pl89 inf89 rfl rfl) (vx hT1 (zn 0 wn rfl rfl rfl inf89 rfl rfl rfl (zD hK7 (zV (zY (.inl rfl) results66 (zo 0 rfl rfl agg89 inf89 rfl) fun w1 hM=>?_)))))))
 exact vq (l1:=[iV (IntKind.wrap .i64 (a.count + b.count)),iV (IntKind.wrap .i64 (a.total + b.total)),iV (if b.min < a.min then b.min else a.min),iV (if a.max < b.max then b.max else a.max),iV a.first,iV b.last,iV (IntKind.wrap .i64 ((IntKind.wrap .i64 (a.rise + (Agg.rise a.last b.first))) + b.rise))]) (by simp [Agg.join,sumE,h1,h2]) hM
theorem c_Words  (w : World)   :
    Calls prog 33 #[] w (RetL w 9 1 strE Agg.words):=by
 refine fstart (N:=2) (vals:=[]) (S:=Mem w no []) func33 rfl rfl rfl (Mem.ofDats dn) (zG fun _ hK1=>zO rfl (zD hK1 (zG fun _ hK2=>yt strE ([⟨#[97,118,103]⟩,⟨#[99,111,117,110,116]⟩,⟨#[102,105,114,115,116]⟩,⟨#[108,97,115,116]⟩,⟨#[109,97,120]⟩,⟨#[109,105,110]⟩,⟨#[114,105,115,101]⟩,⟨#[115,117,109]⟩]:List ByteArray) wn underlying56 inf9 rfl rfl rfl rfl (by decide) (by decide) rfl fun b1=>zO rfl (zD hK2 (zV (zY (.inl rfl) results33 (zQ rfl) fun w1 hM=>?_))))))
 exact hM.ue 0 rfl rfl
theorem c_Value (word : ByteArray) (s : Sum) (w : World)   :
    Calls prog 35 #[.string word,.agg (sumE s).toArray] w (Ret w (.tuple #[iV (Agg.value word s).1,.bool (Agg.value word s).2])):=by
 refine fstart (N:=45) (vals:=[.string word,.agg (sumE s).toArray]) (S:=Mem w no []) func35 rfl rfl rfl (Mem.ofDats dn) (zG fun _ hK1=>vR wn rfl rfl fun b3=>zO rfl (zO rfl (zD hK1 (zS fun _ hK2=>zG fun _ hK3=>zB (zc rfl fld89_0) (zB (zi 0 rfl rfl rfl flat3) (zB (yR rfl rfl) (zD hK3 ?_)))))))
 refine za rfl (fun h1=>?_) (fun h1=>?_)
 · refine zG fun _ hK4=>zO rfl (zO rfl (zD hK4 (zV (zJ (yT (.inl rfl) results35 (zQ rfl) (zQ rfl) fun w1 hM=>?_)))))
   exact zq (by simp [Agg.value,h1]) hM
 refine yL hK2 (zS fun _ hK5=>zG fun _ hK6=>zE rfl (zD hK6 (zl (zG fun _ hK7=>zB (vd rfl rfl) (zO rfl (zD hK7 (za rfl (fun h2=>?_) (fun h2=>?_))))))))
 · refine zG fun _ hK8=>zB (zc rfl fld89_1) (zB (zi 0 rfl rfl rfl flat3) (zB (zc rfl fld89_0) (zB (zi 0 rfl rfl rfl flat3) (zB (r_quo rfl rfl (by omega)) (zO rfl (zO rfl (zD hK8 (zV (yD (zJ (yT (.inl rfl) results35 (zQ rfl) (zQ rfl) fun w1 hM=>?_)))))))))))
   exact zq (by simp [Agg.value,h1,h2]) hM
 refine zG fun _ hK9=>zB (vd rfl rfl) (zO rfl (zD hK9 (za rfl (fun h3=>?_) (fun h3=>?_))))
 · refine zG fun _ hK10=>zB (zc rfl fld89_0) (zB (zi 0 rfl rfl rfl flat3) (zO rfl (zO rfl (zD hK10 (zV (yD (zJ (yT (.inl rfl) results35 (zQ rfl) (zQ rfl) fun w1 hM=>?_))))))))
   exact zq (by simp [Agg.value,h1,h2,h3]) hM
 refine zG fun _ hK11=>zB (vd rfl rfl) (zO rfl (zD hK11 (za rfl (fun h4=>?_) (fun h4=>?_))))
 · refine zG fun _ hK12=>zB (zc rfl fld89_4) (zB (zi 0 rfl rfl rfl flat3) (zO rfl (zO rfl (zD hK12 (zV (yD (zJ (yT (.inl rfl) results35 (zQ rfl) (zQ rfl) fun w1 hM=>?_))))))))
   exact zq (by simp [Agg.value,h1,h2,h3,h4]) hM
 refine zG fun _ hK13=>zB (vd rfl rfl) (zO rfl (zD hK13 (za rfl (fun h5=>?_) (fun h5=>?_))))
 · refine zG fun _ hK14=>zB (zc rfl fld89_5) (zB (zi 0 rfl rfl rfl flat3) (zO rfl (zO rfl (zD hK14 (zV (yD (zJ (yT (.inl rfl) results35 (zQ rfl) (zQ rfl) fun w1 hM=>?_))))))))
   exact zq (by simp [Agg.value,h1,h2,h3,h4,h5]) hM
 refine zG fun _ hK15=>zB (vd rfl rfl) (zO rfl (zD hK15 (za rfl (fun h6=>?_) (fun h6=>?_))))
 · refine zG fun _ hK16=>zB (zc rfl fld89_3) (zB (zi 0 rfl rfl rfl flat3) (zO rfl (zO rfl (zD hK16 (zV (yD (zJ (yT (.inl rfl) results35 (zQ rfl) (zQ rfl) fun w1 hM=>?_))))))))
   exact zq (by simp [Agg.value,h1,h2,h3,h4,h5,h6]) hM
 refine zG fun _ hK17=>zB (vd rfl rfl) (zO rfl (zD hK17 (za rfl (fun h7=>?_) (fun h7=>?_))))
 · refine zG fun _ hK18=>zB (zc rfl fld89_2) (zB (zi 0 rfl rfl rfl flat3) (zO rfl (zO rfl (zD hK18 (zV (yD (zJ (yT (.inl rfl) results35 (zQ rfl) (zQ rfl) fun w1 hM=>?_))))))))
   exact zq (by simp [Agg.value,h1,h2,h3,h4,h5,h6,h7]) hM
 refine zG fun _ hK19=>zB (vd rfl rfl) (zO rfl (zD hK19 (za rfl (fun h8=>?_) (fun h8=>?_))))
 · refine zG fun _ hK20=>zB (zc rfl fld89_6) (zB (zi 0 rfl rfl rfl flat3) (zO rfl (zO rfl (zD hK20 (zV (yD (zJ (yT (.inl rfl) results35 (zQ rfl) (zQ rfl) fun w1 hM=>?_))))))))
   exact zq (by simp [Agg.value,h1,h2,h3,h4,h5,h6,h7,h8]) hM
 refine zG fun _ hK21=>zB (vd rfl rfl) (zO rfl (zD hK21 (za rfl (fun h9=>?_) (fun h9=>?_))))
 · refine zG fun _ hK22=>zB (zc rfl fld89_1) (zB (zi 0 rfl rfl rfl flat3) (zO rfl (zO rfl (zD hK22 (zV (yD (zJ (yT (.inl rfl) results35 (zQ rfl) (zQ rfl) fun w1 hM=>?_))))))))
   exact zq (by simp [Agg.value,h1,h2,h3,h4,h5,h6,h7,h8,h9]) hM
 refine yV (zm (yC hK5 (zG fun _ hK23=>zO rfl (zO rfl (zD hK23 (zV (yT (.inl rfl) results35 (zQ rfl) (zQ rfl) fun w1 hM=>?_)))))))
 exact zq (by simp [Agg.value,h1,h2,h3,h4,h5,h6,h7,h8,h9]) hM
end
section
open Tryz
open Ex
set_option linter.unusedVariables false
set_option linter.unusedSimpArgs false
theorem jI (tier : Int) (w : World)   :
    Calls prog 93 #[iV tier] w (Ret w (iV (Roll.step tier))):=by
 refine fstart (N:=8) (vals:=[iV tier]) (S:=Mem w no []) func93 rfl rfl rfl (Mem.ofDats dn) (zG fun _ hK1=>zO rfl (zD hK1 (zS fun _ hK2=>zG fun _ hK3=>zE rfl (zD hK3 (zl (zG fun _ hK4=>zB (yj rfl rfl) (zO rfl ?_)))))))
 refine zD hK4 (za rfl (fun h1=>?_) (fun h1=>?_))
 · refine zG fun _ hK5=>zO rfl (zD hK5 (zV (yD (zJ (zY (.inl rfl) results93 (zQ rfl) fun w1 hM=>?_)))))
   exact zq (by simp [Roll.step,h1]) hM
 refine zG fun _ hK6=>zB (yj rfl rfl) (zO rfl (zD hK6 (za rfl (fun h2=>?_) (fun h2=>?_))))
 · refine zG fun _ hK7=>zO rfl (zD hK7 (zV (yD (zJ (zY (.inl rfl) results93 (zQ rfl) fun w1 hM=>?_)))))
   exact zq (by simp [Roll.step,h1,h2]) hM
 refine yV (zm (yC hK2 (zG fun _ hK8=>zO rfl (zD hK8 (zV (zY (.inl rfl) results93 (zQ rfl) fun w1 hM=>?_))))))
 exact zq (by simp [Roll.step,h1,h2]) hM
theorem c_add (lv : Value) (l : List Bucket) (time : Int) (step : Int) (s : Sum) (w : World) (hl : w.ownsRow 0 163 8 lv l.length (l.flatMap zU)) (hst : step ≠ 0) (hl1 : l.length ≤ 1048576) :
    Calls prog 169 #[lv,iV time,iV step,.agg (sumE s).toArray] w (RetU w lv 163 8 zU (Roll.add l time step s)):=by
 refine fstart (N:=48) (vals:=[lv,iV time,iV step,.agg (sumE s).toArray]) (S:=Mem w (fun b=>lv.ownBlock=some b) [Row lv 163 8 zU l]) func169 rfl rfl rfl (Mem.ownArg hl) (vV 0 (l:=l) rfl fun A0 cp0 hv0 hc0 hm0 hA0=>?_)
 subst hv0
 refine zG fun _ hK1=>vR wn rfl rfl fun b7=>zO rfl (zD hK1 (zG fun _ hK2=>zE rfl (zE rfl (zE rfl (zB (jl rfl rfl (by omega)) (zB (gH rfl rfl) (zO rfl (zD hK2 ?_))))))))
 refine zS fun _ hK3=>zG fun _ hK4=>zE rfl (zB (yg rfl underlying48) (zB (vl rfl rfl (by omega)) (zO rfl (zD hK4 (zG fun _ hK5=>zE rfl (zB (vn rfl rfl) (zE rfl (yQ (t:=21) rfl (fun h1=>?_) (fun h1=>?_)))))))))
 · refine zd (zg rfl) (zd (zg rfl) ?_)
   obtain ⟨ad1,hd1⟩:=hA0 (ne_nil (i:=(l.length - 1)) (by first | omega | (simp <;> omega)))
   refine zd (vC (i:=(l.length - 1)) rfl hd1 rfl (by omega) (by first | omega | (simp <;> omega)) underlying48 inf163) (zd (y0 rfl fld163_0) ?_)
   obtain ⟨s1,hs1⟩:∃ x,l[(l.length - 1)]?=some x:=⟨_,List.getElem?_eq_getElem (by first | omega | (simp <;> omega))⟩
   refine zd (uz 1 encBucket rfl rfl hd1 hs1 rfl flat3) (zd (zg rfl) (zd (yj rfl rfl) (zB (zP rfl rfl) (zD hK5 (za rfl (fun h2=>?_) (fun h2=>?_))))))
   · refine zS fun _ hK6=>vY 11 mix (by kernel_rfl) (fun _ h=>h.drew) fun _ hT1=>yq rfl (yq rfl (yq rfl (yq rfl (zt (vC (i:=(l.length - 1)) rfl hd1 rfl (by omega) (by first | omega | (simp <;> omega)) underlying48 inf163) (zt (y0 rfl fld163_1) (zt (u9 1 [iV s1.sum.count,iV s1.sum.total,iV s1.sum.min,iV s1.sum.max,iV s1.sum.first,iV s1.sum.last,iV s1.sum.rise] encBucket rfl rfl hd1 hs1 rfl rfl agg89 inf89) (zt (yM 0 [iV s.count,iV s.total,iV s.min,iV s.max,iV s.first,iV s.last,iV s.rise] rfl rfl rfl rfl agg89 inf89) (vO wn rfl call66 rfl (fun w1 hM=>uS s1.sum s w1) (zt (vC (i:=(l.length - 1)) rfl hd1 rfl (by omega) (by first | omega | (simp <;> omega)) underlying48 inf163) ?_)))))))))
     refine zt (y0 rfl fld163_1) (vx hT1 (uw 1 (vs:=[iV ((Agg.join s1.sum s).count),iV ((Agg.join s1.sum s).total),iV ((Agg.join s1.sum s).min),iV ((Agg.join s1.sum s).max),iV ((Agg.join s1.sum s).first),iV ((Agg.join s1.sum s).last),iV ((Agg.join s1.sum s).rise)]) (⟨s1.at_,(Agg.join s1.sum s)⟩:Bucket) encBucket wn rfl rfl rfl rfl hd1 hs1 inf89 rfl rfl rfl rfl (zD hK6 (zG fun _ hK7=>zE rfl (zO rfl (zD hK7 (zV (zJ (zY (.inl rfl) results169 (zQ rfl) fun w1 hM=>?_)))))))))
     exact hM.jU 1 rfl (Roll.add_last hs1 h2)
   refine yL hK3 (zG fun _ hK8=>zE rfl (zE rfl (zB (yM 0 [iV s.count,iV s.total,iV s.min,iV s.max,iV s.first,iV s.last,iV s.rise] rfl rfl rfl rfl agg89 inf89) (zB (zw [iV (IntKind.wrap .i64 (time - (Int.tmod time step))),iV s.count,iV s.total,iV s.min,iV s.max,iV s.first,iV s.last,iV s.rise] pl163 inf163 rfl rfl) (yt zU ([(⟨(IntKind.wrap .i64 (time - (Int.tmod time step))),s⟩:Bucket)]:List Bucket) wn underlying48 inf163 rfl rfl rfl rfl (by decide) (by decide) rfl fun b46=>vD 2 l ([(⟨(IntKind.wrap .i64 (time - (Int.tmod time step))),s⟩:Bucket)]:List Bucket) encBucket wn rfl rfl rfl (fun _ hM=>(RowSl encBucket hM 0 rfl)) underlying48 inf163 rfl rfl (by simp only [List.length_append,List.length_cons,List.length_nil]; omega) rfl fun A1 cp1 hc1 hm1 hA1=>zO rfl (zD hK8 (zV (zY (.inl rfl) results169 (zQ rfl) fun w1 hM=>?_))))))))
   exact hM.jU 2 rfl (Roll.add_new hs1 h2)
 refine zW (zW (zW (zW (zW (zW (zW (zB (zP rfl rfl) (zD hK5 (yu rfl rfl (yL hK3 (zG fun _ hK9=>?_)))))))))))
 refine zE rfl (zE rfl (zB (yM 0 [iV s.count,iV s.total,iV s.min,iV s.max,iV s.first,iV s.last,iV s.rise] rfl rfl rfl rfl agg89 inf89) (zB (zw [iV (IntKind.wrap .i64 (time - (Int.tmod time step))),iV s.count,iV s.total,iV s.min,iV s.max,iV s.first,iV s.last,iV s.rise] pl163 inf163 rfl rfl) (yt zU ([(⟨(IntKind.wrap .i64 (time - (Int.tmod time step))),s⟩:Bucket)]:List Bucket) wn underlying48 inf163 rfl rfl rfl rfl (by decide) (by decide) rfl fun b46=>vD 2 l ([(⟨(IntKind.wrap .i64 (time - (Int.tmod time step))),s⟩:Bucket)]:List Bucket) encBucket wn rfl rfl rfl (fun _ hM=>(RowSl encBucket hM 0 rfl)) underlying48 inf163 rfl rfl (by simp only [List.length_append,List.length_cons,List.length_nil]; omega) rfl fun A2 cp2 hc2 hm2 hA2=>zO rfl (zD hK9 (zV (zY (.inl rfl) results169 (zQ rfl) fun w1 hM=>?_)))))))
 exact hM.jU 2 rfl (Roll.add_nil h1)
theorem c_Up (lv : Value) (l : List Sample) (tier : Int) (w : World) (hl : zK (In w) 2 zr lv l w) (hl1 : l.length ≤ 1048576) :
    Calls prog 126 #[lv,iV tier] w (RetL w 163 8 zU (Roll.up l tier)):=by
 obtain ⟨lA,lc,rfl,hlc,hlm,hlA⟩:=hl.form
 refine fstart (N:=29) (vals:=[.slice lA l.length lc,iV tier]) (S:=Mem w no [slO (In w) 2 zr (.slice lA l.length lc) l]) func126 rfl rfl rfl (Mem.ofDats (dc (dl hl) dn)) (zG fun _ hK1=>vB (zU:Bucket→List Value) 163 8 (zO rfl (zD hK1 (zG fun _ hK2=>zE rfl (yF wn rfl call93 rfl (fun w1 hM=>jI tier w1) (zO rfl (zD hK2 (zS fun _ hK3=>zG fun _ hK4=>?_))))))))
 refine zE rfl (zB (yj rfl rfl) (zD hK4 (za rfl (fun h1=>?_) (fun h1=>?_))))
 · refine zG fun _ hK5=>vB (zU:Bucket→List Value) 163 8 (zO rfl (zD hK5 (zV (zJ (zY (.inl rfl) results126 (zQ rfl) fun w1 hM=>?_)))))
   exact hM.ue 0 rfl (by simp [Roll.up,h1])
 refine yL hK3 (zG fun _ hK6=>vB (zU:Bucket→List Value) 163 8 (zO rfl (zD hK6 (zS fun _ hK7=>zG fun _ hK8=>zE rfl (zB (yg rfl underlying47) (zE rfl (zD hK8 (zl ?_))))))))
 refine uO (fun (k:Nat) (vr:Value)=>[(5,iV (Roll.step tier)),(6,vr),(13,.slice lA l.length lc),(14,iV l.length),(15,iV k)]) (fun (k:Nat) (vr:Value)=>[Row vr 163 8 zU (Roll.ups (l.take k) (Roll.step tier)),Row (Zs) 163 8 zU ([]:List Bucket),slO (In w) 2 zr (.slice lA l.length lc) l]) (fun (k:Nat) (vr:Value)=>k≤l.length) (fun (k:Nat) (vr:Value)=>l.length - k) 0 (Zs) (sc rfl (sc rfl (sc rfl (sc rfl (sc (ji (by omega)) sn))))) (fun _ h=>h) ?_ (fun k vr hI1=>?_)
 · omega
 have hlen:=Nat.le_trans (Roll.ups_len (l.take k) (Roll.step tier)) (List.length_take_le k l)
 refine vV 0 (l:=(Roll.ups (l.take k) (Roll.step tier))) rfl fun A1 cp1 hv1 hc1 hm1 hA1=>?_
 subst hv1
 refine zG fun _ hK9=>zB (yR rfl rfl) (zD hK9 (zS fun _ hK10=>za rfl (fun h2=>?_) (fun h2=>?_)))
 · refine yL hK10 (zS fun _ hK11=>zl (zG fun _ hK12=>?_))
   obtain ⟨ad1,hd1⟩:=hlA (ne_nil (i:=k) (by first | omega | (simp <;> omega)))
   refine zB (vC (i:=k) rfl hd1 rfl (by omega) (by first | omega | (simp <;> omega)) underlying47 inf41) ?_
   obtain ⟨s1,hs1⟩:∃ x,l[k]?=some x:=⟨_,List.getElem?_eq_getElem (by first | omega | (simp <;> omega))⟩
   refine zB (uG 2 [iV s1.time,iV s1.value] rfl rfl hd1 hs1 rfl rfl agg41 inf41) (zy wn inf41 rfl fun b8=>zn 0 wn rfl rfl rfl inf41 rfl rfl rfl (zD hK12 (vY 7 mix (by kernel_rfl) (fun _ h=>h.drew) fun _ hT1=>yq rfl (zt (zc rfl fld41_0) (zt (zi 0 rfl rfl rfl flat3) (yq rfl (zt (zc rfl fld41_1) (zt (zi 0 rfl rfl rfl flat3) (vO wn rfl call67 rfl (fun w1 hM=>gL s1.value w1) ?_)))))))))
   refine vx hT1 (uJ 1 (Roll.add (Roll.ups (l.take k) (Roll.step tier)) s1.time (Roll.step tier) (Agg.one s1.value)) rfl wn rfl call169 rfl (fun w1 hM=>c_add _ (Roll.ups (l.take k) (Roll.step tier)) s1.time (Roll.step tier) (Agg.one s1.value) w1 (hM.row (i:=1) rfl) (by first | assumption | omega | decide) (by first | assumption | omega | (simp only [List.length_cons,List.length_nil]; omega) | exact Nat.le_trans (Roll.up_len _ _) (by first | omega | simp))) fun A2 cp2 hc2 hm2 hA2=>zO rfl (zj (zm (yC hK11 (zL (zB (zz rfl rfl (by omega)) (zE rfl (zj (vZ (k + 1) (.slice A2 ((Roll.add (Roll.ups (l.take k) (Roll.step tier)) s1.time (Roll.step tier) (Agg.one s1.value)).length) cp2) (sc rfl (sc rfl (sc rfl (sc rfl (sc (ji (by omega)) sn))))) (fun _ h=>by rw [Roll.ups_succ l (Roll.step tier) k s1 hs1]; exact (h.sel [1,2,3] (by decide) rfl)) ?_ ?_)))))))))
   · omega
   omega
 refine yc (yH (vz (yJ (yC hK7 (zG fun _ hK13=>zE rfl (zO rfl (zD hK13 (zV (zY (.inl rfl) results126 (zQ rfl) fun w1 hM=>?_)))))))))
 exact hM.ue 0 rfl (by rw [List.take_of_length_le (by omega)]; simp [Roll.up,h1])
theorem c_Greater (lv : Value) (l : List Bucket) (w : World) (hl : zK (In w) 8 zU lv l w) (hl1 : l.length ≤ 1048576) :
    Calls prog 127 #[lv] w (RetL w 163 8 zU (Roll.greater l)):=by
 obtain ⟨lA,lc,rfl,hlc,hlm,hlA⟩:=hl.form
 refine fstart (N:=20) (vals:=[.slice lA l.length lc]) (S:=Mem w no [slO (In w) 8 zU (.slice lA l.length lc) l]) func127 rfl rfl rfl (Mem.ofDats (dc (dl hl) dn)) (zG fun _ hK1=>vB (zU:Bucket→List Value) 163 8 (zO rfl (zD hK1 (zG fun _ hK2=>vB (zU:Bucket→List Value) 163 8 (zO rfl (zD hK2 (zS fun _ hK3=>zG fun _ hK4=>zE rfl ?_)))))))
 refine zB (yg rfl underlying48) (zE rfl (zD hK4 (zl (uO (fun (k:Nat) (vr:Value)=>[(3,vr),(6,.slice lA l.length lc),(7,iV l.length),(8,iV k)]) (fun (k:Nat) (vr:Value)=>[Row vr 163 8 zU (Roll.greater (l.take k)),Row (Zs) 163 8 zU ([]:List Bucket),slO (In w) 8 zU (.slice lA l.length lc) l]) (fun (k:Nat) (vr:Value)=>k≤l.length) (fun (k:Nat) (vr:Value)=>l.length - k) 0 (Zs) (sc rfl (sc rfl (sc rfl (sc (ji (by omega)) sn)))) (fun _ h=>h) ?_ (fun k vr hI1=>?_)))))
 · omega
 have hlen:=Nat.le_trans (Roll.greater_len (l.take k)) (List.length_take_le k l)
 refine vV 0 (l:=(Roll.greater (l.take k))) rfl fun A1 cp1 hv1 hc1 hm1 hA1=>?_
 subst hv1
 refine zG fun _ hK5=>zB (yR rfl rfl) (zD hK5 (zS fun _ hK6=>za rfl (fun h1=>?_) (fun h1=>?_)))
 · refine yL hK6 (zS fun _ hK7=>zl (zG fun _ hK8=>?_))
   obtain ⟨ad1,hd1⟩:=hlA (ne_nil (i:=k) (by first | omega | (simp <;> omega)))
   refine zB (vC (i:=k) rfl hd1 rfl (by omega) (by first | omega | (simp <;> omega)) underlying48 inf163) ?_
   obtain ⟨s1,hs1⟩:∃ x,l[k]?=some x:=⟨_,List.getElem?_eq_getElem (by first | omega | (simp <;> omega))⟩
   refine zB (uG 2 [iV s1.at_,iV s1.sum.count,iV s1.sum.total,iV s1.sum.min,iV s1.sum.max,iV s1.sum.first,iV s1.sum.last,iV s1.sum.rise] rfl rfl hd1 hs1 rfl rfl agg163 inf163) (zy wn inf163 rfl fun b5=>zn 0 wn rfl rfl rfl inf163 rfl rfl rfl (zD hK8 (zL (zE rfl (zB (zc rfl fld163_0) (zB (zi 0 rfl rfl rfl flat3) (zB (zc rfl fld163_1) (zB (yM 0 [iV s1.sum.count,iV s1.sum.total,iV s1.sum.min,iV s1.sum.max,iV s1.sum.first,iV s1.sum.last,iV s1.sum.rise] rfl rfl rfl rfl agg89 inf89) (uJ 1 (Roll.add (Roll.greater (l.take k)) s1.at_ 60 s1.sum) rfl wn rfl call169 rfl (fun w1 hM=>c_add _ (Roll.greater (l.take k)) s1.at_ 60 s1.sum w1 (hM.row (i:=1) rfl) (by first | assumption | omega | decide) (by first | assumption | omega | (simp only [List.length_cons,List.length_nil]; omega) | exact Nat.le_trans (Roll.up_len _ _) (by first | omega | simp))) fun A2 cp2 hc2 hm2 hA2=>zO rfl ?_)))))))))
   refine zj (zm (yC hK7 (zL (zB (zz rfl rfl (by omega)) (zE rfl (zj (vZ (k + 1) (.slice A2 ((Roll.add (Roll.greater (l.take k)) s1.at_ 60 s1.sum).length) cp2) (sc rfl (sc rfl (sc rfl (sc (ji (by omega)) sn)))) (fun _ h=>by rw [Roll.greater_succ l k s1 hs1]; exact (h.sel [1,2,3] (by decide) rfl)) ?_ ?_)))))))
   · omega
   omega
 refine yc (yH (vz (yJ (yC hK3 (zG fun _ hK9=>zE rfl (zO rfl (zD hK9 (zV (zY (.inl rfl) results127 (zQ rfl) fun w1 hM=>?_)))))))))
 exact hM.ue 0 rfl (by rw [List.take_of_length_le (by omega)])
theorem jA (lv : Value) (l : List Bucket) (frm : Int) (to : Int) (w : World) (hl : zK (In w) 8 zU lv l w)  :
    Calls prog 164 #[lv,iV frm,iV to] w (Ret w (.agg (sumE (Roll.of l frm to)).toArray)):=by
 obtain ⟨lA,lc,rfl,hlc,hlm,hlA⟩:=hl.form
 refine fstart (N:=32) (vals:=[.slice lA l.length lc,iV frm,iV to]) (S:=Mem w no [slO (In w) 8 zU (.slice lA l.length lc) l]) func164 rfl rfl rfl (Mem.ofDats (dc (dl hl) dn)) (zG fun _ hK1=>zy wn inf89 rfl fun b6=>zD hK1 (zG fun _ hK2=>zy wn inf89 rfl fun b7=>zD hK2 (zS fun _ hK3=>zG fun _ hK4=>zE rfl (zB (yg rfl underlying48) (zE rfl ?_)))))
 refine zD hK4 (zl (vF (fun (k:Nat)=>[(1,iV frm),(2,iV to),(6,.pointer (some ⟨b6,0,none⟩)),(7,.pointer (some ⟨b7,0,none⟩)),(10,.slice lA l.length lc),(11,iV l.length),(12,iV k)]) (fun (k:Nat)=>[.blk b7 [iV ((Roll.of (l.take k) frm to).count),iV ((Roll.of (l.take k) frm to).total),iV ((Roll.of (l.take k) frm to).min),iV ((Roll.of (l.take k) frm to).max),iV ((Roll.of (l.take k) frm to).first),iV ((Roll.of (l.take k) frm to).last),iV ((Roll.of (l.take k) frm to).rise)] 89,.blk b6 [iV 0,iV 0,iV 0,iV 0,iV 0,iV 0,iV 0] 89,slO (In w) 8 zU (.slice lA l.length lc) l]) (fun (k:Nat)=>k≤l.length) (fun (k:Nat)=>l.length - k) 0 (sc rfl (sc rfl (sc rfl (sc rfl (sc rfl (sc rfl (sc (ji (by omega)) sn))))))) (fun _ h=>h) ?_ (fun k hI1=>?_)))
 · omega
 refine zG fun _ hK5=>zB (yR rfl rfl) (zD hK5 (zS fun _ hK6=>za rfl (fun h1=>?_) (fun h1=>?_)))
 · refine yL hK6 (zS fun _ hK7=>zl (zG fun _ hK8=>?_))
   obtain ⟨ad1,hd1⟩:=hlA (ne_nil (i:=k) (by first | omega | (simp <;> omega)))
   refine zB (vC (i:=k) rfl hd1 rfl (by omega) (by first | omega | (simp <;> omega)) underlying48 inf163) ?_
   obtain ⟨s1,hs1⟩:∃ x,l[k]?=some x:=⟨_,List.getElem?_eq_getElem (by first | omega | (simp <;> omega))⟩
   refine zB (uG 2 [iV s1.at_,iV s1.sum.count,iV s1.sum.total,iV s1.sum.min,iV s1.sum.max,iV s1.sum.first,iV s1.sum.last,iV s1.sum.rise] rfl rfl hd1 hs1 rfl rfl agg163 inf163) (zy wn inf163 rfl fun b9=>zn 0 wn rfl rfl rfl inf163 rfl rfl rfl (zD hK8 (zG fun _ hK9=>zB (zc rfl fld163_0) (zB (zi 0 rfl rfl rfl flat3) (zE rfl (zB (vn rfl rfl) (zE rfl (yQ (t:=20) rfl (fun h2=>?_) (fun h2=>?_)))))))))
   · refine zd (zc rfl fld163_0) (zd (zi 0 rfl rfl rfl flat3) (zd (zg rfl) (zd (yR rfl rfl) (zB (zP rfl rfl) (zD hK9 (za rfl (fun h3=>?_) (fun h3=>?_)))))))
     · refine zL (zB (yM 1 [iV ((Roll.of (l.take k) frm to).count),iV ((Roll.of (l.take k) frm to).total),iV ((Roll.of (l.take k) frm to).min),iV ((Roll.of (l.take k) frm to).max),iV ((Roll.of (l.take k) frm to).first),iV ((Roll.of (l.take k) frm to).last),iV ((Roll.of (l.take k) frm to).rise)] rfl rfl rfl rfl agg89 inf89) (zB (zc rfl fld163_1) (zB (yM 0 [iV s1.sum.count,iV s1.sum.total,iV s1.sum.min,iV s1.sum.max,iV s1.sum.first,iV s1.sum.last,iV s1.sum.rise] rfl rfl rfl rfl agg89 inf89) (yF wn rfl call66 rfl (fun w1 hM=>uS (Roll.of (l.take k) frm to) s1.sum w1) (zn 1 wn rfl rfl rfl inf89 rfl rfl rfl (zj (zm (yC hK7 (zL (zB (zz rfl rfl (by omega)) (zE rfl ?_)))))))))))
       have hst:=Roll.of_succ l frm to k s1 hs1
       rw [if_pos (by omega)] at hst
       refine zj (yd (k + 1) (sc rfl (sc rfl (sc rfl (sc rfl (sc rfl (sc rfl (sc (ji (by omega)) sn))))))) (fun _ h=>by rw [hst]; exact (h.sel [1,2,3] (by decide) rfl)) ?_ ?_)
       · omega
       omega
     refine yV (zm (yC hK7 (zL (zB (zz rfl rfl (by omega)) (zE rfl ?_)))))
     have hst:=Roll.of_succ l frm to k s1 hs1
     rw [if_neg (by omega)] at hst
     refine zj (yd (k + 1) (sc rfl (sc rfl (sc rfl (sc rfl (sc rfl (sc rfl (sc (ji (by omega)) sn))))))) (fun _ h=>by rw [hst]; exact (h.sel [1,2,3] (by decide) rfl)) ?_ ?_)
     · omega
     omega
   refine zW (zW (zW (zW (zB (zP rfl rfl) (zD hK9 (yu rfl rfl (yV (zm (yC hK7 (zL (zB (zz rfl rfl (by omega)) (zE rfl ?_))))))))))))
   have hst:=Roll.of_succ l frm to k s1 hs1
   rw [if_neg (by omega)] at hst
   refine zj (yd (k + 1) (sc rfl (sc rfl (sc rfl (sc rfl (sc rfl (sc rfl (sc (ji (by omega)) sn))))))) (fun _ h=>by rw [hst]; exact (h.sel [1,2,3] (by decide) rfl)) ?_ ?_)
   · omega
   omega
 refine yc (yH (yn (yJ (yC hK3 (zG fun _ hK10=>zB (yM 0 [iV ((Roll.of (l.take k) frm to).count),iV ((Roll.of (l.take k) frm to).total),iV ((Roll.of (l.take k) frm to).min),iV ((Roll.of (l.take k) frm to).max),iV ((Roll.of (l.take k) frm to).first),iV ((Roll.of (l.take k) frm to).last),iV ((Roll.of (l.take k) frm to).rise)] rfl rfl rfl rfl agg89 inf89) (zn 1 wn rfl rfl rfl inf89 rfl rfl rfl (zD hK10 (zV (zY (.inl rfl) results164 (zo 1 rfl rfl agg89 inf89 rfl) fun w1 hM=>?_)))))))))
 exact vq (l1:=[iV ((Roll.of (l.take k) frm to).count),iV ((Roll.of (l.take k) frm to).total),iV ((Roll.of (l.take k) frm to).min),iV ((Roll.of (l.take k) frm to).max),iV ((Roll.of (l.take k) frm to).first),iV ((Roll.of (l.take k) frm to).last),iV ((Roll.of (l.take k) frm to).rise)]) (by rw [List.take_of_length_le (by omega)]) hM
theorem c_rollWrong (lv : Value) (l : List Bucket) (tier : Int) (w : World) (hl : zK (In w) 8 zU lv l w)  :
    Calls prog 44 #[lv,iV tier] w (Ret w (.agg (faultE (Roll.wrong l tier)).toArray)):=by
 obtain ⟨lA,lc,rfl,hlc,hlm,hlA⟩:=hl.form
 refine fstart (N:=71) (vals:=[.slice lA l.length lc,iV tier]) (S:=Mem w no [slO (In w) 8 zU (.slice lA l.length lc) l]) func44 rfl rfl rfl (Mem.ofDats (dc (dl hl) dn)) (zG fun _ hK1=>zy wn inf61 rfl fun b4=>zD hK1 (zG fun _ hK2=>zE rfl (yF wn rfl call93 rfl (fun w1 hM=>jI tier w1) (zO rfl (zD hK2 (zS fun _ hK3=>zG fun _ hK4=>zE rfl ?_))))))
 refine zB (yj rfl rfl) (zD hK4 (za rfl (fun h1=>?_) (fun h1=>?_)))
 · refine zG fun _ hK5=>zB (zw [iV 1,iV 0] pl61 inf61 rfl rfl) (zn 0 wn rfl rfl rfl inf61 rfl rfl rfl (zD hK5 (zV (zJ (zY (.inl rfl) results44 (zo 0 rfl rfl agg61 inf61 rfl) fun w1 hM=>?_)))))
   exact vq (l1:=[iV 1,iV 0]) (by rw [Roll.wrong,if_pos (by omega)]) hM
 refine yL hK3 (zS fun _ hK6=>zG fun _ hK7=>zE rfl (zB (yg rfl underlying48) (zB (y8 rfl rfl) (zD hK7 (za rfl (fun h2=>?_) (fun h2=>?_))))))
 · refine zG fun _ hK8=>zB (zw [iV 5,iV 0] pl61 inf61 rfl rfl) (zn 0 wn rfl rfl rfl inf61 rfl rfl rfl (zD hK8 (zV (zJ (zY (.inl rfl) results44 (zo 0 rfl rfl agg61 inf61 rfl) fun w1 hM=>?_)))))
   exact vq (l1:=[iV 5,iV 0]) (by rw [Roll.wrong,if_neg (by omega),if_pos (by omega)]) hM
 refine yL hK6 (zS fun _ hK9=>zG fun _ hK10=>zE rfl (zB (yg rfl underlying48) (zE rfl (zD hK10 (zl (vF (fun (k:Nat)=>[(0,.slice lA l.length lc),(4,.pointer (some ⟨b4,0,none⟩)),(5,iV (Roll.step tier)),(17,.slice lA l.length lc),(18,iV l.length),(19,iV k)]) (fun (k:Nat)=>[.blk b4 [iV 0,iV 0] 61,slO (In w) 8 zU (.slice lA l.length lc) l]) (fun (k:Nat)=>k≤l.length∧Roll.wrongFrom (Roll.step tier) 0 none l=Roll.wrongFrom (Roll.step tier) k (Roll.prevOf l k) (l.drop k)) (fun (k:Nat)=>l.length - k) 0 (sc rfl (sc rfl (sc rfl (sc rfl (sc rfl (sc (ji (by omega)) sn)))))) (fun _ h=>h) ?_ (fun k hI1=>?_)))))))
 · exact ⟨by omega,Roll.wrong_start l _⟩
 refine zG fun _ hK11=>zB (yR rfl rfl) (zD hK11 (zS fun _ hK12=>za rfl (fun h3=>?_) (fun h3=>?_)))
 · refine yL hK12 (zS fun _ hK13=>zl (zG fun _ hK14=>zE rfl ?_))
   obtain ⟨ad1,hd1⟩:=hlA (ne_nil (i:=k) (by first | omega | (simp <;> omega)))
   refine zB (vC (i:=k) rfl hd1 rfl (by omega) (by first | omega | (simp <;> omega)) underlying48 inf163) ?_
   obtain ⟨s1,hs1⟩:∃ x,l[k]?=some x:=⟨_,List.getElem?_eq_getElem (by first | omega | (simp <;> omega))⟩
   refine zB (uG 1 [iV s1.at_,iV s1.sum.count,iV s1.sum.total,iV s1.sum.min,iV s1.sum.max,iV s1.sum.first,iV s1.sum.last,iV s1.sum.rise] rfl rfl hd1 hs1 rfl rfl agg163 inf163) (zy wn inf163 rfl fun b7=>zO rfl (zn 0 wn rfl rfl rfl inf163 rfl rfl rfl (zD hK14 (zS fun _ hK15=>vm [(0,.slice lA l.length lc),(4,.pointer (some ⟨b4,0,none⟩)),(5,iV (Roll.step tier)),(6,iV k),(7,.pointer (some ⟨b7,0,none⟩)),(17,.slice lA l.length lc),(18,iV l.length),(19,iV k),(51,.bool (decide ((s1.at_ < 0)∨((1000000 < s1.at_)∨(((Int.tmod s1.at_ (Roll.step tier))≠0)∨((s1.sum.count < 1)∨((Roll.step tier) < s1.sum.count)))))))] (Mem w no [.blk b7 [iV s1.at_,iV s1.sum.count,iV s1.sum.total,iV s1.sum.min,iV s1.sum.max,iV s1.sum.first,iV s1.sum.last,iV s1.sum.rise] 163,.blk b4 [iV 0,iV 0] 61,slO (In w) 8 zU (.slice lA l.length lc) l]) (fun _ hK16=>?_) ?_))))
   · refine zL (zB (zc rfl fld163_0) (zB (zi 0 rfl rfl rfl flat3) (zB (yR rfl rfl) (zE rfl (yQ (t:=27) rfl (fun h4=>?_) (fun h4=>?_))))))
     · refine zW (zW (zW (zB (zP rfl rfl) (zE rfl (zW (zW (zW (zW (zW (zB (zP rfl rfl) (zE rfl ?_)))))))))))
       refine zW (zW (zW (zW (zB (zP rfl rfl) (zE rfl (zW (zW (zW (zW (zW (zB (zP rfl rfl) ?_)))))))))))
       refine zj (yi hK16 (sc rfl (sc rfl (sc rfl (sc rfl (sc rfl (sc rfl (sc rfl (sc rfl (sc (jt (Or.inl h4)) sn))))))))) (fun _ h=>h))
     refine zd (zc rfl fld163_0) (zd (zi 0 rfl rfl rfl flat3) (zd (y8 rfl rfl) (zB (zP rfl rfl) (zE rfl (yQ (t:=32) rfl (fun h5=>?_) (fun h5=>?_))))))
     · refine zW (zW (zW (zW (zW (zB (zP rfl rfl) (zE rfl (zW (zW (zW (zW (zB (zP rfl rfl) ?_)))))))))))
       refine zE rfl (zW (zW (zW (zW (zW (zB (zP rfl rfl) ?_))))))
       refine zj (yi hK16 (sc rfl (sc rfl (sc rfl (sc rfl (sc rfl (sc rfl (sc rfl (sc rfl (sc (jt (Or.inr (Or.inl h5))) sn))))))))) (fun _ h=>h))
     refine zd (zc rfl fld163_0) (zd (zi 0 rfl rfl rfl flat3) (zd (zg rfl) (zd (jl rfl rfl (by omega)) (zd (vH rfl rfl) (zB (zP rfl rfl) (zE rfl (yQ (t:=39) rfl (fun h6=>?_) (fun h6=>?_))))))))
     · refine zW (zW (zW (zW (zB (zP rfl rfl) (zE rfl (zW (zW (zW (zW (zW (zB (zP rfl rfl) ?_)))))))))))
       refine zj (yi hK16 (sc rfl (sc rfl (sc rfl (sc rfl (sc rfl (sc rfl (sc rfl (sc rfl (sc (jt (Or.inr (Or.inr (Or.inl h6)))) sn))))))))) (fun _ h=>h))
     refine zd (zc rfl fld163_1) (zd (zc rfl fld89_0) (zd (zi 0 rfl rfl rfl flat3) (zd (yR rfl rfl) (zB (zP rfl rfl) (zE rfl (yQ (t:=45) rfl (fun h7=>?_) (fun h7=>?_)))))))
     · refine zW (zW (zW (zW (zW (zB (zP rfl rfl) ?_)))))
       refine zj (yi hK16 (sc rfl (sc rfl (sc rfl (sc rfl (sc rfl (sc rfl (sc rfl (sc rfl (sc (jt (Or.inr (Or.inr (Or.inr (Or.inl h7))))) sn))))))))) (fun _ h=>h))
     refine zd (zc rfl fld163_1) (zd (zc rfl fld89_0) (zd (zi 0 rfl rfl rfl flat3) (zd (zg rfl) (zd (y8 rfl rfl) (zB (zP rfl rfl) ?_)))))
     refine zj (yi hK16 (sc rfl (sc rfl (sc rfl (sc rfl (sc rfl (sc rfl (sc rfl (sc rfl (sc (jp (iff_or_right h4 (iff_or_right h5 (iff_or_right h6 (iff_or_right h7 Iff.rfl))))) sn))))))))) (fun _ h=>h))
   refine za rfl (fun h8=>?_) (fun h8=>?_)
   · refine zG fun _ hK17=>zE rfl (zB (zw [iV 3,iV k] pl61 inf61 rfl rfl) (zn 1 wn rfl rfl rfl inf61 rfl rfl rfl (zD hK17 (zV (zJ (yD (zJ (yk (yD (zJ (zY (.inl rfl) results44 (zo 1 rfl rfl agg61 inf61 rfl) fun w1 hM=>?_)))))))))))
     exact vq (l1:=[iV 3,iV k]) (by rw [Roll.wrong,if_neg (by omega),if_neg (by omega),hI1.2,Roll.wrong_step hs1,if_pos (by unfold Roll.badB; omega)]) hM
   refine yL hK15 (zS fun _ hK18=>vN mix (by kernel_rfl) (fun _ h=>h.drew) (yq rfl (zt (y8 rfl rfl) (yq rfl (vg (t:=56) rfl (fun h9=>?_) (fun h9=>?_))))))
   · refine yK (zg rfl) (yK (zg rfl) (yK (vl rfl rfl (by omega)) (yK (vC (i:=(k - 1)) rfl hd1 rfl (by omega) (by first | omega | (simp <;> omega)) underlying48 inf163) (yK (y0 rfl fld163_0) ?_))))
     obtain ⟨s2,hs2⟩:∃ x,l[(k - 1)]?=some x:=⟨_,List.getElem?_eq_getElem (by first | omega | (simp <;> omega))⟩
     refine yK (gC 2 rfl rfl hd1 hs2 rfl flat3) (yK (zc rfl fld163_0) (yK (zi 0 rfl rfl rfl flat3) (yK (vn rfl rfl) (zt (zP rfl rfl) (vI (yC hK18 (za rfl (fun h10=>?_) (fun h10=>?_))))))))
     · refine zG fun _ hK19=>zE rfl (zB (zw [iV 2,iV k] pl61 inf61 rfl rfl) (zn 1 wn rfl rfl rfl inf61 rfl rfl rfl (zD hK19 (zV (yD (zJ (yk (yD (zJ (zY (.inl rfl) results44 (zo 1 rfl rfl agg61 inf61 rfl) fun w1 hM=>?_))))))))))
       exact vq (l1:=[iV 2,iV k]) (by rw [Roll.wrong,if_neg (by omega),if_neg (by omega),hI1.2,Roll.wrong_step hs1,if_neg (by unfold Roll.badB; omega),if_pos (by rw [Roll.prevOf,if_neg (by omega),hs2]; simp [Roll.behind]; omega)]) hM
     refine yV (zm (yC hK13 (zL (zB (zz rfl rfl (by omega)) (zE rfl (zj (yd (k + 1) (sc rfl (sc rfl (sc rfl (sc rfl (sc rfl (sc (ji (by omega)) sn)))))) (S9 [1,2]) ?_ ?_)))))))
     · exact ⟨by omega,by rw [hI1.2,Roll.wrong_step hs1,if_neg (by unfold Roll.badB; omega),if_neg (by rw [Roll.prevOf,if_neg (by omega),hs2]; simp [Roll.behind]; omega)]⟩
     omega
   refine yA (yA (yA (yA (yA (yA (yA (yA (yA (zt (zP rfl rfl) (vI (yC hK18 (yu rfl rfl ?_))))))))))))
   refine yV (zm (yC hK13 (zL (zB (zz rfl rfl (by omega)) (zE rfl (zj (yd (k + 1) (sc rfl (sc rfl (sc rfl (sc rfl (sc rfl (sc (ji (by omega)) sn)))))) (S9 [1,2]) ?_ ?_)))))))
   · exact ⟨by omega,by rw [hI1.2,Roll.wrong_step hs1,if_neg (by unfold Roll.badB; omega),if_neg (by rw [Roll.prevOf,if_pos (by omega)]; simp [Roll.behind])]⟩
   omega
 refine yc (yH (yn (yJ (yC hK9 (zG fun _ hK20=>zB (zw [iV 0,iV 0] pl61 inf61 rfl rfl) (zn 0 wn rfl rfl rfl inf61 rfl rfl rfl (zD hK20 (zV (zY (.inl rfl) results44 (zo 0 rfl rfl agg61 inf61 rfl) fun w1 hM=>?_)))))))))
 exact vq (l1:=[iV 0,iV 0]) (by rw [Roll.wrong,if_neg (by omega),if_neg (by omega),hI1.2,Roll.wrong_end (by omega)]) hM
end
section
open Tryz
open Ex
set_option linter.unusedVariables false
set_option linter.unusedSimpArgs false
theorem c_isNaN (a : ByteArray) (w : World)   :
    Calls prog 96 #[.string a] w (Ret w (.bool false)):=by
 refine fstart (N:=6) (vals:=[.string a]) (S:=Mem w no []) func96 rfl rfl rfl (Mem.ofDats dn) (zG fun _ hK1=>zO rfl (zD hK1 (zG fun _ hK2=>zE rfl (zE rfl (zB (uy rfl rfl) (zO rfl (zD hK2 (zV (zY (.inl rfl) results96 (zQ rfl) fun w1 hM=>?_)))))))))
 exact zq (by simp) hM
theorem c_cmpS (a : ByteArray) (b : ByteArray) (w : World)   :
    Calls prog 50 #[.string a,.string b] w (Ret w (iV (zZ.cmpS a b))):=by
 refine fstart (N:=20) (vals:=[.string a,.string b]) (S:=Mem w no []) func50 rfl rfl rfl (Mem.ofDats dn) (zG fun _ hK1=>zO rfl (zD hK1 (zG fun _ hK2=>zE rfl (yF wn rfl call96 rfl (fun w1 hM=>c_isNaN a w1) (zO rfl (zD hK2 (zG fun _ hK3=>zE rfl (yF wn rfl call96 rfl (fun w1 hM=>c_isNaN b w1) ?_))))))))
 refine zO rfl (zD hK3 (zS fun _ hK4=>zG fun _ hK5=>zE rfl (zD hK5 (yu rfl rfl (yL hK4 (zS fun _ hK6=>zG fun _ hK7=>zE rfl (zD hK7 ?_)))))))
 refine yu rfl rfl (yL hK6 (zS fun _ hK8=>zG fun _ hK9=>zE rfl (zE rfl (zB (r_slss' rfl rfl) (zD hK9 (yl rfl (fun h1=>?_) (fun h1=>?_)))))))
 · refine zG fun _ hK10=>zO rfl (zD hK10 (zV (zJ (zY (.inl rfl) results50 (zQ rfl) fun w1 hM=>?_))))
   exact zq (by simp [zZ.cmpS,h1]) hM
 refine yL hK8 (zS fun _ hK11=>zG fun _ hK12=>zE rfl (zE rfl (zB (r_sgtr' rfl rfl) (zD hK12 (yl rfl (fun h2=>?_) (fun h2=>?_))))))
 · refine zG fun _ hK13=>zO rfl (zD hK13 (zV (zJ (zY (.inl rfl) results50 (zQ rfl) fun w1 hM=>?_))))
   exact zq (by simp [zZ.cmpS,h1,h2]) hM
 refine yL hK11 (zG fun _ hK14=>zO rfl (zD hK14 (zV (zY (.inl rfl) results50 (zQ rfl) fun w1 hM=>?_))))
 exact zq (by simp [zZ.cmpS,h1,h2]) hM
theorem c_or (lv : Value) (l : List Int) (w : World) (hl : zK (In w) 1 intE lv l w)  :
    Calls prog 49 #[lv] w (Ret w (iV (zZ.orI l))):=by
 obtain ⟨lA,lc,rfl,hlc,hlm,hlA⟩:=hl.form
 refine fstart (N:=18) (vals:=[.slice lA l.length lc]) (S:=Mem w no [slO (In w) 1 intE (.slice lA l.length lc) l]) func49 rfl rfl rfl (Mem.ofDats (dc (dl hl) dn)) (zG fun _ hK1=>zO rfl (zD hK1 (zG fun _ hK2=>zO rfl (zD hK2 (zS fun _ hK3=>zG fun _ hK4=>zE rfl (zB (yg rfl underlying37) (zE rfl ?_)))))))
 refine zD hK4 (zl (vF (fun (k:Nat)=>[(3,iV 0),(6,.slice lA l.length lc),(7,iV l.length),(8,iV k)]) (fun (k:Nat)=>[slO (In w) 1 intE (.slice lA l.length lc) l]) (fun (k:Nat)=>k≤l.length∧zZ.orI l=zZ.orI (l.drop k)) (fun (k:Nat)=>l.length - k) 0 (sc rfl (sc rfl (sc rfl (sc (ji (by omega)) sn)))) (fun _ h=>h) ?_ (fun k hI1=>?_)))
 · simp
 refine zG fun _ hK5=>zB (yR rfl rfl) (zD hK5 (zS fun _ hK6=>za rfl (fun h1=>?_) (fun h1=>?_)))
 · refine yL hK6 (zS fun _ hK7=>zl (zG fun _ hK8=>?_))
   obtain ⟨ad1,hd1⟩:=hlA (ne_nil (i:=k) (by first | omega | (simp <;> omega)))
   refine zB (vC (i:=k) rfl hd1 rfl (by omega) (by first | omega | (simp <;> omega)) underlying37 inf3) ?_
   obtain ⟨s1,hs1⟩:∃ x,l[k]?=some x:=⟨_,List.getElem?_eq_getElem (by first | omega | (simp <;> omega))⟩
   refine zB (gC 0 rfl rfl hd1 hs1 rfl flat3) (zO rfl (zD hK8 (zG fun _ hK9=>zE rfl (zE rfl (zB (vH rfl rfl) (zD hK9 (za rfl (fun h2=>?_) (fun h2=>?_))))))))
   · refine zG fun _ hK10=>zE rfl (zO rfl (zD hK10 (zV (yD (zJ (yk (yD (zJ (zY (.inl rfl) results49 (zQ rfl) fun w1 hM=>?_)))))))))
     exact zq (by rw [hI1.2,zZ.or_step hs1,if_pos h2]) hM
   refine yV (zm (yC hK7 (zL (zB (zz rfl rfl (by omega)) (zE rfl (zj (yd (k + 1) (sc rfl (sc rfl (sc rfl (sc (ji (by omega)) sn)))) (fun _ h=>h) ?_ ?_)))))))
   · exact ⟨by omega,by rw [hI1.2,zZ.or_step hs1,if_neg (by simpa using h2)]⟩
   omega
 refine yc (yH (yn (yJ (yC hK3 (zG fun _ hK11=>zE rfl (zO rfl (zD hK11 (zV (zY (.inl rfl) results49 (zQ rfl) fun w1 hM=>?_)))))))))
 exact zq (by rw [hI1.2,zZ.or_end (by omega)]) hM
theorem c_cmpL (a : Label) (b : Label) (w : World)   :
    Calls prog 48 #[.agg (zk a).toArray,.agg (zk b).toArray] w (Ret w (iV (zZ.cmpL a b))):=by
 refine fstart (N:=17) (vals:=[.agg (zk a).toArray,.agg (zk b).toArray]) (S:=Mem w no []) func48 rfl rfl rfl (Mem.ofDats dn) (zG fun _ hK1=>vR wn rfl rfl fun b2=>vR wn rfl rfl fun b3=>zO rfl (zD hK1 (zS fun _ hK2=>vY 10 mix (by kernel_rfl) (fun _ h=>h.drew) fun _ hT1=>zt (zc rfl fld74_0) (zt (zi 1 rfl rfl rfl flat9) (zt (zc rfl fld74_0) (zt (zi 0 rfl rfl rfl flat9) ?_))))))
 refine vO wn rfl call50 rfl (fun w1 hM=>c_cmpS a.key b.key w1) (zt (zc rfl fld74_1) (zt (zi 1 rfl rfl rfl flat9) (zt (zc rfl fld74_1) (zt (zi 0 rfl rfl rfl flat9) (vO wn rfl call50 rfl (fun w1 hM=>c_cmpS a.val b.val w1) (vx hT1 (yt intE ([(zZ.cmpS a.key b.key),(zZ.cmpS a.val b.val)]:List Int) wn underlying37 inf3 rfl rfl rfl rfl (by decide) (by decide) rfl fun b15=>yF wn rfl call49 rfl (fun w1 hM=>c_or _ ([(zZ.cmpS a.key b.key),(zZ.cmpS a.val b.val)]:List Int) w1 (RowSl encInt hM 0 rfl)) (zO rfl (zD hK2 (zV (zY (.inl rfl) results48 (zQ rfl) fun w1 hM=>?_)))))))))))
 exact zq (by rw [zZ.orI_two]; rfl) hM
theorem c_compareFunc (av : Value) (a : List Label) (bv : Value) (b : List Label) (w : World) (ha : zK (In w) 2 zk av a w) (hb : zK (In w) 2 zk bv b w)  :
    Calls prog 47 #[av,bv,.func (.func 48) #[] #[]] w (Ret w (iV (zZ.compare a b))):=by
 obtain ⟨aA,ac,rfl,hac,ham,haA⟩:=ha.form
 obtain ⟨bA,bc,rfl,hbc,hbm,hbA⟩:=hb.form
 refine fstart (N:=39) (vals:=[.slice aA a.length ac,.slice bA b.length bc,.func (.func 48) #[] #[]]) (S:=Mem w no [slO (In w) 2 zk (.slice aA a.length ac) a,slO (In w) 2 zk (.slice bA b.length bc) b]) func47 rfl rfl rfl (Mem.ofDats (dc (dl ha) (dc (dl hb) dn))) (zG fun _ hK1=>zO rfl (zD hK1 (zS fun _ hK2=>zG fun _ hK3=>zE rfl (zB (yg rfl underlying39) (zE rfl (zD hK3 (zl (vF (fun (k:Nat)=>[(0,.slice aA a.length ac),(1,.slice bA b.length bc),(2,.func (.func 48) #[] #[]),(11,.slice aA a.length ac),(12,iV a.length),(13,iV k)]) (fun (k:Nat)=>[slO (In w) 2 zk (.slice aA a.length ac) a,slO (In w) 2 zk (.slice bA b.length bc) b]) (fun (k:Nat)=>k≤a.length∧zZ.compare a b=zZ.compare (a.drop k) (b.drop k)) (fun (k:Nat)=>a.length - k) 0 (sc rfl (sc rfl (sc rfl (sc rfl (sc rfl (sc (ji (by omega)) sn)))))) (fun _ h=>h) ?_ (fun k hI1=>?_)))))))))
 · simp
 refine zG fun _ hK4=>zB (yR rfl rfl) (zD hK4 (zS fun _ hK5=>za rfl (fun h1=>?_) (fun h1=>?_)))
 · refine yL hK5 (zS fun _ hK6=>zl (zG fun _ hK7=>zE rfl ?_))
   obtain ⟨ad1,hd1⟩:=haA (ne_nil (i:=k) (by first | omega | (simp <;> omega)))
   refine zB (vC (i:=k) rfl hd1 rfl (by omega) (by first | omega | (simp <;> omega)) underlying39 inf74) ?_
   obtain ⟨s1,hs1⟩:∃ x,a[k]?=some x:=⟨_,List.getElem?_eq_getElem (by first | omega | (simp <;> omega))⟩
   refine zB (uG 0 [.string s1.key,.string s1.val] rfl rfl hd1 hs1 rfl rfl agg74 inf74) (zy wn inf74 rfl fun b8=>zO rfl (zn 0 wn rfl rfl rfl inf74 rfl rfl rfl (zD hK7 (zS fun _ hK8=>zG fun _ hK9=>zE rfl (zE rfl (zB (yg rfl underlying39) (zB (vn rfl rfl) (zD hK9 ?_))))))))
   refine za rfl (fun h2=>?_) (fun h2=>?_)
   · refine zG fun _ hK10=>zO rfl (zD hK10 (zV (zJ (yD (zJ (yk (yD (zJ (zY (.inl rfl) results47 (zQ rfl) fun w1 hM=>?_)))))))))
     exact zq (by rw [hI1.2,zZ.compare_over hs1 (by omega)]) hM
   refine yL hK8 (zG fun _ hK11=>zE rfl (zE rfl ?_))
   obtain ⟨ad2,hd2⟩:=hbA (ne_nil (i:=k) (by first | omega | (simp <;> omega)))
   refine zB (vC (i:=k) rfl hd2 rfl (by omega) (by first | omega | (simp <;> omega)) underlying39 inf74) ?_
   obtain ⟨s2,hs2⟩:∃ x,b[k]?=some x:=⟨_,List.getElem?_eq_getElem (by first | omega | (simp <;> omega))⟩
   refine zB (uG 2 [.string s2.key,.string s2.val] rfl rfl hd2 hs2 rfl rfl agg74 inf74) (zy wn inf74 rfl fun b9=>zn 0 wn rfl rfl rfl inf74 rfl rfl rfl (zD hK11 (zG fun _ hK12=>zE rfl (zB (yM 1 [.string s1.key,.string s1.val] rfl rfl rfl rfl agg74 inf74) (zB (yM 0 [.string s2.key,.string s2.val] rfl rfl rfl rfl agg74 inf74) (u6 wn rfl rfl call48 rfl (fun w1 hM=>c_cmpL s1 s2 w1) (zO rfl (zD hK12 (zG fun _ hK13=>?_)))))))))
   refine zE rfl (zB (vH rfl rfl) (zD hK13 (za rfl (fun h3=>?_) (fun h3=>?_))))
   · refine zG fun _ hK14=>zE rfl (zO rfl (zD hK14 (zV (yD (zJ (yk (yD (zJ (zY (.inl rfl) results47 (zQ rfl) fun w1 hM=>?_)))))))))
     exact zq (by rw [hI1.2,zZ.compare_step hs1 hs2,if_pos h3]) hM
   refine yV (zm (yC hK6 (zL (zB (zz rfl rfl (by omega)) (zE rfl (zj (yd (k + 1) (sc rfl (sc rfl (sc rfl (sc rfl (sc rfl (sc (ji (by omega)) sn)))))) (S9 [2,3]) ?_ ?_)))))))
   · exact ⟨by omega,by rw [hI1.2,zZ.compare_step hs1 hs2,if_neg (by simpa using h3)]⟩
   omega
 refine yc (yH (yn (yJ (yC hK2 (zS fun _ hK15=>zG fun _ hK16=>zE rfl (zB (yg rfl underlying39) (zE rfl (zB (yg rfl underlying39) (zB (yR rfl rfl) (zD hK16 (za rfl (fun h4=>?_) (fun h4=>?_))))))))))))
 · refine zG fun _ hK17=>zO rfl (zD hK17 (zV (zJ (zY (.inl rfl) results47 (zQ rfl) fun w1 hM=>?_))))
   exact zq (by rw [hI1.2,zZ.compare_end (by omega) (by omega),if_pos (by omega)]) hM
 refine yL hK15 (zG fun _ hK18=>zO rfl (zD hK18 (zV (zY (.inl rfl) results47 (zQ rfl) fun w1 hM=>?_))))
 exact zq (by rw [hI1.2,zZ.compare_end (by omega) (by omega),if_neg (by omega)]) hM
theorem c_compare (av : Value) (a : List Label) (bv : Value) (b : List Label) (w : World) (ha : zK (In w) 2 zk av a w) (hb : zK (In w) 2 zk bv b w)  :
    Calls prog 22 #[av,bv] w (Ret w (iV (zZ.compare a b))):=by
 obtain ⟨aA,ac,rfl,hac,ham,haA⟩:=ha.form
 obtain ⟨bA,bc,rfl,hbc,hbm,hbA⟩:=hb.form
 refine fstart (N:=8) (vals:=[.slice aA a.length ac,.slice bA b.length bc]) (S:=Mem w no [slO (In w) 2 zk (.slice aA a.length ac) a,slO (In w) 2 zk (.slice bA b.length bc) b]) func22 rfl rfl rfl (Mem.ofDats (dc (dl ha) (dc (dl hb) dn))) (zG fun _ hK1=>zO rfl (zD hK1 (zG fun _ hK2=>zE rfl (zE rfl (yF wn rfl call47 rfl (fun w1 hM=>c_compareFunc _ a _ b w1 (hM.sl 0 rfl) (hM.sl 1 rfl)) (zO rfl (zD hK2 (zV (zY (.inl rfl) results22 (zQ rfl) fun w1 hM=>?_)))))))))
 exact zq rfl hM
theorem c_get (lv : Value) (l : List Label) (key : ByteArray) (w : World) (hl : zK (In w) 2 zk lv l w)  :
    Calls prog 104 #[lv,.string key] w (Ret w (.tuple #[.string (zZ.get l key).1,.bool (zZ.get l key).2])):=by
 obtain ⟨lA,lc,rfl,hlc,hlm,hlA⟩:=hl.form
 refine fstart (N:=21) (vals:=[.slice lA l.length lc,.string key]) (S:=Mem w no [slO (In w) 2 zk (.slice lA l.length lc) l]) func104 rfl rfl rfl (Mem.ofDats (dc (dl hl) dn)) (zG fun _ hK1=>zO rfl (zO rfl (zD hK1 (zS fun _ hK2=>zG fun _ hK3=>zE rfl (zB (yg rfl underlying39) (zE rfl (zD hK3 (zl ?_))))))))
 refine vF (fun (k:Nat)=>[(1,.string key),(8,.slice lA l.length lc),(9,iV l.length),(10,iV k)]) (fun (k:Nat)=>[slO (In w) 2 zk (.slice lA l.length lc) l]) (fun (k:Nat)=>k≤l.length∧zZ.get l key=zZ.get (l.drop k) key) (fun (k:Nat)=>l.length - k) 0 (sc rfl (sc rfl (sc rfl (sc (ji (by omega)) sn)))) (fun _ h=>h) ?_ (fun k hI1=>?_)
 · simp
 refine zG fun _ hK4=>zB (yR rfl rfl) (zD hK4 (zS fun _ hK5=>za rfl (fun h1=>?_) (fun h1=>?_)))
 · refine yL hK5 (zS fun _ hK6=>zl (zG fun _ hK7=>?_))
   obtain ⟨ad1,hd1⟩:=hlA (ne_nil (i:=k) (by first | omega | (simp <;> omega)))
   refine zB (vC (i:=k) rfl hd1 rfl (by omega) (by first | omega | (simp <;> omega)) underlying39 inf74) ?_
   obtain ⟨s1,hs1⟩:∃ x,l[k]?=some x:=⟨_,List.getElem?_eq_getElem (by first | omega | (simp <;> omega))⟩
   refine zB (uG 0 [.string s1.key,.string s1.val] rfl rfl hd1 hs1 rfl rfl agg74 inf74) (zy wn inf74 rfl fun b7=>zn 0 wn rfl rfl rfl inf74 rfl rfl rfl (zD hK7 (zG fun _ hK8=>zB (zc rfl fld74_0) (zB (zi 0 rfl rfl rfl flat9) (zE rfl (zB (vd rfl rfl) (zD hK8 (za rfl (fun h2=>?_) (fun h2=>?_)))))))))
   · refine zG fun _ hK9=>zB (zc rfl fld74_1) (zB (zi 0 rfl rfl rfl flat9) (zO rfl (zO rfl (zD hK9 (zV (yD (zJ (yk (yD (zJ (yT (.inl rfl) results104 (zQ rfl) (zQ rfl) fun w1 hM=>?_)))))))))))
     exact zq (by rw [hI1.2,zZ.get_step hs1,if_pos h2]) hM
   refine yV (zm (yC hK6 (zL (zB (zz rfl rfl (by omega)) (zE rfl (zj (yd (k + 1) (sc rfl (sc rfl (sc rfl (sc (ji (by omega)) sn)))) (S9 [1]) ?_ ?_)))))))
   · exact ⟨by omega,by rw [hI1.2,zZ.get_step hs1,if_neg h2]⟩
   omega
 refine yc (yH (yn (yJ (yC hK2 (zG fun _ hK10=>zO rfl (zO rfl (zD hK10 (zV (yT (.inl rfl) results104 (zQ rfl) (zQ rfl) fun w1 hM=>?_)))))))))
 exact zq (by rw [hI1.2,zZ.get_end (by omega)]) hM
theorem c_matches (rv : Value) (r : List Label) (lv : Value) (l : List Match) (w : World) (hr : zK (In w) 2 zk rv r w) (hl : zK (In w) 3 ya lv l w)  :
    Calls prog 60 #[rv,lv] w (Ret w (.bool (zZ.y4 r l))):=by
 obtain ⟨rA,rc,rfl,hrc,hrm,hrA⟩:=hr.form
 obtain ⟨lA,lc,rfl,hlc,hlm,hlA⟩:=hl.form
 refine fstart (N:=54) (vals:=[.slice rA r.length rc,.slice lA l.length lc]) (S:=Mem w no [slO (In w) 2 zk (.slice rA r.length rc) r,slO (In w) 3 ya (.slice lA l.length lc) l]) func60 rfl rfl rfl (Mem.ofDats (dc (dl hr) (dc (dl hl) dn))) (zG fun _ hK1=>zO rfl (zD hK1 (zS fun _ hK2=>zG fun _ hK3=>zE rfl (zB (yg rfl underlying55) (zE rfl (zD hK3 (zl (vF (fun (k:Nat)=>[(0,.slice rA r.length rc),(10,.slice lA l.length lc),(11,iV l.length),(12,iV k)]) (fun (k:Nat)=>[slO (In w) 2 zk (.slice rA r.length rc) r,slO (In w) 3 ya (.slice lA l.length lc) l]) (fun (k:Nat)=>k≤l.length∧∀ x ∈ l.take k,zZ.match1 r x=true) (fun (k:Nat)=>l.length - k) 0 (sc rfl (sc rfl (sc rfl (sc (ji (by omega)) sn)))) (fun _ h=>h) ?_ (fun k hI1=>?_)))))))))
 · simp
 refine zG fun _ hK4=>zB (yR rfl rfl) (zD hK4 (zS fun _ hK5=>za rfl (fun h1=>?_) (fun h1=>?_)))
 · refine yL hK5 (zS fun _ hK6=>zl (zG fun _ hK7=>?_))
   obtain ⟨ad1,hd1⟩:=hlA (ne_nil (i:=k) (by first | omega | (simp <;> omega)))
   refine zB (vC (i:=k) rfl hd1 rfl (by omega) (by first | omega | (simp <;> omega)) underlying55 inf179) ?_
   obtain ⟨s1,hs1⟩:∃ x,l[k]?=some x:=⟨_,List.getElem?_eq_getElem (by first | omega | (simp <;> omega))⟩
   refine zB (uG 1 [iV s1.kind,.string s1.key,.string s1.val] rfl rfl hd1 hs1 rfl rfl agg179 inf179) (zy wn inf179 rfl fun b6=>zn 0 wn rfl rfl rfl inf179 rfl rfl rfl (zD hK7 (zG fun _ hK8=>zE rfl (zB (zc rfl fld179_1) (zB (zi 0 rfl rfl rfl flat9) (yF wn rfl call104 rfl (fun w1 hM=>c_get _ r s1.key w1 (hM.sl 1 rfl)) (zE rfl (zB (yI rfl rfl) (zB (yI rfl rfl) ?_)))))))))
   refine zO rfl (zO rfl (zD hK8 (zG fun _ hK9=>zO rfl (zD hK9 (zS fun _ hK10=>zG fun _ hK11=>zB (zc rfl fld179_0) (zB (zi 0 rfl rfl rfl flat3) (zD hK11 (zl ?_))))))))
   refine zG fun _ hK12=>zB (yj rfl rfl) (zO rfl (zD hK12 (za rfl (fun h2=>?_) (fun h2=>?_))))
   · refine zL (zE rfl (zE rfl (uP (t:=28) rfl (fun h3=>?_) (fun h3=>?_))))
     · refine zd (zg rfl) (zd (zc rfl fld179_2) (zd (zi 0 rfl rfl rfl flat9) (zd (vd rfl rfl) (zB (zP rfl rfl) (zO rfl (zj (zm (yC hK10 (zG fun _ hK13=>zE rfl (zB (jM rfl) (zD hK13 (za rfl (fun h4=>?_) (fun h4=>?_)))))))))))))
       · refine zG fun _ hK14=>zO rfl (zD hK14 (zV (yD (zJ (yk (yD (zJ (zY (.inl rfl) results60 (zQ rfl) fun w1 hM=>?_))))))))
         exact zq (by rw [zZ.matches_stop hs1 (by (try simp at h2); (try simp at h3); (try simp at h4); simp [zZ.match1,h2,h3,h4])]) hM
       refine yV (zm (yC hK6 (zL (zB (zz rfl rfl (by omega)) (zE rfl (zj (yd (k + 1) (sc rfl (sc rfl (sc rfl (sc (ji (by omega)) sn)))) (S9 [1,2]) ?_ ?_)))))))
       · exact ⟨by omega,zZ.matches_step hs1 (by (try simp at h2); (try simp at h3); (try simp at h4); simp [zZ.match1,h2,h3,h4]) hI1.2⟩
       omega
     refine zW (zW (zW (zW (zB (zP rfl rfl) (zO rfl (zj (zm (yC hK10 (zG fun _ hK15=>zE rfl (zB (y5 rfl) (zD hK15 (y6 rfl rfl ?_))))))))))))
     refine zG fun _ hK16=>zO rfl (zD hK16 (zV (yD (zJ (yk (yD (zJ (zY (.inl rfl) results60 (zQ rfl) fun w1 hM=>?_))))))))
     exact zq (by rw [zZ.matches_stop hs1 (by (try simp at h2); (try simp at h3); simp [zZ.match1,h2,h3])]) hM
   refine zG fun _ hK17=>zB (yj rfl rfl) (zO rfl (zD hK17 (za rfl (fun h5=>?_) (fun h5=>?_))))
   · refine zL (zE rfl (zB (y5 rfl) (zE rfl (uP (t:=38) rfl (fun h6=>?_) (fun h6=>?_)))))
     · refine zW (zW (zW (zW (zB (zP rfl rfl) (zO rfl (zj (zm (yC hK10 (zG fun _ hK18=>zE rfl (zB (y5 rfl) (zD hK18 (yu rfl rfl ?_))))))))))))
       refine yV (zm (yC hK6 (zL (zB (zz rfl rfl (by omega)) (zE rfl (zj (yd (k + 1) (sc rfl (sc rfl (sc rfl (sc (ji (by omega)) sn)))) (S9 [1,2]) ?_ ?_)))))))
       · exact ⟨by omega,zZ.matches_step hs1 (by (try simp at h2); (try simp at h5); (try simp at h6); simp [zZ.match1,h2,h5,h6]) hI1.2⟩
       omega
     refine zd (zg rfl) (zd (zc rfl fld179_2) (zd (zi 0 rfl rfl rfl flat9) (zd (uy rfl rfl) (zB (zP rfl rfl) (zO rfl (zj (zm (yC hK10 (zG fun _ hK19=>zE rfl (zB (jM rfl) (zD hK19 (za rfl (fun h7=>?_) (fun h7=>?_)))))))))))))
     · refine zG fun _ hK20=>zO rfl (zD hK20 (zV (yD (zJ (yk (yD (zJ (zY (.inl rfl) results60 (zQ rfl) fun w1 hM=>?_))))))))
       exact zq (by rw [zZ.matches_stop hs1 (by (try simp at h2); (try simp at h5); (try simp at h6); (try simp at h7); simp [zZ.match1,h2,h5,h6,h7])]) hM
     refine yV (zm (yC hK6 (zL (zB (zz rfl rfl (by omega)) (zE rfl (zj (yd (k + 1) (sc rfl (sc rfl (sc rfl (sc (ji (by omega)) sn)))) (S9 [1,2]) ?_ ?_)))))))
     · exact ⟨by omega,zZ.matches_step hs1 (by (try simp at h2); (try simp at h5); (try simp at h6); (try simp at h7); simp [zZ.match1,h2,h5,h6,h7]) hI1.2⟩
     omega
   refine zG fun _ hK21=>zB (yj rfl rfl) (zO rfl (zD hK21 (za rfl (fun h8=>?_) (fun h8=>?_))))
   · refine zL (zE rfl (zO rfl (zj (zm (yC hK10 (zG fun _ hK22=>zE rfl (zB (y5 rfl) (zD hK22 (yl rfl (fun h9=>?_) (fun h9=>?_))))))))))
     · refine zG fun _ hK23=>zO rfl (zD hK23 (zV (yD (zJ (yk (yD (zJ (zY (.inl rfl) results60 (zQ rfl) fun w1 hM=>?_))))))))
       exact zq (by rw [zZ.matches_stop hs1 (by (try simp at h2); (try simp at h5); (try simp at h8); (try simp at h9); simp [zZ.match1,h2,h5,h8,h9])]) hM
     refine yV (zm (yC hK6 (zL (zB (zz rfl rfl (by omega)) (zE rfl (zj (yd (k + 1) (sc rfl (sc rfl (sc rfl (sc (ji (by omega)) sn)))) (S9 [1,2]) ?_ ?_)))))))
     · exact ⟨by omega,zZ.matches_step hs1 (by (try simp at h2); (try simp at h5); (try simp at h8); (try simp at h9); simp [zZ.match1,h2,h5,h8,h9]) hI1.2⟩
     omega
   refine zG fun _ hK24=>zB (yj rfl rfl) (zO rfl (zD hK24 (za rfl (fun h10=>?_) (fun h10=>?_))))
   · refine zL (zE rfl (zB (y5 rfl) (zO rfl (zj (zm (yC hK10 (zG fun _ hK25=>zE rfl (zB (y5 rfl) (zD hK25 (yl rfl (fun h11=>?_) (fun h11=>?_)))))))))))
     · refine zG fun _ hK26=>zO rfl (zD hK26 (zV (yD (zJ (yk (yD (zJ (zY (.inl rfl) results60 (zQ rfl) fun w1 hM=>?_))))))))
       exact zq (by rw [zZ.matches_stop hs1 (by (try simp at h2); (try simp at h5); (try simp at h8); (try simp at h10); (try simp at h11); simp [zZ.match1,h2,h5,h8,h10,h11])]) hM
     refine yV (zm (yC hK6 (zL (zB (zz rfl rfl (by omega)) (zE rfl (zj (yd (k + 1) (sc rfl (sc rfl (sc rfl (sc (ji (by omega)) sn)))) (S9 [1,2]) ?_ ?_)))))))
     · exact ⟨by omega,zZ.matches_step hs1 (by (try simp at h2); (try simp at h5); (try simp at h8); (try simp at h10); (try simp at h11); simp [zZ.match1,h2,h5,h8,h10,h11]) hI1.2⟩
     omega
   refine yV (zm (yC hK10 (zG fun _ hK27=>zE rfl (zB (y5 rfl) (zD hK27 (y6 rfl rfl (zG fun _ hK28=>zO rfl (zD hK28 (zV (yD (zJ (yk (yD (zJ (zY (.inl rfl) results60 (zQ rfl) fun w1 hM=>?_)))))))))))))))
   exact zq (by rw [zZ.matches_stop hs1 (by (try simp at h2); (try simp at h5); (try simp at h8); (try simp at h10); simp [zZ.match1,h2,h5,h8,h10])]) hM
 refine yc (yH (yn (yJ (yC hK2 (zG fun _ hK29=>zO rfl (zD hK29 (zV (zY (.inl rfl) results60 (zQ rfl) fun w1 hM=>?_))))))))
 exact zq (by rw [zZ.matches_done (by omega) hI1.2]) hM
theorem ur (s : ByteArray) (w : World)   :
    Calls prog 92 #[.string s] w (Ret w (.bool (zZ.named s))):=by
 refine fstart (N:=44) (vals:=[.string s]) (S:=Mem w no []) func92 rfl rfl rfl (Mem.ofDats dn) (zG fun _ hK1=>zO rfl (zD hK1 (zS fun _ hK2=>vm [(0,.string s),(12,.bool (decide (((s.size:Int) < 1)∨(12 < (s.size:Int)))))] (Mem w no []) (fun _ hK3=>?_) ?_)))
 · refine zL (zE rfl (zB (uR rfl underlying9) (zB (yR rfl rfl) (zE rfl (yQ (t:=8) rfl (fun h1=>?_) (fun h1=>?_))))))
   · refine zW (zW (zW (zB (zP rfl rfl) ?_)))
     refine zj (yi hK3 (sc rfl (sc (jt (Or.inl h1)) sn)) (fun _ h=>h))
   refine zd (zg rfl) (zd (uR rfl underlying9) (zd (y8 rfl rfl) (zB (zP rfl rfl) ?_)))
   refine zj (yi hK3 (sc rfl (sc (jp (iff_or_right h1 Iff.rfl)) sn)) (fun _ h=>h))
 refine za rfl (fun h2=>?_) (fun h2=>?_)
 · refine zG fun _ hK4=>zO rfl (zD hK4 (zV (zJ (zY (.inl rfl) results92 (zQ rfl) fun w1 hM=>?_))))
   exact zq (by unfold zZ.named; simp; omega) hM
 refine yL hK2 (zS fun _ hK5=>zG fun _ hK6=>zE rfl (zB (uR rfl underlying9) (zE rfl (zD hK6 (zl (vF (fun (k:Nat)=>[(0,.string s),(14,iV s.size),(15,iV k)]) (fun (k:Nat)=>[]) (fun (k:Nat)=>k≤s.size∧zZ.namedL 0 s.data.toList=zZ.namedL k (s.data.toList.drop k)) (fun (k:Nat)=>s.size - k) 0 (sc rfl (sc rfl (sc (ji (by omega)) sn))) (fun _ h=>h) ?_ (fun k hI1=>?_)))))))
 · simp
 refine zG fun _ hK7=>zB (yR rfl rfl) (zD hK7 (zS fun _ hK8=>za rfl (fun h3=>?_) (fun h3=>?_)))
 · refine yL hK8 (zS fun _ hK9=>zl (zG fun _ hK10=>zE rfl (zO rfl (zD hK10 (zG fun _ hK11=>zE rfl (zE rfl ?_))))))
   obtain ⟨c1,hc1⟩:∃ x,s[k]?=some x:=⟨_,byte_at (by first | omega | (simp <;> omega))⟩
   refine zB (jE rfl rfl (by omega) hc1 underlying9) (zO rfl (zD hK11 (vm [(0,.string s),(14,iV s.size),(15,iV k),(42,.bool (decide ((((c1.toNat:Int) < 97)∧(((k:Int)=0)∨((((c1.toNat:Int) < 48)∧((c1.toNat:Int)≠95))∨(¬ ((c1.toNat:Int) < 48)∧((57 < (c1.toNat:Int))∧((c1.toNat:Int)≠95))))))∨(¬ ((c1.toNat:Int) < 97)∧((122 < (c1.toNat:Int))∧(((k:Int)=0)∨((((c1.toNat:Int) < 48)∧((c1.toNat:Int)≠95))∨(¬ ((c1.toNat:Int) < 48)∧((57 < (c1.toNat:Int))∧((c1.toNat:Int)≠95))))))))))] (Mem w no []) (fun _ hK12=>?_) ?_)))
   · refine zL (zE rfl (zB (yR rfl rfl) (zE rfl (yQ (t:=23) rfl (fun h4=>?_) (fun h4=>?_)))))
     · refine zW (zW (zB (zP rfl rfl) (zE rfl (zd (zg rfl) (zd (yj rfl rfl) (zd (zg rfl) (yQ (t:=30) rfl (fun h5=>?_) (fun h5=>?_))))))))
       · refine zW (zW (zW (yz (wu rfl rfl) rfl (yz (wu rfl rfl) rfl (zW (zW (yz (wu rfl rfl) rfl (yz (wu rfl rfl) rfl (zW (zd (zP rfl rfl) (zB (zP rfl rfl) ?_)))))))))))
         refine zj (yi hK12 (sc rfl (sc rfl (sc rfl (sc (jt (Or.inl ⟨h4,(Or.inl h5)⟩)) sn)))) (fun _ h=>h))
       refine zd (zg rfl) (zd (yR rfl rfl) (zd (zg rfl) (yQ (t:=33) rfl (fun h6=>?_) (fun h6=>?_))))
       · refine zW (zW (zd (zP rfl rfl) (zd (zg rfl) (zd (zg rfl) (zd (vH rfl rfl) (zd (zP rfl rfl) (zd (zP rfl rfl) (zB (zP rfl rfl) ?_))))))))
         refine zj (yi hK12 (sc rfl (sc rfl (sc rfl (sc (jp (iff_ite_l h4 (iff_or_right h5 (iff_ite_l h6 Iff.rfl)))) sn)))) (fun _ h=>h))
       refine zd (zg rfl) (zd (y8 rfl rfl) (zd (zP rfl rfl) (zd (zg rfl) (yQ (t:=37) rfl (fun h7=>?_) (fun h7=>?_)))))
       · refine zd (zg rfl) (zd (vH rfl rfl) (zd (zP rfl rfl) (zd (zP rfl rfl) (zB (zP rfl rfl) ?_))))
         refine zj (yi hK12 (sc rfl (sc rfl (sc rfl (sc (jp (iff_ite_l h4 (iff_or_right h5 (iff_ite_r h6 (iff_and_right h7 Iff.rfl))))) sn)))) (fun _ h=>h))
       refine zW (zW (zd (zP rfl rfl) (zd (zP rfl rfl) (zB (zP rfl rfl) ?_))))
       refine zj (yi hK12 (sc rfl (sc rfl (sc rfl (sc (jf (fun g=>g.elim (fun k=>(fun g=>g.elim h5 (fun g=>g.elim (fun k=>h6 k.1) (fun k=>(fun g=>h7 g.1) k.2))) k.2) (fun k=>k.1 h4))) sn)))) (fun _ h=>h))
     refine zd (zg rfl) (zd (y8 rfl rfl) (zB (zP rfl rfl) (zE rfl (yQ (t:=27) rfl (fun h8=>?_) (fun h8=>?_)))))
     · refine zd (zg rfl) (zd (yj rfl rfl) (zd (zg rfl) (yQ (t:=30) rfl (fun h9=>?_) (fun h9=>?_))))
       · refine zW (zW (zW (yz (wu rfl rfl) rfl (yz (wu rfl rfl) rfl (zW (zW (yz (wu rfl rfl) rfl (yz (wu rfl rfl) rfl (zW (zd (zP rfl rfl) (zB (zP rfl rfl) ?_)))))))))))
         refine zj (yi hK12 (sc rfl (sc rfl (sc rfl (sc (jt (Or.inr ⟨h4,⟨h8,(Or.inl h9)⟩⟩)) sn)))) (fun _ h=>h))
       refine zd (zg rfl) (zd (yR rfl rfl) (zd (zg rfl) (yQ (t:=33) rfl (fun h10=>?_) (fun h10=>?_))))
       · refine zW (zW (zd (zP rfl rfl) (zd (zg rfl) (zd (zg rfl) (zd (vH rfl rfl) (zd (zP rfl rfl) (zd (zP rfl rfl) (zB (zP rfl rfl) ?_))))))))
         refine zj (yi hK12 (sc rfl (sc rfl (sc rfl (sc (jp (iff_ite_r h4 (iff_and_right h8 (iff_or_right h9 (iff_ite_l h10 Iff.rfl))))) sn)))) (fun _ h=>h))
       refine zd (zg rfl) (zd (y8 rfl rfl) (zd (zP rfl rfl) (zd (zg rfl) (yQ (t:=37) rfl (fun h11=>?_) (fun h11=>?_)))))
       · refine zd (zg rfl) (zd (vH rfl rfl) (zd (zP rfl rfl) (zd (zP rfl rfl) (zB (zP rfl rfl) ?_))))
         refine zj (yi hK12 (sc rfl (sc rfl (sc rfl (sc (jp (iff_ite_r h4 (iff_and_right h8 (iff_or_right h9 (iff_ite_r h10 (iff_and_right h11 Iff.rfl)))))) sn)))) (fun _ h=>h))
       refine zW (zW (zd (zP rfl rfl) (zd (zP rfl rfl) (zB (zP rfl rfl) ?_))))
       refine zj (yi hK12 (sc rfl (sc rfl (sc rfl (sc (jf (fun g=>g.elim (fun k=>h4 k.1) (fun k=>(fun g=>(fun g=>g.elim h9 (fun g=>g.elim (fun k=>h10 k.1) (fun k=>(fun g=>h11 g.1) k.2))) g.2) k.2))) sn)))) (fun _ h=>h))
     refine zW (zW (zW (yz (wu rfl rfl) rfl (yz (wu rfl rfl) rfl (yz (wu rfl rfl) rfl (yz (wu rfl rfl) rfl (yz (wu rfl rfl) rfl (yz (wu rfl rfl) rfl (yz (wu rfl rfl) rfl (yz (wu rfl rfl) rfl (yz (wu rfl rfl) rfl ?_)))))))))))
     refine yz (wu rfl rfl) rfl (zW (zB (zP rfl rfl) ?_))
     refine zj (yi hK12 (sc rfl (sc rfl (sc rfl (sc (jf (fun g=>g.elim (fun k=>h4 k.1) (fun k=>(fun g=>h8 g.1) k.2))) sn)))) (fun _ h=>h))
   refine za rfl (fun h12=>?_) (fun h12=>?_)
   · refine zG fun _ hK13=>zO rfl (zD hK13 (zV (yD (zJ (yk (yD (zJ (zY (.inl rfl) results92 (zQ rfl) fun w1 hM=>?_))))))))
     exact zq (by unfold zZ.named; rw [hI1.2,zZ.named_step hc1,decide_eq_false (show ¬ zZ.fineB k c1 from by unfold zZ.fineB; omega)]; simp) hM
   refine yV (zm (yC hK9 (zL (zB (zz rfl rfl (by omega)) (zE rfl (zj (yd (k + 1) (sc rfl (sc rfl (sc (ji (by omega)) sn))) (fun _ h=>h) ?_ ?_)))))))
   · exact ⟨by omega,by rw [hI1.2,zZ.named_step hc1,decide_eq_true (show zZ.fineB k c1 from by unfold zZ.fineB; omega),Bool.true_and]⟩
   omega
 refine yc (yH (yn (yJ (yC hK5 (zG fun _ hK14=>zO rfl (zD hK14 (zV (zY (.inl rfl) results92 (zQ rfl) fun w1 hM=>?_))))))))
 exact zq (by unfold zZ.named; rw [decide_eq_true (by omega),decide_eq_true (by omega),hI1.2,zZ.named_end (by omega)]; rfl) hM
theorem c_namesWrong (lv : Value) (l : List Label) (w : World) (hl : zK (In w) 2 zk lv l w)  :
    Calls prog 42 #[lv] w (Ret w (iV (zZ.wrong l))):=by
 obtain ⟨lA,lc,rfl,hlc,hlm,hlA⟩:=hl.form
 refine fstart (N:=39) (vals:=[.slice lA l.length lc]) (S:=Mem w no [slO (In w) 2 zk (.slice lA l.length lc) l]) func42 rfl rfl rfl (Mem.ofDats (dc (dl hl) dn)) (zG fun _ hK1=>zO rfl (zD hK1 (zS fun _ hK2=>zG fun _ hK3=>zE rfl (zB (yg rfl underlying39) (zB (y8 rfl rfl) (zD hK3 (za rfl (fun h1=>?_) (fun h1=>?_))))))))
 · refine zG fun _ hK4=>zO rfl (zD hK4 (zV (zJ (zY (.inl rfl) results42 (zQ rfl) fun w1 hM=>?_))))
   exact zq (by rw [zZ.wrong,if_pos (by omega)]) hM
 refine yL hK2 (zS fun _ hK5=>zG fun _ hK6=>zE rfl (zB (yg rfl underlying39) (zE rfl (zD hK6 (zl (vF (fun (k:Nat)=>[(0,.slice lA l.length lc),(8,.slice lA l.length lc),(9,iV l.length),(10,iV k)]) (fun (k:Nat)=>[slO (In w) 2 zk (.slice lA l.length lc) l]) (fun (k:Nat)=>k≤l.length∧zZ.wrongFrom none l=zZ.wrongFrom (zZ.prevOf l k) (l.drop k)) (fun (k:Nat)=>l.length - k) 0 (sc rfl (sc rfl (sc rfl (sc (ji (by omega)) sn)))) (fun _ h=>h) ?_ (fun k hI1=>?_)))))))
 · exact ⟨by omega,zZ.wrong_start l⟩
 refine zG fun _ hK7=>zB (yR rfl rfl) (zD hK7 (zS fun _ hK8=>za rfl (fun h2=>?_) (fun h2=>?_)))
 · refine yL hK8 (zS fun _ hK9=>zl (zG fun _ hK10=>zE rfl ?_))
   obtain ⟨ad1,hd1⟩:=hlA (ne_nil (i:=k) (by first | omega | (simp <;> omega)))
   refine zB (vC (i:=k) rfl hd1 rfl (by omega) (by first | omega | (simp <;> omega)) underlying39 inf74) ?_
   obtain ⟨s1,hs1⟩:∃ x,l[k]?=some x:=⟨_,List.getElem?_eq_getElem (by first | omega | (simp <;> omega))⟩
   refine zB (uG 0 [.string s1.key,.string s1.val] rfl rfl hd1 hs1 rfl rfl agg74 inf74) (zy wn inf74 rfl fun b4=>zO rfl (zn 0 wn rfl rfl rfl inf74 rfl rfl rfl (zD hK10 (zS fun _ hK11=>vm [(0,.slice lA l.length lc),(3,iV k),(4,.pointer (some ⟨b4,0,none⟩)),(8,.slice lA l.length lc),(9,iV l.length),(10,iV k),(24,.bool (decide (((!(zZ.named s1.key))=true)∨((!(zZ.named s1.val))=true))))] (Mem w no [.blk b4 [.string s1.key,.string s1.val] 74,slO (In w) 2 zk (.slice lA l.length lc) l]) (fun _ hK12=>?_) ?_))))
   · refine zL (zB (zc rfl fld74_0) (zB (zi 0 rfl rfl rfl flat9) (yF wn rfl call92 rfl (fun w1 hM=>ur s1.key w1) (zB (y5 rfl) (zE rfl (uP (t:=19) rfl (fun h3=>?_) (fun h3=>?_)))))))
     · refine zW (zW (zW (zW (zB (zP rfl rfl) ?_))))
       refine zj (yi hK12 (sc rfl (sc rfl (sc rfl (sc rfl (sc rfl (sc rfl (sc (jt (Or.inl h3)) sn))))))) (fun _ h=>h))
     refine zd (zc rfl fld74_1) (zd (zi 0 rfl rfl rfl flat9) (yF (wg rfl rfl rfl) rfl call92 rfl (fun w1 hM=>ur s1.val w1) (zd (y5 rfl) (zB (zP rfl rfl) ?_))))
     refine zj (yi hK12 (sc rfl (sc rfl (sc rfl (sc rfl (sc rfl (sc rfl (sc (jpb (iff_or_right h3 Iff.rfl)) sn))))))) (fun _ h=>h))
   refine za rfl (fun h4=>?_) (fun h4=>?_)
   · refine zG fun _ hK13=>zO rfl (zD hK13 (zV (zJ (yD (zJ (yk (yD (zJ (zY (.inl rfl) results42 (zQ rfl) fun w1 hM=>?_)))))))))
     exact zq (by rw [zZ.wrong,if_neg (by omega),hI1.2,zZ.wrong_step hs1,if_pos h4]) hM
   refine yL hK11 (zS fun _ hK14=>vN mix (by kernel_rfl) (fun _ h=>h.drew) (yq rfl (zt (y8 rfl rfl) (yq rfl (vg (t:=27) rfl (fun h5=>?_) (fun h5=>?_))))))
   · refine yK (zg rfl) (yK (zg rfl) (yK (vl rfl rfl (by omega)) (yK (vC (i:=(k - 1)) rfl hd1 rfl (by omega) (by first | omega | (simp <;> omega)) underlying39 inf74) (yK (y0 rfl fld74_0) ?_))))
     obtain ⟨s2,hs2⟩:∃ x,l[(k - 1)]?=some x:=⟨_,List.getElem?_eq_getElem (by first | omega | (simp <;> omega))⟩
     refine yK (gC 1 rfl rfl hd1 hs2 rfl flat9) (yK (zc rfl fld74_0) (yK (zi 0 rfl rfl rfl flat9) (yK (r_sgeq' rfl rfl) (zt (zP rfl rfl) (vI (yC hK14 (yl rfl (fun h6=>?_) (fun h6=>?_))))))))
     · refine zG fun _ hK15=>zO rfl (zD hK15 (zV (yD (zJ (yk (yD (zJ (zY (.inl rfl) results42 (zQ rfl) fun w1 hM=>?_))))))))
       exact zq (by rw [zZ.wrong,if_neg (by omega),hI1.2,zZ.wrong_step hs1,if_neg h4,if_pos (by rw [zZ.prevOf,if_neg (by omega),hs2]; simpa [zZ.behind] using h6)]) hM
     refine yV (zm (yC hK9 (zL (zB (zz rfl rfl (by omega)) (zE rfl (zj (yd (k + 1) (sc rfl (sc rfl (sc rfl (sc (ji (by omega)) sn)))) (S9 [1]) ?_ ?_)))))))
     · exact ⟨by omega,by rw [hI1.2,zZ.wrong_step hs1,if_neg h4,if_neg (by rw [zZ.prevOf,if_neg (by omega),hs2]; simpa [zZ.behind] using h6)]⟩
     omega
   refine yA (yA (yA (yA (yA (yA (yA (yA (yA (zt (zP rfl rfl) (vI (yC hK14 (yu rfl rfl ?_))))))))))))
   refine yV (zm (yC hK9 (zL (zB (zz rfl rfl (by omega)) (zE rfl (zj (yd (k + 1) (sc rfl (sc rfl (sc rfl (sc (ji (by omega)) sn)))) (S9 [1]) ?_ ?_)))))))
   · exact ⟨by omega,by rw [hI1.2,zZ.wrong_step hs1,if_neg h4,if_neg (by rw [zZ.prevOf,if_pos (by omega)]; simp [zZ.behind])]⟩
   omega
 refine yc (yH (yn (yJ (yC hK5 (zG fun _ hK16=>zO rfl (zD hK16 (zV (zY (.inl rfl) results42 (zQ rfl) fun w1 hM=>?_))))))))
 exact zq (by rw [zZ.wrong,if_neg (by omega),hI1.2,zZ.wrong_end (by omega)]) hM
theorem c_index (lv : Value) (l : List ByteArray) (v : ByteArray) (w : World) (hl : zK (In w) 1 strE lv l w)  :
    Calls prog 185 #[lv,.string v] w (Ret w (iV (zZ.indexOf l v 0))):=by
 obtain ⟨lA,lc,rfl,hlc,hlm,hlA⟩:=hl.form
 refine fstart (N:=19) (vals:=[.slice lA l.length lc,.string v]) (S:=Mem w no [slO (In w) 1 strE (.slice lA l.length lc) l]) func185 rfl rfl rfl (Mem.ofDats (dc (dl hl) dn)) (zG fun _ hK1=>zO rfl (zD hK1 (zS fun _ hK2=>zG fun _ hK3=>zE rfl (zB (yg rfl underlying56) (zE rfl (zD hK3 (zl (vF (fun (k:Nat)=>[(0,.slice lA l.length lc),(1,.string v),(7,iV l.length),(8,iV k)]) (fun (k:Nat)=>[slO (In w) 1 strE (.slice lA l.length lc) l]) (fun (k:Nat)=>k≤l.length∧zZ.indexOf l v 0=zZ.indexOf (l.drop k) v k) (fun (k:Nat)=>l.length - k) 0 (sc rfl (sc rfl (sc rfl (sc (ji (by omega)) sn)))) (fun _ h=>h) ?_ (fun k hI1=>?_)))))))))
 · simp
 refine zG fun _ hK4=>zB (yR rfl rfl) (zD hK4 (zS fun _ hK5=>za rfl (fun h1=>?_) (fun h1=>?_)))
 · refine yL hK5 (zS fun _ hK6=>zl (zG fun _ hK7=>zE rfl (zO rfl (zD hK7 (zG fun _ hK8=>zE rfl (zE rfl (zE rfl ?_)))))))
   obtain ⟨ad1,hd1⟩:=hlA (ne_nil (i:=k) (by first | omega | (simp <;> omega)))
   refine zB (vC (i:=k) rfl hd1 rfl (by omega) (by first | omega | (simp <;> omega)) underlying56 inf9) ?_
   obtain ⟨s1,hs1⟩:∃ x,l[k]?=some x:=⟨_,List.getElem?_eq_getElem (by first | omega | (simp <;> omega))⟩
   refine zB (gC 0 rfl rfl hd1 hs1 rfl flat9) (zB (vd rfl rfl) (zD hK8 (za rfl (fun h2=>?_) (fun h2=>?_))))
   · refine zG fun _ hK9=>zE rfl (zO rfl (zD hK9 (zV (yD (zJ (yk (yD (zJ (zY (.inl rfl) results185 (zQ rfl) fun w1 hM=>?_)))))))))
     exact zq (by rw [hI1.2,zZ.index_step hs1,if_pos h2]) hM
   refine yV (zm (yC hK6 (zL (zB (zz rfl rfl (by omega)) (zE rfl (zj (yd (k + 1) (sc rfl (sc rfl (sc rfl (sc (ji (by omega)) sn)))) (fun _ h=>h) ?_ ?_)))))))
   · exact ⟨by omega,by rw [hI1.2,zZ.index_step hs1,if_neg h2]⟩
   omega
 refine yc (yH (yn (yJ (yC hK2 (zG fun _ hK10=>zO rfl (zD hK10 (zV (zY (.inl rfl) results185 (zQ rfl) fun w1 hM=>?_))))))))
 exact zq (by rw [hI1.2,zZ.index_end (by omega)]) hM
theorem uN (lv : Value) (l : List ByteArray) (v : ByteArray) (w : World) (hl : zK (In w) 1 strE lv l w)  :
    Calls prog 150 #[lv,.string v] w (Ret w (.bool (decide (0≤zZ.indexOf l v 0)))):=by
 obtain ⟨lA,lc,rfl,hlc,hlm,hlA⟩:=hl.form
 refine fstart (N:=9) (vals:=[.slice lA l.length lc,.string v]) (S:=Mem w no [slO (In w) 1 strE (.slice lA l.length lc) l]) func150 rfl rfl rfl (Mem.ofDats (dc (dl hl) dn)) (zG fun _ hK1=>zO rfl (zD hK1 (zG fun _ hK2=>zE rfl (zE rfl (yF wn rfl call185 rfl (fun w1 hM=>c_index _ l v w1 (hM.sl 0 rfl)) (zB (vn rfl rfl) (zO rfl (zD hK2 (zV (zY (.inl rfl) results150 (zQ rfl) fun w1 hM=>?_))))))))))
 exact zq rfl hM
theorem c_only (lv : Value) (l : List Label) (by_v : Value) (by_ : List ByteArray) (w : World) (hl : zK (In w) 2 zk lv l w) (hby_ : zK (In w) 1 strE by_v by_ w) (hl1 : l.length ≤ 1048576) :
    Calls prog 188 #[lv,by_v] w (RetL w 74 2 zk (zZ.only l by_)):=by
 obtain ⟨lA,lc,rfl,hlc,hlm,hlA⟩:=hl.form
 obtain ⟨by_A,by_c,rfl,hby_c,hby_m,hby_A⟩:=hby_.form
 refine fstart (N:=24) (vals:=[.slice lA l.length lc,.slice by_A by_.length by_c]) (S:=Mem w no [slO (In w) 2 zk (.slice lA l.length lc) l,slO (In w) 1 strE (.slice by_A by_.length by_c) by_]) func188 rfl rfl rfl (Mem.ofDats (dc (dl hl) (dc (dl hby_) dn))) (zG fun _ hK1=>vB (zk:Label→List Value) 74 2 (zO rfl (zD hK1 (zG fun _ hK2=>vB (zk:Label→List Value) 74 2 (zO rfl (zD hK2 (zS fun _ hK3=>zG fun _ hK4=>zE rfl ?_)))))))
 refine zB (yg rfl underlying39) (zE rfl (zD hK4 (zl (uO (fun (k:Nat) (vr:Value)=>[(1,.slice by_A by_.length by_c),(5,vr),(8,.slice lA l.length lc),(9,iV l.length),(10,iV k)]) (fun (k:Nat) (vr:Value)=>[Row vr 74 2 zk (zZ.only (l.take k) by_),Row (Zs) 74 2 zk ([]:List Label),slO (In w) 2 zk (.slice lA l.length lc) l,slO (In w) 1 strE (.slice by_A by_.length by_c) by_]) (fun (k:Nat) (vr:Value)=>k≤l.length) (fun (k:Nat) (vr:Value)=>l.length - k) 0 (Zs) (sc rfl (sc rfl (sc rfl (sc rfl (sc (ji (by omega)) sn))))) (fun _ h=>h) ?_ (fun k vr hI1=>?_)))))
 · omega
 have hlen:=Nat.le_trans (zZ.only_len (l.take k) by_) (List.length_take_le k l)
 refine vV 0 (l:=(zZ.only (l.take k) by_)) rfl fun A1 cp1 hv1 hc1 hm1 hA1=>?_
 subst hv1
 refine zG fun _ hK5=>zB (yR rfl rfl) (zD hK5 (zS fun _ hK6=>za rfl (fun h1=>?_) (fun h1=>?_)))
 · refine yL hK6 (zS fun _ hK7=>zl (zG fun _ hK8=>?_))
   obtain ⟨ad1,hd1⟩:=hlA (ne_nil (i:=k) (by first | omega | (simp <;> omega)))
   refine zB (vC (i:=k) rfl hd1 rfl (by omega) (by first | omega | (simp <;> omega)) underlying39 inf74) ?_
   obtain ⟨s1,hs1⟩:∃ x,l[k]?=some x:=⟨_,List.getElem?_eq_getElem (by first | omega | (simp <;> omega))⟩
   refine zB (uG 2 [.string s1.key,.string s1.val] rfl rfl hd1 hs1 rfl rfl agg74 inf74) (zy wn inf74 rfl fun b7=>zn 0 wn rfl rfl rfl inf74 rfl rfl rfl (zD hK8 (zG fun _ hK9=>zE rfl (zB (zc rfl fld74_0) (zB (zi 0 rfl rfl rfl flat9) (yF wn rfl call150 rfl (fun w1 hM=>uN _ by_ s1.key w1 (hM.sl 4 rfl)) (zD hK9 (za rfl (fun h2=>?_) (fun h2=>?_)))))))))
   · refine zL (zE rfl (zB (yM 0 [.string s1.key,.string s1.val] rfl rfl rfl rfl agg74 inf74) (yt zk ([s1]:List Label) wn underlying39 inf74 rfl rfl rfl rfl (by decide) (by decide) rfl fun b20=>vD 2 (zZ.only (l.take k) by_) ([s1]:List Label) encLabel wn rfl rfl rfl (fun _ hM=>(RowSl encLabel hM 0 rfl)) underlying39 inf74 rfl rfl (by simp only [List.length_append,List.length_cons,List.length_nil]; omega) rfl fun A2 cp2 hc2 hm2 hA2=>zO rfl (zj (zm (yC hK7 (zL (zB (zz rfl rfl (by omega)) (zE rfl (zj (vZ (k + 1) (.slice A2 (((zZ.only (l.take k) by_)++([s1]:List Label)).length) cp2) (sc rfl (sc rfl (sc rfl (sc rfl (sc (ji (by omega)) sn))))) (fun _ h=>by rw [(zZ.only_succ hs1).trans (if_pos h2)]; exact (h.sel [2,3,4,5] (by decide) rfl)) ?_ ?_)))))))))))
     · omega
     omega
   refine yV (zm (yC hK7 (zL (zB (zz rfl rfl (by omega)) (zE rfl (zj (vZ (k + 1) (.slice A1 ((zZ.only (l.take k) by_).length) cp1) (sc rfl (sc rfl (sc rfl (sc rfl (sc (ji (by omega)) sn))))) (fun _ h=>by rw [(zZ.only_succ hs1).trans (if_neg h2)]; exact (h.sel [1,2,3,4] (by decide) rfl)) ?_ ?_)))))))
   · omega
   omega
 refine yc (yH (vz (yJ (yC hK3 (zG fun _ hK10=>zE rfl (zO rfl (zD hK10 (zV (zY (.inl rfl) results188 (zQ rfl) fun w1 hM=>?_)))))))))
 exact hM.ue 0 rfl (by rw [List.take_of_length_le (by omega)])
end
section
open Tryz
open Ex
set_option linter.unusedVariables false
set_option linter.unusedSimpArgs false
theorem ub (lv : Value) (l : List Sample) (w : World) (hl : zK (In w) 2 zr lv l w)  :
    Calls prog 43 #[lv] w (Ret w (.agg (faultE (Codec.wrong l)).toArray)):=by
 obtain ⟨lA,lc,rfl,hlc,hlm,hlA⟩:=hl.form
 refine fstart (N:=53) (vals:=[.slice lA l.length lc]) (S:=Mem w no [slO (In w) 2 zr (.slice lA l.length lc) l]) func43 rfl rfl rfl (Mem.ofDats (dc (dl hl) dn)) (zG fun _ hK1=>zy wn inf61 rfl fun b2=>zD hK1 (zS fun _ hK2=>zG fun _ hK3=>zE rfl (zB (yg rfl underlying47) (zB (y8 rfl rfl) (zD hK3 (za rfl (fun h1=>?_) (fun h1=>?_)))))))
 · refine zG fun _ hK4=>zB (zw [iV 5,iV 0] pl61 inf61 rfl rfl) (zn 0 wn rfl rfl rfl inf61 rfl rfl rfl (zD hK4 (zV (zJ (zY (.inl rfl) results43 (zo 0 rfl rfl agg61 inf61 rfl) fun w1 hM=>?_)))))
   exact vq (l1:=[iV 5,iV 0]) (by rw [Codec.wrong,if_pos (by omega)]) hM
 refine yL hK2 (zS fun _ hK5=>zG fun _ hK6=>zE rfl (zB (yg rfl underlying47) (zE rfl (zD hK6 (zl (vF (fun (k:Nat)=>[(0,.slice lA l.length lc),(2,.pointer (some ⟨b2,0,none⟩)),(9,.slice lA l.length lc),(10,iV l.length),(11,iV k)]) (fun (k:Nat)=>[.blk b2 [iV 0,iV 0] 61,slO (In w) 2 zr (.slice lA l.length lc) l]) (fun (k:Nat)=>k≤l.length∧Codec.wrongFrom 0 none l=Codec.wrongFrom k (Codec.prevOf l k) (l.drop k)) (fun (k:Nat)=>l.length - k) 0 (sc rfl (sc rfl (sc rfl (sc rfl (sc (ji (by omega)) sn))))) (fun _ h=>h) ?_ (fun k hI1=>?_)))))))
 · exact ⟨by omega,Codec.wrong_start l⟩
 refine zG fun _ hK7=>zB (yR rfl rfl) (zD hK7 (zS fun _ hK8=>za rfl (fun h2=>?_) (fun h2=>?_)))
 · refine yL hK8 (zS fun _ hK9=>zl (zG fun _ hK10=>zE rfl ?_))
   obtain ⟨ad1,hd1⟩:=hlA (ne_nil (i:=k) (by first | omega | (simp <;> omega)))
   refine zB (vC (i:=k) rfl hd1 rfl (by omega) (by first | omega | (simp <;> omega)) underlying47 inf41) ?_
   obtain ⟨s1,hs1⟩:∃ x,l[k]?=some x:=⟨_,List.getElem?_eq_getElem (by first | omega | (simp <;> omega))⟩
   refine zB (uG 1 [iV s1.time,iV s1.value] rfl rfl hd1 hs1 rfl rfl agg41 inf41) (zy wn inf41 rfl fun b4=>zO rfl (zn 0 wn rfl rfl rfl inf41 rfl rfl rfl (zD hK10 (zS fun _ hK11=>vm [(0,.slice lA l.length lc),(2,.pointer (some ⟨b2,0,none⟩)),(3,iV k),(4,.pointer (some ⟨b4,0,none⟩)),(9,.slice lA l.length lc),(10,iV l.length),(11,iV k),(33,.bool (decide ((s1.time < 0)∨((1000000 < s1.time)∨((s1.value < (-1000000000))∨(1000000000 < s1.value))))))] (Mem w no [.blk b4 [iV s1.time,iV s1.value] 41,.blk b2 [iV 0,iV 0] 61,slO (In w) 2 zr (.slice lA l.length lc) l]) (fun _ hK12=>?_) ?_))))
   · refine zL (zB (zc rfl fld41_0) (zB (zi 0 rfl rfl rfl flat3) (zB (yR rfl rfl) (zE rfl (yQ (t:=19) rfl (fun h3=>?_) (fun h3=>?_))))))
     · refine zW (zW (zW (zB (zP rfl rfl) (zE rfl (zW (zW (zW (zB (zP rfl rfl) (zE rfl (zW (zW ?_)))))))))))
       refine zW (zB (zP rfl rfl) ?_)
       refine zj (yi hK12 (sc rfl (sc rfl (sc rfl (sc rfl (sc rfl (sc rfl (sc rfl (sc (jt (Or.inl h3)) sn)))))))) (fun _ h=>h))
     refine zd (zc rfl fld41_0) (zd (zi 0 rfl rfl rfl flat3) (zd (y8 rfl rfl) (zB (zP rfl rfl) (zE rfl (yQ (t:=24) rfl (fun h4=>?_) (fun h4=>?_))))))
     · refine zW (zW (zW (zB (zP rfl rfl) (zE rfl (zW (zW (zW (zB (zP rfl rfl) ?_))))))))
       refine zj (yi hK12 (sc rfl (sc rfl (sc rfl (sc rfl (sc rfl (sc rfl (sc rfl (sc (jt (Or.inr (Or.inl h4))) sn)))))))) (fun _ h=>h))
     refine zd (zc rfl fld41_1) (zd (zi 0 rfl rfl rfl flat3) (zd (yR rfl rfl) (zB (zP rfl rfl) (zE rfl (yQ (t:=29) rfl (fun h5=>?_) (fun h5=>?_))))))
     · refine zW (zW (zW (zB (zP rfl rfl) ?_)))
       refine zj (yi hK12 (sc rfl (sc rfl (sc rfl (sc rfl (sc rfl (sc rfl (sc rfl (sc (jt (Or.inr (Or.inr (Or.inl h5)))) sn)))))))) (fun _ h=>h))
     refine zd (zc rfl fld41_1) (zd (zi 0 rfl rfl rfl flat3) (zd (y8 rfl rfl) (zB (zP rfl rfl) ?_)))
     refine zj (yi hK12 (sc rfl (sc rfl (sc rfl (sc rfl (sc rfl (sc rfl (sc rfl (sc (jp (iff_or_right h3 (iff_or_right h4 (iff_or_right h5 Iff.rfl)))) sn)))))))) (fun _ h=>h))
   refine za rfl (fun h6=>?_) (fun h6=>?_)
   · refine zG fun _ hK13=>zE rfl (zB (zw [iV 3,iV k] pl61 inf61 rfl rfl) (zn 1 wn rfl rfl rfl inf61 rfl rfl rfl (zD hK13 (zV (zJ (yD (zJ (yk (yD (zJ (zY (.inl rfl) results43 (zo 1 rfl rfl agg61 inf61 rfl) fun w1 hM=>?_)))))))))))
     exact vq (l1:=[iV 3,iV k]) (by rw [Codec.wrong,if_neg (by omega),hI1.2,Codec.wrong_step hs1,if_pos (by unfold Codec.badRange; omega)]) hM
   refine yL hK11 (zS fun _ hK14=>vN mix (by kernel_rfl) (fun _ h=>h.drew) (yq rfl (zt (y8 rfl rfl) (yq rfl (vg (t:=38) rfl (fun h7=>?_) (fun h7=>?_))))))
   · refine yK (zg rfl) (yK (zg rfl) (yK (vl rfl rfl (by omega)) (yK (vC (i:=(k - 1)) rfl hd1 rfl (by omega) (by first | omega | (simp <;> omega)) underlying47 inf41) (yK (y0 rfl fld41_0) ?_))))
     obtain ⟨s2,hs2⟩:∃ x,l[(k - 1)]?=some x:=⟨_,List.getElem?_eq_getElem (by first | omega | (simp <;> omega))⟩
     refine yK (gC 2 rfl rfl hd1 hs2 rfl flat3) (yK (zc rfl fld41_0) (yK (zi 0 rfl rfl rfl flat3) (yK (vn rfl rfl) (zt (zP rfl rfl) (vI (yC hK14 (za rfl (fun h8=>?_) (fun h8=>?_))))))))
     · refine zG fun _ hK15=>zE rfl (zB (zw [iV 2,iV k] pl61 inf61 rfl rfl) (zn 1 wn rfl rfl rfl inf61 rfl rfl rfl (zD hK15 (zV (yD (zJ (yk (yD (zJ (zY (.inl rfl) results43 (zo 1 rfl rfl agg61 inf61 rfl) fun w1 hM=>?_))))))))))
       exact vq (l1:=[iV 2,iV k]) (by rw [Codec.wrong,if_neg (by omega),hI1.2,Codec.wrong_step hs1,if_neg (by unfold Codec.badRange; omega),if_pos (by rw [Codec.prevOf,if_neg (by omega),hs2]; simp [Codec.notAhead]; omega)]) hM
     refine yV (zm (yC hK9 (zL (zB (zz rfl rfl (by omega)) (zE rfl (zj (yd (k + 1) (sc rfl (sc rfl (sc rfl (sc rfl (sc (ji (by omega)) sn))))) (S9 [1,2]) ?_ ?_)))))))
     · exact ⟨by omega,by rw [hI1.2,Codec.wrong_step hs1,if_neg (by unfold Codec.badRange; omega),if_neg (by rw [Codec.prevOf,if_neg (by omega),hs2]; simp [Codec.notAhead]; omega)]⟩
     omega
   refine yA (yA (yA (yA (yA (yA (yA (yA (yA (zt (zP rfl rfl) (vI (yC hK14 (yu rfl rfl ?_))))))))))))
   refine yV (zm (yC hK9 (zL (zB (zz rfl rfl (by omega)) (zE rfl (zj (yd (k + 1) (sc rfl (sc rfl (sc rfl (sc rfl (sc (ji (by omega)) sn))))) (S9 [1,2]) ?_ ?_)))))))
   · exact ⟨by omega,by rw [hI1.2,Codec.wrong_step hs1,if_neg (by unfold Codec.badRange; omega),if_neg (by rw [Codec.prevOf,if_pos (by omega)]; simp [Codec.notAhead])]⟩
   omega
 refine yc (yH (yn (yJ (yC hK5 (zG fun _ hK16=>zB (zw [iV 0,iV 0] pl61 inf61 rfl rfl) (zn 0 wn rfl rfl rfl inf61 rfl rfl rfl (zD hK16 (zV (zY (.inl rfl) results43 (zo 0 rfl rfl agg61 inf61 rfl) fun w1 hM=>?_)))))))))
 exact vq (l1:=[iV 0,iV 0]) (by rw [Codec.wrong,if_neg (by omega),hI1.2,Codec.wrong_end (by omega)]) hM
end
section
open Tryz
open Ex
set_option linter.unusedVariables false
set_option linter.unusedSimpArgs false
theorem c_within1 (x : Bucket) (fp : Nat) (f : Int) (tp : Nat) (t : Int) (w : World) (hfp : w.heap[fp]? = some (.cells [iV f].toArray 3 (0, 0))) (htp : w.heap[tp]? = some (.cells [iV t].toArray 3 (0, 0)))  :
    Calls prog 95 #[.agg (zU x).toArray,.pointer (some ⟨fp,0,none⟩),.pointer (some ⟨tp,0,none⟩)] w (Ret w (.bool (!decide (f≤x.at_∧x.at_ < t)))):=by
 refine fstart (N:=15) (vals:=[.agg (zU x).toArray,.pointer (some ⟨fp,0,none⟩),.pointer (some ⟨tp,0,none⟩)]) (S:=Mem w no [datB fp [iV f] 3,datB tp [iV t] 3]) func95 rfl rfl rfl (Mem.ofDats (dc (ddb hfp) (dc (ddb htp) dn))) (zG fun _ hK1=>vR wn rfl rfl fun b3=>zO rfl (zD hK1 (zG fun _ hK2=>zB (zc rfl fld163_0) (zB (zi 0 rfl rfl rfl flat3) (zB (vw 1 rfl rfl rfl flat3) (zB (yR rfl rfl) (zE rfl (yQ (t:=9) rfl (fun h1=>?_) (fun h1=>?_)))))))))
 · refine zW (zW (zW (zW (zB (zP rfl rfl) (zO rfl (zD hK2 (zV (zY (.inl rfl) results95 (zQ rfl) fun w1 hM=>?_))))))))
   exact zq (congrArg Value.bool (by rw [Bool.eq_iff_iff]; simp; omega)) hM
 refine zd (zc rfl fld163_0) (zd (zi 0 rfl rfl rfl flat3) (zd (vw 2 rfl rfl rfl flat3) (zd (vn rfl rfl) (zB (zP rfl rfl) (zO rfl (zD hK2 (zV (zY (.inl rfl) results95 (zQ rfl) fun w1 hM=>?_))))))))
 exact zq (congrArg Value.bool (by rw [Bool.eq_iff_iff]; simp; omega)) hM
theorem c_idxS (lv : Value) (l : List Sample) (f : Nat) (fcap : Array Value) (fp : Sample → Bool) (w : World) (hl : zK (In w) 2 zr lv l w) (fc : ∀ vs w, (callFunc f vs).run prog w = .ok (.enter f vs) w) (fh : ∀ (x : Sample) (w1 : World), Fr no w w1 → Calls prog f (#[.agg (zr x).toArray] ++ fcap) w1 (Ret w1 (.bool (fp x))))  :
    Calls prog 168 #[lv,.func (.func f) #[] fcap] w (Ret w (iV (Sh.idx fp l))):=by
 obtain ⟨lA,lc,rfl,hlc,hlm,hlA⟩:=hl.form
 refine fstart (N:=19) (vals:=[.slice lA l.length lc,.func (.func f) #[] fcap]) (S:=Mem w no [slO (In w) 2 zr (.slice lA l.length lc) l]) func168 rfl rfl rfl (Mem.ofDats (dc (dl hl) dn)) (zG fun _ hK1=>zO rfl (zD hK1 (zS fun _ hK2=>zG fun _ hK3=>zE rfl (zB (yg rfl underlying47) (zE rfl (zD hK3 (zl (vF (fun (k:Nat)=>[(0,.slice lA l.length lc),(1,.func (.func f) #[] fcap),(7,iV l.length),(8,iV k)]) (fun (k:Nat)=>[slO (In w) 2 zr (.slice lA l.length lc) l]) (fun (k:Nat)=>k≤l.length∧∀ y ∈ l.take k,fp y=false) (fun (k:Nat)=>l.length - k) 0 (sc rfl (sc rfl (sc rfl (sc (ji (by omega)) sn)))) (fun _ h=>h) ?_ (fun k hI1=>?_)))))))))
 · simp
 refine zG fun _ hK4=>zB (yR rfl rfl) (zD hK4 (zS fun _ hK5=>za rfl (fun h1=>?_) (fun h1=>?_)))
 · refine yL hK5 (zS fun _ hK6=>zl (zG fun _ hK7=>zE rfl (zO rfl (zD hK7 (zG fun _ hK8=>zE rfl (zE rfl (zE rfl ?_)))))))
   obtain ⟨ad1,hd1⟩:=hlA (ne_nil (i:=k) (by first | omega | (simp <;> omega)))
   refine zB (vC (i:=k) rfl hd1 rfl (by omega) (by first | omega | (simp <;> omega)) underlying47 inf41) ?_
   obtain ⟨s1,hs1⟩:∃ x,l[k]?=some x:=⟨_,List.getElem?_eq_getElem (by first | omega | (simp <;> omega))⟩
   refine zB (uG 0 [iV s1.time,iV s1.value] rfl rfl hd1 hs1 rfl rfl agg41 inf41) (uH wn rfl rfl fc rfl (fun w1 hM=>fh s1 w1 hM.fr) (zD hK8 (yl rfl (fun h2=>?_) (fun h2=>?_))))
   · refine zG fun _ hK9=>zE rfl (zO rfl (zD hK9 (zV (yD (zJ (yk (yD (zJ (zY (.inl rfl) results168 (zQ rfl) fun w1 hM=>?_)))))))))
     exact zq (by rw [Sh.idx_at hI1.2 hs1 h2]) hM
   refine yV (zm (yC hK6 (zL (zB (zz rfl rfl (by omega)) (zE rfl (zj (yd (k + 1) (sc rfl (sc rfl (sc rfl (sc (ji (by omega)) sn)))) (fun _ h=>h) ?_ ?_)))))))
   · exact ⟨by omega,Sh.none_step hI1.2 hs1 h2⟩
   omega
 refine yc (yH (yn (yJ (yC hK2 (zG fun _ hK10=>zO rfl (zD hK10 (zV (zY (.inl rfl) results168 (zQ rfl) fun w1 hM=>?_))))))))
 exact zq (by rw [Sh.idx_none hI1.2 (by omega)]) hM
theorem c_idxB (lv : Value) (l : List Bucket) (f : Nat) (fcap : Array Value) (fp : Bucket → Bool) (w : World) (hl : zK (In w) 8 zU lv l w) (fc : ∀ vs w, (callFunc f vs).run prog w = .ok (.enter f vs) w) (fh : ∀ (x : Bucket) (w1 : World), Fr no w w1 → Calls prog f (#[.agg (zU x).toArray] ++ fcap) w1 (Ret w1 (.bool (fp x))))  :
    Calls prog 146 #[lv,.func (.func f) #[] fcap] w (Ret w (iV (Sh.idx fp l))):=by
 obtain ⟨lA,lc,rfl,hlc,hlm,hlA⟩:=hl.form
 refine fstart (N:=19) (vals:=[.slice lA l.length lc,.func (.func f) #[] fcap]) (S:=Mem w no [slO (In w) 8 zU (.slice lA l.length lc) l]) func146 rfl rfl rfl (Mem.ofDats (dc (dl hl) dn)) (zG fun _ hK1=>zO rfl (zD hK1 (zS fun _ hK2=>zG fun _ hK3=>zE rfl (zB (yg rfl underlying48) (zE rfl (zD hK3 (zl (vF (fun (k:Nat)=>[(0,.slice lA l.length lc),(1,.func (.func f) #[] fcap),(7,iV l.length),(8,iV k)]) (fun (k:Nat)=>[slO (In w) 8 zU (.slice lA l.length lc) l]) (fun (k:Nat)=>k≤l.length∧∀ y ∈ l.take k,fp y=false) (fun (k:Nat)=>l.length - k) 0 (sc rfl (sc rfl (sc rfl (sc (ji (by omega)) sn)))) (fun _ h=>h) ?_ (fun k hI1=>?_)))))))))
 · simp
 refine zG fun _ hK4=>zB (yR rfl rfl) (zD hK4 (zS fun _ hK5=>za rfl (fun h1=>?_) (fun h1=>?_)))
 · refine yL hK5 (zS fun _ hK6=>zl (zG fun _ hK7=>zE rfl (zO rfl (zD hK7 (zG fun _ hK8=>zE rfl (zE rfl (zE rfl ?_)))))))
   obtain ⟨ad1,hd1⟩:=hlA (ne_nil (i:=k) (by first | omega | (simp <;> omega)))
   refine zB (vC (i:=k) rfl hd1 rfl (by omega) (by first | omega | (simp <;> omega)) underlying48 inf163) ?_
   obtain ⟨s1,hs1⟩:∃ x,l[k]?=some x:=⟨_,List.getElem?_eq_getElem (by first | omega | (simp <;> omega))⟩
   refine zB (uG 0 [iV s1.at_,iV s1.sum.count,iV s1.sum.total,iV s1.sum.min,iV s1.sum.max,iV s1.sum.first,iV s1.sum.last,iV s1.sum.rise] rfl rfl hd1 hs1 rfl rfl agg163 inf163) (uH wn rfl rfl fc rfl (fun w1 hM=>fh s1 w1 hM.fr) (zD hK8 (yl rfl (fun h2=>?_) (fun h2=>?_))))
   · refine zG fun _ hK9=>zE rfl (zO rfl (zD hK9 (zV (yD (zJ (yk (yD (zJ (zY (.inl rfl) results146 (zQ rfl) fun w1 hM=>?_)))))))))
     exact zq (by rw [Sh.idx_at hI1.2 hs1 h2]) hM
   refine yV (zm (yC hK6 (zL (zB (zz rfl rfl (by omega)) (zE rfl (zj (yd (k + 1) (sc rfl (sc rfl (sc rfl (sc (ji (by omega)) sn)))) (fun _ h=>h) ?_ ?_)))))))
   · exact ⟨by omega,Sh.none_step hI1.2 hs1 h2⟩
   omega
 refine yc (yH (yn (yJ (yC hK2 (zG fun _ hK10=>zO rfl (zD hK10 (zV (zY (.inl rfl) results146 (zQ rfl) fun w1 hM=>?_))))))))
 exact zq (by rw [Sh.idx_none hI1.2 (by omega)]) hM
theorem c_delS (lv : Value) (l : List Sample) (f : Nat) (fcap : Array Value) (fp : Sample → Bool) (w : World) (hl : w.ownsRow 0 41 2 lv l.length (l.flatMap zr)) (fc : ∀ vs w, (callFunc f vs).run prog w = .ok (.enter f vs) w) (fh : ∀ (x : Sample) (w1 : World), Fr (fun b => lv.ownBlock = some b) w w1 → Calls prog f (#[.agg (zr x).toArray] ++ fcap) w1 (Ret w1 (.bool (fp x))))  :
    Calls prog 122 #[lv,.func (.func f) #[] fcap] w (RetU w lv 41 2 zr (l.filter fun x=>!fp x)):=by
 refine fstart (N:=42) (vals:=[lv,.func (.func f) #[] fcap]) (S:=Mem w (fun b=>lv.ownBlock=some b) [Row lv 41 2 zr l]) func122 rfl rfl rfl (Mem.ownArg hl) (vV 0 (l:=l) rfl fun A0 cp0 hv0 hc0 hm0 hA0=>?_)
 subst hv0
 refine zG fun _ hK1=>zO rfl (zD hK1 (zG fun _ hK2=>zE rfl (zE rfl (yF wn rfl call168 rfl (fun w1 hM=>c_idxS _ l f fcap fp w1 (RowSl encSample hM 0 rfl) fc (fun x w2 h2=>fh x w2 (hM.fr.trans h2 (fun _ _ h=>h.elim)))) (zO rfl (zD hK2 (zS fun _ hK3=>zG fun _ hK4=>zE rfl ?_)))))))
 refine zB (yj rfl rfl) (zD hK4 (za rfl (fun h1=>?_) (fun h1=>?_)))
 · refine zG fun _ hK5=>zE rfl (zO rfl (zD hK5 (zV (zJ (zY (.inl rfl) results122 (zQ rfl) fun w1 hM=>?_)))))
   exact hM.jU 0 rfl ((List.filter_eq_self.2 fun y hy=>by rcases Sh.idx_cases fp l with h | ⟨i,x,h,_⟩; exact (by simp [h.2 y hy]); omega).symm)
 obtain ⟨ni,⟨n,xn,hi,hxn,hpn,hnn⟩⟩:Sh.idx fp l≠-1∧∃ (i:Nat) (x:Sample),Sh.idx fp l=(i:Int)∧l[i]?=some x∧fp x=true∧∀ y ∈ l.take i,fp y=false:=⟨h1,(Sh.idx_cases fp l).resolve_left (fun e=>h1 e.1)⟩
 have hnl:=(List.getElem?_eq_some_iff.1 hxn).1
 refine yL hK3 (zS fun _ hK6=>zG fun _ hK7=>zE rfl (zB (zz rfl rfl (by omega)) (zO rfl (zD hK7 (zl (uI (fun (i:Nat) (j:Nat) (r:List Sample) (vr:Value)=>[(0,vr),(1,.func (.func f) #[] fcap),(5,iV i),(6,iV j)]) (fun (i:Nat) (j:Nat) (r:List Sample) (vr:Value)=>[Row vr 41 2 zr r]) (fun (i:Nat) (j:Nat) (r:List Sample) (vr:Value)=>Sh.Del fp l r i j) (fun (i:Nat) (j:Nat) (r:List Sample) (vr:Value)=>l.length - j) n (n + 1) l (.slice A0 l.length cp0) (sc rfl (sc rfl (sc (ji (by omega)) (sc (ji (by omega)) sn)))) (fun _ h=>h) ?_ (fun i j r vr hI1=>?_)))))))
 · exact Sh.Del.start hxn hpn hnn
 have hlt:=hI1.lt
 have hle:=hI1.le
 have hlen:=hI1.len
 refine vV 0 (l:=r) rfl fun A1 cp1 hv1 hc1 hm1 hA1=>?_
 subst hv1
 refine zS fun _ hK8=>zG fun _ hK9=>zE rfl (zE rfl (zB (yg rfl underlying47) (zB (yR rfl rfl) (zD hK9 (za rfl (fun h2=>?_) (fun h2=>?_))))))
 · refine yL hK8 (zS fun _ hK10=>zl (zG fun _ hK11=>zE rfl (zE rfl ?_)))
   obtain ⟨ad1,hd1⟩:=hA1 (ne_nil (i:=j) (by first | omega | (simp <;> omega)))
   refine zB (vC (i:=j) rfl hd1 rfl (by omega) (by first | omega | (simp <;> omega)) underlying47 inf41) ?_
   obtain ⟨s1,hs1⟩:∃ x,r[j]?=some x:=⟨_,List.getElem?_eq_getElem (by first | omega | (simp <;> omega))⟩
   refine zB (u9 0 [iV s1.time,iV s1.value] encSample rfl rfl hd1 hs1 rfl rfl agg41 inf41) (zy wn inf41 rfl fun b7=>zn 0 wn rfl rfl rfl inf41 rfl rfl rfl (zD hK11 (zG fun _ hK12=>zE rfl (zB (yM 0 [iV s1.time,iV s1.value] rfl rfl rfl rfl agg41 inf41) (uH wn rfl rfl fc rfl (fun w1 hM=>fh s1 w1 hM.fr) (zB (y5 rfl) (zD hK12 (yl rfl (fun h3=>?_) (fun h3=>?_)))))))))
   · refine zG fun _ hK13=>zE rfl (zE rfl (zB (yM 0 [iV s1.time,iV s1.value] rfl rfl rfl rfl agg41 inf41) (zB (vC (i:=i) rfl hd1 rfl (by omega) (by first | omega | (simp <;> omega)) underlying47 inf41) ?_)))
     obtain ⟨s2,hs2⟩:∃ x,r[i]?=some x:=⟨_,List.getElem?_eq_getElem (by first | omega | (simp <;> omega))⟩
     refine uw 1 (vs:=[iV s1.time,iV s1.value]) s1 encSample wn rfl rfl rfl rfl hd1 hs2 inf41 rfl rfl rfl rfl (zD hK13 (zL (zE rfl (zB (zz rfl rfl (by omega)) (zO rfl (zj (zm (yC hK10 (zL (zE rfl (zB (zz rfl rfl (by omega)) (zO rfl (zj (vW (i + 1) (j + 1) (r.set i s1) (.slice A1 r.length cp1) (sc rfl (sc rfl (sc (ji (by omega)) (sc (ji (by omega)) sn)))) (S9 [1]) ?_ ?_))))))))))))))
     · exact hI1.keep hs1 (by simpa using h3)
     omega
   refine yV (zm (yC hK10 (zL (zE rfl (zB (zz rfl rfl (by omega)) (zO rfl (zj (vW i (j + 1) r (.slice A1 r.length cp1) (sc rfl (sc rfl (sc rfl (sc (ji (by omega)) sn)))) (S9 [1]) ?_ ?_))))))))
   · exact hI1.drop hs1 (by simpa using h3)
   omega
 refine yc (yH (v7 (yJ (yC hK6 (zG fun _ hK14=>zE rfl (zE rfl (zB (jm (lo:=i) (hi:=r.length) rfl (lo1 rfl (by omega)) hi0 (by first | omega | (simp <;> omega)) (by first | omega | (simp <;> omega)) (by first | omega | (simp <;> omega)) underlying47 inf41) ?_)))))))
 obtain ⟨ad2,hd2⟩:=hA1 (ne_nil (i:=i) (by first | omega | (simp <;> omega)))
 refine l_clear 0 (lo:=i) encSample wn rfl rfl hd2 underlying47 inf41 rfl rfl (by first | omega | (simp <;> omega)) (zD hK14 (zG fun _ hK15=>zE rfl (zE rfl (zB (r_take (hi:=i) (r.take i) rfl (hi1 rfl (by omega)) (by first | omega | (simp <;> omega)) (by first | omega | (simp <;> omega)) (by simp only [List.length_take]; omega) underlying47 inf41) (zO rfl (zD hK15 (zV (zY (.inl rfl) results122 (zQ rfl) fun w1 hM=>?_))))))))
 exact hM.jU 0 rfl (hI1.done (by omega))
theorem jJ (lv : Value) (l : List Bucket) (f : Nat) (fcap : Array Value) (fp : Bucket → Bool) (w : World) (hl : w.ownsRow 0 163 8 lv l.length (l.flatMap zU)) (fc : ∀ vs w, (callFunc f vs).run prog w = .ok (.enter f vs) w) (fh : ∀ (x : Bucket) (w1 : World), Fr (fun b => lv.ownBlock = some b) w w1 → Calls prog f (#[.agg (zU x).toArray] ++ fcap) w1 (Ret w1 (.bool (fp x))))  :
    Calls prog 125 #[lv,.func (.func f) #[] fcap] w (RetU w lv 163 8 zU (l.filter fun x=>!fp x)):=by
 refine fstart (N:=42) (vals:=[lv,.func (.func f) #[] fcap]) (S:=Mem w (fun b=>lv.ownBlock=some b) [Row lv 163 8 zU l]) func125 rfl rfl rfl (Mem.ownArg hl) (vV 0 (l:=l) rfl fun A0 cp0 hv0 hc0 hm0 hA0=>?_)
 subst hv0
 refine zG fun _ hK1=>zO rfl (zD hK1 (zG fun _ hK2=>zE rfl (zE rfl (yF wn rfl call146 rfl (fun w1 hM=>c_idxB _ l f fcap fp w1 (RowSl encBucket hM 0 rfl) fc (fun x w2 h2=>fh x w2 (hM.fr.trans h2 (fun _ _ h=>h.elim)))) (zO rfl (zD hK2 (zS fun _ hK3=>zG fun _ hK4=>zE rfl ?_)))))))
 refine zB (yj rfl rfl) (zD hK4 (za rfl (fun h1=>?_) (fun h1=>?_)))
 · refine zG fun _ hK5=>zE rfl (zO rfl (zD hK5 (zV (zJ (zY (.inl rfl) results125 (zQ rfl) fun w1 hM=>?_)))))
   exact hM.jU 0 rfl ((List.filter_eq_self.2 fun y hy=>by rcases Sh.idx_cases fp l with h | ⟨i,x,h,_⟩; exact (by simp [h.2 y hy]); omega).symm)
 obtain ⟨ni,⟨n,xn,hi,hxn,hpn,hnn⟩⟩:Sh.idx fp l≠-1∧∃ (i:Nat) (x:Bucket),Sh.idx fp l=(i:Int)∧l[i]?=some x∧fp x=true∧∀ y ∈ l.take i,fp y=false:=⟨h1,(Sh.idx_cases fp l).resolve_left (fun e=>h1 e.1)⟩
 have hnl:=(List.getElem?_eq_some_iff.1 hxn).1
 refine yL hK3 (zS fun _ hK6=>zG fun _ hK7=>zE rfl (zB (zz rfl rfl (by omega)) (zO rfl (zD hK7 (zl (uI (fun (i:Nat) (j:Nat) (r:List Bucket) (vr:Value)=>[(0,vr),(1,.func (.func f) #[] fcap),(5,iV i),(6,iV j)]) (fun (i:Nat) (j:Nat) (r:List Bucket) (vr:Value)=>[Row vr 163 8 zU r]) (fun (i:Nat) (j:Nat) (r:List Bucket) (vr:Value)=>Sh.Del fp l r i j) (fun (i:Nat) (j:Nat) (r:List Bucket) (vr:Value)=>l.length - j) n (n + 1) l (.slice A0 l.length cp0) (sc rfl (sc rfl (sc (ji (by omega)) (sc (ji (by omega)) sn)))) (fun _ h=>h) ?_ (fun i j r vr hI1=>?_)))))))
 · exact Sh.Del.start hxn hpn hnn
 have hlt:=hI1.lt
 have hle:=hI1.le
 have hlen:=hI1.len
 refine vV 0 (l:=r) rfl fun A1 cp1 hv1 hc1 hm1 hA1=>?_
 subst hv1
 refine zS fun _ hK8=>zG fun _ hK9=>zE rfl (zE rfl (zB (yg rfl underlying48) (zB (yR rfl rfl) (zD hK9 (za rfl (fun h2=>?_) (fun h2=>?_))))))
 · refine yL hK8 (zS fun _ hK10=>zl (zG fun _ hK11=>zE rfl (zE rfl ?_)))
   obtain ⟨ad1,hd1⟩:=hA1 (ne_nil (i:=j) (by first | omega | (simp <;> omega)))
   refine zB (vC (i:=j) rfl hd1 rfl (by omega) (by first | omega | (simp <;> omega)) underlying48 inf163) ?_
   obtain ⟨s1,hs1⟩:∃ x,r[j]?=some x:=⟨_,List.getElem?_eq_getElem (by first | omega | (simp <;> omega))⟩
   refine zB (u9 0 [iV s1.at_,iV s1.sum.count,iV s1.sum.total,iV s1.sum.min,iV s1.sum.max,iV s1.sum.first,iV s1.sum.last,iV s1.sum.rise] encBucket rfl rfl hd1 hs1 rfl rfl agg163 inf163) (zy wn inf163 rfl fun b7=>zn 0 wn rfl rfl rfl inf163 rfl rfl rfl (zD hK11 (zG fun _ hK12=>zE rfl (zB (yM 0 [iV s1.at_,iV s1.sum.count,iV s1.sum.total,iV s1.sum.min,iV s1.sum.max,iV s1.sum.first,iV s1.sum.last,iV s1.sum.rise] rfl rfl rfl rfl agg163 inf163) (uH wn rfl rfl fc rfl (fun w1 hM=>fh s1 w1 hM.fr) (zB (y5 rfl) (zD hK12 (yl rfl (fun h3=>?_) (fun h3=>?_)))))))))
   · refine zG fun _ hK13=>zE rfl (zE rfl (zB (yM 0 [iV s1.at_,iV s1.sum.count,iV s1.sum.total,iV s1.sum.min,iV s1.sum.max,iV s1.sum.first,iV s1.sum.last,iV s1.sum.rise] rfl rfl rfl rfl agg163 inf163) (zB (vC (i:=i) rfl hd1 rfl (by omega) (by first | omega | (simp <;> omega)) underlying48 inf163) ?_)))
     obtain ⟨s2,hs2⟩:∃ x,r[i]?=some x:=⟨_,List.getElem?_eq_getElem (by first | omega | (simp <;> omega))⟩
     refine uw 1 (vs:=[iV s1.at_,iV s1.sum.count,iV s1.sum.total,iV s1.sum.min,iV s1.sum.max,iV s1.sum.first,iV s1.sum.last,iV s1.sum.rise]) s1 encBucket wn rfl rfl rfl rfl hd1 hs2 inf163 rfl rfl rfl rfl (zD hK13 (zL (zE rfl (zB (zz rfl rfl (by omega)) (zO rfl (zj (zm (yC hK10 (zL (zE rfl (zB (zz rfl rfl (by omega)) (zO rfl (zj (vW (i + 1) (j + 1) (r.set i s1) (.slice A1 r.length cp1) (sc rfl (sc rfl (sc (ji (by omega)) (sc (ji (by omega)) sn)))) (S9 [1]) ?_ ?_))))))))))))))
     · exact hI1.keep hs1 (by simpa using h3)
     omega
   refine yV (zm (yC hK10 (zL (zE rfl (zB (zz rfl rfl (by omega)) (zO rfl (zj (vW i (j + 1) r (.slice A1 r.length cp1) (sc rfl (sc rfl (sc rfl (sc (ji (by omega)) sn)))) (S9 [1]) ?_ ?_))))))))
   · exact hI1.drop hs1 (by simpa using h3)
   omega
 refine yc (yH (v7 (yJ (yC hK6 (zG fun _ hK14=>zE rfl (zE rfl (zB (jm (lo:=i) (hi:=r.length) rfl (lo1 rfl (by omega)) hi0 (by first | omega | (simp <;> omega)) (by first | omega | (simp <;> omega)) (by first | omega | (simp <;> omega)) underlying48 inf163) ?_)))))))
 obtain ⟨ad2,hd2⟩:=hA1 (ne_nil (i:=i) (by first | omega | (simp <;> omega)))
 refine l_clear 0 (lo:=i) encBucket wn rfl rfl hd2 underlying48 inf163 rfl rfl (by first | omega | (simp <;> omega)) (zD hK14 (zG fun _ hK15=>zE rfl (zE rfl (zB (r_take (hi:=i) (r.take i) rfl (hi1 rfl (by omega)) (by first | omega | (simp <;> omega)) (by first | omega | (simp <;> omega)) (by simp only [List.length_take]; omega) underlying48 inf163) (zO rfl (zD hK15 (zV (zY (.inl rfl) results125 (zQ rfl) fun w1 hM=>?_))))))))
 exact hM.jU 0 rfl (hI1.done (by omega))
theorem c_contB (lv : Value) (l : List Bucket) (f : Nat) (fcap : Array Value) (fp : Bucket → Bool) (w : World) (hl : zK (In w) 8 zU lv l w) (fc : ∀ vs w, (callFunc f vs).run prog w = .ok (.enter f vs) w) (fh : ∀ (x : Bucket) (w1 : World), Fr no w w1 → Calls prog f (#[.agg (zU x).toArray] ++ fcap) w1 (Ret w1 (.bool (fp x))))  :
    Calls prog 94 #[lv,.func (.func f) #[] fcap] w (Ret w (.bool (l.any fp))):=by
 obtain ⟨lA,lc,rfl,hlc,hlm,hlA⟩:=hl.form
 refine fstart (N:=9) (vals:=[.slice lA l.length lc,.func (.func f) #[] fcap]) (S:=Mem w no [slO (In w) 8 zU (.slice lA l.length lc) l]) func94 rfl rfl rfl (Mem.ofDats (dc (dl hl) dn)) (zG fun _ hK1=>zO rfl (zD hK1 (zG fun _ hK2=>zE rfl (zE rfl (yF wn rfl call146 rfl (fun w1 hM=>c_idxB _ l f fcap fp w1 (hM.sl 0 rfl) fc (fun x w2 h2=>fh x w2 (hM.fr.trans h2 (fun _ _ h=>h)))) (zB (vn rfl rfl) (zO rfl (zD hK2 (zV (zY (.inl rfl) results94 (zQ rfl) fun w1 hM=>?_))))))))))
 exact zq (congrArg Value.bool (by rw [Bool.eq_iff_iff,decide_eq_true_iff]; exact Sh.idx_any)) hM
theorem jB (lv : Value) (l : List Bucket) (f : Int) (t : Int) (w : World) (hl : zK (In w) 8 zU lv l w)  :
    Calls prog 46 #[lv,iV f,iV t] w (Ret w (.bool (Sh.within l f t))):=by
 obtain ⟨lA,lc,rfl,hlc,hlm,hlA⟩:=hl.form
 refine fstart (N:=11) (vals:=[.slice lA l.length lc,iV f,iV t]) (S:=Mem w no [slO (In w) 8 zU (.slice lA l.length lc) l]) func46 rfl rfl rfl (Mem.ofDats (dc (dl hl) dn)) (zG fun _ hK1=>jF wn rfl rfl rfl fun b4=>jF wn rfl rfl rfl fun b5=>zO rfl (zD hK1 (zG fun _ hK2=>zE rfl (zB (ve rfl rfl) (yF wn rfl call94 rfl (fun w1 hM=>c_contB _ l 95 #[.pointer (some ⟨b4,0,none⟩),.pointer (some ⟨b5,0,none⟩)] (fun x=>!decide (f≤x.at_∧x.at_ < t)) w1 (hM.sl 2 rfl) call95 (fun x w2 h2=>by simpa using c_within1 x b4 f b5 t w2 (hM.blkKeep (i:=1) rfl h2) (hM.blkKeep (i:=0) rfl h2))) (zB (y5 rfl) (zO rfl ?_)))))))
 refine zD hK2 (zV (zY (.inl rfl) results46 (zQ rfl) fun w1 hM=>?_))
 exact zq (congrArg Value.bool (by rw [Sh.within,List.all_eq_not_any_not])) hM
theorem c_times (zp : Nat) (z0 : Value) (z1 : Value) (z2 : Value) (z3 : Value) (z : Shelf) (w : World) (hzp : w.heap[zp]? = some (.cells [z0, z1, z2, z3, iV z.ze, iV z.zX, iV z.zI, iV z.zN, iV z.zH].toArray 50 (0, 0)))  :
    Calls prog 45 #[.pointer (some ⟨zp,0,none⟩)] w (Ret w (.bool (decide (Sh.times z)))):=by
 refine fstart (N:=99) (vals:=[.pointer (some ⟨zp,0,none⟩)]) (S:=Mem w no [datB zp [z0,z1,z2,z3,iV z.ze,iV z.zX,iV z.zI,iV z.zN,iV z.zH] 50]) func45 rfl rfl rfl (Mem.ofDats (dc (ddb hzp) dn)) (zG fun _ hK1=>zO rfl (zD hK1 (zS fun _ hK2=>zS fun _ hK3=>vG (Mem w no [datB zp [z0,z1,z2,z3,iV z.ze,iV z.zX,iV z.zI,iV z.zN,iV z.zH] 50]) mix (fun _ h=>h.drew) rfl (ux (f:=2) [0,1,2,3,4,5,6,7,8,9,10,11,12,13,14,15,16,17,20] rfl rfl (by kernel_rfl) (by kernel_rfl) (fun _ h=>h) fun KS hKS=>yB (zg rfl) (yB (zR rfl) (yB (zc rfl fld50_5) (yB (vw 0 rfl rfl rfl flat3) ?_)))))))
 refine yB (zg rfl) (yB (zR rfl) (yB (zc rfl fld50_6) (yB (vw 0 rfl rfl rfl flat3) (yB (zw [iV z.zX,iV z.zI,iV 10] pl164 inf164 rfl rfl) (yB (zg rfl) (yB (zR rfl) (yB (zc rfl fld50_7) (yB (vw 0 rfl rfl rfl flat3) (yB (zg rfl) (yB (zR rfl) (yB (zc rfl fld50_8) ?_)))))))))))
 refine yB (vw 0 rfl rfl rfl flat3) (yB (zw [iV z.zN,iV z.zH,iV 60] pl164 inf164 rfl rfl) (yB (zg rfl) (yZ hKS (yW 1 18 (yX (i:=18) rfl fun KN hKN=>yt triE ([(⟨z.zX,z.zI,10⟩:Tri),(⟨z.zN,z.zH,60⟩:Tri)]:List Tri) wn underlying165 inf164 rfl rfl rfl rfl (by decide) (by decide) rfl fun b23=>yP hKN [1] (vE 0 [19] [1] rfl fun KS hKS=>yB (yg rfl underlying165) (yZ hKS (yp (by kernel_rfl) (yC hK3 ?_)))))))))
 refine zl (vF (fun (k:Nat)=>[(0,.pointer (some ⟨zp,0,none⟩)),(23,.slice (some ⟨b23,0,none⟩) 2 2),(24,iV 2),(25,iV k)]) (fun (k:Nat)=>[Row (.slice (some ⟨b23,0,none⟩) 2 2) 164 3 triE ([(⟨z.zX,z.zI,10⟩:Tri),(⟨z.zN,z.zH,60⟩:Tri)]:List Tri),datB zp [z0,z1,z2,z3,iV z.ze,iV z.zX,iV z.zI,iV z.zN,iV z.zH] 50]) (fun (k:Nat)=>k≤2∧∀ (j:Nat) (y:Tri),j < k→[(⟨z.zX,z.zI,10⟩:Tri),(⟨z.zN,z.zH,60⟩:Tri)][j]?=some y→¬ Sh.badT y) (fun (k:Nat)=>2 - k) 0 (sc rfl (sc rfl (sc rfl (sc (ji (by omega)) sn)))) (fun _ h=>h) ?_ (fun k hI1=>?_))
 · exact ⟨by omega,fun j y h=>absurd h (Nat.not_lt_zero j)⟩
 refine zG fun _ hK4=>zB (yR rfl rfl) (zD hK4 (zS fun _ hK5=>za rfl (fun h1=>?_) (fun h1=>?_)))
 · refine yL hK5 (zS fun _ hK6=>zl (zG fun _ hK7=>zB (vC (i:=k) rfl rfl rfl (by omega) (by first | omega | (simp <;> omega)) underlying165 inf164) ?_))
   obtain ⟨s1,hs1⟩:∃ x,([(⟨z.zX,z.zI,10⟩:Tri),(⟨z.zN,z.zH,60⟩:Tri)]:List Tri)[k]?=some x:=⟨_,List.getElem?_eq_getElem (by first | omega | (simp <;> omega))⟩
   have hsc:0 < s1.c:=by rcases Sh.two hs1 with e | e <;> rw [e] <;> simp
   refine zB (u9 0 [iV s1.a,iV s1.b,iV s1.c] encTri rfl rfl rfl hs1 rfl rfl agg164 inf164) (zy wn inf164 rfl fun b4=>zn 0 wn rfl rfl rfl inf164 rfl rfl rfl (zD hK7 (zG fun _ hK8=>zB (zc rfl fld164_0) (zB (zi 0 rfl rfl rfl flat3) (zB (yR rfl rfl) (zE rfl (yQ (t:=32) rfl (fun h2=>?_) (fun h2=>?_))))))))
   · refine zW (zW (zW (zW (zW (zB (zP rfl rfl) (zE rfl (zW (zW (zW (zB (zP rfl rfl) (zE rfl ?_)))))))))))
     refine zW (zW (zW (zW (zW (zW (zB (zP rfl rfl) (zE rfl (zW (zW (zW (zW ?_)))))))))))
     refine zW (zW (zB (zP rfl rfl) (zD hK8 (y6 rfl rfl (zG fun _ hK9=>zO rfl (zD hK9 (zV (yD (zJ (yk (yD (zJ (zY (.inl rfl) results45 (zQ rfl) fun w1 hM=>?_)))))))))))))
     have hb:Sh.badT s1:=by unfold Sh.badT; omega
     exact zq (congrArg Value.bool (decide_eq_false (fun h=>by rcases Sh.two hs1 with e | e <;> rw [e] at hb <;> first | exact h.1.1 hb | exact h.1.2 hb)).symm) hM
   refine zd (zc rfl fld164_0) (zd (zi 0 rfl rfl rfl flat3) (zd (zc rfl fld164_1) (zd (zi 0 rfl rfl rfl flat3) (zd (y8 rfl rfl) (zB (zP rfl rfl) (zE rfl (yQ (t:=39) rfl (fun h3=>?_) (fun h3=>?_))))))))
   · refine zW (zW (zW (zB (zP rfl rfl) (zE rfl (zW (zW (zW (zW (zW (zW (zB (zP rfl rfl) ?_)))))))))))
     refine zE rfl (zW (zW (zW (zW (zW (zW (zB (zP rfl rfl) (zD hK8 (y6 rfl rfl (zG fun _ hK10=>zO rfl ?_))))))))))
     refine zD hK10 (zV (yD (zJ (yk (yD (zJ (zY (.inl rfl) results45 (zQ rfl) fun w1 hM=>?_)))))))
     have hb:Sh.badT s1:=by unfold Sh.badT; omega
     exact zq (congrArg Value.bool (decide_eq_false (fun h=>by rcases Sh.two hs1 with e | e <;> rw [e] at hb <;> first | exact h.1.1 hb | exact h.1.2 hb)).symm) hM
   refine zd (zc rfl fld164_1) (zd (zi 0 rfl rfl rfl flat3) (zd (y8 rfl rfl) (zB (zP rfl rfl) (zE rfl (yQ (t:=44) rfl (fun h4=>?_) (fun h4=>?_))))))
   · refine zW (zW (zW (zW (zW (zW (zB (zP rfl rfl) (zE rfl (zW (zW (zW (zW ?_)))))))))))
     refine zW (zW (zB (zP rfl rfl) (zD hK8 (y6 rfl rfl (zG fun _ hK11=>zO rfl (zD hK11 (zV (yD (zJ (yk (yD (zJ (zY (.inl rfl) results45 (zQ rfl) fun w1 hM=>?_)))))))))))))
     have hb:Sh.badT s1:=by unfold Sh.badT; omega
     exact zq (congrArg Value.bool (decide_eq_false (fun h=>by rcases Sh.two hs1 with e | e <;> rw [e] at hb <;> first | exact h.1.1 hb | exact h.1.2 hb)).symm) hM
   refine zd (zc rfl fld164_0) (zd (zi 0 rfl rfl rfl flat3) (zd (zc rfl fld164_2) (zd (zi 0 rfl rfl rfl flat3) (zd (jD rfl rfl (by omega) (by omega)) (zd (vH rfl rfl) (zB (zP rfl rfl) (zE rfl (yQ (t:=52) rfl (fun h5=>?_) (fun h5=>?_)))))))))
   · refine zW (zW (zW (zW (zW (zW (zB (zP rfl rfl) (zD hK8 (y6 rfl rfl (zG fun _ hK12=>zO rfl (zD hK12 ?_))))))))))
     refine zV (yD (zJ (yk (yD (zJ (zY (.inl rfl) results45 (zQ rfl) fun w1 hM=>?_))))))
     have hb:Sh.badT s1:=by unfold Sh.badT; omega
     exact zq (congrArg Value.bool (decide_eq_false (fun h=>by rcases Sh.two hs1 with e | e <;> rw [e] at hb <;> first | exact h.1.1 hb | exact h.1.2 hb)).symm) hM
   refine zd (zc rfl fld164_1) (zd (zi 0 rfl rfl rfl flat3) (zd (zc rfl fld164_2) (zd (zi 0 rfl rfl rfl flat3) (zd (jD rfl rfl (by omega) (by omega)) (zd (vH rfl rfl) (zB (zP rfl rfl) (zD hK8 (za rfl (fun h6=>?_) (fun h6=>?_)))))))))
   · refine zG fun _ hK13=>zO rfl (zD hK13 (zV (yD (zJ (yk (yD (zJ (zY (.inl rfl) results45 (zQ rfl) fun w1 hM=>?_))))))))
     have hb:Sh.badT s1:=by unfold Sh.badT; omega
     exact zq (congrArg Value.bool (decide_eq_false (fun h=>by rcases Sh.two hs1 with e | e <;> rw [e] at hb <;> first | exact h.1.1 hb | exact h.1.2 hb)).symm) hM
   refine yV (zm (yC hK6 (zL (zB (zz rfl rfl (by omega)) (zE rfl (zj (yd (k + 1) (sc rfl (sc rfl (sc rfl (sc (ji (by omega)) sn)))) (S9 [1,2]) ?_ ?_)))))))
   · refine ⟨by omega,fun j y hj hy=>?_⟩
     rcases Nat.lt_or_ge j k with h | h
     · exact hI1.2 j y h hy
     obtain rfl:j=k:=by omega
     obtain rfl:s1=y:=Option.some.inj (hs1.symm.trans hy)
     unfold Sh.badT; omega
   omega
 refine yc (yH (yn (yJ (yC hK2 (zS fun _ hK14=>vN mix (by kernel_rfl) (fun _ h=>h.drew) (yq rfl (zt (zR rfl) (zt (zc rfl fld50_4) (zt (vw 1 rfl rfl rfl flat3) (zt (vn rfl rfl) (yq rfl (vg (t:=66) rfl (fun h7=>?_) (fun h7=>?_)))))))))))))
 · refine yK (zg rfl) (yK (zR rfl) (yK (zc rfl fld50_4) (yK (vw 1 rfl rfl rfl flat3) (yK (zg rfl) (yK (zR rfl) (yK (zc rfl fld50_6) (yK (vw 1 rfl rfl rfl flat3) (yK (ug rfl rfl) (zt (zP rfl rfl) (yq rfl (vg (t:=77) rfl (fun h8=>?_) (fun h8=>?_))))))))))))
   · refine yK (zg rfl) (yK (zR rfl) (yK (zc rfl fld50_5) (yK (vw 1 rfl rfl rfl flat3) (yK (zg rfl) (yK (zR rfl) (yK (zc rfl fld50_8) (yK (vw 1 rfl rfl rfl flat3) (yK (ug rfl rfl) (zt (zP rfl rfl) (yq rfl (vg (t:=88) rfl (fun h9=>?_) (fun h9=>?_))))))))))))
     · refine yK (zg rfl) (yK (zR rfl) (yK (zc rfl fld50_8) (yK (vw 1 rfl rfl rfl flat3) (yK (zg rfl) (yK (zR rfl) (yK (zc rfl fld50_6) (yK (vw 1 rfl rfl rfl flat3) (yK (ug rfl rfl) (zt (zP rfl rfl) (zt (yf rfl) (vI (yC hK14 ?_))))))))))))
       refine zV (zY (.inl rfl) results45 (zQ rfl) fun w1 hM=>?_)
       have hAB:¬ Sh.badT ⟨z.zX,z.zI,10⟩∧¬ Sh.badT ⟨z.zN,z.zH,60⟩:=⟨hI1.2 0 _ (by omega) rfl,hI1.2 1 _ (by omega) rfl⟩
       exact zq (congrArg Value.bool (decide_eq_decide.2 (by rw [Sh.times,and_iff_right hAB]; omega))) hM
     refine yA (yA (yA (yA (yA (yA (yA (yA (yA (zt (zP rfl rfl) (zt (yf rfl) (vI (yC hK14 ?_))))))))))))
     refine zV (zY (.inl rfl) results45 (zQ rfl) fun w1 hM=>?_)
     have hAB:¬ Sh.badT ⟨z.zX,z.zI,10⟩∧¬ Sh.badT ⟨z.zN,z.zH,60⟩:=⟨hI1.2 0 _ (by omega) rfl,hI1.2 1 _ (by omega) rfl⟩
     exact zq (congrArg Value.bool (decide_eq_false (fun h=>by have:=h.2; omega)).symm) hM
   refine yA (yA (yA (yA (yA (yA (yA (yA (yA (zt (zP rfl rfl) (yq rfl (yA ?_)))))))))))
   refine yA (yA (yA (yA (yA (yA (yA (yA (zt (zP rfl rfl) (zt (yf rfl) (vI (yC hK14 (zV (zY (.inl rfl) results45 (zQ rfl) fun w1 hM=>?_)))))))))))))
   have hAB:¬ Sh.badT ⟨z.zX,z.zI,10⟩∧¬ Sh.badT ⟨z.zN,z.zH,60⟩:=⟨hI1.2 0 _ (by omega) rfl,hI1.2 1 _ (by omega) rfl⟩
   exact zq (congrArg Value.bool (decide_eq_false (fun h=>by have:=h.2; omega)).symm) hM
 refine yA (yA (yA (yA (yA (yA (yA (yA (yA (zt (zP rfl rfl) (yq rfl (yA ?_)))))))))))
 refine yA (yA (yA (yA (yA (yA (yA (yA (zt (zP rfl rfl) (yq rfl (yA (yA ?_)))))))))))
 refine yA (yA (yA (yA (yA (yA (yA (zt (zP rfl rfl) (zt (yf rfl) (vI (yC hK14 (zV (zY (.inl rfl) results45 (zQ rfl) fun w1 hM=>?_))))))))))))
 have hAB:¬ Sh.badT ⟨z.zX,z.zI,10⟩∧¬ Sh.badT ⟨z.zN,z.zH,60⟩:=⟨hI1.2 0 _ (by omega) rfl,hI1.2 1 _ (by omega) rfl⟩
 exact zq (congrArg Value.bool (decide_eq_false (fun h=>by have:=h.2; omega)).symm) hM
set_option maxHeartbeats 2000000 in
theorem uX (z0 : Value) (z1 : Value) (z2 : Value) (z3 : Value) (z : Shelf) (P0 : Nat → Prop) (w : World) (hP0 : ∀ b, P0 b → b < w.heap.size) (hz0 : zK P0 2 zk z0 z.zT w) (hz1 : zK P0 2 zr z1 z.raw w) (hz2 : zK P0 8 zU z2 z.fine w) (hz3 : zK P0 8 zU z3 z.coarse w)  :
    Calls prog 21 #[.agg (List.toArray [z0,z1,z2,z3,iV z.ze,iV z.zX,iV z.zI,iV z.zN,iV z.zH])] w (Ret w (iV (Sh.wrong z))):=by
 obtain ⟨z0A,z0c,rfl,hz0c,hz0m,hz0A⟩:=hz0.form
 obtain ⟨z1A,z1c,rfl,hz1c,hz1m,hz1A⟩:=hz1.form
 obtain ⟨z2A,z2c,rfl,hz2c,hz2m,hz2A⟩:=hz2.form
 obtain ⟨z3A,z3c,rfl,hz3c,hz3m,hz3A⟩:=hz3.form
 refine fstart (N:=75) (vals:=[.agg (List.toArray [.slice z0A z.zT.length z0c,.slice z1A z.raw.length z1c,.slice z2A z.fine.length z2c,.slice z3A z.coarse.length z3c,iV z.ze,iV z.zX,iV z.zI,iV z.zN,iV z.zH])]) (S:=Mem w ⟨no,P0⟩ [slP 2 zk (.slice z0A z.zT.length z0c) z.zT,slP 2 zr (.slice z1A z.raw.length z1c) z.raw,slP 8 zU (.slice z2A z.fine.length z2c) z.fine,slP 8 zU (.slice z3A z.coarse.length z3c) z.coarse]) func21 rfl rfl rfl (Mem.ofDatsP hP0 (dc (dlp hz0) (dc (dlp hz1) (dc (dlp hz2) (dc (dlp hz3) dn))))) (zG fun _ hK1=>vR wn rfl rfl fun b1=>zO rfl (zD hK1 (zS fun _ hK2=>zG fun _ hK3=>zB (zc rfl fld50_0) (zB (zi 0 rfl rfl rfl flat39) (yF wn rfl call42 rfl (fun w1 hM=>c_namesWrong _ z.zT w1 (hM.slp 1 rfl)) (zO rfl (zD hK3 ?_)))))))
 refine zG fun _ hK4=>zE rfl (zB (vH rfl rfl) (zD hK4 (za rfl (fun h1=>?_) (fun h1=>?_))))
 · refine zG fun _ hK5=>zE rfl (zO rfl (zD hK5 (zV (zJ (zY (.inl rfl) results21 (zQ rfl) fun w1 hM=>?_)))))
   exact zq (congrArg (Value.int .i64) (by rw [Sh.wrong,if_pos h1])) hM
 refine yL hK2 (zS fun _ hK6=>zG fun _ hK7=>zB (zc rfl fld50_1) (zB (zi 0 rfl rfl rfl flat47) (yF wn rfl call43 rfl (fun w1 hM=>ub _ z.raw w1 (hM.slp 2 rfl)) (zy wn inf61 rfl fun b4=>zn 0 wn rfl rfl rfl inf61 rfl rfl rfl (zD hK7 (zG fun _ hK8=>zB (zc rfl fld61_0) (zB (zi 0 rfl rfl rfl flat27) ?_)))))))
 refine zB (vH rfl rfl) (zD hK8 (za rfl (fun h2=>?_) (fun h2=>?_)))
 · refine zG fun _ hK9=>zB (zc rfl fld61_0) (zB (zi 0 rfl rfl rfl flat27) (zO rfl (zD hK9 (zV (zJ (zY (.inl rfl) results21 (zQ rfl) fun w1 hM=>?_))))))
   exact zq (congrArg (Value.int .i64) (by rw [Sh.wrong,if_neg h1,if_pos h2])) hM
 refine yL hK6 (zS fun _ hK10=>zG fun _ hK11=>zB (zc rfl fld50_2) (zB (zi 1 rfl rfl rfl flat48) (yF wn rfl call44 rfl (fun w1 hM=>c_rollWrong _ z.fine 1 w1 (hM.slp 4 rfl)) (zy wn inf61 rfl fun b5=>zn 0 wn rfl rfl rfl inf61 rfl rfl rfl (zD hK11 (zG fun _ hK12=>zB (zc rfl fld61_0) (zB (zi 0 rfl rfl rfl flat27) ?_)))))))
 refine zB (vH rfl rfl) (zD hK12 (za rfl (fun h3=>?_) (fun h3=>?_)))
 · refine zG fun _ hK13=>zB (zc rfl fld61_0) (zB (zi 0 rfl rfl rfl flat27) (zO rfl (zD hK13 (zV (zJ (zY (.inl rfl) results21 (zQ rfl) fun w1 hM=>?_))))))
   exact zq (congrArg (Value.int .i64) (by rw [Sh.wrong,if_neg h1,if_neg h2,if_pos h3])) hM
 refine yL hK10 (zS fun _ hK14=>zG fun _ hK15=>zB (zc rfl fld50_3) (zB (zi 2 rfl rfl rfl flat48) (yF wn rfl call44 rfl (fun w1 hM=>c_rollWrong _ z.coarse 2 w1 (hM.slp 6 rfl)) (zy wn inf61 rfl fun b6=>zn 0 wn rfl rfl rfl inf61 rfl rfl rfl (zD hK15 (zG fun _ hK16=>zB (zc rfl fld61_0) (zB (zi 0 rfl rfl rfl flat27) ?_)))))))
 refine zB (vH rfl rfl) (zD hK16 (za rfl (fun h4=>?_) (fun h4=>?_)))
 · refine zG fun _ hK17=>zB (zc rfl fld61_0) (zB (zi 0 rfl rfl rfl flat27) (zO rfl (zD hK17 (zV (zJ (zY (.inl rfl) results21 (zQ rfl) fun w1 hM=>?_))))))
   exact zq (congrArg (Value.int .i64) (by rw [Sh.wrong,if_neg h1,if_neg h2,if_neg h3,if_pos h4])) hM
 refine yL hK14 (zS fun _ hK18=>zS fun _ hK19=>vN mix (by kernel_rfl) (fun _ h=>h.drew) (vO wn rfl call45 rfl (fun w1 hM=>c_times b1 _ _ _ _ z w1 (hM.blk (i:=3) rfl)) (zt (jM rfl) (yq rfl (vg (t:=39) rfl (fun h5=>?_) (fun h5=>?_))))))
 · refine yA (yA (yA (yA (yA (yx (wu rfl rfl) rfl (yx (wu rfl rfl) rfl (yx (wu rfl rfl) rfl (yx (wu rfl rfl) rfl (yx (wu rfl rfl) rfl (yx (wu rfl rfl) rfl (yx (wu rfl rfl) rfl ?_)))))))))))
   refine yx (wu rfl rfl) rfl (yA (zt (zP rfl rfl) (yq rfl (yA (yA (yA (yA (yA (yA (yA (yA ?_)))))))))))
   refine zt (zP rfl rfl) (yq rfl (yA (yA (yA (yA (yA (yA (yA (yA (zt (zP rfl rfl) (vI (yC hK19 ?_))))))))))))
   refine y6 rfl rfl (zG fun _ hK20=>zO rfl (zD hK20 (zV (zJ (zY (.inl rfl) results21 (zQ rfl) fun w1 hM=>?_)))))
   exact zq (congrArg (Value.int .i64) (by rw [Sh.wrong_end h1 h2 h3 h4,if_neg (fun h=>h5 h.1)])) hM
 refine yK (zc rfl fld50_1) (yK (zi 3 rfl rfl rfl flat47) (yK (yg rfl underlying47) (yK (y8 rfl rfl) (yK (zg rfl) (vg (t:=44) rfl (fun h6=>?_) (fun h6=>?_))))))
 · refine yK (zc rfl fld50_1) (yK (zi 3 rfl rfl rfl flat47) ?_)
   obtain ⟨ad1,hd1⟩:=hz1A (ne_nil (i:=0) (by first | omega | (simp <;> omega)))
   refine yK (vC (i:=0) rfl hd1 rfl (by omega) (by first | omega | (simp <;> omega)) underlying47 inf41) (yK (y0 rfl fld41_0) ?_)
   obtain ⟨s1,hs1⟩:∃ x,z.raw[0]?=some x:=⟨_,List.getElem?_eq_getElem (by first | omega | (simp <;> omega))⟩
   refine yK (gD 5 rfl rfl hd1 hs1 rfl flat3) (yK (zc rfl fld50_4) (yK (zi 3 rfl rfl rfl flat3) (yK (yR rfl rfl) (yK (zP rfl rfl) (zt (zP rfl rfl) (yq rfl (vg (t:=55) rfl (fun h7=>?_) (fun h7=>?_))))))))
   · refine yA (yA (yA (yA (yA (yA (yA (yA (zt (zP rfl rfl) (yq rfl (yA (yA ?_)))))))))))
     refine yA (yA (yA (yA (yA (yA (zt (zP rfl rfl) (vI (yC hK19 (y6 rfl rfl (zG fun _ hK21=>zO rfl (zD hK21 ?_)))))))))))
     refine zV (zJ (zY (.inl rfl) results21 (zQ rfl) fun w1 hM=>?_))
     exact zq (congrArg (Value.int .i64) (by rw [Sh.wrong_end h1 h2 h3 h4,if_neg (fun h=>absurd ((Sh.headOk_some hs1).symm.trans h.2.1) (by simp; omega))])) hM
   refine yK (zc rfl fld50_2) (yK (zi 3 rfl rfl rfl flat48) (yK (zc rfl fld50_5) (yK (zi 3 rfl rfl rfl flat3) (yK (zc rfl fld50_6) (yK (zi 3 rfl rfl rfl flat3) (vO (wg rfl rfl rfl) rfl call46 rfl (fun w1 hM=>jB _ z.fine z.zX z.zI w1 (hM.slp 6 rfl)) (yK (y5 rfl) (zt (zP rfl rfl) (yq rfl (jb (t:=65) rfl (fun h8=>?_) (fun h8=>?_)))))))))))
   · refine yA (yA (yA (yA (yA (yA (yA (yA (zt (zP rfl rfl) (vI (yC hK19 (y6 rfl rfl (zG fun _ hK22=>?_))))))))))))
     refine zO rfl (zD hK22 (zV (zJ (zY (.inl rfl) results21 (zQ rfl) fun w1 hM=>?_))))
     exact zq (congrArg (Value.int .i64) (by rw [Sh.wrong_end h1 h2 h3 h4,if_neg (fun h=>by have:=h.2.2.1; simp [this] at h8)])) hM
   refine yK (zc rfl fld50_3) (yK (zi 3 rfl rfl rfl flat48) (yK (zc rfl fld50_7) (yK (zi 3 rfl rfl rfl flat3) (yK (zc rfl fld50_8) (yK (zi 3 rfl rfl rfl flat3) (vO (wg rfl rfl rfl) rfl call46 rfl (fun w1 hM=>jB _ z.coarse z.zN z.zH w1 (hM.slp 7 rfl)) (yK (y5 rfl) (zt (zP rfl rfl) (vI (yC hK19 (yl rfl (fun h9=>?_) (fun h9=>?_))))))))))))
   · refine zG fun _ hK23=>zO rfl (zD hK23 (zV (zJ (zY (.inl rfl) results21 (zQ rfl) fun w1 hM=>?_))))
     exact zq (congrArg (Value.int .i64) (by rw [Sh.wrong_end h1 h2 h3 h4,if_neg (fun h=>by have:=h.2.2.2; simp [this] at h9)])) hM
   refine yL hK18 (zG fun _ hK24=>zO rfl (zD hK24 (zV (zY (.inl rfl) results21 (zQ rfl) fun w1 hM=>?_))))
   exact zq (congrArg (Value.int .i64) (by rw [Sh.wrong_end h1 h2 h3 h4,if_pos ⟨Classical.not_not.1 h5,(Sh.headOk_some hs1).trans (decide_eq_true (by omega)),by simpa using h8,by simpa using h9⟩])) hM
 refine yA (yA (yA (yA (yA (yA (yA (yA (yK (zP rfl rfl) (zt (zP rfl rfl) (yq rfl (yK (zc rfl fld50_2) ?_)))))))))))
 refine yK (zi 3 rfl rfl rfl flat48) (yK (zc rfl fld50_5) (yK (zi 3 rfl rfl rfl flat3) (yK (zc rfl fld50_6) (yK (zi 3 rfl rfl rfl flat3) (vO (wg rfl rfl rfl) rfl call46 rfl (fun w1 hM=>jB _ z.fine z.zX z.zI w1 (hM.slp 6 rfl)) (yK (y5 rfl) (zt (zP rfl rfl) (yq rfl (jb (t:=65) rfl (fun h10=>?_) (fun h10=>?_))))))))))
 · refine yA (yA (yA (yA (yA (yA (yA (yA (zt (zP rfl rfl) (vI (yC hK19 (y6 rfl rfl (zG fun _ hK25=>?_))))))))))))
   refine zO rfl (zD hK25 (zV (zJ (zY (.inl rfl) results21 (zQ rfl) fun w1 hM=>?_))))
   exact zq (congrArg (Value.int .i64) (by rw [Sh.wrong_end h1 h2 h3 h4,if_neg (fun h=>by have:=h.2.2.1; simp [this] at h10)])) hM
 refine yK (zc rfl fld50_3) (yK (zi 3 rfl rfl rfl flat48) (yK (zc rfl fld50_7) (yK (zi 3 rfl rfl rfl flat3) (yK (zc rfl fld50_8) (yK (zi 3 rfl rfl rfl flat3) (vO (wg rfl rfl rfl) rfl call46 rfl (fun w1 hM=>jB _ z.coarse z.zN z.zH w1 (hM.slp 7 rfl)) (yK (y5 rfl) (zt (zP rfl rfl) (vI (yC hK19 (yl rfl (fun h11=>?_) (fun h11=>?_))))))))))))
 · refine zG fun _ hK26=>zO rfl (zD hK26 (zV (zJ (zY (.inl rfl) results21 (zQ rfl) fun w1 hM=>?_))))
   exact zq (congrArg (Value.int .i64) (by rw [Sh.wrong_end h1 h2 h3 h4,if_neg (fun h=>by have:=h.2.2.2; simp [this] at h11)])) hM
 refine yL hK18 (zG fun _ hK27=>zO rfl (zD hK27 (zV (zY (.inl rfl) results21 (zQ rfl) fun w1 hM=>?_))))
 exact zq (congrArg (Value.int .i64) (by rw [Sh.wrong_end h1 h2 h3 h4,if_pos ⟨Classical.not_not.1 h5,Sh.headOk_none h6,by simpa using h10,by simpa using h11⟩])) hM
end
section
open Tryz
open Ex
set_option linter.unusedVariables false
set_option linter.unusedSimpArgs false
theorem uK (lv : Value) (l : List Label) (w : World) (hl : zK (In w) 2 zk lv l w) (hl1 : l.length ≤ 1048576) :
    Calls prog 61 #[lv] w (RetL w 74 2 zk l):=by
 obtain ⟨lA,lc,rfl,hlc,hlm,hlA⟩:=hl.form
 refine fstart (N:=8) (vals:=[.slice lA l.length lc]) (S:=Mem w no [slO (In w) 2 zk (.slice lA l.length lc) l]) func61 rfl rfl rfl (Mem.ofDats (dc (dl hl) dn)) (zG fun _ hK1=>zO rfl (zD hK1 (zS fun _ hK2=>zG fun _ hK3=>zE rfl (zB (je rfl rfl underlying39) (zD hK3 (yl rfl (fun h1=>?_) (fun h1=>?_)))))))
 · refine zG fun _ hK4=>zO rfl (zD hK4 (zV (zJ (zY (.inl rfl) results61 (zQ rfl) fun w1 hM=>?_))))
   have hM:=hM.uM Label 74 2 zk
   exact hM.ue 0 rfl (Sh.isNone_nil hlA h1)
 refine yL hK2 (zG fun _ hK5=>jo zk wn underlying39 inf74 rfl fun b5=>zE rfl (vD 0 ([]:List Label) l encLabel wn rfl rfl rfl (fun _ hM=>(hM.sl 1 rfl)) underlying39 inf74 rfl rfl (by simp only [List.length_append,List.length_cons,List.length_nil]; omega) rfl fun A1 cp1 hc1 hm1 hA1=>zO rfl (zD hK5 (zV (zY (.inl rfl) results61 (zQ rfl) fun w1 hM=>?_)))))
 exact hM.ue 0 rfl rfl
theorem c_cloneSample (lv : Value) (l : List Sample) (w : World) (hl : zK (In w) 2 zr lv l w) (hl1 : l.length ≤ 1048576) :
    Calls prog 166 #[lv] w (RetL w 41 2 zr l):=by
 obtain ⟨lA,lc,rfl,hlc,hlm,hlA⟩:=hl.form
 refine fstart (N:=8) (vals:=[.slice lA l.length lc]) (S:=Mem w no [slO (In w) 2 zr (.slice lA l.length lc) l]) func166 rfl rfl rfl (Mem.ofDats (dc (dl hl) dn)) (zG fun _ hK1=>zO rfl (zD hK1 (zS fun _ hK2=>zG fun _ hK3=>zE rfl (zB (je rfl rfl underlying47) (zD hK3 (yl rfl (fun h1=>?_) (fun h1=>?_)))))))
 · refine zG fun _ hK4=>zO rfl (zD hK4 (zV (zJ (zY (.inl rfl) results166 (zQ rfl) fun w1 hM=>?_))))
   have hM:=hM.uM Sample 41 2 zr
   exact hM.ue 0 rfl (Sh.isNone_nil hlA h1)
 refine yL hK2 (zG fun _ hK5=>jo zr wn underlying47 inf41 rfl fun b5=>zE rfl (vD 0 ([]:List Sample) l encSample wn rfl rfl rfl (fun _ hM=>(hM.sl 1 rfl)) underlying47 inf41 rfl rfl (by simp only [List.length_append,List.length_cons,List.length_nil]; omega) rfl fun A1 cp1 hc1 hm1 hA1=>zO rfl (zD hK5 (zV (zY (.inl rfl) results166 (zQ rfl) fun w1 hM=>?_)))))
 exact hM.ue 0 rfl rfl
theorem c_cloneBucket (lv : Value) (l : List Bucket) (w : World) (hl : zK (In w) 8 zU lv l w) (hl1 : l.length ≤ 1048576) :
    Calls prog 167 #[lv] w (RetL w 163 8 zU l):=by
 obtain ⟨lA,lc,rfl,hlc,hlm,hlA⟩:=hl.form
 refine fstart (N:=8) (vals:=[.slice lA l.length lc]) (S:=Mem w no [slO (In w) 8 zU (.slice lA l.length lc) l]) func167 rfl rfl rfl (Mem.ofDats (dc (dl hl) dn)) (zG fun _ hK1=>zO rfl (zD hK1 (zS fun _ hK2=>zG fun _ hK3=>zE rfl (zB (je rfl rfl underlying48) (zD hK3 (yl rfl (fun h1=>?_) (fun h1=>?_)))))))
 · refine zG fun _ hK4=>zO rfl (zD hK4 (zV (zJ (zY (.inl rfl) results167 (zQ rfl) fun w1 hM=>?_))))
   have hM:=hM.uM Bucket 163 8 zU
   exact hM.ue 0 rfl (Sh.isNone_nil hlA h1)
 refine yL hK2 (zG fun _ hK5=>jo zU wn underlying48 inf163 rfl fun b5=>zE rfl (vD 0 ([]:List Bucket) l encBucket wn rfl rfl rfl (fun _ hM=>(hM.sl 1 rfl)) underlying48 inf163 rfl rfl (by simp only [List.length_append,List.length_cons,List.length_nil]; omega) rfl fun A1 cp1 hc1 hm1 hA1=>zO rfl (zD hK5 (zV (zY (.inl rfl) results167 (zQ rfl) fun w1 hM=>?_)))))
 exact hM.ue 0 rfl rfl
theorem j0 (z0 : Value) (z1 : Value) (z2 : Value) (z3 : Value) (z : Shelf) (P0 : Nat → Prop) (w : World) (hP0 : ∀ b, P0 b → b < w.heap.size) (hz0 : zK P0 2 zk z0 z.zT w) (hz1 : zK P0 2 zr z1 z.raw w) (hz2 : zK P0 8 zU z2 z.fine w) (hz3 : zK P0 8 zU z3 z.coarse w) (hs1 : z.zT.length ≤ 1048576 ∧ z.raw.length ≤ 1048576 ∧ z.fine.length ≤ 1048576 ∧ z.coarse.length ≤ 1048576) :
    Calls prog 119 #[.agg (List.toArray [z0,z1,z2,z3,iV z.ze,iV z.zX,iV z.zI,iV z.zN,iV z.zH])] w (RetOwn w 74 41 163 163 z):=by
 obtain ⟨z0A,z0c,rfl,hz0c,hz0m,hz0A⟩:=hz0.form
 obtain ⟨z1A,z1c,rfl,hz1c,hz1m,hz1A⟩:=hz1.form
 obtain ⟨z2A,z2c,rfl,hz2c,hz2m,hz2A⟩:=hz2.form
 obtain ⟨z3A,z3c,rfl,hz3c,hz3m,hz3A⟩:=hz3.form
 refine fstart (N:=20) (vals:=[.agg (List.toArray [.slice z0A z.zT.length z0c,.slice z1A z.raw.length z1c,.slice z2A z.fine.length z2c,.slice z3A z.coarse.length z3c,iV z.ze,iV z.zX,iV z.zI,iV z.zN,iV z.zH])]) (S:=Mem w ⟨no,P0⟩ [slP 2 zk (.slice z0A z.zT.length z0c) z.zT,slP 2 zr (.slice z1A z.raw.length z1c) z.raw,slP 8 zU (.slice z2A z.fine.length z2c) z.fine,slP 8 zU (.slice z3A z.coarse.length z3c) z.coarse]) func119 rfl rfl rfl (Mem.ofDatsP hP0 (dc (dlp hz0) (dc (dlp hz1) (dc (dlp hz2) (dc (dlp hz3) dn))))) (zG fun _ hK1=>vR wn rfl rfl fun b1=>zy wn inf50 rfl fun b2=>zD hK1 (zS fun _ hK2=>vG (Mem w ⟨no,P0⟩ [.blk b2 [Zs,Zs,Zs,Zs,iV 0,iV 0,iV 0,iV 0,iV 0] 50,slP 2 zk (.slice z0A z.zT.length z0c) z.zT,slP 2 zr (.slice z1A z.raw.length z1c) z.raw,slP 8 zU (.slice z2A z.fine.length z2c) z.fine,slP 8 zU (.slice z3A z.coarse.length z3c) z.coarse]) mix (fun _ h=>h.drew) rfl (vE 16 [0,3,6,9] [0,2,3,4,5] rfl fun KS hKS=>yB (zc rfl fld50_0) (yB (zc rfl fld50_1) (yB (zc rfl fld50_2) (yB (zc rfl fld50_3) ?_))))))
 refine yZ hKS (gJ (f:=7) [(1,.val 4 (.slice z0A z.zT.length z0c)),(2,.row 5 74 2 z.zT.length (z.zT.flatMap zk)),(4,.val 7 (.slice z1A z.raw.length z1c)),(5,.row 8 41 2 z.raw.length (z.raw.flatMap zr)),(7,.val 10 (.slice z2A z.fine.length z2c)),(8,.row 11 163 8 z.fine.length (z.fine.flatMap zU)),(10,.val 13 (.slice z3A z.coarse.length z3c)),(11,.row 14 163 8 z.coarse.length (z.coarse.flatMap zU)),(12,.val 15 (.pointer (some ⟨b1,0,none⟩)))] rfl (by kernel_rfl) (nd [1,2,4,5,7,8,10,11,12] rfl (by decide)) (nd [4,5,7,8,10,11,13,14,15] rfl (by decide)) rfl ⟨jv_ [] trivial rfl rfl rfl (zi 1 rfl rfl rfl flat39),jr_ [(1,4,.slice z0A z.zT.length z0c)] (⟨⟨0,rfl⟩,rfl,trivial⟩) rfl rfl rfl rfl call61 (fun w1 hM=>uK _ z.zT w1 (hM.slp 2 rfl) (by omega)),jv_ [] trivial rfl rfl rfl (zi 1 rfl rfl rfl flat47),jr_ [(4,7,.slice z1A z.raw.length z1c)] (⟨⟨2,rfl⟩,rfl,trivial⟩) rfl rfl rfl rfl call166 (fun w1 hM=>c_cloneSample _ z.raw w1 (hM.slp 3 rfl) (by omega)),jv_ [] trivial rfl rfl rfl (zi 1 rfl rfl rfl flat48),jr_ [(7,10,.slice z2A z.fine.length z2c)] (⟨⟨4,rfl⟩,rfl,trivial⟩) rfl rfl rfl rfl call167 (fun w1 hM=>c_cloneBucket _ z.fine w1 (hM.slp 4 rfl) (by omega)),jv_ [] trivial rfl rfl rfl (zi 1 rfl rfl rfl flat48),jr_ [(10,13,.slice z3A z.coarse.length z3c)] (⟨⟨6,rfl⟩,rfl,trivial⟩) rfl rfl rfl rfl call167 (fun w1 hM=>c_cloneBucket _ z.coarse w1 (hM.slp 5 rfl) (by omega)),jv_ [] trivial rfl rfl rfl (zc rfl fld50_0),trivial⟩ (S9 [0,2,3,4,5]) fun val1=>jq (E':=[(0,.agg (List.toArray [.slice z0A z.zT.length z0c,.slice z1A z.raw.length z1c,.slice z2A z.fine.length z2c,.slice z3A z.coarse.length z3c,iV z.ze,iV z.zX,iV z.zI,iV z.zN,iV z.zH])),(1,.pointer (some ⟨b1,0,none⟩)),(2,.pointer (some ⟨b2,0,none⟩)),(3,.pointer (some ⟨b1,0,none⟩)),(4,.slice z0A z.zT.length z0c),(5,(val1 2)),(6,.pointer (some ⟨b1,1,none⟩)),(7,.slice z1A z.raw.length z1c),(8,(val1 5)),(9,.pointer (some ⟨b1,2,none⟩)),(10,.slice z2A z.fine.length z2c),(11,(val1 8)),(12,.pointer (some ⟨b1,3,none⟩)),(13,.slice z3A z.coarse.length z3c),(14,(val1 11)),(15,.pointer (some ⟨b1,0,none⟩))]) (S':=Mem w ⟨no,P0⟩ [Row (val1 2) 74 2 zk z.zT,Row (val1 5) 41 2 zr z.raw,Row (val1 8) 163 8 zU z.fine,Row (val1 11) 163 8 zU z.coarse,.blk b2 [Zs,Zs,Zs,Zs,iV 0,iV 0,iV 0,iV 0,iV 0] 50,.blk b1 [.slice z0A z.zT.length z0c,.slice z1A z.raw.length z1c,.slice z2A z.fine.length z2c,.slice z3A z.coarse.length z3c,iV z.ze,iV z.zX,iV z.zI,iV z.zN,iV z.zH] 50,slP 2 zk (.slice z0A z.zT.length z0c) z.zT,slP 2 zr (.slice z1A z.raw.length z1c) z.raw,slP 8 zU (.slice z2A z.fine.length z2c) z.fine,slP 8 zU (.slice z3A z.coarse.length z3c) z.coarse]) (sc rfl (sc rfl (sc rfl (sc rfl (sc rfl (sc rfl (sc rfl (sc rfl (sc rfl (sc rfl (sc rfl (sc rfl (sc rfl (sc rfl (sc rfl (sc rfl sn)))))))))))))))) (fun _ h=>h) (jH 0 (l:=z.zT) (enc:=zk) rfl fun A1 cp1 hv1 hc1 hm1 hA1=>?_))
 rw [hv1]
 refine jH 1 (l:=z.raw) (enc:=zr) rfl fun A2 cp2 hv2 hc2 hm2 hA2=>?_
 rw [hv2]
 refine jH 2 (l:=z.fine) (enc:=zU) rfl fun A3 cp3 hv3 hc3 hm3 hA3=>?_
 rw [hv3]
 refine jH 3 (l:=z.coarse) (enc:=zU) rfl fun A4 cp4 hv4 hc4 hm4 hA4=>?_
 rw [hv4]
 refine yW 6 13 (yX (i:=13) rfl fun KN hKN=>yo 5 wn rfl rfl rfl rfl inf39 rfl rfl (yP hKN [4,6,7,8,9] (vE 5 [14] [4,6,7,8,9] rfl fun KS hKS=>yB (zc rfl fld50_1) (yZ hKS (yW 4 15 (yX (i:=15) rfl fun KN hKN=>yo 5 wn rfl rfl rfl rfl inf47 rfl rfl (yP hKN [4,6,7,8,9] (vE 3 [16] [4,6,7,8,9] rfl fun KS hKS=>?_))))))))
 refine yB (zc rfl fld50_2) (yZ hKS (yW 2 17 (yX (i:=17) rfl fun KN hKN=>yo 5 wn rfl rfl rfl rfl inf48 rfl rfl (yP hKN [4,6,7,8,9] (vE 1 [18] [4,6,7,8,9] rfl fun KS hKS=>yB (zc rfl fld50_3) (yZ hKS (yW 0 19 (yX (i:=19) rfl fun KN hKN=>yo 5 wn rfl rfl rfl rfl inf48 rfl rfl ?_))))))))
 refine yP hKN [4,6,7,8,9] (yp (by kernel_rfl) (yC hK2 (zG fun _ hK3=>zB (yM 5 [.slice A1 z.zT.length cp1,.slice A2 z.raw.length cp2,.slice A3 z.fine.length cp3,.slice A4 z.coarse.length cp4,iV z.ze,iV z.zX,iV z.zI,iV z.zN,iV z.zH] rfl rfl rfl rfl agg50 inf50) (zn 4 wn rfl rfl rfl inf50 rfl rfl rfl (zD hK3 (zV (zY (.inl rfl) results119 (zo 4 rfl rfl agg50 inf50 rfl) fun w1 hM=>?_)))))))
 exact (hM.sel [0,1,2,3] (by decide) rfl).retOwn
end
section
open Tryz
open Ex
set_option linter.unusedVariables false
set_option linter.unusedSimpArgs false
theorem c_new (lv : Value) (l : List Label) (P0 : Nat → Prop) (w : World) (hP0 : ∀ b, P0 b → b < w.heap.size) (hl : zK P0 2 zk lv l w) (hl1 : l.length ≤ 1048576) :
    Calls prog 113 #[lv] w (RetSh w P0 (fun u=>u) ⟨l,[],[],[],0,0,0,0,0⟩):=by
 obtain ⟨lA,lc,rfl,hlc,hlm,hlA⟩:=hl.form
 refine fstart (N:=6) (vals:=[.slice lA l.length lc]) (S:=Mem w ⟨no,P0⟩ [slP 2 zk (.slice lA l.length lc) l]) func113 rfl rfl rfl (Mem.ofDatsP hP0 (dc (dlp hl) dn)) (zG fun _ hK1=>zy wn inf50 rfl fun b2=>zD hK1 (zG fun _ hK2=>zE rfl (uQ l wn rfl call61 rfl (fun w1 hM=>uK _ l w1 (hM.slp 1 rfl) (by omega)) fun A1 cp1 hc1 hm1 hA1=>zB (zw [.slice A1 l.length cp1,Zs,Zs,Zs,iV 0,iV 0,iV 0,iV 0,iV 0] pl50 inf50 rfl rfl) (zn 1 wn rfl rfl rfl inf50 rfl rfl rfl (zD hK2 (zV (zY (.inl rfl) results113 (zo 1 rfl rfl agg50 inf50 rfl) fun w1 hM=>?_)))))))
 have hM:=hM.yb encLabel (i:=0) rfl rfl
 exact hM.vk (s':=(⟨l,([]:List Sample),([]:List Bucket),([]:List Bucket),0,0,0,0,0⟩:Shelf)) (fun u=>u) rfl (rfl) (fun _ pp=>pp.sl 0 rfl) (fun _ _=>zK.ym _ _ _ _) (fun _ _=>zK.ym _ _ _ _) (fun _ _=>zK.ym _ _ _ _)
theorem jh (n : Int) (st : Int) (w : World)  (hn : 0 ≤ n ∧ n ≤ 9223372036854775807) (hst : 0 < st) :
    Calls prog 124 #[iV n,iV st] w (Ret w (iV (n - n % st))):=by
 obtain ⟨hm1,hm2⟩:=Sh.emod_le hn.1 hst
 refine fstart (N:=10) (vals:=[iV n,iV st]) (S:=Mem w no []) func124 rfl rfl rfl (Mem.ofDats dn) (zG fun _ hK1=>zO rfl (zD hK1 (zG fun _ hK2=>zE rfl (zE rfl (zE rfl (zB (jD rfl rfl (by omega) (by omega)) (zB (vl rfl rfl (by omega)) (zO rfl (zD hK2 ?_)))))))))
 refine zV (zY (.inl rfl) results124 (zQ rfl) fun w1 hM=>?_)
 exact zq rfl hM
theorem c_append (z0 : Value) (z1 : Value) (z2 : Value) (z3 : Value) (z : Shelf) (x : Sample) (P0 : Nat → Prop) (w : World) (hP0 : ∀ b, P0 b → b < w.heap.size) (hz0 : zK P0 2 zk z0 z.zT w) (hz1 : zK P0 2 zr z1 z.raw w) (hz2 : zK P0 8 zU z2 z.fine w) (hz3 : zK P0 8 zU z3 z.coarse w)  :
    Calls prog 114 #[.agg (List.toArray [z0,z1,z2,z3,iV z.ze,iV z.zX,iV z.zI,iV z.zN,iV z.zH]),.agg (zr x).toArray] w (RetSh w P0 (fun u=>.tuple (List.toArray [u,iV (Sh.append z x).2])) (Sh.append z x).1):=by
 obtain ⟨z0A,z0c,rfl,hz0c,hz0m,hz0A⟩:=hz0.form
 obtain ⟨z1A,z1c,rfl,hz1c,hz1m,hz1A⟩:=hz1.form
 obtain ⟨z2A,z2c,rfl,hz2c,hz2m,hz2A⟩:=hz2.form
 obtain ⟨z3A,z3c,rfl,hz3c,hz3m,hz3A⟩:=hz3.form
 refine fstart (N:=64) (vals:=[.agg (List.toArray [.slice z0A z.zT.length z0c,.slice z1A z.raw.length z1c,.slice z2A z.fine.length z2c,.slice z3A z.coarse.length z3c,iV z.ze,iV z.zX,iV z.zI,iV z.zN,iV z.zH]),.agg (zr x).toArray]) (S:=Mem w ⟨no,P0⟩ [slP 2 zk (.slice z0A z.zT.length z0c) z.zT,slP 2 zr (.slice z1A z.raw.length z1c) z.raw,slP 8 zU (.slice z2A z.fine.length z2c) z.fine,slP 8 zU (.slice z3A z.coarse.length z3c) z.coarse]) func114 rfl rfl rfl (Mem.ofDatsP hP0 (dc (dlp hz0) (dc (dlp hz1) (dc (dlp hz2) (dc (dlp hz3) dn))))) (zG fun _ hK1=>vR wn rfl rfl fun b2=>vR wn rfl rfl fun b3=>zy wn inf50 rfl fun b4=>zO rfl (zD hK1 (zS fun _ hK2=>zG fun _ hK3=>zB (yM 2 [.slice z0A z.zT.length z0c,.slice z1A z.raw.length z1c,.slice z2A z.fine.length z2c,.slice z3A z.coarse.length z3c,iV z.ze,iV z.zX,iV z.zI,iV z.zN,iV z.zH] rfl rfl rfl rfl agg50 inf50) (yF wn rfl call21 rfl (fun w1 hM=>uX _ _ _ _ z (In w1) w1 (fun _ h=>h) (hM.slp 3 rfl) (hM.slp 4 rfl) (hM.slp 5 rfl) (hM.slp 6 rfl)) (zO rfl ?_)))))
 refine zD hK3 (zG fun _ hK4=>zE rfl (zB (vH rfl rfl) (zD hK4 (za rfl (fun h1=>?_) (fun h1=>?_)))))
 · refine zG fun _ hK5=>zB (zw [Zs,Zs,Zs,Zs,iV 0,iV 0,iV 0,iV 0,iV 0] pl50 inf50 rfl rfl) (zE rfl (zn 0 wn rfl rfl rfl inf50 rfl rfl rfl (zO rfl (zD hK5 (zV (zJ (yT (.inl rfl) results114 (zo 0 rfl rfl agg50 inf50 rfl) (zQ rfl) fun w1 hM=>?_)))))))
   have he:Sh.append z x=((⟨([]:List Label),([]:List Sample),([]:List Bucket),([]:List Bucket),0,0,0,0,0⟩:Shelf),(Sh.wrong z)):=Sh.append_wrong h1
   rw [he]
   exact hM.vk (s':=(⟨([]:List Label),([]:List Sample),([]:List Bucket),([]:List Bucket),0,0,0,0,0⟩:Shelf)) (fun u=>.tuple (List.toArray [u,iV (Sh.wrong z)])) rfl (rfl) (fun _ _=>zK.ym _ _ _ _) (fun _ _=>zK.ym _ _ _ _) (fun _ _=>zK.ym _ _ _ _) (fun _ _=>zK.ym _ _ _ _)
 obtain ⟨l1,l2,l3,l4⟩:=(Sh.ok_of h1).lens
 refine yL hK2 (zS fun _ hK6=>zG fun _ hK7=>zB (yM 1 [iV x.time,iV x.value] rfl rfl rfl rfl agg41 inf41) (yt zr ([x]:List Sample) wn underlying47 inf41 rfl rfl rfl rfl (by decide) (by decide) rfl fun b17=>yF wn rfl call43 rfl (fun w1 hM=>ub _ ([x]:List Sample) w1 (RowSl encSample hM 0 rfl)) (zy wn inf61 rfl fun b7=>zn 0 wn rfl rfl rfl inf61 rfl rfl rfl (zD hK7 (zG fun _ hK8=>zB (zc rfl fld61_0) (zB (zi 0 rfl rfl rfl flat27) ?_))))))
 refine zB (vH rfl rfl) (zD hK8 (za rfl (fun h2=>?_) (fun h2=>?_)))
 · refine zS fun _ hK9=>vG (Mem w ⟨no,P0⟩ [.blk b7 [iV ((Codec.wrong ([x]:List Sample)).err),iV ((Codec.wrong ([x]:List Sample)).at_)] 61,Row (.slice (some ⟨b17,0,none⟩) 1 1) 41 2 zr ([x]:List Sample),.blk b4 [Zs,Zs,Zs,Zs,iV 0,iV 0,iV 0,iV 0,iV 0] 50,.blk b3 [iV x.time,iV x.value] 41,.blk b2 [.slice z0A z.zT.length z0c,.slice z1A z.raw.length z1c,.slice z2A z.fine.length z2c,.slice z3A z.coarse.length z3c,iV z.ze,iV z.zX,iV z.zI,iV z.zN,iV z.zH] 50,slP 2 zk (.slice z0A z.zT.length z0c) z.zT,slP 2 zr (.slice z1A z.raw.length z1c) z.raw,slP 8 zU (.slice z2A z.fine.length z2c) z.fine,slP 8 zU (.slice z3A z.coarse.length z3c) z.coarse]) mix (fun _ h=>h.drew) rfl (ux (f:=2) [0,1,2] rfl rfl (by kernel_rfl) (by kernel_rfl) (fun _ h=>h) fun KS hKS=>yB (zw [Zs,Zs,Zs,Zs,iV 0,iV 0,iV 0,iV 0,iV 0] pl50 inf50 rfl rfl) (yB (zc rfl fld61_0) (yB (zi 0 rfl rfl rfl flat27) (yZ hKS (yW 1 3 (yX (i:=3) rfl fun KN hKN=>zn 2 wn rfl rfl rfl inf50 rfl rfl rfl (zj (hKN _ _ (fun _ h=>h) (ux (f:=0) [4] rfl rfl (by kernel_rfl) (by kernel_rfl) (fun _ h=>h) fun KS hKS=>?_)))))))))
   refine yB (yf rfl) (yZ hKS (yp (by kernel_rfl) (yC hK9 (zV (zJ (yT (.inl rfl) results114 (zo 2 rfl rfl agg50 inf50 rfl) (zQ rfl) fun w1 hM=>?_))))))
   have he:Sh.append z x=((⟨([]:List Label),([]:List Sample),([]:List Bucket),([]:List Bucket),0,0,0,0,0⟩:Shelf),(Codec.wrong ([x]:List Sample)).err):=Sh.append_bad h1 h2
   rw [he]
   exact hM.vk (s':=(⟨([]:List Label),([]:List Sample),([]:List Bucket),([]:List Bucket),0,0,0,0,0⟩:Shelf)) (fun u=>.tuple (List.toArray [u,iV ((Codec.wrong ([x]:List Sample)).err)])) rfl (rfl) (fun _ _=>zK.ym _ _ _ _) (fun _ _=>zK.ym _ _ _ _) (fun _ _=>zK.ym _ _ _ _) (fun _ _=>zK.ym _ _ _ _)
 refine yL hK6 (zG fun _ hK10=>zB (zc rfl fld50_1) (zB (zi 4 rfl rfl rfl flat47) (zB (yg rfl underlying47) (zB (vl rfl rfl (by omega)) (zO rfl (zD hK10 (zS fun _ hK11=>zS fun _ hK12=>vN mix (by kernel_rfl) (fun _ h=>h.drew) (zt (zc rfl fld41_0) ?_))))))))
 refine zt (zi 3 rfl rfl rfl flat3) (zt (zc rfl fld50_6) (zt (zi 4 rfl rfl rfl flat3) (zt (yR rfl rfl) (yq rfl (vg (t:=34) rfl (fun h3=>?_) (fun h3=>?_))))))
 · refine yA (yA (yA (yx (wu rfl rfl) rfl (yx (wu rfl rfl) rfl (yx (wu rfl rfl) rfl (yx (wu rfl rfl) rfl (yx (wu rfl rfl) rfl (yx (wu rfl rfl) rfl (yx (wu rfl rfl) rfl (yx (wu rfl rfl) rfl (yx (wu rfl rfl) rfl ?_)))))))))))
   refine yA (zt (zP rfl rfl) (vI (yC hK12 (y6 rfl rfl (zG fun _ hK13=>zB (zw [Zs,Zs,Zs,Zs,iV 0,iV 0,iV 0,iV 0,iV 0] pl50 inf50 rfl rfl) (zn 2 wn rfl rfl rfl inf50 rfl rfl rfl (zO rfl (zD hK13 (zV (zJ (yT (.inl rfl) results114 (zo 2 rfl rfl agg50 inf50 rfl) (zQ rfl) fun w1 hM=>?_)))))))))))
   have he:Sh.append z x=((⟨([]:List Label),([]:List Sample),([]:List Bucket),([]:List Bucket),0,0,0,0,0⟩:Shelf),9):=Sh.append_late h1 h2 (.inl h3)
   rw [he]
   exact hM.vk (s':=(⟨([]:List Label),([]:List Sample),([]:List Bucket),([]:List Bucket),0,0,0,0,0⟩:Shelf)) (fun u=>.tuple (List.toArray [u,iV 9])) rfl (rfl) (fun _ _=>zK.ym _ _ _ _) (fun _ _=>zK.ym _ _ _ _) (fun _ _=>zK.ym _ _ _ _) (fun _ _=>zK.ym _ _ _ _)
 refine yK (zg rfl) (yK (vn rfl rfl) (yK (zg rfl) (vg (t:=37) rfl (fun h4=>?_) (fun h4=>?_))))
 · refine yK (zc rfl fld41_0) (yK (zi 3 rfl rfl rfl flat3) (yK (zc rfl fld50_1) (yK (zi 4 rfl rfl rfl flat47) (yK (zg rfl) ?_))))
   obtain ⟨ad1,hd1⟩:=hz1A (ne_nil (i:=(z.raw.length - 1)) (by first | omega | (simp <;> omega)))
   refine yK (vC (i:=(z.raw.length - 1)) rfl hd1 rfl (by omega) (by first | omega | (simp <;> omega)) underlying47 inf41) (yK (y0 rfl fld41_0) ?_)
   obtain ⟨s1,hs1⟩:∃ x,z.raw[(z.raw.length - 1)]?=some x:=⟨_,List.getElem?_eq_getElem (by first | omega | (simp <;> omega))⟩
   refine yK (gD 6 rfl rfl hd1 hs1 rfl flat3) (yK (ug rfl rfl) (yK (zP rfl rfl) (zt (zP rfl rfl) (vI (yC hK12 (za rfl (fun h5=>?_) (fun h5=>?_)))))))
   · refine zG fun _ hK14=>zB (zw [Zs,Zs,Zs,Zs,iV 0,iV 0,iV 0,iV 0,iV 0] pl50 inf50 rfl rfl) (zn 2 wn rfl rfl rfl inf50 rfl rfl rfl (zO rfl (zD hK14 (zV (zJ (yT (.inl rfl) results114 (zo 2 rfl rfl agg50 inf50 rfl) (zQ rfl) fun w1 hM=>?_))))))
     have he:Sh.append z x=((⟨([]:List Label),([]:List Sample),([]:List Bucket),([]:List Bucket),0,0,0,0,0⟩:Shelf),9):=Sh.append_late h1 h2 (.inr (by rw [Sh.late_some hs1]; exact decide_eq_true h5))
     rw [he]
     exact hM.vk (s':=(⟨([]:List Label),([]:List Sample),([]:List Bucket),([]:List Bucket),0,0,0,0,0⟩:Shelf)) (fun u=>.tuple (List.toArray [u,iV 9])) rfl (rfl) (fun _ _=>zK.ym _ _ _ _) (fun _ _=>zK.ym _ _ _ _) (fun _ _=>zK.ym _ _ _ _) (fun _ _=>zK.ym _ _ _ _)
   refine yL hK11 (zS fun _ hK15=>zG fun _ hK16=>zB (zc rfl fld50_1) (zB (zi 4 rfl rfl rfl flat47) (zB (yg rfl underlying47) (zB (yj rfl rfl) (zD hK16 (za rfl (fun h6=>?_) (fun h6=>?_)))))))
   · refine zG fun _ hK17=>zB (zw [Zs,Zs,Zs,Zs,iV 0,iV 0,iV 0,iV 0,iV 0] pl50 inf50 rfl rfl) (zn 2 wn rfl rfl rfl inf50 rfl rfl rfl (zO rfl (zD hK17 (zV (zJ (yT (.inl rfl) results114 (zo 2 rfl rfl agg50 inf50 rfl) (zQ rfl) fun w1 hM=>?_))))))
     have he:Sh.append z x=((⟨([]:List Label),([]:List Sample),([]:List Bucket),([]:List Bucket),0,0,0,0,0⟩:Shelf),5):=Sh.append_many h1 h2 (fun g=>g.elim h3 (fun g=>by rw [Sh.late_some hs1] at g; exact h5 (of_decide_eq_true g))) h6
     rw [he]
     exact hM.vk (s':=(⟨([]:List Label),([]:List Sample),([]:List Bucket),([]:List Bucket),0,0,0,0,0⟩:Shelf)) (fun u=>.tuple (List.toArray [u,iV 5])) rfl (rfl) (fun _ _=>zK.ym _ _ _ _) (fun _ _=>zK.ym _ _ _ _) (fun _ _=>zK.ym _ _ _ _) (fun _ _=>zK.ym _ _ _ _)
   refine yL hK15 (zG fun _ hK18=>zB (yM 4 [.slice z0A z.zT.length z0c,.slice z1A z.raw.length z1c,.slice z2A z.fine.length z2c,.slice z3A z.coarse.length z3c,iV z.ze,iV z.zX,iV z.zI,iV z.zN,iV z.zH] rfl rfl rfl rfl agg50 inf50) (uo z wn rfl call119 rfl (fun w1 hM=>j0 _ _ _ _ z (In w1) w1 (fun _ h=>h) (hM.slp 5 rfl) (hM.slp 6 rfl) (hM.slp 7 rfl) (hM.slp 8 rfl) (Sh.wrong_lens (by assumption))) fun A1 cp1 A2 cp2 A3 cp3 A4 cp4 hb1 hA1 hA2 hA3 hA4=>zy wn inf50 rfl fun b9=>zn 0 wn rfl rfl rfl inf50 rfl rfl rfl (zD hK18 (zG fun _ hK19=>zB (zc rfl fld50_1) (zB (zi 0 rfl rfl rfl flat47) (zB (yM 8 [iV x.time,iV x.value] rfl rfl rfl rfl agg41 inf41) (yt zr ([x]:List Sample) wn underlying47 inf41 rfl rfl rfl rfl (by decide) (by decide) rfl fun b60=>?_)))))))
   refine vD 3 z.raw ([x]:List Sample) encSample wn rfl rfl rfl (fun _ hM=>(RowSl encSample hM 0 rfl)) underlying47 inf41 rfl rfl (by simp only [List.length_append,List.length_cons,List.length_nil]; omega) rfl fun A5 cp5 hc1 hm1 hA5=>zB (zc rfl fld50_1) (yo 1 wn rfl rfl rfl rfl inf47 rfl rfl (zD hK19 (zG fun _ hK20=>zB (yM 1 [.slice A1 z.zT.length cp1,.slice A5 ((z.raw++([x]:List Sample)).length) cp5,.slice A3 z.fine.length cp3,.slice A4 z.coarse.length cp4,iV z.ze,iV z.zX,iV z.zI,iV z.zN,iV z.zH] rfl rfl rfl rfl agg50 inf50) (zn 8 wn rfl rfl rfl inf50 rfl rfl rfl (zO rfl (zD hK20 (zV (yT (.inl rfl) results114 (zo 8 rfl rfl agg50 inf50 rfl) (zQ rfl) fun w1 hM=>?_))))))))
   have he:Sh.append z x=((⟨z.zT,(z.raw++([x]:List Sample)),z.fine,z.coarse,z.ze,z.zX,z.zI,z.zN,z.zH⟩:Shelf),0):=Sh.append_ok h1 h2 (fun g=>g.elim h3 (fun g=>by rw [Sh.late_some hs1] at g; exact h5 (of_decide_eq_true g))) h6
   rw [he]
   have hM:=hM.yb encLabel (i:=2) rfl rfl
   have hM:=hM.yb encSample (i:=3) rfl rfl
   have hM:=hM.yb encBucket (i:=4) rfl rfl
   have hM:=hM.yb encBucket (i:=5) rfl rfl
   exact hM.vk (s':=(⟨z.zT,(z.raw++([x]:List Sample)),z.fine,z.coarse,z.ze,z.zX,z.zI,z.zN,z.zH⟩:Shelf)) (fun u=>.tuple (List.toArray [u,iV 0])) rfl (rfl) (fun _ pp=>pp.sl 2 rfl) (fun _ pp=>pp.sl 3 rfl) (fun _ pp=>pp.sl 4 rfl) (fun _ pp=>pp.sl 5 rfl)
 refine yA (yA (yA (yA (yA (yA (yA (yA (yA (yK (zP rfl rfl) (zt (zP rfl rfl) (vI (yC hK12 ?_))))))))))))
 refine yu rfl rfl (yL hK11 (zS fun _ hK21=>zG fun _ hK22=>zB (zc rfl fld50_1) (zB (zi 4 rfl rfl rfl flat47) (zB (yg rfl underlying47) (zB (yj rfl rfl) (zD hK22 (za rfl (fun h7=>?_) (fun h7=>?_))))))))
 · refine zG fun _ hK23=>zB (zw [Zs,Zs,Zs,Zs,iV 0,iV 0,iV 0,iV 0,iV 0] pl50 inf50 rfl rfl) (zn 2 wn rfl rfl rfl inf50 rfl rfl rfl (zO rfl (zD hK23 (zV (zJ (yT (.inl rfl) results114 (zo 2 rfl rfl agg50 inf50 rfl) (zQ rfl) fun w1 hM=>?_))))))
   have he:Sh.append z x=((⟨([]:List Label),([]:List Sample),([]:List Bucket),([]:List Bucket),0,0,0,0,0⟩:Shelf),5):=Sh.append_many h1 h2 (fun g=>g.elim h3 (fun g=>by rw [Sh.late_none h4] at g; cases g)) h7
   rw [he]
   exact hM.vk (s':=(⟨([]:List Label),([]:List Sample),([]:List Bucket),([]:List Bucket),0,0,0,0,0⟩:Shelf)) (fun u=>.tuple (List.toArray [u,iV 5])) rfl (rfl) (fun _ _=>zK.ym _ _ _ _) (fun _ _=>zK.ym _ _ _ _) (fun _ _=>zK.ym _ _ _ _) (fun _ _=>zK.ym _ _ _ _)
 refine yL hK21 (zG fun _ hK24=>zB (yM 4 [.slice z0A z.zT.length z0c,.slice z1A z.raw.length z1c,.slice z2A z.fine.length z2c,.slice z3A z.coarse.length z3c,iV z.ze,iV z.zX,iV z.zI,iV z.zN,iV z.zH] rfl rfl rfl rfl agg50 inf50) (uo z wn rfl call119 rfl (fun w1 hM=>j0 _ _ _ _ z (In w1) w1 (fun _ h=>h) (hM.slp 5 rfl) (hM.slp 6 rfl) (hM.slp 7 rfl) (hM.slp 8 rfl) (Sh.wrong_lens (by assumption))) fun A6 cp6 A7 cp7 A8 cp8 A9 cp9 hb2 hA6 hA7 hA8 hA9=>zy wn inf50 rfl fun b9=>zn 0 wn rfl rfl rfl inf50 rfl rfl rfl (zD hK24 (zG fun _ hK25=>zB (zc rfl fld50_1) (zB (zi 0 rfl rfl rfl flat47) (zB (yM 8 [iV x.time,iV x.value] rfl rfl rfl rfl agg41 inf41) (yt zr ([x]:List Sample) wn underlying47 inf41 rfl rfl rfl rfl (by decide) (by decide) rfl fun b60=>?_)))))))
 refine vD 3 z.raw ([x]:List Sample) encSample wn rfl rfl rfl (fun _ hM=>(RowSl encSample hM 0 rfl)) underlying47 inf41 rfl rfl (by simp only [List.length_append,List.length_cons,List.length_nil]; omega) rfl fun A10 cp10 hc2 hm2 hA10=>zB (zc rfl fld50_1) (yo 1 wn rfl rfl rfl rfl inf47 rfl rfl (zD hK25 (zG fun _ hK26=>zB (yM 1 [.slice A6 z.zT.length cp6,.slice A10 ((z.raw++([x]:List Sample)).length) cp10,.slice A8 z.fine.length cp8,.slice A9 z.coarse.length cp9,iV z.ze,iV z.zX,iV z.zI,iV z.zN,iV z.zH] rfl rfl rfl rfl agg50 inf50) (zn 8 wn rfl rfl rfl inf50 rfl rfl rfl (zO rfl (zD hK26 (zV (yT (.inl rfl) results114 (zo 8 rfl rfl agg50 inf50 rfl) (zQ rfl) fun w1 hM=>?_))))))))
 have he:Sh.append z x=((⟨z.zT,(z.raw++([x]:List Sample)),z.fine,z.coarse,z.ze,z.zX,z.zI,z.zN,z.zH⟩:Shelf),0):=Sh.append_ok h1 h2 (fun g=>g.elim h3 (fun g=>by rw [Sh.late_none h4] at g; cases g)) h7
 rw [he]
 have hM:=hM.yb encLabel (i:=2) rfl rfl
 have hM:=hM.yb encSample (i:=3) rfl rfl
 have hM:=hM.yb encBucket (i:=4) rfl rfl
 have hM:=hM.yb encBucket (i:=5) rfl rfl
 exact hM.vk (s':=(⟨z.zT,(z.raw++([x]:List Sample)),z.fine,z.coarse,z.ze,z.zX,z.zI,z.zN,z.zH⟩:Shelf)) (fun u=>.tuple (List.toArray [u,iV 0])) rfl (rfl) (fun _ pp=>pp.sl 2 rfl) (fun _ pp=>pp.sl 3 rfl) (fun _ pp=>pp.sl 4 rfl) (fun _ pp=>pp.sl 5 rfl)
set_option maxHeartbeats 1000000 in
theorem c_roll (z0 : Value) (z1 : Value) (z2 : Value) (z3 : Value) (z : Shelf) (to : Int) (P0 : Nat → Prop) (w : World) (hP0 : ∀ b, P0 b → b < w.heap.size) (hz0 : zK P0 2 zk z0 z.zT w) (hz1 : zK P0 2 zr z1 z.raw w) (hz2 : zK P0 8 zU z2 z.fine w) (hz3 : zK P0 8 zU z3 z.coarse w)  :
    Calls prog 74 #[.agg (List.toArray [z0,z1,z2,z3,iV z.ze,iV z.zX,iV z.zI,iV z.zN,iV z.zH]),iV to] w (RetSh w P0 (fun u=>.tuple (List.toArray [u,iV (Sh.roll z to).2])) (Sh.roll z to).1):=by
 obtain ⟨z0A,z0c,rfl,hz0c,hz0m,hz0A⟩:=hz0.form
 obtain ⟨z1A,z1c,rfl,hz1c,hz1m,hz1A⟩:=hz1.form
 obtain ⟨z2A,z2c,rfl,hz2c,hz2m,hz2A⟩:=hz2.form
 obtain ⟨z3A,z3c,rfl,hz3c,hz3m,hz3A⟩:=hz3.form
 refine fstart (N:=115) (vals:=[.agg (List.toArray [.slice z0A z.zT.length z0c,.slice z1A z.raw.length z1c,.slice z2A z.fine.length z2c,.slice z3A z.coarse.length z3c,iV z.ze,iV z.zX,iV z.zI,iV z.zN,iV z.zH]),iV to]) (S:=Mem w ⟨no,P0⟩ [slP 2 zk (.slice z0A z.zT.length z0c) z.zT,slP 2 zr (.slice z1A z.raw.length z1c) z.raw,slP 8 zU (.slice z2A z.fine.length z2c) z.fine,slP 8 zU (.slice z3A z.coarse.length z3c) z.coarse]) func74 rfl rfl rfl (Mem.ofDatsP hP0 (dc (dlp hz0) (dc (dlp hz1) (dc (dlp hz2) (dc (dlp hz3) dn))))) (zG fun _ hK1=>vR wn rfl rfl fun b2=>zy wn inf50 rfl fun b4=>zO rfl (zD hK1 (zS fun _ hK2=>zG fun _ hK3=>zB (yM 1 [.slice z0A z.zT.length z0c,.slice z1A z.raw.length z1c,.slice z2A z.fine.length z2c,.slice z3A z.coarse.length z3c,iV z.ze,iV z.zX,iV z.zI,iV z.zN,iV z.zH] rfl rfl rfl rfl agg50 inf50) (yF wn rfl call21 rfl (fun w1 hM=>uX _ _ _ _ z (In w1) w1 (fun _ h=>h) (hM.slp 2 rfl) (hM.slp 3 rfl) (hM.slp 4 rfl) (hM.slp 5 rfl)) (zO rfl (zD hK3 ?_))))))
 refine zG fun _ hK4=>zE rfl (zB (vH rfl rfl) (zD hK4 (za rfl (fun h1=>?_) (fun h1=>?_))))
 · refine zG fun _ hK5=>zB (zw [Zs,Zs,Zs,Zs,iV 0,iV 0,iV 0,iV 0,iV 0] pl50 inf50 rfl rfl) (zE rfl (zn 0 wn rfl rfl rfl inf50 rfl rfl rfl (zO rfl (zD hK5 (zV (zJ (yT (.inl rfl) results74 (zo 0 rfl rfl agg50 inf50 rfl) (zQ rfl) fun w1 hM=>?_)))))))
   have he:Sh.roll z to=((⟨([]:List Label),([]:List Sample),([]:List Bucket),([]:List Bucket),0,0,0,0,0⟩:Shelf),(Sh.wrong z)):=Sh.roll_wrong h1
   rw [he]
   exact hM.vk (s':=(⟨([]:List Label),([]:List Sample),([]:List Bucket),([]:List Bucket),0,0,0,0,0⟩:Shelf)) (fun u=>.tuple (List.toArray [u,iV (Sh.wrong z)])) rfl (rfl) (fun _ _=>zK.ym _ _ _ _) (fun _ _=>zK.ym _ _ _ _) (fun _ _=>zK.ym _ _ _ _) (fun _ _=>zK.ym _ _ _ _)
 obtain ⟨l1,l2,l3,l4⟩:=(Sh.ok_of h1).lens
 obtain ⟨⟨g1,g2,g3,g4⟩,⟨g5,g6,g7,g8,g9⟩,g10,g11,g12,g13,g14⟩:=(Sh.ok_of h1).rng
 refine yL hK2 (zS fun _ hK6=>zG fun _ hK7=>zE rfl (zB (yR rfl rfl) (zE rfl (yQ (t:=24) rfl (fun h2=>?_) (fun h2=>?_)))))
 · refine zW (zW (zB (zP rfl rfl) (zD hK7 (y6 rfl rfl (zG fun _ hK8=>zB (zw [Zs,Zs,Zs,Zs,iV 0,iV 0,iV 0,iV 0,iV 0] pl50 inf50 rfl rfl) (zn 0 wn rfl rfl rfl inf50 rfl rfl rfl (zO rfl (zD hK8 (zV (zJ (yT (.inl rfl) results74 (zo 0 rfl rfl agg50 inf50 rfl) (zQ rfl) fun w1 hM=>?_)))))))))))
   have he:Sh.roll z to=((⟨([]:List Label),([]:List Sample),([]:List Bucket),([]:List Bucket),0,0,0,0,0⟩:Shelf),3):=Sh.roll_range h1 (by omega)
   rw [he]
   exact hM.vk (s':=(⟨([]:List Label),([]:List Sample),([]:List Bucket),([]:List Bucket),0,0,0,0,0⟩:Shelf)) (fun u=>.tuple (List.toArray [u,iV 3])) rfl (rfl) (fun _ _=>zK.ym _ _ _ _) (fun _ _=>zK.ym _ _ _ _) (fun _ _=>zK.ym _ _ _ _) (fun _ _=>zK.ym _ _ _ _)
 refine zd (zg rfl) (zd (y8 rfl rfl) (zB (zP rfl rfl) (zD hK7 (za rfl (fun h3=>?_) (fun h3=>?_)))))
 · refine zG fun _ hK9=>zB (zw [Zs,Zs,Zs,Zs,iV 0,iV 0,iV 0,iV 0,iV 0] pl50 inf50 rfl rfl) (zn 0 wn rfl rfl rfl inf50 rfl rfl rfl (zO rfl (zD hK9 (zV (zJ (yT (.inl rfl) results74 (zo 0 rfl rfl agg50 inf50 rfl) (zQ rfl) fun w1 hM=>?_))))))
   have he:Sh.roll z to=((⟨([]:List Label),([]:List Sample),([]:List Bucket),([]:List Bucket),0,0,0,0,0⟩:Shelf),3):=Sh.roll_range h1 (by omega)
   rw [he]
   exact hM.vk (s':=(⟨([]:List Label),([]:List Sample),([]:List Bucket),([]:List Bucket),0,0,0,0,0⟩:Shelf)) (fun u=>.tuple (List.toArray [u,iV 3])) rfl (rfl) (fun _ _=>zK.ym _ _ _ _) (fun _ _=>zK.ym _ _ _ _) (fun _ _=>zK.ym _ _ _ _) (fun _ _=>zK.ym _ _ _ _)
 obtain ⟨ft1,ft2,ft3,ft4⟩:=Sh.fineTo_rng (Sh.ok_of h1) (to:=to) (by omega) (by omega)
 obtain ⟨ct1,ct2,ct3⟩:=Sh.coarseTo_rng (Sh.ok_of h1) (to:=to) (by omega) (by omega)
 have hu0:=Roll.inT_len z.raw z.zI (Sh.zI z to)
 have hb0:=Sh.bIn_len (z.fine++(Roll.up (Roll.inT z.raw z.zI (Sh.zI z to)) 1)) z.zH (Sh.zH z to)
 have hlen2:(z.fine++(Roll.up (Roll.inT z.raw z.zI (Sh.zI z to)) 1)).length=z.fine.length + _:=List.length_append
 have hu1:=Nat.le_trans (Roll.up_len (Roll.inT z.raw z.zI (Sh.zI z to)) 1) hu0
 have hu2:=Nat.le_trans (Roll.greater_len (Sh.bIn (z.fine++(Roll.up (Roll.inT z.raw z.zI (Sh.zI z to)) 1)) z.zH (Sh.zH z to))) hb0
 refine yL hK6 (zG fun _ hK10=>zB (yM 1 [.slice z0A z.zT.length z0c,.slice z1A z.raw.length z1c,.slice z2A z.fine.length z2c,.slice z3A z.coarse.length z3c,iV z.ze,iV z.zX,iV z.zI,iV z.zN,iV z.zH] rfl rfl rfl rfl agg50 inf50) (uo z wn rfl call119 rfl (fun w1 hM=>j0 _ _ _ _ z (In w1) w1 (fun _ h=>h) (hM.slp 2 rfl) (hM.slp 3 rfl) (hM.slp 4 rfl) (hM.slp 5 rfl) (Sh.wrong_lens (by assumption))) fun A1 cp1 A2 cp2 A3 cp3 A4 cp4 hb1 hA1 hA2 hA3 hA4=>zy wn inf50 rfl fun b7=>zn 0 wn rfl rfl rfl inf50 rfl rfl rfl (zD hK10 (zS fun _ hK11=>vN mix (by kernel_rfl) (fun _ h=>h.drew) (zt (zc rfl fld50_6) (zt (zi 6 rfl rfl rfl flat3) (yq rfl ?_)))))))
 refine vO wn rfl call124 rfl (fun w1 hM=>jh to 10 w1 (by omega) (by omega)) (zt (jn (show _=(Sh.zI z to) from rfl) (uh rfl rfl)) (zt (yf rfl) (vI (yC hK11 (zS fun _ hK12=>vN mix (by kernel_rfl) (fun _ h=>h.drew) (zt (zc rfl fld50_8) (zt (zi 6 rfl rfl rfl flat3) (yq rfl (vO wn rfl call124 rfl (fun w1 hM=>jh (Sh.zI z to) 60 w1 (by omega) (by omega)) (zt (jn (show _=(Sh.zH z to) from rfl) (uh rfl rfl)) (zt (yf rfl) ?_)))))))))))
 refine vI (yC hK12 (zG fun _ hK13=>vB (zr:Sample→List Value) 41 2 (zO rfl (zD hK13 (zS fun _ hK14=>zG fun _ hK15=>zB (zc rfl fld50_1) (zB (zi 7 rfl rfl rfl flat47) (zB (yg rfl underlying47) (zE rfl (zD hK15 ?_)))))))))
 refine zl (uO (fun (k:Nat) (vr:Value)=>[(2,.pointer (some ⟨b2,0,none⟩)),(4,.pointer (some ⟨b4,0,none⟩)),(7,.pointer (some ⟨b7,0,none⟩)),(8,iV (Sh.zI z to)),(9,iV (Sh.zH z to)),(10,vr),(42,.slice z1A z.raw.length z1c),(43,iV z.raw.length),(44,iV k)]) (fun (k:Nat) (vr:Value)=>[Row vr 41 2 zr (Roll.inT (z.raw.take k) z.zI (Sh.zI z to)),.blk b7 [.slice A1 z.zT.length cp1,.slice A2 z.raw.length cp2,.slice A3 z.fine.length cp3,.slice A4 z.coarse.length cp4,iV z.ze,iV z.zX,iV z.zI,iV z.zN,iV z.zH] 50,Row (.slice A1 z.zT.length cp1) 74 2 zk z.zT,Row (.slice A2 z.raw.length cp2) 41 2 zr z.raw,Row (.slice A3 z.fine.length cp3) 163 8 zU z.fine,Row (.slice A4 z.coarse.length cp4) 163 8 zU z.coarse,.blk b4 [Zs,Zs,Zs,Zs,iV 0,iV 0,iV 0,iV 0,iV 0] 50,.blk b2 [.slice z0A z.zT.length z0c,.slice z1A z.raw.length z1c,.slice z2A z.fine.length z2c,.slice z3A z.coarse.length z3c,iV z.ze,iV z.zX,iV z.zI,iV z.zN,iV z.zH] 50,slP 2 zk (.slice z0A z.zT.length z0c) z.zT,slP 2 zr (.slice z1A z.raw.length z1c) z.raw,slP 8 zU (.slice z2A z.fine.length z2c) z.fine,slP 8 zU (.slice z3A z.coarse.length z3c) z.coarse]) (fun (k:Nat) (vr:Value)=>k≤z.raw.length) (fun (k:Nat) (vr:Value)=>z.raw.length - k) 0 (Zs) (sc rfl (sc rfl (sc rfl (sc rfl (sc rfl (sc rfl (sc rfl (sc rfl (sc (ji (by omega)) sn))))))))) (fun _ h=>h) ?_ (fun k vr hI1=>?_))
 · omega
 have hlen:=Nat.le_trans (Roll.inT_len (z.raw.take k) z.zI (Sh.zI z to)) (List.length_take_le k z.raw)
 refine vV 0 (l:=(Roll.inT (z.raw.take k) z.zI (Sh.zI z to))) rfl fun A5 cp5 hv1 hc1 hm1 hA5=>?_
 subst hv1
 refine zG fun _ hK16=>zB (yR rfl rfl) (zD hK16 (zS fun _ hK17=>za rfl (fun h4=>?_) (fun h4=>?_)))
 · refine yL hK17 (zS fun _ hK18=>zl (zG fun _ hK19=>?_))
   obtain ⟨ad1,hd1⟩:=hz1A (ne_nil (i:=k) (by first | omega | (simp <;> omega)))
   refine zB (vC (i:=k) rfl hd1 rfl (by omega) (by first | omega | (simp <;> omega)) underlying47 inf41) ?_
   obtain ⟨s1,hs1⟩:∃ x,z.raw[k]?=some x:=⟨_,List.getElem?_eq_getElem (by first | omega | (simp <;> omega))⟩
   refine zB (v8 9 [iV s1.time,iV s1.value] rfl rfl hd1 hs1 rfl rfl agg41 inf41) (zy wn inf41 rfl fun b12=>zn 0 wn rfl rfl rfl inf41 rfl rfl rfl (zD hK19 (zG fun _ hK20=>zB (zc rfl fld41_0) (zB (zi 0 rfl rfl rfl flat3) (zB (zc rfl fld50_6) (zB (zi 8 rfl rfl rfl flat3) (zB (vn rfl rfl) (zE rfl (yQ (t:=53) rfl (fun h5=>?_) (fun h5=>?_))))))))))
   · refine zd (zc rfl fld41_0) (zd (zi 0 rfl rfl rfl flat3) (zd (zg rfl) (zd (yR rfl rfl) (zB (zP rfl rfl) (zD hK20 (za rfl (fun h6=>?_) (fun h6=>?_)))))))
     · refine zL (zE rfl (zB (yM 0 [iV s1.time,iV s1.value] rfl rfl rfl rfl agg41 inf41) (yt zr ([s1]:List Sample) wn underlying47 inf41 rfl rfl rfl rfl (by decide) (by decide) rfl fun b61=>vD 2 (Roll.inT (z.raw.take k) z.zI (Sh.zI z to)) ([s1]:List Sample) encSample wn rfl rfl rfl (fun _ hM=>(RowSl encSample hM 0 rfl)) underlying47 inf41 rfl rfl (by first | omega | (simp only [List.length_append,List.length_cons,List.length_nil]; omega)) rfl fun A6 cp6 hc2 hm2 hA6=>zO rfl (zj (zm (yC hK18 (zL (zB (zz rfl rfl (by omega)) (zE rfl (zj (vZ (k + 1) (.slice A6 (((Roll.inT (z.raw.take k) z.zI (Sh.zI z to))++([s1]:List Sample)).length) cp6) (sc rfl (sc rfl (sc rfl (sc rfl (sc rfl (sc rfl (sc rfl (sc rfl (sc (ji (by omega)) sn))))))))) (fun _ h=>by rw [(Roll.inT_succ (a:=z.zI) (b:=Sh.zI z to) hs1).trans (if_pos (by omega))]; exact (h.sel [2,3,4,5,6,7,8,9,10,11,12,13] (by decide) rfl)) ?_ ?_)))))))))))
       · omega
       omega
     refine yV (zm (yC hK18 (zL (zB (zz rfl rfl (by omega)) (zE rfl (zj (vZ (k + 1) (.slice A5 ((Roll.inT (z.raw.take k) z.zI (Sh.zI z to)).length) cp5) (sc rfl (sc rfl (sc rfl (sc rfl (sc rfl (sc rfl (sc rfl (sc rfl (sc (ji (by omega)) sn))))))))) (fun _ h=>by rw [(Roll.inT_succ (a:=z.zI) (b:=Sh.zI z to) hs1).trans (if_neg (by omega))]; exact (h.sel [1,2,3,4,5,6,7,8,9,10,11,12] (by decide) rfl)) ?_ ?_)))))))
     · omega
     omega
   refine zW (zW (zW (zW (zB (zP rfl rfl) (zD hK20 (yu rfl rfl (yV (zm (yC hK18 (zL (zB (zz rfl rfl (by omega)) (zE rfl (zj (vZ (k + 1) (.slice A5 ((Roll.inT (z.raw.take k) z.zI (Sh.zI z to)).length) cp5) (sc rfl (sc rfl (sc rfl (sc rfl (sc rfl (sc rfl (sc rfl (sc rfl (sc (ji (by omega)) sn))))))))) (fun _ h=>by rw [(Roll.inT_succ (a:=z.zI) (b:=Sh.zI z to) hs1).trans (if_neg (by omega))]; exact (h.sel [1,2,3,4,5,6,7,8,9,10,11,12] (by decide) rfl)) ?_ ?_))))))))))))))
   · omega
   omega
 have hk1:z.raw.take k=z.raw:=List.take_of_length_le (by omega)
 rw [hk1]
 rw [hk1] at hA5
 refine yc (yH (vz (yJ (yC hK14 (zS fun _ hK21=>vG (Mem w ⟨no,P0⟩ [Row (.slice A5 ((Roll.inT z.raw z.zI (Sh.zI z to)).length) cp5) 41 2 zr (Roll.inT z.raw z.zI (Sh.zI z to)),Row (.slice A1 z.zT.length cp1) 74 2 zk z.zT,Row (.slice A2 z.raw.length cp2) 41 2 zr z.raw,Row (.slice A4 z.coarse.length cp4) 163 8 zU z.coarse,.blk b4 [Zs,Zs,Zs,Zs,iV 0,iV 0,iV 0,iV 0,iV 0] 50,.blk b2 [.slice z0A z.zT.length z0c,.slice z1A z.raw.length z1c,.slice z2A z.fine.length z2c,.slice z3A z.coarse.length z3c,iV z.ze,iV z.zX,iV z.zI,iV z.zN,iV z.zH] 50,slP 2 zk (.slice z0A z.zT.length z0c) z.zT,slP 2 zr (.slice z1A z.raw.length z1c) z.raw,slP 8 zU (.slice z2A z.fine.length z2c) z.fine,slP 8 zU (.slice z3A z.coarse.length z3c) z.coarse]) mix (fun _ h=>h.drew) rfl (vE 5 [0,2] [0,2,3,5,6,7,8,9,10,11] rfl fun KS hKS=>yB (zc rfl fld50_2) (yB (zg rfl) (yZ hKS (gJ (f:=3) [(1,.val 65 (.slice A3 z.fine.length cp3)),(3,.row 67 163 8 (Roll.up (Roll.inT z.raw z.zI (Sh.zI z to)) 1).length ((Roll.up (Roll.inT z.raw z.zI (Sh.zI z to)) 1).flatMap zU))] rfl (by kernel_rfl) (nd [1,3] rfl (by decide)) (nd [65,67] rfl (by decide)) rfl ⟨jv_ [] trivial rfl rfl rfl (zi 1 rfl rfl rfl flat48),jr_ [] trivial rfl rfl rfl rfl call126 (fun w1 hM=>c_Up _ (Roll.inT z.raw z.zI (Sh.zI z to)) 1 w1 (RowSl encSample hM 0 rfl) (by first | assumption | omega | (simp only [List.length_cons,List.length_nil]; omega) | exact Nat.le_trans (Roll.up_len _ _) (by first | omega | simp))),trivial⟩ (S9 [0,2,3,5,6,7,8,9,10,11]) fun val1=>jq (E':=[(2,.pointer (some ⟨b2,0,none⟩)),(4,.pointer (some ⟨b4,0,none⟩)),(7,.pointer (some ⟨b7,0,none⟩)),(8,iV (Sh.zI z to)),(9,iV (Sh.zH z to)),(10,.slice A5 ((Roll.inT z.raw z.zI (Sh.zI z to)).length) cp5),(42,.slice z1A z.raw.length z1c),(43,iV z.raw.length),(44,iV k),(45,.bool (decide ((k:Int) < (z.raw.length:Int)))),(64,.pointer (some ⟨b7,2,none⟩)),(65,.slice A3 z.fine.length cp3),(66,.slice A5 ((Roll.inT z.raw z.zI (Sh.zI z to)).length) cp5),(67,(val1 3))]) (S':=Mem w ⟨no,P0⟩ [Row (val1 3) 163 8 zU (Roll.up (Roll.inT z.raw z.zI (Sh.zI z to)) 1),Row (.slice A5 ((Roll.inT z.raw z.zI (Sh.zI z to)).length) cp5) 41 2 zr (Roll.inT z.raw z.zI (Sh.zI z to)),.blk b7 [.slice A1 z.zT.length cp1,.slice A2 z.raw.length cp2,.slice A3 z.fine.length cp3,.slice A4 z.coarse.length cp4,iV z.ze,iV z.zX,iV z.zI,iV z.zN,iV z.zH] 50,Row (.slice A1 z.zT.length cp1) 74 2 zk z.zT,Row (.slice A2 z.raw.length cp2) 41 2 zr z.raw,Row (.slice A3 z.fine.length cp3) 163 8 zU z.fine,Row (.slice A4 z.coarse.length cp4) 163 8 zU z.coarse,.blk b4 [Zs,Zs,Zs,Zs,iV 0,iV 0,iV 0,iV 0,iV 0] 50,.blk b2 [.slice z0A z.zT.length z0c,.slice z1A z.raw.length z1c,.slice z2A z.fine.length z2c,.slice z3A z.coarse.length z3c,iV z.ze,iV z.zX,iV z.zI,iV z.zN,iV z.zH] 50,slP 2 zk (.slice z0A z.zT.length z0c) z.zT,slP 2 zr (.slice z1A z.raw.length z1c) z.raw,slP 8 zU (.slice z2A z.fine.length z2c) z.fine,slP 8 zU (.slice z3A z.coarse.length z3c) z.coarse]) (sc rfl (sc rfl (sc rfl (sc rfl (sc rfl (sc rfl (sc rfl (sc rfl (sc rfl (sc rfl (sc rfl (sc rfl (sc rfl (sc rfl sn)))))))))))))) (fun _ h=>h) (jH 0 (l:=(Roll.up (Roll.inT z.raw z.zI (Sh.zI z to)) 1)) (enc:=zU) rfl fun A7 cp7 hv2 hc3 hm3 hA7=>?_))))))))))
 rw [hv2]
 refine yW 2 4 (yX (i:=4) rfl fun KN hKN=>vD 5 z.fine (Roll.up (Roll.inT z.raw z.zI (Sh.zI z to)) 1) encBucket wn rfl rfl rfl (fun _ hM=>(RowSl encBucket hM 0 rfl)) underlying48 inf163 rfl rfl (by first | omega | (simp only [List.length_append,List.length_cons,List.length_nil]; omega)) rfl fun A8 cp8 hc4 hm4 hA8=>yP hKN [1,3,4,6,7,8,9,10,11,12] (vE 1 [5] [1,3,4,6,7,8,9,10,11,12] rfl fun KS hKS=>yB (zc rfl fld50_2) (yZ hKS (yW 0 6 (yX (i:=6) rfl fun KN hKN=>yo 2 wn rfl rfl rfl rfl inf48 rfl rfl (yP hKN [1,3,4,6,7,8,9,10,11,12] (yp (by kernel_rfl) (yC hK21 ?_))))))))
 refine zG fun _ hK22=>vB (zU:Bucket→List Value) 163 8 (zO rfl (zD hK22 (zS fun _ hK23=>zG fun _ hK24=>zB (zc rfl fld50_2) (zB (zi 3 rfl rfl rfl flat48) (zB (yg rfl underlying48) (zE rfl (zD hK24 (zl ?_))))))))
 refine uO (fun (k:Nat) (vr2:Value)=>[(2,.pointer (some ⟨b2,0,none⟩)),(4,.pointer (some ⟨b4,0,none⟩)),(7,.pointer (some ⟨b7,0,none⟩)),(8,iV (Sh.zI z to)),(9,iV (Sh.zH z to)),(13,vr2),(71,.slice A8 ((z.fine++(Roll.up (Roll.inT z.raw z.zI (Sh.zI z to)) 1)).length) cp8),(72,iV ((z.fine++(Roll.up (Roll.inT z.raw z.zI (Sh.zI z to)) 1)).length:Int)),(73,iV k)]) (fun (k:Nat) (vr2:Value)=>[Row vr2 163 8 zU (Sh.bIn ((z.fine++(Roll.up (Roll.inT z.raw z.zI (Sh.zI z to)) 1)).take k) z.zH (Sh.zH z to)),Row (.slice A7 ((Roll.up (Roll.inT z.raw z.zI (Sh.zI z to)) 1).length) cp7) 163 8 zU (Roll.up (Roll.inT z.raw z.zI (Sh.zI z to)) 1),Row (.slice A5 ((Roll.inT z.raw z.zI (Sh.zI z to)).length) cp5) 41 2 zr (Roll.inT z.raw z.zI (Sh.zI z to)),.blk b7 [.slice A1 z.zT.length cp1,.slice A2 z.raw.length cp2,.slice A8 ((z.fine++(Roll.up (Roll.inT z.raw z.zI (Sh.zI z to)) 1)).length) cp8,.slice A4 z.coarse.length cp4,iV z.ze,iV z.zX,iV z.zI,iV z.zN,iV z.zH] 50,Row (.slice A1 z.zT.length cp1) 74 2 zk z.zT,Row (.slice A2 z.raw.length cp2) 41 2 zr z.raw,Row (.slice A8 ((z.fine++(Roll.up (Roll.inT z.raw z.zI (Sh.zI z to)) 1)).length) cp8) 163 8 zU (z.fine++(Roll.up (Roll.inT z.raw z.zI (Sh.zI z to)) 1)),Row (.slice A4 z.coarse.length cp4) 163 8 zU z.coarse,.blk b4 [Zs,Zs,Zs,Zs,iV 0,iV 0,iV 0,iV 0,iV 0] 50,.blk b2 [.slice z0A z.zT.length z0c,.slice z1A z.raw.length z1c,.slice z2A z.fine.length z2c,.slice z3A z.coarse.length z3c,iV z.ze,iV z.zX,iV z.zI,iV z.zN,iV z.zH] 50,slP 2 zk (.slice z0A z.zT.length z0c) z.zT,slP 2 zr (.slice z1A z.raw.length z1c) z.raw,slP 8 zU (.slice z2A z.fine.length z2c) z.fine,slP 8 zU (.slice z3A z.coarse.length z3c) z.coarse]) (fun (k:Nat) (vr2:Value)=>k≤(z.fine++(Roll.up (Roll.inT z.raw z.zI (Sh.zI z to)) 1)).length) (fun (k:Nat) (vr2:Value)=>(z.fine++(Roll.up (Roll.inT z.raw z.zI (Sh.zI z to)) 1)).length - k) 0 (Zs) (sc rfl (sc rfl (sc rfl (sc rfl (sc rfl (sc rfl (sc rfl (sc rfl (sc (ji (by omega)) sn))))))))) (fun _ h=>h) ?_ (fun k vr2 hI2=>?_)
 · omega
 have hlen:=Nat.le_trans (Sh.bIn_len ((z.fine++(Roll.up (Roll.inT z.raw z.zI (Sh.zI z to)) 1)).take k) z.zH (Sh.zH z to)) (List.length_take_le k (z.fine++(Roll.up (Roll.inT z.raw z.zI (Sh.zI z to)) 1)))
 refine vV 0 (l:=(Sh.bIn ((z.fine++(Roll.up (Roll.inT z.raw z.zI (Sh.zI z to)) 1)).take k) z.zH (Sh.zH z to))) rfl fun A9 cp9 hv3 hc5 hm5 hA9=>?_
 subst hv3
 refine zG fun _ hK25=>zB (yR rfl rfl) (zD hK25 (zS fun _ hK26=>za rfl (fun h7=>?_) (fun h7=>?_)))
 · refine yL hK26 (zS fun _ hK27=>zl (zG fun _ hK28=>?_))
   obtain ⟨ad2,hd2⟩:=hA8 (ne_nil (i:=k) (by first | omega | (simp <;> omega)))
   refine zB (vC (i:=k) rfl hd2 rfl (by omega) (by first | omega | (simp <;> omega)) underlying48 inf163) ?_
   obtain ⟨s2,hs2⟩:∃ x,(z.fine++(Roll.up (Roll.inT z.raw z.zI (Sh.zI z to)) 1))[k]?=some x:=⟨_,List.getElem?_eq_getElem (by first | omega | (simp <;> omega))⟩
   refine zB (u9 6 [iV s2.at_,iV s2.sum.count,iV s2.sum.total,iV s2.sum.min,iV s2.sum.max,iV s2.sum.first,iV s2.sum.last,iV s2.sum.rise] encBucket rfl rfl hd2 hs2 rfl rfl agg163 inf163) (zy wn inf163 rfl fun b15=>zn 0 wn rfl rfl rfl inf163 rfl rfl rfl (zD hK28 (zG fun _ hK29=>zB (zc rfl fld163_0) (zB (zi 0 rfl rfl rfl flat3) (zB (zc rfl fld50_8) (zB (zi 10 rfl rfl rfl flat3) (zB (vn rfl rfl) (zE rfl (yQ (t:=82) rfl (fun h8=>?_) (fun h8=>?_))))))))))
   · refine zd (zc rfl fld163_0) (zd (zi 0 rfl rfl rfl flat3) (zd (zg rfl) (zd (yR rfl rfl) (zB (zP rfl rfl) (zD hK29 (za rfl (fun h9=>?_) (fun h9=>?_)))))))
     · refine zL (zE rfl (zB (yM 0 [iV s2.at_,iV s2.sum.count,iV s2.sum.total,iV s2.sum.min,iV s2.sum.max,iV s2.sum.first,iV s2.sum.last,iV s2.sum.rise] rfl rfl rfl rfl agg163 inf163) (yt zU ([s2]:List Bucket) wn underlying48 inf163 rfl rfl rfl rfl (by decide) (by decide) rfl fun b90=>vD 2 (Sh.bIn ((z.fine++(Roll.up (Roll.inT z.raw z.zI (Sh.zI z to)) 1)).take k) z.zH (Sh.zH z to)) ([s2]:List Bucket) encBucket wn rfl rfl rfl (fun _ hM=>(RowSl encBucket hM 0 rfl)) underlying48 inf163 rfl rfl (by first | omega | (simp only [List.length_append,List.length_cons,List.length_nil]; omega)) rfl fun A10 cp10 hc6 hm6 hA10=>zO rfl (zj (zm (yC hK27 (zL (zB (zz rfl rfl (by omega)) (zE rfl (zj (vZ (k + 1) (.slice A10 (((Sh.bIn ((z.fine++(Roll.up (Roll.inT z.raw z.zI (Sh.zI z to)) 1)).take k) z.zH (Sh.zH z to))++([s2]:List Bucket)).length) cp10) (sc rfl (sc rfl (sc rfl (sc rfl (sc rfl (sc rfl (sc rfl (sc rfl (sc (ji (by omega)) sn))))))))) (fun _ h=>by rw [(Sh.bIn_succ (a:=z.zH) (b:=Sh.zH z to) hs2).trans (if_pos (by omega))]; exact (h.sel [2,3,4,5,6,7,8,9,10,11,12,13,14,15] (by decide) rfl)) ?_ ?_)))))))))))
       · omega
       omega
     refine yV (zm (yC hK27 (zL (zB (zz rfl rfl (by omega)) (zE rfl (zj (vZ (k + 1) (.slice A9 ((Sh.bIn ((z.fine++(Roll.up (Roll.inT z.raw z.zI (Sh.zI z to)) 1)).take k) z.zH (Sh.zH z to)).length) cp9) (sc rfl (sc rfl (sc rfl (sc rfl (sc rfl (sc rfl (sc rfl (sc rfl (sc (ji (by omega)) sn))))))))) (fun _ h=>by rw [(Sh.bIn_succ (a:=z.zH) (b:=Sh.zH z to) hs2).trans (if_neg (by omega))]; exact (h.sel [1,2,3,4,5,6,7,8,9,10,11,12,13,14] (by decide) rfl)) ?_ ?_)))))))
     · omega
     omega
   refine zW (zW (zW (zW (zB (zP rfl rfl) (zD hK29 (yu rfl rfl (yV (zm (yC hK27 (zL (zB (zz rfl rfl (by omega)) (zE rfl (zj (vZ (k + 1) (.slice A9 ((Sh.bIn ((z.fine++(Roll.up (Roll.inT z.raw z.zI (Sh.zI z to)) 1)).take k) z.zH (Sh.zH z to)).length) cp9) (sc rfl (sc rfl (sc rfl (sc rfl (sc rfl (sc rfl (sc rfl (sc rfl (sc (ji (by omega)) sn))))))))) (fun _ h=>by rw [(Sh.bIn_succ (a:=z.zH) (b:=Sh.zH z to) hs2).trans (if_neg (by omega))]; exact (h.sel [1,2,3,4,5,6,7,8,9,10,11,12,13,14] (by decide) rfl)) ?_ ?_))))))))))))))
   · omega
   omega
 have hk2:(z.fine++(Roll.up (Roll.inT z.raw z.zI (Sh.zI z to)) 1)).take k=(z.fine++(Roll.up (Roll.inT z.raw z.zI (Sh.zI z to)) 1)):=List.take_of_length_le (by omega)
 rw [hk2]
 rw [hk2] at hA9
 refine yc (yH (vz (yJ (yC hK23 (zS fun _ hK30=>vG (Mem w ⟨no,P0⟩ [Row (.slice A9 ((Sh.bIn (z.fine++(Roll.up (Roll.inT z.raw z.zI (Sh.zI z to)) 1)) z.zH (Sh.zH z to)).length) cp9) 163 8 zU (Sh.bIn (z.fine++(Roll.up (Roll.inT z.raw z.zI (Sh.zI z to)) 1)) z.zH (Sh.zH z to)),Row (.slice A7 ((Roll.up (Roll.inT z.raw z.zI (Sh.zI z to)) 1).length) cp7) 163 8 zU (Roll.up (Roll.inT z.raw z.zI (Sh.zI z to)) 1),Row (.slice A5 ((Roll.inT z.raw z.zI (Sh.zI z to)).length) cp5) 41 2 zr (Roll.inT z.raw z.zI (Sh.zI z to)),Row (.slice A1 z.zT.length cp1) 74 2 zk z.zT,Row (.slice A2 z.raw.length cp2) 41 2 zr z.raw,Row (.slice A8 ((z.fine++(Roll.up (Roll.inT z.raw z.zI (Sh.zI z to)) 1)).length) cp8) 163 8 zU (z.fine++(Roll.up (Roll.inT z.raw z.zI (Sh.zI z to)) 1)),.blk b4 [Zs,Zs,Zs,Zs,iV 0,iV 0,iV 0,iV 0,iV 0] 50,.blk b2 [.slice z0A z.zT.length z0c,.slice z1A z.raw.length z1c,.slice z2A z.fine.length z2c,.slice z3A z.coarse.length z3c,iV z.ze,iV z.zX,iV z.zI,iV z.zN,iV z.zH] 50,slP 2 zk (.slice z0A z.zT.length z0c) z.zT,slP 2 zr (.slice z1A z.raw.length z1c) z.raw,slP 8 zU (.slice z2A z.fine.length z2c) z.fine,slP 8 zU (.slice z3A z.coarse.length z3c) z.coarse]) mix (fun _ h=>h.drew) rfl (vE 5 [0,2] [0,1,2,4,5,6,8,9,10,11,12,13] rfl fun KS hKS=>yB (zc rfl fld50_3) (yB (zg rfl) (yZ hKS (gJ (f:=3) [(1,.val 94 (.slice A4 z.coarse.length cp4)),(3,.row 96 163 8 (Roll.greater (Sh.bIn (z.fine++(Roll.up (Roll.inT z.raw z.zI (Sh.zI z to)) 1)) z.zH (Sh.zH z to))).length ((Roll.greater (Sh.bIn (z.fine++(Roll.up (Roll.inT z.raw z.zI (Sh.zI z to)) 1)) z.zH (Sh.zH z to))).flatMap zU))] rfl (by kernel_rfl) (nd [1,3] rfl (by decide)) (nd [94,96] rfl (by decide)) rfl ⟨jv_ [] trivial rfl rfl rfl (zi 3 rfl rfl rfl flat48),jr_ [] trivial rfl rfl rfl rfl call127 (fun w1 hM=>c_Greater _ (Sh.bIn (z.fine++(Roll.up (Roll.inT z.raw z.zI (Sh.zI z to)) 1)) z.zH (Sh.zH z to)) w1 (RowSl encBucket hM 0 rfl) (by first | assumption | omega | (simp only [List.length_cons,List.length_nil]; omega) | exact Nat.le_trans (Roll.up_len _ _) (by first | omega | simp))),trivial⟩ (S9 [0,1,2,4,5,6,8,9,10,11,12,13]) fun val2=>jq (E':=[(2,.pointer (some ⟨b2,0,none⟩)),(4,.pointer (some ⟨b4,0,none⟩)),(7,.pointer (some ⟨b7,0,none⟩)),(8,iV (Sh.zI z to)),(9,iV (Sh.zH z to)),(13,.slice A9 ((Sh.bIn (z.fine++(Roll.up (Roll.inT z.raw z.zI (Sh.zI z to)) 1)) z.zH (Sh.zH z to)).length) cp9),(71,.slice A8 ((z.fine++(Roll.up (Roll.inT z.raw z.zI (Sh.zI z to)) 1)).length) cp8),(72,iV ((z.fine++(Roll.up (Roll.inT z.raw z.zI (Sh.zI z to)) 1)).length:Int)),(73,iV k),(74,.bool (decide ((k:Int) < ((z.fine++(Roll.up (Roll.inT z.raw z.zI (Sh.zI z to)) 1)).length:Int)))),(93,.pointer (some ⟨b7,3,none⟩)),(94,.slice A4 z.coarse.length cp4),(95,.slice A9 ((Sh.bIn (z.fine++(Roll.up (Roll.inT z.raw z.zI (Sh.zI z to)) 1)) z.zH (Sh.zH z to)).length) cp9),(96,(val2 3))]) (S':=Mem w ⟨no,P0⟩ [Row (val2 3) 163 8 zU (Roll.greater (Sh.bIn (z.fine++(Roll.up (Roll.inT z.raw z.zI (Sh.zI z to)) 1)) z.zH (Sh.zH z to))),Row (.slice A9 ((Sh.bIn (z.fine++(Roll.up (Roll.inT z.raw z.zI (Sh.zI z to)) 1)) z.zH (Sh.zH z to)).length) cp9) 163 8 zU (Sh.bIn (z.fine++(Roll.up (Roll.inT z.raw z.zI (Sh.zI z to)) 1)) z.zH (Sh.zH z to)),Row (.slice A7 ((Roll.up (Roll.inT z.raw z.zI (Sh.zI z to)) 1).length) cp7) 163 8 zU (Roll.up (Roll.inT z.raw z.zI (Sh.zI z to)) 1),Row (.slice A5 ((Roll.inT z.raw z.zI (Sh.zI z to)).length) cp5) 41 2 zr (Roll.inT z.raw z.zI (Sh.zI z to)),.blk b7 [.slice A1 z.zT.length cp1,.slice A2 z.raw.length cp2,.slice A8 ((z.fine++(Roll.up (Roll.inT z.raw z.zI (Sh.zI z to)) 1)).length) cp8,.slice A4 z.coarse.length cp4,iV z.ze,iV z.zX,iV z.zI,iV z.zN,iV z.zH] 50,Row (.slice A1 z.zT.length cp1) 74 2 zk z.zT,Row (.slice A2 z.raw.length cp2) 41 2 zr z.raw,Row (.slice A8 ((z.fine++(Roll.up (Roll.inT z.raw z.zI (Sh.zI z to)) 1)).length) cp8) 163 8 zU (z.fine++(Roll.up (Roll.inT z.raw z.zI (Sh.zI z to)) 1)),Row (.slice A4 z.coarse.length cp4) 163 8 zU z.coarse,.blk b4 [Zs,Zs,Zs,Zs,iV 0,iV 0,iV 0,iV 0,iV 0] 50,.blk b2 [.slice z0A z.zT.length z0c,.slice z1A z.raw.length z1c,.slice z2A z.fine.length z2c,.slice z3A z.coarse.length z3c,iV z.ze,iV z.zX,iV z.zI,iV z.zN,iV z.zH] 50,slP 2 zk (.slice z0A z.zT.length z0c) z.zT,slP 2 zr (.slice z1A z.raw.length z1c) z.raw,slP 8 zU (.slice z2A z.fine.length z2c) z.fine,slP 8 zU (.slice z3A z.coarse.length z3c) z.coarse]) (sc rfl (sc rfl (sc rfl (sc rfl (sc rfl (sc rfl (sc rfl (sc rfl (sc rfl (sc rfl (sc rfl (sc rfl (sc rfl (sc rfl sn)))))))))))))) (fun _ h=>h) (jH 0 (l:=(Roll.greater (Sh.bIn (z.fine++(Roll.up (Roll.inT z.raw z.zI (Sh.zI z to)) 1)) z.zH (Sh.zH z to)))) (enc:=zU) rfl fun A11 cp11 hv4 hc7 hm7 hA11=>?_))))))))))
 rw [hv4]
 refine yW 2 4 (yX (i:=4) rfl fun KN hKN=>vD 8 z.coarse (Roll.greater (Sh.bIn (z.fine++(Roll.up (Roll.inT z.raw z.zI (Sh.zI z to)) 1)) z.zH (Sh.zH z to))) encBucket wn rfl rfl rfl (fun _ hM=>(RowSl encBucket hM 0 rfl)) underlying48 inf163 rfl rfl (by first | omega | (simp only [List.length_append,List.length_cons,List.length_nil]; omega)) rfl fun A12 cp12 hc8 hm8 hA12=>yP hKN [1,2,3,5,6,7,9,10,11,12,13,14] (vE 1 [5] [1,2,3,5,6,7,9,10,11,12,13,14] rfl fun KS hKS=>yB (zc rfl fld50_3) (yZ hKS (yW 0 6 (yX (i:=6) rfl fun KN hKN=>yo 4 wn rfl rfl rfl rfl inf48 rfl rfl (yP hKN [1,2,3,5,6,7,9,10,11,12,13,14] (yp (by kernel_rfl) (yC hK30 ?_))))))))
 refine zS fun _ hK31=>zG fun _ hK32=>zB (zc rfl fld50_2) (zB (zi 4 rfl rfl rfl flat48) (zB (yg rfl underlying48) (zB (y8 rfl rfl) (zE rfl (yQ (t:=103) rfl (fun h10=>?_) (fun h10=>?_))))))
 · refine zW (zW (zW (zW (zB (zP rfl rfl) (zD hK32 (y6 rfl rfl (zG fun _ hK33=>zB (zw [Zs,Zs,Zs,Zs,iV 0,iV 0,iV 0,iV 0,iV 0] pl50 inf50 rfl rfl) (zn 9 wn rfl rfl rfl inf50 rfl rfl rfl (zO rfl (zD hK33 ?_))))))))))
   refine zV (zJ (yT (.inl rfl) results74 (zo 9 rfl rfl agg50 inf50 rfl) (zQ rfl) fun w1 hM=>?_))
   have he:Sh.roll z to=((⟨([]:List Label),([]:List Sample),([]:List Bucket),([]:List Bucket),0,0,0,0,0⟩:Shelf),5):=Sh.roll_many h1 (fun g=>by omega) (.inl h10)
   rw [he]
   exact hM.vk (s':=(⟨([]:List Label),([]:List Sample),([]:List Bucket),([]:List Bucket),0,0,0,0,0⟩:Shelf)) (fun u=>.tuple (List.toArray [u,iV 5])) rfl (rfl) (fun _ _=>zK.ym _ _ _ _) (fun _ _=>zK.ym _ _ _ _) (fun _ _=>zK.ym _ _ _ _) (fun _ _=>zK.ym _ _ _ _)
 refine zd (zc rfl fld50_3) (zd (zi 4 rfl rfl rfl flat48) (zd (yg rfl underlying48) (zd (y8 rfl rfl) (zB (zP rfl rfl) (zD hK32 (za rfl (fun h11=>?_) (fun h11=>?_)))))))
 · refine zG fun _ hK34=>zB (zw [Zs,Zs,Zs,Zs,iV 0,iV 0,iV 0,iV 0,iV 0] pl50 inf50 rfl rfl) (zn 9 wn rfl rfl rfl inf50 rfl rfl rfl (zO rfl (zD hK34 (zV (zJ (yT (.inl rfl) results74 (zo 9 rfl rfl agg50 inf50 rfl) (zQ rfl) fun w1 hM=>?_))))))
   have he:Sh.roll z to=((⟨([]:List Label),([]:List Sample),([]:List Bucket),([]:List Bucket),0,0,0,0,0⟩:Shelf),5):=Sh.roll_many h1 (fun g=>by omega) (.inr h11)
   rw [he]
   exact hM.vk (s':=(⟨([]:List Label),([]:List Sample),([]:List Bucket),([]:List Bucket),0,0,0,0,0⟩:Shelf)) (fun u=>.tuple (List.toArray [u,iV 5])) rfl (rfl) (fun _ _=>zK.ym _ _ _ _) (fun _ _=>zK.ym _ _ _ _) (fun _ _=>zK.ym _ _ _ _) (fun _ _=>zK.ym _ _ _ _)
 refine yL hK31 (zG fun _ hK35=>zE rfl (zE rfl (zB (zc rfl fld50_6) (yo 4 wn rfl rfl rfl rfl inf3 rfl rfl (zB (zc rfl fld50_8) (yo 4 wn rfl rfl rfl rfl inf3 rfl rfl (zD hK35 (zG fun _ hK36=>zB (yM 4 [.slice A1 z.zT.length cp1,.slice A2 z.raw.length cp2,.slice A8 ((z.fine++(Roll.up (Roll.inT z.raw z.zI (Sh.zI z to)) 1)).length) cp8,.slice A12 ((z.coarse++(Roll.greater (Sh.bIn (z.fine++(Roll.up (Roll.inT z.raw z.zI (Sh.zI z to)) 1)) z.zH (Sh.zH z to)))).length) cp12,iV z.ze,iV z.zX,iV (Sh.zI z to),iV z.zN,iV (Sh.zH z to)] rfl rfl rfl rfl agg50 inf50) (zn 9 wn rfl rfl rfl inf50 rfl rfl rfl ?_)))))))))
 refine zO rfl (zD hK36 (zV (yT (.inl rfl) results74 (zo 9 rfl rfl agg50 inf50 rfl) (zQ rfl) fun w1 hM=>?_)))
 have he:Sh.roll z to=((⟨z.zT,z.raw,(z.fine++(Roll.up (Roll.inT z.raw z.zI (Sh.zI z to)) 1)),(z.coarse++(Roll.greater (Sh.bIn (z.fine++(Roll.up (Roll.inT z.raw z.zI (Sh.zI z to)) 1)) z.zH (Sh.zH z to)))),z.ze,z.zX,(Sh.zI z to),z.zN,(Sh.zH z to)⟩:Shelf),0):=Sh.roll_ok h1 (fun g=>by omega) h10 h11
 rw [he]
 have hM:=hM.yb encLabel (i:=5) rfl rfl
 have hM:=hM.yb encSample (i:=6) rfl rfl
 have hM:=hM.yb encBucket (i:=7) rfl rfl
 have hM:=hM.yb encBucket (i:=8) rfl rfl
 exact hM.vk (s':=(⟨z.zT,z.raw,(z.fine++(Roll.up (Roll.inT z.raw z.zI (Sh.zI z to)) 1)),(z.coarse++(Roll.greater (Sh.bIn (z.fine++(Roll.up (Roll.inT z.raw z.zI (Sh.zI z to)) 1)) z.zH (Sh.zH z to)))),z.ze,z.zX,(Sh.zI z to),z.zN,(Sh.zH z to)⟩:Shelf)) (fun u=>.tuple (List.toArray [u,iV 0])) rfl (rfl) (fun _ pp=>pp.sl 5 rfl) (fun _ pp=>pp.sl 6 rfl) (fun _ pp=>pp.sl 7 rfl) (fun _ pp=>pp.sl 8 rfl)
theorem uY (x : Bucket) (fp : Nat) (f : Int) (w : World) (hfp : w.heap[fp]? = some (.cells [iV f].toArray 3 (0, 0)))  :
    Calls prog 121 #[.agg (zU x).toArray,.pointer (some ⟨fp,0,none⟩)] w (Ret w (.bool (decide (x.at_ < f)))):=by
 refine fstart (N:=8) (vals:=[.agg (zU x).toArray,.pointer (some ⟨fp,0,none⟩)]) (S:=Mem w no [datB fp [iV f] 3]) func121 rfl rfl rfl (Mem.ofDats (dc (ddb hfp) dn)) (zG fun _ hK1=>vR wn rfl rfl fun b2=>zO rfl (zD hK1 (zG fun _ hK2=>zB (zc rfl fld163_0) (zB (zi 0 rfl rfl rfl flat3) (zB (vw 1 rfl rfl rfl flat3) (zB (yR rfl rfl) (zO rfl (zD hK2 ?_))))))))
 refine zV (zY (.inl rfl) results121 (zQ rfl) fun w1 hM=>?_)
 exact zq rfl hM
theorem c_forget2 (x : Sample) (zp : Nat) (z0 : Value) (z1 : Value) (z2 : Value) (z3 : Value) (z : Shelf) (w : World) (hzp : w.heap[zp]? = some (.cells [z0, z1, z2, z3, iV z.ze, iV z.zX, iV z.zI, iV z.zN, iV z.zH].toArray 50 (0, 0)))  :
    Calls prog 123 #[.agg (zr x).toArray,.pointer (some ⟨zp,0,none⟩)] w (Ret w (.bool (decide (x.time < z.ze)))):=by
 refine fstart (N:=9) (vals:=[.agg (zr x).toArray,.pointer (some ⟨zp,0,none⟩)]) (S:=Mem w no [datB zp [z0,z1,z2,z3,iV z.ze,iV z.zX,iV z.zI,iV z.zN,iV z.zH] 50]) func123 rfl rfl rfl (Mem.ofDats (dc (ddb hzp) dn)) (zG fun _ hK1=>vR wn rfl rfl fun b2=>zO rfl (zD hK1 (zG fun _ hK2=>zB (zc rfl fld41_0) (zB (zi 0 rfl rfl rfl flat3) (zB (zc rfl fld50_4) (zB (vw 1 rfl rfl rfl flat3) (zB (yR rfl rfl) (zO rfl ?_))))))))
 refine zD hK2 (zV (zY (.inl rfl) results123 (zQ rfl) fun w1 hM=>?_))
 exact zq rfl hM
theorem ut (f : Int) (w : World)   :
    Calls prog 120 #[iV f] w (RetMk w (fun b=>.func (.func 121) #[] #[.pointer (some ⟨b,0,none⟩)]) (fun b=>.blk b [iV f] 3)):=by
 refine fstart (N:=4) (vals:=[iV f]) (S:=Mem w no []) func120 rfl rfl rfl (Mem.ofDats dn) (zG fun _ hK1=>jF wn rfl rfl rfl fun b1=>zO rfl (zD hK1 (zG fun _ hK2=>zB (ve rfl rfl) (zO rfl (zD hK2 (zV (zY (.inl rfl) results120 (zQ rfl) fun w1 hM=>?_)))))))
 exact ⟨b1,rfl,hM⟩
set_option maxHeartbeats 1000000 in
theorem c_forget (z0 : Value) (z1 : Value) (z2 : Value) (z3 : Value) (z : Shelf) (tier : Int) (to : Int) (P0 : Nat → Prop) (w : World) (hP0 : ∀ b, P0 b → b < w.heap.size) (hz0 : zK P0 2 zk z0 z.zT w) (hz1 : zK P0 2 zr z1 z.raw w) (hz2 : zK P0 8 zU z2 z.fine w) (hz3 : zK P0 8 zU z3 z.coarse w)  :
    Calls prog 72 #[.agg (List.toArray [z0,z1,z2,z3,iV z.ze,iV z.zX,iV z.zI,iV z.zN,iV z.zH]),iV tier,iV to] w (RetSh w P0 (fun u=>.tuple (List.toArray [u,iV (Sh.forget z tier to).2])) (Sh.forget z tier to).1):=by
 obtain ⟨z0A,z0c,rfl,hz0c,hz0m,hz0A⟩:=hz0.form
 obtain ⟨z1A,z1c,rfl,hz1c,hz1m,hz1A⟩:=hz1.form
 obtain ⟨z2A,z2c,rfl,hz2c,hz2m,hz2A⟩:=hz2.form
 obtain ⟨z3A,z3c,rfl,hz3c,hz3m,hz3A⟩:=hz3.form
 refine fstart (N:=82) (vals:=[.agg (List.toArray [.slice z0A z.zT.length z0c,.slice z1A z.raw.length z1c,.slice z2A z.fine.length z2c,.slice z3A z.coarse.length z3c,iV z.ze,iV z.zX,iV z.zI,iV z.zN,iV z.zH]),iV tier,iV to]) (S:=Mem w ⟨no,P0⟩ [slP 2 zk (.slice z0A z.zT.length z0c) z.zT,slP 2 zr (.slice z1A z.raw.length z1c) z.raw,slP 8 zU (.slice z2A z.fine.length z2c) z.fine,slP 8 zU (.slice z3A z.coarse.length z3c) z.coarse]) func72 rfl rfl rfl (Mem.ofDatsP hP0 (dc (dlp hz0) (dc (dlp hz1) (dc (dlp hz2) (dc (dlp hz3) dn))))) (zG fun _ hK1=>vR wn rfl rfl fun b3=>zy wn inf50 rfl fun b6=>zO rfl (zD hK1 (zS fun _ hK2=>zG fun _ hK3=>zB (yM 1 [.slice z0A z.zT.length z0c,.slice z1A z.raw.length z1c,.slice z2A z.fine.length z2c,.slice z3A z.coarse.length z3c,iV z.ze,iV z.zX,iV z.zI,iV z.zN,iV z.zH] rfl rfl rfl rfl agg50 inf50) (yF wn rfl call21 rfl (fun w1 hM=>uX _ _ _ _ z (In w1) w1 (fun _ h=>h) (hM.slp 2 rfl) (hM.slp 3 rfl) (hM.slp 4 rfl) (hM.slp 5 rfl)) (zO rfl (zD hK3 ?_))))))
 refine zG fun _ hK4=>zE rfl (zB (vH rfl rfl) (zD hK4 (za rfl (fun h1=>?_) (fun h1=>?_))))
 · refine zG fun _ hK5=>zB (zw [Zs,Zs,Zs,Zs,iV 0,iV 0,iV 0,iV 0,iV 0] pl50 inf50 rfl rfl) (zE rfl (zn 0 wn rfl rfl rfl inf50 rfl rfl rfl (zO rfl (zD hK5 (zV (zJ (yT (.inl rfl) results72 (zo 0 rfl rfl agg50 inf50 rfl) (zQ rfl) fun w1 hM=>?_)))))))
   have he:Sh.forget z tier to=((⟨([]:List Label),([]:List Sample),([]:List Bucket),([]:List Bucket),0,0,0,0,0⟩:Shelf),(Sh.wrong z)):=Sh.forget_wrong h1
   rw [he]
   exact hM.vk (s':=(⟨([]:List Label),([]:List Sample),([]:List Bucket),([]:List Bucket),0,0,0,0,0⟩:Shelf)) (fun u=>.tuple (List.toArray [u,iV (Sh.wrong z)])) rfl (rfl) (fun _ _=>zK.ym _ _ _ _) (fun _ _=>zK.ym _ _ _ _) (fun _ _=>zK.ym _ _ _ _) (fun _ _=>zK.ym _ _ _ _)
 obtain ⟨l1,l2,l3,l4⟩:=(Sh.ok_of h1).lens
 obtain ⟨⟨g1,g2,g3,g4⟩,⟨g5,g6,g7,g8,g9⟩,g10,g11,g12,g13,g14⟩:=(Sh.ok_of h1).rng
 refine yL hK2 (zS fun _ hK6=>zG fun _ hK7=>zE rfl (zB (yR rfl rfl) (zE rfl (yQ (t:=19) rfl (fun h2=>?_) (fun h2=>?_)))))
 · refine zW (zW (zB (zP rfl rfl) (zD hK7 (y6 rfl rfl (zG fun _ hK8=>zB (zw [Zs,Zs,Zs,Zs,iV 0,iV 0,iV 0,iV 0,iV 0] pl50 inf50 rfl rfl) (zn 0 wn rfl rfl rfl inf50 rfl rfl rfl (zO rfl (zD hK8 (zV (zJ (yT (.inl rfl) results72 (zo 0 rfl rfl agg50 inf50 rfl) (zQ rfl) fun w1 hM=>?_)))))))))))
   have he:Sh.forget z tier to=((⟨([]:List Label),([]:List Sample),([]:List Bucket),([]:List Bucket),0,0,0,0,0⟩:Shelf),3):=Sh.forget_range h1 (by omega)
   rw [he]
   exact hM.vk (s':=(⟨([]:List Label),([]:List Sample),([]:List Bucket),([]:List Bucket),0,0,0,0,0⟩:Shelf)) (fun u=>.tuple (List.toArray [u,iV 3])) rfl (rfl) (fun _ _=>zK.ym _ _ _ _) (fun _ _=>zK.ym _ _ _ _) (fun _ _=>zK.ym _ _ _ _) (fun _ _=>zK.ym _ _ _ _)
 refine zd (zg rfl) (zd (y8 rfl rfl) (zB (zP rfl rfl) (zD hK7 (za rfl (fun h3=>?_) (fun h3=>?_)))))
 · refine zG fun _ hK9=>zB (zw [Zs,Zs,Zs,Zs,iV 0,iV 0,iV 0,iV 0,iV 0] pl50 inf50 rfl rfl) (zn 0 wn rfl rfl rfl inf50 rfl rfl rfl (zO rfl (zD hK9 (zV (zJ (yT (.inl rfl) results72 (zo 0 rfl rfl agg50 inf50 rfl) (zQ rfl) fun w1 hM=>?_))))))
   have he:Sh.forget z tier to=((⟨([]:List Label),([]:List Sample),([]:List Bucket),([]:List Bucket),0,0,0,0,0⟩:Shelf),3):=Sh.forget_range h1 (by omega)
   rw [he]
   exact hM.vk (s':=(⟨([]:List Label),([]:List Sample),([]:List Bucket),([]:List Bucket),0,0,0,0,0⟩:Shelf)) (fun u=>.tuple (List.toArray [u,iV 3])) rfl (rfl) (fun _ _=>zK.ym _ _ _ _) (fun _ _=>zK.ym _ _ _ _) (fun _ _=>zK.ym _ _ _ _) (fun _ _=>zK.ym _ _ _ _)
 refine yL hK6 (zG fun _ hK10=>zB (yM 1 [.slice z0A z.zT.length z0c,.slice z1A z.raw.length z1c,.slice z2A z.fine.length z2c,.slice z3A z.coarse.length z3c,iV z.ze,iV z.zX,iV z.zI,iV z.zN,iV z.zH] rfl rfl rfl rfl agg50 inf50) (uo z wn rfl call119 rfl (fun w1 hM=>j0 _ _ _ _ z (In w1) w1 (fun _ h=>h) (hM.slp 2 rfl) (hM.slp 3 rfl) (hM.slp 4 rfl) (hM.slp 5 rfl) (Sh.wrong_lens (by assumption))) fun A1 cp1 A2 cp2 A3 cp3 A4 cp4 hb1 hA1 hA2 hA3 hA4=>zy wn inf50 rfl fun b9=>zn 0 wn rfl rfl rfl inf50 rfl rfl rfl (zD hK10 (zG fun _ hK11=>zO rfl (zD hK11 (zS fun _ hK12=>zG fun _ hK13=>?_))))))
 refine zE rfl (zD hK13 (zl (zG fun _ hK14=>zB (yj rfl rfl) (zO rfl (zD hK14 (za rfl (fun h4=>?_) (fun h4=>?_)))))))
 · refine zG fun _ hK15=>zB (zc rfl fld50_4) (zB (zi 6 rfl rfl rfl flat3) (zE rfl (zB (zc rfl fld50_6) (zB (zi 6 rfl rfl rfl flat3) (zB (jY rfl rfl) (zB (jn (show _=(Sh.rawF z to) from rfl) (uh rfl rfl)) (zB (zc rfl fld50_4) (yo 0 wn rfl rfl rfl rfl inf3 rfl rfl (zD hK15 (zL ?_))))))))))
   refine zB (zc rfl fld50_1) (zB (zi 0 rfl rfl rfl flat47) (zB (ve rfl rfl) (uJ 2 (Sh.fromS z.raw (Sh.rawF z to)) rfl wn rfl call122 rfl (fun w1 hM=>c_delS _ z.raw 123 #[.pointer (some ⟨b9,0,none⟩)] (fun x=>decide (x.time < (Sh.rawF z to))) w1 (hM.row (i:=2) rfl) call123 (fun x w2 h2=>c_forget2 x b9 _ _ _ _ (⟨z.zT,z.raw,z.fine,z.coarse,(Sh.rawF z to),z.zX,z.zI,z.zN,z.zH⟩:Shelf) w2 (hM.blkStay (i:=0) (j:=2) rfl rfl h2))) fun A5 cp5 hc1 hm1 hA5=>zB (zc rfl fld50_1) (yo 0 wn rfl rfl rfl rfl inf47 rfl rfl (zj (zm (yC hK12 (zG fun _ hK16=>zB (yM 0 [.slice A1 z.zT.length cp1,.slice A5 ((Sh.fromS z.raw (Sh.rawF z to)).length) cp5,.slice A3 z.fine.length cp3,.slice A4 z.coarse.length cp4,iV (Sh.rawF z to),iV z.zX,iV z.zI,iV z.zN,iV z.zH] rfl rfl rfl rfl agg50 inf50) (zn 5 wn rfl rfl rfl inf50 rfl rfl rfl (zO rfl (zD hK16 ?_)))))))))))
   refine zV (yT (.inl rfl) results72 (zo 5 rfl rfl agg50 inf50 rfl) (zQ rfl) fun w1 hM=>?_)
   have he:Sh.forget z tier to=((⟨z.zT,(Sh.fromS z.raw (Sh.rawF z to)),z.fine,z.coarse,(Sh.rawF z to),z.zX,z.zI,z.zN,z.zH⟩:Shelf),0):=Sh.forget_raw h1 (fun g=>by omega) h4
   rw [he]
   have hM:=hM.yb encLabel (i:=1) rfl rfl
   have hM:=hM.yb encSample (i:=2) rfl rfl
   have hM:=hM.yb encBucket (i:=3) rfl rfl
   have hM:=hM.yb encBucket (i:=4) rfl rfl
   exact hM.vk (s':=(⟨z.zT,(Sh.fromS z.raw (Sh.rawF z to)),z.fine,z.coarse,(Sh.rawF z to),z.zX,z.zI,z.zN,z.zH⟩:Shelf)) (fun u=>.tuple (List.toArray [u,iV 0])) rfl (rfl) (fun _ pp=>pp.sl 1 rfl) (fun _ pp=>pp.sl 2 rfl) (fun _ pp=>pp.sl 3 rfl) (fun _ pp=>pp.sl 4 rfl)
 refine zG fun _ hK17=>zB (yj rfl rfl) (zO rfl (zD hK17 (za rfl (fun h5=>?_) (fun h5=>?_))))
 · refine zS fun _ hK18=>vY 9 mix (by kernel_rfl) (fun _ h=>h.drew) fun _ hT1=>zt (zc rfl fld50_5) (zt (zi 6 rfl rfl rfl flat3) (yq rfl (zt (zc rfl fld50_8) (zt (zi 6 rfl rfl rfl flat3) (zt (jY rfl rfl) (vO wn rfl call124 rfl (fun w1 hM=>jh (if z.zH < to then z.zH else to) 10 w1 (by omega) (by omega)) (zt (jn (show _=(Sh.fineF z to) from rfl) (uh rfl rfl)) (zt (zc rfl fld50_5) (vx hT1 ?_)))))))))
   refine yo 0 wn rfl rfl rfl rfl inf3 rfl rfl (zD hK18 (vG (Mem w ⟨no,P0⟩ [Row (.slice A1 z.zT.length cp1) 74 2 zk z.zT,Row (.slice A2 z.raw.length cp2) 41 2 zr z.raw,Row (.slice A4 z.coarse.length cp4) 163 8 zU z.coarse,.blk b6 [Zs,Zs,Zs,Zs,iV 0,iV 0,iV 0,iV 0,iV 0] 50,.blk b3 [.slice z0A z.zT.length z0c,.slice z1A z.raw.length z1c,.slice z2A z.fine.length z2c,.slice z3A z.coarse.length z3c,iV z.ze,iV z.zX,iV z.zI,iV z.zN,iV z.zH] 50,slP 2 zk (.slice z0A z.zT.length z0c) z.zT,slP 2 zr (.slice z1A z.raw.length z1c) z.raw,slP 8 zU (.slice z2A z.fine.length z2c) z.fine,slP 8 zU (.slice z3A z.coarse.length z3c) z.coarse]) mix (fun _ h=>h.drew) rfl (vE 6 [0,2,3] [1,2,4,5,6,7,8,9,10] rfl fun KS hKS=>yB (zc rfl fld50_2) (yB (zg rfl) (yB (zc rfl fld50_5) (yZ hKS (vU (f:=5) (i:=1) (j:=4) rfl (by kernel_rfl) ?_ ?_)))))))
   · refine yX (i:=1) rfl fun KN hKN=>zB (zi 0 rfl rfl rfl flat48) (yP hKN [1,2,4,5,6,7,8,9,10] (yW 4 4 (yX (i:=4) rfl fun KN hKN=>zB (zi 0 rfl rfl rfl flat3) (yP hKN [1,2,4,5,6,7,8,9,10] (yW 3 5 (yX (i:=5) rfl fun KN hKN=>uW (fun b=>.func (.func 121) #[] #[.pointer (some ⟨b,0,none⟩)]) (fun b=>.blk b [iV (Sh.fineF z to)] 3) (fun _=>rfl) wn rfl rfl call120 rfl (fun w1 hM=>ut (Sh.fineF z to) w1) fun be1=>yP hKN [2,3,5,6,7,8,9,10,11] (yW 2 6 ?_)))))))
     refine yX (i:=6) rfl fun KN hKN=>uJ 4 (Sh.fromB z.fine (Sh.fineF z to)) rfl wn rfl call125 rfl (fun w1 hM=>jJ _ z.fine 121 #[.pointer (some ⟨be1,0,none⟩)] (fun x=>decide (x.at_ < (Sh.fineF z to))) w1 (hM.row (i:=4) rfl) call121 (fun x w2 h2=>uY x be1 (Sh.fineF z to) w2 (hM.blkStay (i:=0) (j:=4) rfl rfl h2))) fun A6 cp6 hc2 hm2 hA6=>yP hKN [2,3,5,6,7,8,9,10,11] (vE 1 [7] [2,3,5,6,7,8,9,10,11] rfl fun KS hKS=>yB (zc rfl fld50_2) (yZ hKS (yW 0 8 (yX (i:=8) rfl fun KN hKN=>yo 1 wn rfl rfl rfl rfl inf48 rfl rfl (yP hKN [2,3,5,6,7,8,9,10,11] (yp (by kernel_rfl) (zm (yC hK12 (zG fun _ hK19=>?_)))))))))
     refine zB (yM 1 [.slice A1 z.zT.length cp1,.slice A2 z.raw.length cp2,.slice A6 ((Sh.fromB z.fine (Sh.fineF z to)).length) cp6,.slice A4 z.coarse.length cp4,iV z.ze,iV (Sh.fineF z to),iV z.zI,iV z.zN,iV z.zH] rfl rfl rfl rfl agg50 inf50) (zn 6 wn rfl rfl rfl inf50 rfl rfl rfl (zO rfl (zD hK19 (zV (yT (.inl rfl) results72 (zo 6 rfl rfl agg50 inf50 rfl) (zQ rfl) fun w1 hM=>?_)))))
     have he:Sh.forget z tier to=((⟨z.zT,z.raw,(Sh.fromB z.fine (Sh.fineF z to)),z.coarse,z.ze,(Sh.fineF z to),z.zI,z.zN,z.zH⟩:Shelf),0):=Sh.forget_fine h1 (fun g=>by omega) h4 h5
     rw [he]
     have hM:=hM.yb encLabel (i:=2) rfl rfl
     have hM:=hM.yb encSample (i:=3) rfl rfl
     have hM:=hM.yb encBucket (i:=4) rfl rfl
     have hM:=hM.yb encBucket (i:=5) rfl rfl
     exact hM.vk (s':=(⟨z.zT,z.raw,(Sh.fromB z.fine (Sh.fineF z to)),z.coarse,z.ze,(Sh.fineF z to),z.zI,z.zN,z.zH⟩:Shelf)) (fun u=>.tuple (List.toArray [u,iV 0])) rfl (rfl) (fun _ pp=>pp.sl 2 rfl) (fun _ pp=>pp.sl 3 rfl) (fun _ pp=>pp.sl 4 rfl) (fun _ pp=>pp.sl 5 rfl)
   refine yX (i:=4) rfl fun KN hKN=>zB (zi 0 rfl rfl rfl flat3) (yP hKN [1,2,4,5,6,7,8,9,10] (vU (f:=4) (i:=1) (j:=5) rfl (by kernel_rfl) ?_ ?_))
   · refine yX (i:=1) rfl fun KN hKN=>zB (zi 0 rfl rfl rfl flat48) (yP hKN [1,2,4,5,6,7,8,9,10] (yW 3 5 (yX (i:=5) rfl fun KN hKN=>uW (fun b=>.func (.func 121) #[] #[.pointer (some ⟨b,0,none⟩)]) (fun b=>.blk b [iV (Sh.fineF z to)] 3) (fun _=>rfl) wn rfl rfl call120 rfl (fun w1 hM=>ut (Sh.fineF z to) w1) fun be2=>yP hKN [2,3,5,6,7,8,9,10,11] (yW 2 6 (yX (i:=6) rfl fun KN hKN=>uJ 4 (Sh.fromB z.fine (Sh.fineF z to)) rfl wn rfl call125 rfl (fun w1 hM=>jJ _ z.fine 121 #[.pointer (some ⟨be2,0,none⟩)] (fun x=>decide (x.at_ < (Sh.fineF z to))) w1 (hM.row (i:=4) rfl) call121 (fun x w2 h2=>uY x be2 (Sh.fineF z to) w2 (hM.blkStay (i:=0) (j:=4) rfl rfl h2))) fun A7 cp7 hc3 hm3 hA7=>yP hKN [2,3,5,6,7,8,9,10,11] (vE 1 [7] [2,3,5,6,7,8,9,10,11] rfl fun KS hKS=>?_))))))
     refine yB (zc rfl fld50_2) (yZ hKS (yW 0 8 (yX (i:=8) rfl fun KN hKN=>yo 1 wn rfl rfl rfl rfl inf48 rfl rfl (yP hKN [2,3,5,6,7,8,9,10,11] (yp (by kernel_rfl) (zm (yC hK12 (zG fun _ hK20=>zB (yM 1 [.slice A1 z.zT.length cp1,.slice A2 z.raw.length cp2,.slice A7 ((Sh.fromB z.fine (Sh.fineF z to)).length) cp7,.slice A4 z.coarse.length cp4,iV z.ze,iV (Sh.fineF z to),iV z.zI,iV z.zN,iV z.zH] rfl rfl rfl rfl agg50 inf50) (zn 6 wn rfl rfl rfl inf50 rfl rfl rfl (zO rfl (zD hK20 ?_)))))))))))
     refine zV (yT (.inl rfl) results72 (zo 6 rfl rfl agg50 inf50 rfl) (zQ rfl) fun w1 hM=>?_)
     have he:Sh.forget z tier to=((⟨z.zT,z.raw,(Sh.fromB z.fine (Sh.fineF z to)),z.coarse,z.ze,(Sh.fineF z to),z.zI,z.zN,z.zH⟩:Shelf),0):=Sh.forget_fine h1 (fun g=>by omega) h4 h5
     rw [he]
     have hM:=hM.yb encLabel (i:=2) rfl rfl
     have hM:=hM.yb encSample (i:=3) rfl rfl
     have hM:=hM.yb encBucket (i:=4) rfl rfl
     have hM:=hM.yb encBucket (i:=5) rfl rfl
     exact hM.vk (s':=(⟨z.zT,z.raw,(Sh.fromB z.fine (Sh.fineF z to)),z.coarse,z.ze,(Sh.fineF z to),z.zI,z.zN,z.zH⟩:Shelf)) (fun u=>.tuple (List.toArray [u,iV 0])) rfl (rfl) (fun _ pp=>pp.sl 2 rfl) (fun _ pp=>pp.sl 3 rfl) (fun _ pp=>pp.sl 4 rfl) (fun _ pp=>pp.sl 5 rfl)
   refine yX (i:=5) rfl fun KN hKN=>uW (fun b=>.func (.func 121) #[] #[.pointer (some ⟨b,0,none⟩)]) (fun b=>.blk b [iV (Sh.fineF z to)] 3) (fun _=>rfl) wn rfl rfl call120 rfl (fun w1 hM=>ut (Sh.fineF z to) w1) fun be3=>yP hKN [2,3,5,6,7,8,9,10,11] (yW 3 1 (yX (i:=1) rfl fun KN hKN=>zB (zi 1 rfl rfl rfl flat48) (yP hKN [2,3,5,6,7,8,9,10,11] (yW 2 6 (yX (i:=6) rfl fun KN hKN=>uJ 4 (Sh.fromB z.fine (Sh.fineF z to)) rfl wn rfl call125 rfl (fun w1 hM=>jJ _ z.fine 121 #[.pointer (some ⟨be3,0,none⟩)] (fun x=>decide (x.at_ < (Sh.fineF z to))) w1 (hM.row (i:=4) rfl) call121 (fun x w2 h2=>uY x be3 (Sh.fineF z to) w2 (hM.blkStay (i:=0) (j:=4) rfl rfl h2))) fun A8 cp8 hc4 hm4 hA8=>yP hKN [2,3,5,6,7,8,9,10,11] (vE 1 [7] [2,3,5,6,7,8,9,10,11] rfl fun KS hKS=>?_))))))
   refine yB (zc rfl fld50_2) (yZ hKS (yW 0 8 (yX (i:=8) rfl fun KN hKN=>yo 1 wn rfl rfl rfl rfl inf48 rfl rfl (yP hKN [2,3,5,6,7,8,9,10,11] (yp (by kernel_rfl) (zm (yC hK12 (zG fun _ hK21=>zB (yM 1 [.slice A1 z.zT.length cp1,.slice A2 z.raw.length cp2,.slice A8 ((Sh.fromB z.fine (Sh.fineF z to)).length) cp8,.slice A4 z.coarse.length cp4,iV z.ze,iV (Sh.fineF z to),iV z.zI,iV z.zN,iV z.zH] rfl rfl rfl rfl agg50 inf50) (zn 6 wn rfl rfl rfl inf50 rfl rfl rfl (zO rfl (zD hK21 ?_)))))))))))
   refine zV (yT (.inl rfl) results72 (zo 6 rfl rfl agg50 inf50 rfl) (zQ rfl) fun w1 hM=>?_)
   have he:Sh.forget z tier to=((⟨z.zT,z.raw,(Sh.fromB z.fine (Sh.fineF z to)),z.coarse,z.ze,(Sh.fineF z to),z.zI,z.zN,z.zH⟩:Shelf),0):=Sh.forget_fine h1 (fun g=>by omega) h4 h5
   rw [he]
   have hM:=hM.yb encLabel (i:=2) rfl rfl
   have hM:=hM.yb encSample (i:=3) rfl rfl
   have hM:=hM.yb encBucket (i:=4) rfl rfl
   have hM:=hM.yb encBucket (i:=5) rfl rfl
   exact hM.vk (s':=(⟨z.zT,z.raw,(Sh.fromB z.fine (Sh.fineF z to)),z.coarse,z.ze,(Sh.fineF z to),z.zI,z.zN,z.zH⟩:Shelf)) (fun u=>.tuple (List.toArray [u,iV 0])) rfl (rfl) (fun _ pp=>pp.sl 2 rfl) (fun _ pp=>pp.sl 3 rfl) (fun _ pp=>pp.sl 4 rfl) (fun _ pp=>pp.sl 5 rfl)
 refine zG fun _ hK22=>zB (yj rfl rfl) (zO rfl (zD hK22 (za rfl (fun h6=>?_) (fun h6=>?_))))
 · refine zS fun _ hK23=>vY 9 mix (by kernel_rfl) (fun _ h=>h.drew) fun _ hT2=>zt (zc rfl fld50_7) (zt (zi 6 rfl rfl rfl flat3) (yq rfl (zt (zc rfl fld50_8) (zt (zi 6 rfl rfl rfl flat3) (zt (jY rfl rfl) (vO wn rfl call124 rfl (fun w1 hM=>jh (if z.zH < to then z.zH else to) 60 w1 (by omega) (by omega)) (zt (jn (show _=(Sh.coarseF z to) from rfl) (uh rfl rfl)) (zt (zc rfl fld50_7) (vx hT2 ?_)))))))))
   refine yo 0 wn rfl rfl rfl rfl inf3 rfl rfl (zD hK23 (vG (Mem w ⟨no,P0⟩ [Row (.slice A1 z.zT.length cp1) 74 2 zk z.zT,Row (.slice A2 z.raw.length cp2) 41 2 zr z.raw,Row (.slice A3 z.fine.length cp3) 163 8 zU z.fine,.blk b6 [Zs,Zs,Zs,Zs,iV 0,iV 0,iV 0,iV 0,iV 0] 50,.blk b3 [.slice z0A z.zT.length z0c,.slice z1A z.raw.length z1c,.slice z2A z.fine.length z2c,.slice z3A z.coarse.length z3c,iV z.ze,iV z.zX,iV z.zI,iV z.zN,iV z.zH] 50,slP 2 zk (.slice z0A z.zT.length z0c) z.zT,slP 2 zr (.slice z1A z.raw.length z1c) z.raw,slP 8 zU (.slice z2A z.fine.length z2c) z.fine,slP 8 zU (.slice z3A z.coarse.length z3c) z.coarse]) mix (fun _ h=>h.drew) rfl (vE 6 [0,2,3] [1,2,3,5,6,7,8,9,10] rfl fun KS hKS=>yB (zc rfl fld50_3) (yB (zg rfl) (yB (zc rfl fld50_7) (yZ hKS (vU (f:=5) (i:=1) (j:=4) rfl (by kernel_rfl) ?_ ?_)))))))
   · refine yX (i:=1) rfl fun KN hKN=>zB (zi 0 rfl rfl rfl flat48) (yP hKN [1,2,3,5,6,7,8,9,10] (yW 4 4 (yX (i:=4) rfl fun KN hKN=>zB (zi 0 rfl rfl rfl flat3) (yP hKN [1,2,3,5,6,7,8,9,10] (yW 3 5 (yX (i:=5) rfl fun KN hKN=>uW (fun b=>.func (.func 121) #[] #[.pointer (some ⟨b,0,none⟩)]) (fun b=>.blk b [iV (Sh.coarseF z to)] 3) (fun _=>rfl) wn rfl rfl call120 rfl (fun w1 hM=>ut (Sh.coarseF z to) w1) fun be4=>yP hKN [2,3,4,6,7,8,9,10,11] (yW 2 6 ?_)))))))
     refine yX (i:=6) rfl fun KN hKN=>uJ 5 (Sh.fromB z.coarse (Sh.coarseF z to)) rfl wn rfl call125 rfl (fun w1 hM=>jJ _ z.coarse 121 #[.pointer (some ⟨be4,0,none⟩)] (fun x=>decide (x.at_ < (Sh.coarseF z to))) w1 (hM.row (i:=5) rfl) call121 (fun x w2 h2=>uY x be4 (Sh.coarseF z to) w2 (hM.blkStay (i:=0) (j:=5) rfl rfl h2))) fun A9 cp9 hc5 hm5 hA9=>yP hKN [2,3,4,6,7,8,9,10,11] (vE 1 [7] [2,3,4,6,7,8,9,10,11] rfl fun KS hKS=>yB (zc rfl fld50_3) (yZ hKS (yW 0 8 (yX (i:=8) rfl fun KN hKN=>yo 1 wn rfl rfl rfl rfl inf48 rfl rfl (yP hKN [2,3,4,6,7,8,9,10,11] (yp (by kernel_rfl) (zm (yC hK12 (zG fun _ hK24=>?_)))))))))
     refine zB (yM 1 [.slice A1 z.zT.length cp1,.slice A2 z.raw.length cp2,.slice A3 z.fine.length cp3,.slice A9 ((Sh.fromB z.coarse (Sh.coarseF z to)).length) cp9,iV z.ze,iV z.zX,iV z.zI,iV (Sh.coarseF z to),iV z.zH] rfl rfl rfl rfl agg50 inf50) (zn 6 wn rfl rfl rfl inf50 rfl rfl rfl (zO rfl (zD hK24 (zV (yT (.inl rfl) results72 (zo 6 rfl rfl agg50 inf50 rfl) (zQ rfl) fun w1 hM=>?_)))))
     have he:Sh.forget z tier to=((⟨z.zT,z.raw,z.fine,(Sh.fromB z.coarse (Sh.coarseF z to)),z.ze,z.zX,z.zI,(Sh.coarseF z to),z.zH⟩:Shelf),0):=Sh.forget_coarse h1 (fun g=>by omega) h4 h5 h6
     rw [he]
     have hM:=hM.yb encLabel (i:=2) rfl rfl
     have hM:=hM.yb encSample (i:=3) rfl rfl
     have hM:=hM.yb encBucket (i:=4) rfl rfl
     have hM:=hM.yb encBucket (i:=5) rfl rfl
     exact hM.vk (s':=(⟨z.zT,z.raw,z.fine,(Sh.fromB z.coarse (Sh.coarseF z to)),z.ze,z.zX,z.zI,(Sh.coarseF z to),z.zH⟩:Shelf)) (fun u=>.tuple (List.toArray [u,iV 0])) rfl (rfl) (fun _ pp=>pp.sl 2 rfl) (fun _ pp=>pp.sl 3 rfl) (fun _ pp=>pp.sl 4 rfl) (fun _ pp=>pp.sl 5 rfl)
   refine yX (i:=4) rfl fun KN hKN=>zB (zi 0 rfl rfl rfl flat3) (yP hKN [1,2,3,5,6,7,8,9,10] (vU (f:=4) (i:=1) (j:=5) rfl (by kernel_rfl) ?_ ?_))
   · refine yX (i:=1) rfl fun KN hKN=>zB (zi 0 rfl rfl rfl flat48) (yP hKN [1,2,3,5,6,7,8,9,10] (yW 3 5 (yX (i:=5) rfl fun KN hKN=>uW (fun b=>.func (.func 121) #[] #[.pointer (some ⟨b,0,none⟩)]) (fun b=>.blk b [iV (Sh.coarseF z to)] 3) (fun _=>rfl) wn rfl rfl call120 rfl (fun w1 hM=>ut (Sh.coarseF z to) w1) fun be5=>yP hKN [2,3,4,6,7,8,9,10,11] (yW 2 6 (yX (i:=6) rfl fun KN hKN=>uJ 5 (Sh.fromB z.coarse (Sh.coarseF z to)) rfl wn rfl call125 rfl (fun w1 hM=>jJ _ z.coarse 121 #[.pointer (some ⟨be5,0,none⟩)] (fun x=>decide (x.at_ < (Sh.coarseF z to))) w1 (hM.row (i:=5) rfl) call121 (fun x w2 h2=>uY x be5 (Sh.coarseF z to) w2 (hM.blkStay (i:=0) (j:=5) rfl rfl h2))) fun A10 cp10 hc6 hm6 hA10=>yP hKN [2,3,4,6,7,8,9,10,11] (vE 1 [7] [2,3,4,6,7,8,9,10,11] rfl fun KS hKS=>?_))))))
     refine yB (zc rfl fld50_3) (yZ hKS (yW 0 8 (yX (i:=8) rfl fun KN hKN=>yo 1 wn rfl rfl rfl rfl inf48 rfl rfl (yP hKN [2,3,4,6,7,8,9,10,11] (yp (by kernel_rfl) (zm (yC hK12 (zG fun _ hK25=>zB (yM 1 [.slice A1 z.zT.length cp1,.slice A2 z.raw.length cp2,.slice A3 z.fine.length cp3,.slice A10 ((Sh.fromB z.coarse (Sh.coarseF z to)).length) cp10,iV z.ze,iV z.zX,iV z.zI,iV (Sh.coarseF z to),iV z.zH] rfl rfl rfl rfl agg50 inf50) (zn 6 wn rfl rfl rfl inf50 rfl rfl rfl (zO rfl (zD hK25 ?_)))))))))))
     refine zV (yT (.inl rfl) results72 (zo 6 rfl rfl agg50 inf50 rfl) (zQ rfl) fun w1 hM=>?_)
     have he:Sh.forget z tier to=((⟨z.zT,z.raw,z.fine,(Sh.fromB z.coarse (Sh.coarseF z to)),z.ze,z.zX,z.zI,(Sh.coarseF z to),z.zH⟩:Shelf),0):=Sh.forget_coarse h1 (fun g=>by omega) h4 h5 h6
     rw [he]
     have hM:=hM.yb encLabel (i:=2) rfl rfl
     have hM:=hM.yb encSample (i:=3) rfl rfl
     have hM:=hM.yb encBucket (i:=4) rfl rfl
     have hM:=hM.yb encBucket (i:=5) rfl rfl
     exact hM.vk (s':=(⟨z.zT,z.raw,z.fine,(Sh.fromB z.coarse (Sh.coarseF z to)),z.ze,z.zX,z.zI,(Sh.coarseF z to),z.zH⟩:Shelf)) (fun u=>.tuple (List.toArray [u,iV 0])) rfl (rfl) (fun _ pp=>pp.sl 2 rfl) (fun _ pp=>pp.sl 3 rfl) (fun _ pp=>pp.sl 4 rfl) (fun _ pp=>pp.sl 5 rfl)
   refine yX (i:=5) rfl fun KN hKN=>uW (fun b=>.func (.func 121) #[] #[.pointer (some ⟨b,0,none⟩)]) (fun b=>.blk b [iV (Sh.coarseF z to)] 3) (fun _=>rfl) wn rfl rfl call120 rfl (fun w1 hM=>ut (Sh.coarseF z to) w1) fun be6=>yP hKN [2,3,4,6,7,8,9,10,11] (yW 3 1 (yX (i:=1) rfl fun KN hKN=>zB (zi 1 rfl rfl rfl flat48) (yP hKN [2,3,4,6,7,8,9,10,11] (yW 2 6 (yX (i:=6) rfl fun KN hKN=>uJ 5 (Sh.fromB z.coarse (Sh.coarseF z to)) rfl wn rfl call125 rfl (fun w1 hM=>jJ _ z.coarse 121 #[.pointer (some ⟨be6,0,none⟩)] (fun x=>decide (x.at_ < (Sh.coarseF z to))) w1 (hM.row (i:=5) rfl) call121 (fun x w2 h2=>uY x be6 (Sh.coarseF z to) w2 (hM.blkStay (i:=0) (j:=5) rfl rfl h2))) fun A11 cp11 hc7 hm7 hA11=>yP hKN [2,3,4,6,7,8,9,10,11] (vE 1 [7] [2,3,4,6,7,8,9,10,11] rfl fun KS hKS=>?_))))))
   refine yB (zc rfl fld50_3) (yZ hKS (yW 0 8 (yX (i:=8) rfl fun KN hKN=>yo 1 wn rfl rfl rfl rfl inf48 rfl rfl (yP hKN [2,3,4,6,7,8,9,10,11] (yp (by kernel_rfl) (zm (yC hK12 (zG fun _ hK26=>zB (yM 1 [.slice A1 z.zT.length cp1,.slice A2 z.raw.length cp2,.slice A3 z.fine.length cp3,.slice A11 ((Sh.fromB z.coarse (Sh.coarseF z to)).length) cp11,iV z.ze,iV z.zX,iV z.zI,iV (Sh.coarseF z to),iV z.zH] rfl rfl rfl rfl agg50 inf50) (zn 6 wn rfl rfl rfl inf50 rfl rfl rfl (zO rfl (zD hK26 ?_)))))))))))
   refine zV (yT (.inl rfl) results72 (zo 6 rfl rfl agg50 inf50 rfl) (zQ rfl) fun w1 hM=>?_)
   have he:Sh.forget z tier to=((⟨z.zT,z.raw,z.fine,(Sh.fromB z.coarse (Sh.coarseF z to)),z.ze,z.zX,z.zI,(Sh.coarseF z to),z.zH⟩:Shelf),0):=Sh.forget_coarse h1 (fun g=>by omega) h4 h5 h6
   rw [he]
   have hM:=hM.yb encLabel (i:=2) rfl rfl
   have hM:=hM.yb encSample (i:=3) rfl rfl
   have hM:=hM.yb encBucket (i:=4) rfl rfl
   have hM:=hM.yb encBucket (i:=5) rfl rfl
   exact hM.vk (s':=(⟨z.zT,z.raw,z.fine,(Sh.fromB z.coarse (Sh.coarseF z to)),z.ze,z.zX,z.zI,(Sh.coarseF z to),z.zH⟩:Shelf)) (fun u=>.tuple (List.toArray [u,iV 0])) rfl (rfl) (fun _ pp=>pp.sl 2 rfl) (fun _ pp=>pp.sl 3 rfl) (fun _ pp=>pp.sl 4 rfl) (fun _ pp=>pp.sl 5 rfl)
 refine zG fun _ hK27=>zB (zw [Zs,Zs,Zs,Zs,iV 0,iV 0,iV 0,iV 0,iV 0] pl50 inf50 rfl rfl) (zn 5 wn rfl rfl rfl inf50 rfl rfl rfl (zO rfl (zD hK27 (zV (yD (zJ (yT (.inl rfl) results72 (zo 5 rfl rfl agg50 inf50 rfl) (zQ rfl) fun w1 hM=>?_)))))))
 have he:Sh.forget z tier to=((⟨([]:List Label),([]:List Sample),([]:List Bucket),([]:List Bucket),0,0,0,0,0⟩:Shelf),1):=Sh.forget_kind h1 (fun g=>by omega) h4 h5 h6
 rw [he]
 exact hM.vk (s':=(⟨([]:List Label),([]:List Sample),([]:List Bucket),([]:List Bucket),0,0,0,0,0⟩:Shelf)) (fun u=>.tuple (List.toArray [u,iV 1])) rfl (rfl) (fun _ _=>zK.ym _ _ _ _) (fun _ _=>zK.ym _ _ _ _) (fun _ _=>zK.ym _ _ _ _) (fun _ _=>zK.ym _ _ _ _)
end
section
open Tryz
open Ex
set_option linter.unusedVariables false
set_option linter.unusedSimpArgs false
set_option maxHeartbeats 1000000 in
theorem c_insertS (sv vv : Value) (l : List zF) (x : zF) (i : Nat) (Pb : Nat → Prop) (w : World) (hG : Mem w ⟨fpOf [Row sv 50 9 zx l, Row vv 50 9 zx [x]], Pb⟩ [Row sv 50 9 zx l, Row vv 50 9 zx [x]] w) (hil : i ≤ l.length) (hl1 : l.length ≤ 1048576) :
    Calls prog 115 #[sv,iV i,vv] w (RetA w [Row sv 50 9 zx l,Row vv 50 9 zx [x]] Pb (fun z:Value=>z) (fun _=>True) (fun z=>[Row z 50 9 zx (l.take i++x::l.drop i)])):=by
 obtain ⟨sA,sc,rfl,hsc,hsm,hsA⟩:=row_form' (hG.row (i:=0) rfl)
 obtain ⟨vA,vc,hv0,hvc,hvm,hvA⟩:=row_form' (hG.row (i:=1) rfl)
 have hv0:vv=.slice vA 1 vc:=hv0
 have hvc:1≤vc:=hvc
 subst hv0
 refine fstart (N:=95) (vals:=[.slice sA l.length sc,iV i,.slice vA 1 vc]) (S:=Mem w ⟨fpOf [Row (.slice sA l.length sc) 50 9 zx l,Row (.slice vA 1 vc) 50 9 zx [x]],Pb⟩ [Row (.slice sA l.length sc) 50 9 zx l,Row (.slice vA 1 vc) 50 9 zx [x]]) func115 rfl rfl rfl hG (zG fun _ hK1=>zO rfl (zD hK1 (zG fun _ hK2=>zE rfl (zE rfl (zB (jm (lo:=i) (hi:=l.length) rfl (lo1 rfl (by omega)) hi0 (by first | omega | (simp <;> omega)) (by first | omega | (simp <;> omega)) (by first | omega | (simp <;> omega)) underlying23 inf50) (zD hK2 (zG fun _ hK3=>zE rfl (zB (yg rfl underlying23) ?_))))))))
 refine zO rfl (zD hK3 (zS fun _ hK4=>zG fun _ hK5=>zE rfl (zB (yj rfl rfl) (zD hK5 (yu rfl (decide_eq_false (by decide)) (yL hK4 (zG fun _ hK6=>zE rfl (zB (yg rfl underlying23) ?_))))))))
 refine zO rfl (zD hK6 (zS fun _ hK7=>zG fun _ hK8=>zE rfl (zE rfl (zB (yj rfl rfl) (zD hK8 (za rfl (fun h1=>?_) (fun h1=>?_)))))))
 · refine zG fun _ hK9=>zE rfl (zE rfl (vD 0 l [x] encShelfX wn rfl rfl rfl (fun _ hM=>(RowSl encShelfX hM 1 rfl)) underlying23 inf50 rfl rfl (by simp only [List.length_append,List.length_cons,List.length_nil]; omega) rfl fun A1 cp1 hc1 hm1 hA1=>zO rfl (zD hK9 (zV (zJ (zY (.inl rfl) results115 (zQ rfl) fun w1 hM=>?_))))))
   exact hM.vS (.slice A1 ((l++[x]).length) cp1) rfl trivial (fun h=>row_as (v:=.slice A1 ((l++[x]).length) cp1) (n:=(l++[x]).length) (by rw [ins_len hil,List.length_append]; rfl) (ins_end (by omega)) (h.sel [0] (by decide) rfl))
 refine yL hK7 (zS fun _ hK10=>zG fun _ hK11=>?_)
 obtain ⟨sad,hsd⟩:=hsA (ne_nil (i:=i) (by omega))
 obtain ⟨vad,hvd⟩:=hvA (by simp)
 refine zE rfl (zE rfl (zB (zz rfl rfl (by omega)) (zE rfl (zB (r_cap rfl underlying23) (zB (y8 rfl rfl) (zD hK11 (za rfl (fun h2=>?_) (fun h2=>?_))))))))
 · refine zG fun _ hK12=>zE rfl (zE rfl (zB (gN (by rw [subA_zero,Nat.sub_zero,Nat.sub_zero]) (vp (lo:=0) (hi:=i) rfl lo0 (hi1 rfl (by omega)) (by omega) (by omega) underlying23 inf50)) (zE rfl (zE rfl (zB (zz rfl rfl (by omega)) (zE rfl (zB (vl rfl rfl (by omega)) (l_appZ (enc:=zx) (l.take i++List.replicate (l.length + 1 - i) zeroSh) (l.length + 1) (kk:=l.length + 1 - i) (olds:=(l.take i).flatMap zx) wn rfl rfl (by omega) (by omega) (by rw [flat_len encShelfX.len,List.length_take]; omega) (fun h=>by rw [hsd] at h; cases h) (fun ad h=>by rw [hsd] at h; injection h with h; subst h; exact fun w hS p u hu=>rowCells 0 rfl hsd w hS p u (by have:=flat_pre (k:=9) hu; rwa [Nat.zero_mul,Nat.zero_add] at this)) (by omega) (by omega) rfl (by decide) underlying23 underlying3 inf50 rfl (by rw [List.flatMap_append]; exact congrArg _ (zero_any (by decide) encShelfX _ _ rfl _)) (by omega) rfl fun b1 C1 hc2 hm2=>zO rfl (zD hK12 ?_)))))))))
   refine zG fun _ hK13=>zE rfl (zE rfl (zB (vp (lo:=i) (hi:=(l.length + 1)) rfl (lo1 rfl (by omega)) hi0 (by omega) (by omega) underlying23 inf50) (zE rfl (uq 0 (j:=i) (l.take i++List.replicate (l.length + 1 - i) zeroSh) [x] encShelfX wn rfl (subA_some rfl (by omega)) rfl hvd rfl rfl underlying23 inf50 (by simp only [List.length_drop,List.length_cons,List.length_nil]; show _=min _ _; omega) (by simp only [List.length_append,List.length_take,List.length_drop,List.length_replicate,List.length_cons,List.length_nil]; omega) (by simp only [List.length_append,List.length_take,List.length_drop,List.length_replicate,List.length_cons,List.length_nil]; omega) (rowCells 2 rfl hvd) rfl (zD hK13 (zS fun _ hK14=>vY 8 mix (by kernel_rfl) (fun _ h=>h.drew) fun _ hT1=>yq rfl (yq rfl (yq rfl ?_))))))))
   refine zt (zz rfl rfl (by omega)) (zt (vp (lo:=(i + 1)) (hi:=(l.length + 1)) rfl (lo1 rfl (by omega)) hi0 (by omega) (by omega) underlying23 inf50) (yq rfl (yq rfl (zt (vp (lo:=i) (hi:=l.length) rfl (lo1 rfl (by omega)) hi0 (by omega) (by omega) underlying23 inf50) (vx hT1 (uq 0 (j:=(i + 1)) ((l.take i++List.replicate (l.length + 1 - i) zeroSh).take i++[x]++(l.take i++List.replicate (l.length + 1 - i) zeroSh).drop (i + [x].length)) (l.drop i) encShelfX wn rfl (subA_some rfl (by omega)) rfl (subA_some hsd (by omega)) rfl rfl underlying23 inf50 (by simp only [List.length_drop,List.length_cons,List.length_nil]; show _=min _ _; omega) (by simp only [List.length_append,List.length_take,List.length_drop,List.length_replicate,List.length_cons,List.length_nil]; omega) (by simp only [List.length_append,List.length_take,List.length_drop,List.length_replicate,List.length_cons,List.length_nil]; omega) (subCells (rowCells 1 rfl hsd) fun p u hu=>flat_suf encShelfX.len (by omega) hu) rfl (zD hK14 (zG fun _ hK15=>zE rfl (zO rfl (zD hK15 ?_))))))))))
   refine zV (zJ (zY (.inl rfl) results115 (zQ rfl) fun w1 hM=>?_))
   exact hM.vS (.slice (some ⟨b1,0,none⟩) (l.length + 1) C1) rfl trivial (fun h=>row_as (ins_len (by omega)) (ins_grow (by omega) (List.length_replicate)) (h.sel [0] (by decide) rfl))
 refine yL hK10 (zG fun _ hK16=>zE rfl (zE rfl (zE rfl (zB (zz rfl rfl (by omega)) (zB (gN (by rw [subA_zero,Nat.sub_zero,Nat.sub_zero]) (vp (lo:=0) (hi:=(l.length + 1)) rfl lo0 (hi1 rfl (by omega)) (by omega) (by omega) underlying23 inf50)) (l_more 0 1 rfl hsd (by omega) fun ys hys=>zO rfl (zD hK16 (zS fun _ hK17=>zG fun _ hK18=>?_))))))))
 refine zE rfl (zE rfl (zE rfl (zE rfl (zB (zz rfl rfl (by omega)) (zB (vp (lo:=(i + 1)) (hi:=(l.length + 1)) rfl (lo1 rfl (by omega)) hi0 (by omega) (by omega) underlying23 inf50) (zB (r_ext rfl (over_apart (T':=4) (fn:=Tryz.f161) (qa:=1) (qb:=0) (by decide) rfl rfl (by omega) (by omega) (by decide) sad hsd (subA_some hsd (by omega)) func161 (by kernel_rfl) (by kernel_rfl) (by kernel_rfl) (by kernel_rfl) underlying23 inf50)) (zB (y5 rfl) (zD hK18 (y6 rfl rfl (zS fun _ hK19=>vY 8 mix (by kernel_rfl) (fun _ h=>h.drew) fun _ hT2=>?_))))))))))
 refine yq rfl (yq rfl (yq rfl (zt (zz rfl rfl (by omega)) (zt (vp (lo:=(i + 1)) (hi:=(l.length + 1)) rfl (lo1 rfl (by omega)) hi0 (by omega) (by omega) underlying23 inf50) (yq rfl (yq rfl (zt (vp (lo:=i) (hi:=(l.length + 1)) rfl (lo1 rfl (by omega)) hi0 (by omega) (by omega) underlying23 inf50) (vx hT2 (jr 0 (ad:=sad) (j:=i + 1) (cs:=(l.drop i).flatMap zx) _ wn rfl (subA_some hsd (by omega)) rfl (subA_some hsd (by omega)) rfl hsd underlying23 inf50 (by rw [flat_len encShelfX.len,List.length_drop]; show _=min _ _ * 9; omega) (by rw [flat_len encShelfX.len,List.length_drop]; omega) (subCells (rowCells 0 rfl hsd) fun p u hu=>by have:=flat_suf encShelfX.len (by omega) hu; rw [List.getElem?_append_left (List.getElem?_eq_some_iff.1 this).1]; exact this) (fun u hu=>by obtain ⟨a,_,ha⟩:=List.mem_flatMap.1 hu; exact encShelfX.one a u ha) (ins_shift encShelfX.len (by omega) hys) rfl ?_)))))))))
 refine zD hK19 (zG fun _ hK20=>zE rfl (zE rfl (zB (vp (lo:=i) (hi:=(l.length + 1)) rfl (lo1 rfl (by omega)) hi0 (by omega) (by omega) underlying23 inf50) (zE rfl (uq 0 (j:=i) (l.take (i + 1)++l.drop i) [x] encShelfX wn rfl (subA_some hsd (by omega)) rfl hvd rfl hsd underlying23 inf50 (by simp only [List.length_drop,List.length_cons,List.length_nil]; show _=min _ _; omega) (by simp only [List.length_append,List.length_take,List.length_drop,List.length_replicate,List.length_cons,List.length_nil]; omega) (by simp only [List.length_append,List.length_take,List.length_drop,List.length_replicate,List.length_cons,List.length_nil]; omega) (rowCells 1 rfl hvd) rfl (zD hK20 (zG fun _ hK21=>zE rfl (zO rfl (zD hK21 ?_)))))))))
 refine zV (zJ (zY (.inl rfl) results115 (zQ rfl) fun w1 hM=>?_))
 exact hM.vS (.slice sA (l.length + 1) sc) rfl trivial (fun h=>row_as (ins_len (by omega)) (ins_place (by omega)) (h.sel [0] (by decide) rfl))
theorem c_add1 (d : zF) (tv : Value) (t : List Label) (P0 : Nat → Prop) (w : World) (hP0 : ∀ b, P0 b → b < w.heap.size) (hd : zF.Ok P0 d w) (ht : zK P0 2 zk tv t w)  :
    Calls prog 112 #[.agg (zx d).toArray,tv] w (Ret w (iV (zZ.compare d.sr.l t))):=by
 have hwd:=hd.wf
 obtain ⟨tA,tc,rfl,htc,htm,htA⟩:=ht.form
 refine fstart (N:=9) (vals:=[.agg (zx d).toArray,.slice tA t.length tc]) (S:=Mem w ⟨no,P0⟩ [okP zF.Ok d,slP 2 zk (.slice tA t.length tc) t]) func112 rfl rfl rfl (Mem.ofDatsP hP0 (dc (dp (zF.Ok.loc _) hd) (dc (dlp ht) dn))) (zG fun _ hK1=>vR wn rfl rfl fun b2=>zO rfl (zD hK1 (zG fun _ hK2=>zB (zc rfl fld50_0) (zB (zi 0 rfl rfl rfl flat39) (zE rfl (yU (fun _ h=>h.shelfX 1 rfl) ?_))))))
 obtain ⟨hc1,hm1,hA1⟩:=hwd.sr
 obtain ⟨hc2,hm2,hA2⟩:=hwd.raw
 obtain ⟨hc3,hm3,hA3⟩:=hwd.fine
 obtain ⟨hc4,hm4,hA4⟩:=hwd.coarse
 refine yF wn rfl call22 rfl (fun w1 hM=>c_compare _ d.sr.l _ t w1 (hM.slp 0 rfl) (hM.slp 6 rfl)) (zO rfl (zD hK2 (zV (zY (.inl rfl) results112 (zQ rfl) fun w1 hM=>?_))))
 exact zq rfl hM
theorem c_bsS (clv : Value) (cl : List zF) (tv : Value) (t : List Label) (P0 : Nat → Prop) (w : World) (hP0 : ∀ b, P0 b → b < w.heap.size) (hcl : zK P0 9 zx clv cl w) (hcla : ∀ x ∈ cl, zF.Ok P0 x w) (ht : zK P0 2 zk tv t w) (has : Mn.Asc (cl.map zF.k)) (hl1 : cl.length ≤ 1048576) :
    Calls prog 111 #[clv,tv,.func (.func 112) #[] #[]] w (Ret w (.tuple #[iV (Mn.pos (cl.map zF.k) t:Nat),.bool (Mn.has (cl.map zF.k) t)])):=by
 have hwcl:∀ x ∈ cl,zF.Wf x:=fun x hx=>(hcla x hx).wf
 obtain ⟨clA,clc,rfl,hclc,hclm,hclA⟩:=hcl.form
 obtain ⟨tA,tc,rfl,htc,htm,htA⟩:=ht.form
 refine fstart (N:=49) (vals:=[.slice clA cl.length clc,.slice tA t.length tc,.func (.func 112) #[] #[]]) (S:=Mem w ⟨no,P0⟩ [slP 9 zx (.slice clA cl.length clc) cl,allP zF.Ok cl,slP 2 zk (.slice tA t.length tc) t]) func111 rfl rfl rfl (Mem.ofDatsP hP0 (dc (dlp hcl) (dc (dp (all_loc zF.Ok.loc _) hcla) (dc (dlp ht) dn)))) (zG fun _ hK1=>zO rfl (zO rfl (zD hK1 (zG fun _ hK2=>zE rfl (zB (yg rfl underlying23) (zO rfl (zD hK2 (zG fun _ hK3=>zE rfl ?_))))))))
 refine zO rfl (zO rfl (zD hK3 (zS fun _ hK4=>zl (uO (fun (i:Nat) (j:Nat)=>[(0,.slice clA cl.length clc),(1,.slice tA t.length tc),(2,.func (.func 112) #[] #[]),(8,iV cl.length),(9,iV i),(10,iV j)]) (fun (i:Nat) (j:Nat)=>[slP 9 zx (.slice clA cl.length clc) cl,allP zF.Ok cl,slP 2 zk (.slice tA t.length tc) t]) (fun (i:Nat) (j:Nat)=>i≤j∧j≤cl.length∧(∀ (q:Nat) (y:Cell),(cl.map zF.k)[q]?=some y→q < i→zZ.compare y.sr t < 0)∧(∀ (q:Nat) (y:Cell),(cl.map zF.k)[q]?=some y→j≤q→¬ zZ.compare y.sr t < 0)) (fun (i:Nat) (j:Nat)=>j - i) 0 cl.length (sc rfl (sc rfl (sc rfl (sc rfl (sc (ji (by omega)) (sc rfl sn)))))) (fun _ h=>h) ?_ (fun i j hI1=>?_)))))
 · exact ⟨Nat.zero_le _,Nat.le_refl _,fun q y _ h=>absurd h (Nat.not_lt_zero _),fun q y h h2=>by have:=(List.getElem?_eq_some_iff.1 h).1; simp only [List.length_map] at this; omega⟩
 refine zS fun _ hK5=>zG fun _ hK6=>zE rfl (zE rfl (zB (yR rfl rfl) (zD hK6 (za rfl (fun h1=>?_) (fun h1=>?_)))))
 · refine yL hK5 (zl (zG fun _ hK7=>zE rfl (zE rfl (zB (zz rfl rfl (by omega)) (zB (r_natu64 (a:=(i + j)) rfl (by omega) (by omega) (by rw [underlying3]; rfl) underlying228) (zB (r_shr (u:=(i + j)) (j:=1) rfl rfl (by omega) (by omega)) (zB (r_int64 (a:=((i + j) / 2 ^ 1)) rfl (by omega) (by rw [underlying228]; rfl) underlying3) (zO rfl (zD hK7 (zG fun _ hK8=>?_))))))))))
   refine zE rfl (zE rfl (zE rfl ?_))
   obtain ⟨ad1,hd1⟩:=hclA (ne_nil (i:=((i + j) / 2 ^ 1)) (by first | omega | (simp <;> omega)))
   refine zB (vC (i:=((i + j) / 2 ^ 1)) rfl hd1 rfl (by omega) (by first | omega | (simp <;> omega)) underlying23 inf50) ?_
   obtain ⟨s1,hs1⟩:∃ x,cl[((i + j) / 2 ^ 1)]?=some x:=⟨_,List.getElem?_eq_getElem (by first | omega | (simp <;> omega))⟩
   refine zB (v8 0 [.slice s1.sr.A s1.sr.l.length s1.sr.c,.slice s1.raw.A s1.raw.l.length s1.raw.c,.slice s1.fine.A s1.fine.l.length s1.fine.c,.slice s1.coarse.A s1.coarse.l.length s1.coarse.c,iV s1.ze,iV s1.zX,iV s1.zI,iV s1.zN,iV s1.zH] rfl rfl hd1 hs1 rfl rfl agg50 inf50) (zE rfl ?_)
   have hw1:=hwcl _ (List.mem_of_getElem? hs1)
   refine yU (fun _ h=>h.one 1 zF.Ok.loc rfl hs1) (u6 wn rfl rfl call112 rfl (fun w1 hM=>c_add1 s1 _ t (In w1) w1 (fun _ h=>h) (hM.vP (i:=0) rfl) (hM.slp 3 rfl)) (zB (yR rfl rfl) (zD hK8 (za rfl (fun h2=>?_) (fun h2=>?_)))))
   · refine zL (zE rfl (zB (zz rfl rfl (by omega)) (zO rfl (zj (zm (vZ (((i + j) / 2 ^ 1) + 1) j (sc rfl (sc rfl (sc rfl (sc rfl (sc (ji (by omega)) (sc rfl sn)))))) (S9 [1,2,3]) ?_ ?_))))))
     · exact ⟨by omega,by omega,Mn.asc_lt (x:=zF.k s1) has (by rw [List.getElem?_map,hs1]; rfl) h2,hI1.2.2.2⟩
     omega
   refine zL (zE rfl (zO rfl (zj (zm (vZ i ((i + j) / 2 ^ 1) (sc rfl (sc rfl (sc rfl (sc rfl (sc rfl (sc (ji (by omega)) sn)))))) (S9 [1,2,3]) ?_ ?_)))))
   · exact ⟨by omega,by omega,hI1.2.2.1,Mn.asc_ge (x:=zF.k s1) has (by rw [List.getElem?_map,hs1]; rfl) h2⟩
   omega
 refine yc (yH (vz (yJ (yC hK4 (zG fun _ hK9=>zE rfl (zE rfl (zE rfl (zB (yR rfl rfl) (zE rfl (yQ (t:=39) rfl (fun h3=>?_) (fun h3=>?_)))))))))))
 · refine zd (zg rfl) (zd (zg rfl) (zd (zg rfl) ?_))
   obtain ⟨ad2,hd2⟩:=hclA (ne_nil (i:=i) (by first | omega | (simp <;> omega)))
   refine zd (vC (i:=i) rfl hd2 rfl (by omega) (by first | omega | (simp <;> omega)) underlying23 inf50) ?_
   obtain ⟨s2,hs2⟩:∃ x,cl[i]?=some x:=⟨_,List.getElem?_eq_getElem (by first | omega | (simp <;> omega))⟩
   refine zd (v8 0 [.slice s2.sr.A s2.sr.l.length s2.sr.c,.slice s2.raw.A s2.raw.l.length s2.raw.c,.slice s2.fine.A s2.fine.l.length s2.fine.c,.slice s2.coarse.A s2.coarse.l.length s2.coarse.c,iV s2.ze,iV s2.zX,iV s2.zI,iV s2.zN,iV s2.zH] rfl rfl hd2 hs2 rfl rfl agg50 inf50) (zd (zg rfl) ?_)
   have hw2:=hwcl _ (List.mem_of_getElem? hs2)
   refine yU (fun _ h=>h.one 1 zF.Ok.loc rfl hs2) (u6 (wg rfl rfl rfl) rfl rfl call112 rfl (fun w1 hM=>c_add1 s2 _ t (In w1) w1 (fun _ h=>h) (hM.vP (i:=0) rfl) (hM.slp 3 rfl)) (zd (yj rfl rfl) (zB (zP rfl rfl) (zO rfl (zO rfl (zD hK9 (zV (yT (.inl rfl) results111 (zQ rfl) (zQ rfl) fun w1 hM=>?_))))))))
   have hp9:Mn.pos (cl.map zF.k) t=i:=Mn.pos_eq (by simp only [List.length_map]; omega) hI1.2.2.1 (by have:i=j:=(by omega); rw [this]; exact hI1.2.2.2)
   have hh9:Mn.has (cl.map zF.k) t=decide (zZ.compare s2.sr.l t=0):=Mn.bs_has (x:=zF.k s2) has (by rw [List.getElem?_map,hs2]; rfl) hI1.2.2.1 (by have:j=i:=(by omega); exact hI1.2.2.2 i _ (by rw [List.getElem?_map,hs2]; rfl) (by omega))
   exact zq (by rw [hp9,hh9]) hM
 refine zW (zW (zW (zW (zW (zW (zW (zW (zB (zP rfl rfl) (zO rfl (zO rfl (zD hK9 ?_)))))))))))
 refine zV (yT (.inl rfl) results111 (zQ rfl) (zQ rfl) fun w1 hM=>?_)
 have hp9:Mn.pos (cl.map zF.k) t=i:=Mn.pos_eq (by simp only [List.length_map]; omega) hI1.2.2.1 (by have:i=j:=(by omega); rw [this]; exact hI1.2.2.2)
 have hh9:Mn.has (cl.map zF.k) t=false:=Mn.bs_no (i:=i) (by simp only [List.length_map]; omega) hI1.2.2.1
 exact zq (by rw [hp9,hh9]) hM
end
section
open Tryz
open Ex
set_option linter.unusedVariables false
set_option linter.unusedSimpArgs false
theorem c_newE (lv:Value) (l:List Label) (P0:Nat→Prop) (w:World) (hP0:∀ b,P0 b→b < w.heap.size) (hl:zK P0 2 zk lv l w) (hl1:l.length≤1048576):Calls prog 113 #[lv] w (RetE w P0 (fun z:zF=>.agg (zx z).toArray) (fun z=>z.e=⟨l,[],[],[],0,0,0,0,0⟩) (fun z S=>zF.Ok S z)):=(c_new lv l P0 w hP0 hl hl1).mono fun _ _ h=>h.toE
theorem c_rollE (z0 z1 z2 z3:Value) (z:Shelf) (to:Int) (P0:Nat→Prop) (w:World) (hP0:∀ b,P0 b→b < w.heap.size) (hz0:zK P0 2 zk z0 z.zT w) (hz1:zK P0 2 zr z1 z.raw w) (hz2:zK P0 8 zU z2 z.fine w) (hz3:zK P0 8 zU z3 z.coarse w):Calls prog 74 #[.agg (List.toArray [z0,z1,z2,z3,iV z.ze,iV z.zX,iV z.zI,iV z.zN,iV z.zH]),iV to] w (RetE w P0 (fun y:zF=>.tuple #[.agg (zx y).toArray,iV (Sh.roll z to).2]) (fun y=>y.e=(Sh.roll z to).1) (fun y S=>zF.Ok S y)):=(c_roll z0 z1 z2 z3 z to P0 w hP0 hz0 hz1 hz2 hz3).mono fun _ _ h=>h.toE
theorem c_appendE (z0 z1 z2 z3:Value) (z:Shelf) (x:Sample) (P0:Nat→Prop) (w:World) (hP0:∀ b,P0 b→b < w.heap.size) (hz0:zK P0 2 zk z0 z.zT w) (hz1:zK P0 2 zr z1 z.raw w) (hz2:zK P0 8 zU z2 z.fine w) (hz3:zK P0 8 zU z3 z.coarse w):Calls prog 114 #[.agg (List.toArray [z0,z1,z2,z3,iV z.ze,iV z.zX,iV z.zI,iV z.zN,iV z.zH]),.agg (zr x).toArray] w (RetE w P0 (fun y:zF=>.tuple #[.agg (zx y).toArray,iV (Sh.append z x).2]) (fun y=>y.e=(Sh.append z x).1) (fun y S=>zF.Ok S y)):=(c_append z0 z1 z2 z3 z x P0 w hP0 hz0 hz1 hz2 hz3).mono fun _ _ h=>h.toE
set_option maxHeartbeats 2000000 in
theorem c_badd (bp : Nat) (x : yw) (dad : Addr) (d : yv) (Pb : Nat → Prop) (w : World) (hG : Mem w ⟨fpOf [.blk bp [.slice x.zA.A x.zA.l.length x.zA.c, iV x.zh] 93, Row (.slice x.zA.A x.zA.l.length x.zA.c) 50 9 zx x.zA.l, allP zF.Ok x.zA.l, celP dad [iV d.kind, iV d.tier, iV d.to, .slice d.sr.A d.sr.l.length d.sr.c, iV d.zf.time, iV d.zf.value, .string d.text], okP yv.Ok d], Pb⟩ [.blk bp [.slice x.zA.A x.zA.l.length x.zA.c, iV x.zh] 93, Row (.slice x.zA.A x.zA.l.length x.zA.c) 50 9 zx x.zA.l, allP zF.Ok x.zA.l, celP dad [iV d.kind, iV d.tier, iV d.to, .slice d.sr.A d.sr.l.length d.sr.c, iV d.zf.time, iV d.zf.value, .string d.text], okP yv.Ok d] w) (hi : Bs.Inv x.e 120) :
    Calls prog 68 #[.pointer (some ⟨bp,0,none⟩),.pointer (some ((Addr.add dad 0).add 0))] w (RetA w [.blk bp [.slice x.zA.A x.zA.l.length x.zA.c,iV x.zh] 93,Row (.slice x.zA.A x.zA.l.length x.zA.c) 50 9 zx x.zA.l,allP zF.Ok x.zA.l,celP dad [iV d.kind,iV d.tier,iV d.to,.slice d.sr.A d.sr.l.length d.sr.c,iV d.zf.time,iV d.zf.value,.string d.text],okP yv.Ok d] Pb (fun z:yw × yY=>.agg (uC z.2).toArray) (fun z=>(z.1.e,z.2.e)=Bs.add x.e d.e) (fun z=>[okP yY.Ok z.2,.blk bp [.slice z.1.zA.A z.1.zA.l.length z.1.zA.c,iV z.1.zh] 93,Row (.slice z.1.zA.A z.1.zA.l.length z.1.zA.c) 50 9 zx z.1.zA.l,allP zF.Ok z.1.zA.l,celP dad (uB d),okP yv.Ok d])):=by
 have hwf:∀ y ∈ x.zA.l,zF.Wf y:=fun y hy=>((hG.vP (i:=2) rfl) y hy).wf
 have hwd:=(hG.vP (i:=4) rfl).wf
 obtain ⟨hsc,hsm,hsA⟩:=row_wf (hG.row (i:=1) rfl)
 have hasc:=asc_k hi
 have hlen:=len_k hi
 refine fstart (N:=125) (vals:=[.pointer (some ⟨bp,0,none⟩),.pointer (some ((Addr.add dad 0).add 0))]) (S:=Mem w ⟨fpOf [.blk bp [.slice x.zA.A x.zA.l.length x.zA.c,iV x.zh] 93,Row (.slice x.zA.A x.zA.l.length x.zA.c) 50 9 zx x.zA.l,allP zF.Ok x.zA.l,celP dad [iV d.kind,iV d.tier,iV d.to,.slice d.sr.A d.sr.l.length d.sr.c,iV d.zf.time,iV d.zf.value,.string d.text],okP yv.Ok d],Pb⟩ [.blk bp [.slice x.zA.A x.zA.l.length x.zA.c,iV x.zh] 93,Row (.slice x.zA.A x.zA.l.length x.zA.c) 50 9 zx x.zA.l,allP zF.Ok x.zA.l,celP dad [iV d.kind,iV d.tier,iV d.to,.slice d.sr.A d.sr.l.length d.sr.c,iV d.zf.time,iV d.zf.value,.string d.text],okP yv.Ok d]) func68 rfl rfl rfl hG (zG fun _ hK1=>zy wn inf34 rfl fun b4=>zD hK1 (zS fun _ hK2=>zG fun _ hK3=>zE rfl (zB (zR rfl) (zB (y0 rfl fld43_3) (zB (yy 4 rfl rfl rfl flat39) (yU (fun _ h=>h.doX 5 rfl) ?_))))))
 obtain ⟨hc1,hm1,hA1⟩:=hwd.sr
 refine yF wn rfl call42 rfl (fun w1 hM=>c_namesWrong _ d.sr.l w1 (hM.slp 0 rfl)) (zO rfl (zD hK3 (zG fun _ hK4=>zE rfl (zB (vH rfl rfl) (zD hK4 (za rfl (fun h1=>?_) (fun h1=>?_)))))))
 · refine zG fun _ hK5=>zE rfl (zB (zw [iV (zZ.wrong d.sr.l),iV 0,Zs,iV 0] pl34 inf34 rfl rfl) (zn 1 wn rfl rfl rfl inf34 rfl rfl rfl (zD hK5 (zV (zJ (zY (.inl rfl) results68 (zo 1 rfl rfl agg34 inf34 rfl) fun w1 hM=>?_))))))
   have hM:=hM.vT (yY.Ok.loc (noX (zZ.wrong d.sr.l))) fun Pb pp=>noX_ok _ _ _
   exact hM.vS (x,noX (zZ.wrong d.sr.l)) rfl (add_1 h1) (fun h=>h.sel [0,3,4,5,6,7] (by decide) rfl)
 have hsl:=Sh.names_len (Classical.not_not.1 (show ¬ zZ.wrong d.sr.l≠0 from h1))
 refine yL hK2 (zS fun _ hK6=>zG fun _ hK7=>zE rfl (zB (zR rfl) (zB (y0 rfl fld43_4) (zB (js 5 [iV d.zf.time,iV d.zf.value] rfl rfl rfl rfl agg41 inf41) (yt zr ([d.zf]:List Sample) wn underlying47 inf41 rfl rfl rfl rfl (by decide) (by decide) rfl fun b24=>yF wn rfl call43 rfl (fun w1 hM=>ub _ ([d.zf]:List Sample) w1 (RowSl encSample hM 0 rfl)) (zy wn inf61 rfl fun b6=>zn 0 wn rfl rfl rfl inf61 rfl rfl rfl (zD hK7 ?_)))))))
 refine zG fun _ hK8=>zB (zc rfl fld61_0) (zB (zi 0 rfl rfl rfl flat27) (zB (vH rfl rfl) (zD hK8 (za rfl (fun h2=>?_) (fun h2=>?_)))))
 · refine zG fun _ hK9=>zB (zc rfl fld61_0) (zB (zi 0 rfl rfl rfl flat27) (zB (zw [iV ((Codec.wrong ([d.zf]:List Sample)).err),iV 0,Zs,iV 0] pl34 inf34 rfl rfl) (zn 3 wn rfl rfl rfl inf34 rfl rfl rfl (zD hK9 (zV (zJ (zY (.inl rfl) results68 (zo 3 rfl rfl agg34 inf34 rfl) fun w1 hM=>?_)))))))
   have hM:=hM.vT (yY.Ok.loc (noX ((Codec.wrong ([d.zf]:List Sample)).err))) fun Pb pp=>noX_ok _ _ _
   exact hM.vS (x,noX ((Codec.wrong ([d.zf]:List Sample)).err)) rfl (add_2 h1 h2) (fun h=>h.sel [0,5,6,7,8,9] (by decide) rfl)
 refine yL hK6 (zS fun _ hK10=>zS fun _ hK11=>vN mix (by kernel_rfl) (fun _ h=>h.drew) (yq rfl (zt (zR rfl) (zt (y0 rfl fld43_4) (zt (y0 rfl fld41_0) (zt (yy 7 rfl rfl rfl flat3) (yq rfl (zt (zR rfl) (zt (zc rfl fld93_0) ?_)))))))))
 refine zt (zc rfl fld25_1) (zt (zi 4 rfl rfl rfl flat3) (zt (yR rfl rfl) (vI (yC hK11 (za rfl (fun h3=>?_) (fun h3=>?_))))))
 · refine zG fun _ hK12=>zB (zw [iV 9,iV 0,Zs,iV 0] pl34 inf34 rfl rfl) (zn 3 wn rfl rfl rfl inf34 rfl rfl rfl (zD hK12 (zV (zJ (zY (.inl rfl) results68 (zo 3 rfl rfl agg34 inf34 rfl) fun w1 hM=>?_)))))
   have hM:=hM.vT (yY.Ok.loc (noX 9)) fun Pb pp=>noX_ok _ _ _
   exact hM.vS (x,noX 9) rfl (add_3 h1 h2 h3) (fun h=>h.sel [0,5,6,7,8,9] (by decide) rfl)
 refine yL hK10 (zS fun _ hK13=>vN mix (by kernel_rfl) (fun _ h=>h.drew) (yq rfl (zt (zR rfl) (zt (zc rfl fld93_0) (zt (zc rfl fld25_0) (zt (zi 4 rfl rfl rfl flat23) (yq rfl (zt (zR rfl) (zt (y0 rfl fld43_3) (zt (yy 7 rfl rfl rfl flat39) ?_))))))))))
 refine vO wn rfl call111 rfl (fun w1 hM=>c_bsS _ x.zA.l _ d.sr.l (In w1) w1 (fun _ h=>h) (RowSl encShelfX hM 5 rfl) (hM.vP (i:=6) rfl) (hM.slp 2 rfl) hasc (by omega)) (yq rfl (zt (yI rfl rfl) (zt (yI rfl rfl) (zt (yf rfl) (zt (yf rfl) (vI (yC hK13 (zG fun _ hK14=>zE rfl (zB (zR rfl) (zB (y0 rfl fld43_3) (zB (yy 7 rfl rfl rfl flat39) ?_)))))))))))
 refine vL (β:=zF) (fun z=>.agg (zx z).toArray) (fun z=>z.e=(⟨d.sr.l,[],[],[],0,0,0,0,0⟩:Shelf)) (fun z S=>zF.Ok S z) (fun z=>zF.Ok.loc z) wn rfl call113 rfl (fun w1 Pb hM pp=>c_newE _ d.sr.l Pb w1 pp.lt (pp.sl 2 rfl) (by omega)) fun z1 hz1=>vh 0 rfl (fun S w h=>zF.Ok.wf h) fun hw1=>zy wn inf50 rfl fun b9=>zn 0 wn rfl rfl rfl inf50 rfl rfl rfl (zD hK14 (zS fun _ hK15=>zG fun _ hK16=>zE rfl (zD hK16 (yl rfl (fun h4=>?_) (fun h4=>?_)))))
 · have hpl:=pos_ltS hasc h4
   refine zL (zE rfl (zB (zR rfl) (zB (zc rfl fld93_0) (zB (zc rfl fld25_0) (zB (zi 6 rfl rfl rfl flat23) (zE rfl ?_))))))
   obtain ⟨ad1,hd1⟩:=hsA (ne_nil (i:=(Mn.pos (x.zA.l.map zF.k) d.sr.l)) (by first | omega | (simp <;> omega)))
   refine zB (vC (i:=(Mn.pos (x.zA.l.map zF.k) d.sr.l)) rfl hd1 rfl (by omega) (by first | omega | (simp <;> omega)) underlying23 inf50) ?_
   obtain ⟨s1,hs1⟩:∃ y9,x.zA.l[(Mn.pos (x.zA.l.map zF.k) d.sr.l)]?=some y9:=⟨_,List.getElem?_eq_getElem (by first | omega | (simp <;> omega))⟩
   refine zB (u9 7 [.slice s1.sr.A s1.sr.l.length s1.sr.c,.slice s1.raw.A s1.raw.l.length s1.raw.c,.slice s1.fine.A s1.fine.l.length s1.fine.c,.slice s1.coarse.A s1.coarse.l.length s1.coarse.c,iV s1.ze,iV s1.zX,iV s1.zI,iV s1.zN,iV s1.zH] encShelfX rfl rfl hd1 hs1 rfl rfl agg50 inf50) (zn 0 wn rfl rfl rfl inf50 rfl rfl rfl (zD hK15 (zS fun _ hK17=>vG (Mem w ⟨fpOf [.blk bp [.slice x.zA.A x.zA.l.length x.zA.c,iV x.zh] 93,Row (.slice x.zA.A x.zA.l.length x.zA.c) 50 9 zx x.zA.l,allP zF.Ok x.zA.l,celP dad [iV d.kind,iV d.tier,iV d.to,.slice d.sr.A d.sr.l.length d.sr.c,iV d.zf.time,iV d.zf.value,.string d.text],okP yv.Ok d],Pb⟩ [okP zF.Ok z1,.blk b6 [iV ((Codec.wrong ([d.zf]:List Sample)).err),iV ((Codec.wrong ([d.zf]:List Sample)).at_)] 61,Row (.slice (some ⟨b24,0,none⟩) 1 1) 41 2 zr ([d.zf]:List Sample),slP 2 zk (.slice d.sr.A d.sr.l.length d.sr.c) d.sr.l,.blk b4 [iV 0,iV 0,Zs,iV 0] 34,.blk bp [.slice x.zA.A x.zA.l.length x.zA.c,iV x.zh] 93,Row (.slice x.zA.A x.zA.l.length x.zA.c) 50 9 zx x.zA.l,allP zF.Ok x.zA.l,celP dad [iV d.kind,iV d.tier,iV d.to,.slice d.sr.A d.sr.l.length d.sr.c,iV d.zf.time,iV d.zf.value,.string d.text],okP yv.Ok d]) mix (fun _ h=>h.drew) rfl (vE 7 [1,2,3,4] [1,2,3,4,5,6,7,8,9,10] rfl fun KS hKS=>yB (zg rfl) (yB (zR rfl) (yB (y0 rfl fld43_4) (yB (js 8 [iV d.zf.time,iV d.zf.value] rfl rfl rfl rfl agg41 inf41) (yZ hKS (yW 6 0 ?_)))))))))
   refine yX (i:=0) rfl fun KN hKN=>zB (yM 0 [.slice s1.sr.A s1.sr.l.length s1.sr.c,.slice s1.raw.A s1.raw.l.length s1.raw.c,.slice s1.fine.A s1.fine.l.length s1.fine.c,.slice s1.coarse.A s1.coarse.l.length s1.coarse.c,iV s1.ze,iV s1.zX,iV s1.zI,iV s1.zN,iV s1.zH] rfl rfl rfl rfl agg50 inf50) (yP hKN [1,2,3,4,5,6,7,8,9,10] (yW 5 5 (yX (i:=5) rfl fun KN hKN=>?_)))
   have hw2:=hwf _ (List.mem_of_getElem? hs1)
   refine yU (fun _ h=>h.one 8 zF.Ok.loc rfl hs1) (yU (fun _ h=>h.shelfX 0 rfl) ?_)
   obtain ⟨hc2,hm2,hA2⟩:=hw2.sr
   obtain ⟨hc3,hm3,hA3⟩:=hw2.raw
   obtain ⟨hc4,hm4,hA4⟩:=hw2.fine
   obtain ⟨hc5,hm5,hA5⟩:=hw2.coarse
   refine vL (β:=zF) (fun z=>.tuple #[.agg (zx z).toArray,iV (Sh.append (zF.e s1) d.zf).2]) (fun z=>z.e=(Sh.append (zF.e s1) d.zf).1) (fun z S=>zF.Ok S z) (fun z=>zF.Ok.loc z) wn rfl call114 rfl (fun w1 Pb hM pp=>c_appendE _ _ _ _ (zF.e s1) d.zf Pb w1 pp.lt (pp.sl 0 rfl) (pp.sl 1 rfl) (pp.sl 2 rfl) (pp.sl 3 rfl)) fun z2 hz2=>vh 0 rfl (fun S w h=>zF.Ok.wf h) fun hw3=>yP hKN [7,8,9,10,11,12,13,14,15,16] (vE 2 [6,7,8] [7,8,9,10,11,12,13,14,15,16] rfl fun KS hKS=>yB (zg rfl) (yB (yI rfl rfl) (yB (yI rfl rfl) (yZ hKS (yW 1 9 (yX (i:=9) rfl fun KN hKN=>zn 6 wn rfl rfl rfl inf50 rfl rfl rfl (yP hKN [7,8,9,10,11,12,13,14,15,16] ?_)))))))
   refine vE 0 [10] [7,8,9,10,11,12,13,14,15,16] rfl fun KS hKS=>yB (yf rfl) (yZ hKS (yp (by kernel_rfl) (yC hK17 (zS fun _ hK18=>zG fun _ hK19=>zE rfl (zB (vH rfl rfl) (zD hK19 (za rfl (fun h5=>?_) (fun h5=>?_))))))))
   · refine zG fun _ hK20=>zE rfl (zB (zw [iV ((Sh.append (zF.e s1) d.zf).2),iV 0,Zs,iV 0] pl34 inf34 rfl rfl) (zn 11 wn rfl rfl rfl inf34 rfl rfl rfl (zD hK20 (zV (zJ (zY (.inl rfl) results68 (zo 11 rfl rfl agg34 inf34 rfl) fun w1 hM=>?_))))))
     have hM:=hM.vT (yY.Ok.loc (noX ((Sh.append (zF.e s1) d.zf).2))) fun Pb pp=>noX_ok _ _ _
     exact hM.vS (x,noX ((Sh.append (zF.e s1) d.zf).2)) rfl (add_4 h1 h2 h3 h4 hs1 h5) (fun h=>h.sel [0,13,14,15,16,17] (by decide) rfl)
   refine yL hK18 (zS fun _ hK21=>zG fun _ hK22=>zE rfl (zD hK22 (y6 rfl (by simpa using h4) (vY 8 mix (by kernel_rfl) (fun _ h=>h.drew) fun _ hT1=>yq rfl (zt (zR rfl) (zt (zc rfl fld93_0) (zt (zc rfl fld25_0) (zt (zi 12 rfl rfl rfl flat23) ?_))))))))
   refine yq rfl (zt (yM 6 [.slice z2.sr.A z2.sr.l.length z2.sr.c,.slice z2.raw.A z2.raw.l.length z2.raw.c,.slice z2.fine.A z2.fine.l.length z2.fine.c,.slice z2.coarse.A z2.coarse.l.length z2.coarse.c,iV z2.ze,iV z2.zX,iV z2.zI,iV z2.zN,iV z2.zH] rfl rfl rfl rfl agg50 inf50) (zt (vC (i:=(Mn.pos (x.zA.l.map zF.k) d.sr.l)) rfl hd1 rfl (by omega) (by first | omega | (simp <;> omega)) underlying23 inf50) (vx hT1 (uw 13 (vs:=[.slice z2.sr.A z2.sr.l.length z2.sr.c,.slice z2.raw.A z2.raw.l.length z2.raw.c,.slice z2.fine.A z2.fine.l.length z2.fine.c,.slice z2.coarse.A z2.coarse.l.length z2.coarse.c,iV z2.ze,iV z2.zX,iV z2.zI,iV z2.zN,iV z2.zH]) z2 encShelfX wn rfl rfl rfl rfl hd1 hs1 inf50 rfl rfl rfl rfl (yU (fun _ h=>h.allNew (l':=(x.zA.l.set (Mn.pos (x.zA.l.map zF.k) d.sr.l) z2)) 14 0 zF.Ok.loc rfl rfl mem_set_of) ?_)))))
   have hw4:∀ y ∈ (x.zA.l.set (Mn.pos (x.zA.l.map zF.k) d.sr.l) z2),zF.Wf y:=wf_new mem_set_of hwf hw3
   refine zD hK21 (zG fun _ hK23=>zB (zw [iV 0,iV 0,Zs,iV 0] pl34 inf34 rfl rfl) (zn 12 wn rfl rfl rfl inf34 rfl rfl rfl (zD hK23 (zV (zY (.inl rfl) results68 (zo 12 rfl rfl agg34 inf34 rfl) fun w1 hM=>?_)))))
   have hM:=hM.vT (yY.Ok.loc (noX 0)) fun Pb pp=>noX_ok _ _ _
   exact hM.vS (⟨⟨x.zA.A,x.zA.c,(x.zA.l.set (Mn.pos (x.zA.l.map zF.k) d.sr.l) z2)⟩,x.zh⟩,noX 0) rfl (add_5 h1 h2 h3 h4 hs1 h5 hz2) (fun h=>as_set1 (n:=x.zA.l.length) (List.length_set).symm (h.sel [0,14,15,1,17,18] (by decide) rfl))
 refine zS fun _ hK24=>zG fun _ hK25=>zE rfl (zB (zR rfl) (zB (zc rfl fld93_0) (zB (zc rfl fld25_0) (zB (zi 6 rfl rfl rfl flat23) (zB (yg rfl underlying23) (zB (yj rfl rfl) (zD hK25 (za rfl (fun h6=>?_) (fun h6=>?_)))))))))
 · refine zG fun _ hK26=>zB (zw [iV 5,iV 0,Zs,iV 0] pl34 inf34 rfl rfl) (zn 5 wn rfl rfl rfl inf34 rfl rfl rfl (zD hK26 (zV (zJ (zJ (zY (.inl rfl) results68 (zo 5 rfl rfl agg34 inf34 rfl) fun w1 hM=>?_))))))
   have hM:=hM.vT (yY.Ok.loc (noX 5)) fun Pb pp=>noX_ok _ _ _
   exact hM.vS (x,noX 5) rfl (add_6 h1 h2 h3 h4 h6) (fun h=>h.sel [0,7,8,9,10,11] (by decide) rfl)
 refine yL hK24 (vG (Mem w ⟨fpOf [.blk bp [.slice x.zA.A x.zA.l.length x.zA.c,iV x.zh] 93,Row (.slice x.zA.A x.zA.l.length x.zA.c) 50 9 zx x.zA.l,allP zF.Ok x.zA.l,celP dad [iV d.kind,iV d.tier,iV d.to,.slice d.sr.A d.sr.l.length d.sr.c,iV d.zf.time,iV d.zf.value,.string d.text],okP yv.Ok d],Pb⟩ [okP zF.Ok z1,.blk b6 [iV ((Codec.wrong ([d.zf]:List Sample)).err),iV ((Codec.wrong ([d.zf]:List Sample)).at_)] 61,Row (.slice (some ⟨b24,0,none⟩) 1 1) 41 2 zr ([d.zf]:List Sample),slP 2 zk (.slice d.sr.A d.sr.l.length d.sr.c) d.sr.l,.blk b4 [iV 0,iV 0,Zs,iV 0] 34,.blk bp [.slice x.zA.A x.zA.l.length x.zA.c,iV x.zh] 93,Row (.slice x.zA.A x.zA.l.length x.zA.c) 50 9 zx x.zA.l,allP zF.Ok x.zA.l,celP dad [iV d.kind,iV d.tier,iV d.to,.slice d.sr.A d.sr.l.length d.sr.c,iV d.zf.time,iV d.zf.value,.string d.text],okP yv.Ok d]) mix (fun _ h=>h.drew) rfl (vE 6 [1,2,3,4,5] [1,2,3,4,5,6,7,8,9,10] rfl fun KS hKS=>yB (zg rfl) (yB (zR rfl) (yB (zc rfl fld93_0) (yB (zc rfl fld25_1) (yB (zi 5 rfl rfl rfl flat3) (yZ hKS (yW 5 0 (yX (i:=0) rfl fun KN hKN=>zB (yM 0 [.slice z1.sr.A z1.sr.l.length z1.sr.c,.slice z1.raw.A z1.raw.l.length z1.raw.c,.slice z1.fine.A z1.fine.l.length z1.fine.c,.slice z1.coarse.A z1.coarse.l.length z1.coarse.c,iV z1.ze,iV z1.zX,iV z1.zI,iV z1.zN,iV z1.zH] rfl rfl rfl rfl agg50 inf50) ?_)))))))))
 refine yP hKN [1,2,3,4,5,6,7,8,9,10] (yW 4 6 (yX (i:=6) rfl fun KN hKN=>yU (fun _ h=>h.shelfX 1 rfl) ?_))
 obtain ⟨hc6,hm6,hA6⟩:=hw1.sr
 obtain ⟨hc7,hm7,hA7⟩:=hw1.raw
 obtain ⟨hc8,hm8,hA8⟩:=hw1.fine
 obtain ⟨hc9,hm9,hA9⟩:=hw1.coarse
 refine vL (β:=zF) (fun z=>.tuple #[.agg (zx z).toArray,iV (Sh.roll (zF.e z1) x.zh).2]) (fun z=>z.e=(Sh.roll (zF.e z1) x.zh).1) (fun z S=>zF.Ok S z) (fun z=>zF.Ok.loc z) wn rfl call74 rfl (fun w1 Pb hM pp=>c_rollE _ _ _ _ (zF.e z1) x.zh Pb w1 pp.lt (pp.sl 0 rfl) (pp.sl 1 rfl) (pp.sl 2 rfl) (pp.sl 3 rfl)) fun z3 hz3=>vh 0 rfl (fun S w h=>zF.Ok.wf h) fun hw5=>yP hKN [6,7,8,9,10,11,12,13,14,15] (vE 1 [7,8,9] [6,7,8,9,10,11,12,13,14,15] rfl fun KS hKS=>yB (zg rfl) (yB (yI rfl rfl) (yB (yI rfl rfl) (yZ hKS (yW 0 10 (yX (i:=10) rfl fun KN hKN=>zn 5 wn rfl rfl rfl inf50 rfl rfl rfl (yP hKN [6,7,8,9,10,11,12,13,14,15] ?_)))))))
 refine yp (by kernel_rfl) (yC hK15 (zS fun _ hK27=>vG (Mem w ⟨fpOf [.blk bp [.slice x.zA.A x.zA.l.length x.zA.c,iV x.zh] 93,Row (.slice x.zA.A x.zA.l.length x.zA.c) 50 9 zx x.zA.l,allP zF.Ok x.zA.l,celP dad [iV d.kind,iV d.tier,iV d.to,.slice d.sr.A d.sr.l.length d.sr.c,iV d.zf.time,iV d.zf.value,.string d.text],okP yv.Ok d],Pb⟩ [okP zF.Ok z3,slP 2 zk (.slice z1.sr.A z1.sr.l.length z1.sr.c) z1.sr.l,slP 2 zr (.slice z1.raw.A z1.raw.l.length z1.raw.c) z1.raw.l,slP 8 zU (.slice z1.fine.A z1.fine.l.length z1.fine.c) z1.fine.l,slP 8 zU (.slice z1.coarse.A z1.coarse.l.length z1.coarse.c) z1.coarse.l,okP zF.Ok z1,.blk b6 [iV ((Codec.wrong ([d.zf]:List Sample)).err),iV ((Codec.wrong ([d.zf]:List Sample)).at_)] 61,Row (.slice (some ⟨b24,0,none⟩) 1 1) 41 2 zr ([d.zf]:List Sample),slP 2 zk (.slice d.sr.A d.sr.l.length d.sr.c) d.sr.l,.blk b4 [iV 0,iV 0,Zs,iV 0] 34,.blk bp [.slice x.zA.A x.zA.l.length x.zA.c,iV x.zh] 93,Row (.slice x.zA.A x.zA.l.length x.zA.c) 50 9 zx x.zA.l,allP zF.Ok x.zA.l,celP dad [iV d.kind,iV d.tier,iV d.to,.slice d.sr.A d.sr.l.length d.sr.c,iV d.zf.time,iV d.zf.value,.string d.text],okP yv.Ok d]) mix (fun _ h=>h.drew) rfl (vE 7 [1,2,3,4] [0,1,2,3,4,6,7,8,9,10,11,12,13,14,15] rfl fun KS hKS=>yB (zg rfl) (yB (zR rfl) (yB (y0 rfl fld43_4) (yB (js 13 [iV d.zf.time,iV d.zf.value] rfl rfl rfl rfl agg41 inf41) (yZ hKS (yW 6 0 (yX (i:=0) rfl fun KN hKN=>zB (yM 5 [.slice z3.sr.A z3.sr.l.length z3.sr.c,.slice z3.raw.A z3.raw.l.length z3.raw.c,.slice z3.fine.A z3.fine.l.length z3.fine.c,.slice z3.coarse.A z3.coarse.l.length z3.coarse.c,iV z3.ze,iV z3.zX,iV z3.zI,iV z3.zN,iV z3.zH] rfl rfl rfl rfl agg50 inf50) ?_)))))))))
 refine yP hKN [0,1,2,3,4,6,7,8,9,10,11,12,13,14,15] (yW 5 5 (yX (i:=5) rfl fun KN hKN=>yU (fun _ h=>h.shelfX 0 rfl) ?_))
 obtain ⟨hc10,hm10,hA10⟩:=hw5.sr
 obtain ⟨hc11,hm11,hA11⟩:=hw5.raw
 obtain ⟨hc12,hm12,hA12⟩:=hw5.fine
 obtain ⟨hc13,hm13,hA13⟩:=hw5.coarse
 refine vL (β:=zF) (fun z=>.tuple #[.agg (zx z).toArray,iV (Sh.append (zF.e z3) d.zf).2]) (fun z=>z.e=(Sh.append (zF.e z3) d.zf).1) (fun z S=>zF.Ok S z) (fun z=>zF.Ok.loc z) wn rfl call114 rfl (fun w1 Pb hM pp=>c_appendE _ _ _ _ (zF.e z3) d.zf Pb w1 pp.lt (pp.sl 0 rfl) (pp.sl 1 rfl) (pp.sl 2 rfl) (pp.sl 3 rfl)) fun z4 hz4=>vh 0 rfl (fun S w h=>zF.Ok.wf h) fun hw6=>yP hKN [5,6,7,8,9,11,12,13,14,15,16,17,18,19,20] (vE 2 [6,7,8] [5,6,7,8,9,11,12,13,14,15,16,17,18,19,20] rfl fun KS hKS=>yB (zg rfl) (yB (yI rfl rfl) (yB (yI rfl rfl) (yZ hKS (yW 1 9 (yX (i:=9) rfl fun KN hKN=>zn 10 wn rfl rfl rfl inf50 rfl rfl rfl (yP hKN [5,6,7,8,9,11,12,13,14,15,16,17,18,19,20] ?_)))))))
 refine vE 0 [10] [5,6,7,8,9,11,12,13,14,15,16,17,18,19,20] rfl fun KS hKS=>yB (yf rfl) (yZ hKS (yp (by kernel_rfl) (yC hK27 (zS fun _ hK28=>zG fun _ hK29=>zE rfl (zB (vH rfl rfl) (zD hK29 (za rfl (fun h7=>?_) (fun h7=>?_))))))))
 · refine zG fun _ hK30=>zE rfl (zB (zw [iV ((Sh.append (zF.e z3) d.zf).2),iV 0,Zs,iV 0] pl34 inf34 rfl rfl) (zn 15 wn rfl rfl rfl inf34 rfl rfl rfl (zD hK30 (zV (zJ (zY (.inl rfl) results68 (zo 15 rfl rfl agg34 inf34 rfl) fun w1 hM=>?_))))))
   have hf9:Bs.fresh d.sr.l x.zh=zF.e z3:=by rw [hz3,hz1]; rfl
   have hM:=hM.vT (yY.Ok.loc (noX ((Sh.append (zF.e z3) d.zf).2))) fun Pb pp=>noX_ok _ _ _
   exact hM.vS (x,noX ((Sh.append (zF.e z3) d.zf).2)) rfl (by have e9:=add_7 (x:=x) (d:=d) h1 h2 h3 h4 h6; rw [hf9] at e9; exact e9 h7) (fun h=>h.sel [0,17,18,19,20,21] (by decide) rfl)
 refine yL hK28 (zS fun _ hK31=>zG fun _ hK32=>zE rfl (zD hK32 (yu rfl (by simpa using h4) (vG (Mem w ⟨fpOf [.blk bp [.slice x.zA.A x.zA.l.length x.zA.c,iV x.zh] 93,Row (.slice x.zA.A x.zA.l.length x.zA.c) 50 9 zx x.zA.l,allP zF.Ok x.zA.l,celP dad [iV d.kind,iV d.tier,iV d.to,.slice d.sr.A d.sr.l.length d.sr.c,iV d.zf.time,iV d.zf.value,.string d.text],okP yv.Ok d],Pb⟩ [okP zF.Ok z4,slP 2 zk (.slice z3.sr.A z3.sr.l.length z3.sr.c) z3.sr.l,slP 2 zr (.slice z3.raw.A z3.raw.l.length z3.raw.c) z3.raw.l,slP 8 zU (.slice z3.fine.A z3.fine.l.length z3.fine.c) z3.fine.l,slP 8 zU (.slice z3.coarse.A z3.coarse.l.length z3.coarse.c) z3.coarse.l,okP zF.Ok z3,slP 2 zk (.slice z1.sr.A z1.sr.l.length z1.sr.c) z1.sr.l,slP 2 zr (.slice z1.raw.A z1.raw.l.length z1.raw.c) z1.raw.l,slP 8 zU (.slice z1.fine.A z1.fine.l.length z1.fine.c) z1.fine.l,slP 8 zU (.slice z1.coarse.A z1.coarse.l.length z1.coarse.c) z1.coarse.l,.blk b9 [.slice z4.sr.A z4.sr.l.length z4.sr.c,.slice z4.raw.A z4.raw.l.length z4.raw.c,.slice z4.fine.A z4.fine.l.length z4.fine.c,.slice z4.coarse.A z4.coarse.l.length z4.coarse.c,iV z4.ze,iV z4.zX,iV z4.zI,iV z4.zN,iV z4.zH] 50,okP zF.Ok z1,.blk b6 [iV ((Codec.wrong ([d.zf]:List Sample)).err),iV ((Codec.wrong ([d.zf]:List Sample)).at_)] 61,Row (.slice (some ⟨b24,0,none⟩) 1 1) 41 2 zr ([d.zf]:List Sample),slP 2 zk (.slice d.sr.A d.sr.l.length d.sr.c) d.sr.l,.blk b4 [iV 0,iV 0,Zs,iV 0] 34,celP dad [iV d.kind,iV d.tier,iV d.to,.slice d.sr.A d.sr.l.length d.sr.c,iV d.zf.time,iV d.zf.value,.string d.text],okP yv.Ok d]) mix (fun _ h=>h.drew) rfl (vE 7 [0,1,2,3,4,6,7] [0,1,2,3,4,5,6,7,8,9,10,11,12,13,14,15,19,20] rfl fun KS hKS=>yB (zg rfl) (yB (zg rfl) (yB (zR rfl) (yB (zc rfl fld93_0) ?_))))))))
 refine yB (zc rfl fld25_0) (yB (zg rfl) (yB (yM 10 [.slice z4.sr.A z4.sr.l.length z4.sr.c,.slice z4.raw.A z4.raw.l.length z4.raw.c,.slice z4.fine.A z4.fine.l.length z4.fine.c,.slice z4.coarse.A z4.coarse.l.length z4.coarse.c,iV z4.ze,iV z4.zX,iV z4.zI,iV z4.zN,iV z4.zH] rfl rfl rfl rfl agg50 inf50) (yZ hKS (vU (f:=6) (i:=5) (j:=8) rfl (by kernel_rfl) ?_ ?_))))
 · refine yX (i:=5) rfl fun KN hKN=>zB (zi 16 rfl rfl rfl flat23) (yP hKN [0,1,2,3,4,5,6,7,8,9,10,11,12,13,14,15,19,20] (yW 5 8 (yX (i:=8) rfl fun KN hKN=>yt zx ([z4]:List zF) wn underlying23 inf50 rfl rfl rfl rfl (by decide) (by decide) rfl fun b119=>yP hKN [1,2,3,4,5,6,7,8,9,10,11,12,13,14,15,16,20,21] (yW 4 9 (yX (i:=9) rfl fun KN hKN=>vK (α:=Value) [Row (.slice x.zA.A x.zA.l.length x.zA.c) 50 9 zx x.zA.l,Row (.slice (some ⟨b119,0,none⟩) 1 1) 50 9 zx ([z4]:List zF)] [okP zF.Ok z4,slP 2 zk (.slice z3.sr.A z3.sr.l.length z3.sr.c) z3.sr.l,slP 2 zr (.slice z3.raw.A z3.raw.l.length z3.raw.c) z3.raw.l,slP 8 zU (.slice z3.fine.A z3.fine.l.length z3.fine.c) z3.fine.l,slP 8 zU (.slice z3.coarse.A z3.coarse.l.length z3.coarse.c) z3.coarse.l,okP zF.Ok z3,slP 2 zk (.slice z1.sr.A z1.sr.l.length z1.sr.c) z1.sr.l,slP 2 zr (.slice z1.raw.A z1.raw.l.length z1.raw.c) z1.raw.l,slP 8 zU (.slice z1.fine.A z1.fine.l.length z1.fine.c) z1.fine.l,slP 8 zU (.slice z1.coarse.A z1.coarse.l.length z1.coarse.c) z1.coarse.l,.blk b9 [.slice z4.sr.A z4.sr.l.length z4.sr.c,.slice z4.raw.A z4.raw.l.length z4.raw.c,.slice z4.fine.A z4.fine.l.length z4.fine.c,.slice z4.coarse.A z4.coarse.l.length z4.coarse.c,iV z4.ze,iV z4.zX,iV z4.zI,iV z4.zN,iV z4.zH] 50,okP zF.Ok z1,.blk b6 [iV ((Codec.wrong ([d.zf]:List Sample)).err),iV ((Codec.wrong ([d.zf]:List Sample)).at_)] 61,Row (.slice (some ⟨b24,0,none⟩) 1 1) 41 2 zr ([d.zf]:List Sample),slP 2 zk (.slice d.sr.A d.sr.l.length d.sr.c) d.sr.l,.blk b4 [iV 0,iV 0,Zs,iV 0] 34,.blk bp [.slice x.zA.A x.zA.l.length x.zA.c,iV x.zh] 93,allP zF.Ok x.zA.l,celP dad [iV d.kind,iV d.tier,iV d.to,.slice d.sr.A d.sr.l.length d.sr.c,iV d.zf.time,iV d.zf.value,.string d.text],okP yv.Ok d] (fun z=>z) (fun z5=>True) (fun z5=>[Row z5 50 9 zx (x.zA.l.take (Mn.pos (x.zA.l.map zF.k) d.sr.l)++z4::x.zA.l.drop (Mn.pos (x.zA.l.map zF.k) d.sr.l))]) _ (fun _=>rfl) (S9 [18,0,1,2,3,4,5,6,7,8,9,10,11,12,13,14,15,16,17,19,20,21]) (fun _=>rfl) wn rfl rfl call115 rfl (fun w1 Pb hG=>c_insertS _ _ x.zA.l z4 (Mn.pos (x.zA.l.map zF.k) d.sr.l) Pb w1 hG pos_leS (by omega)) fun z5 hz5=>jG 0 (l:=(x.zA.l.take (Mn.pos (x.zA.l.map zF.k) d.sr.l)++z4::x.zA.l.drop (Mn.pos (x.zA.l.map zF.k) d.sr.l))) rfl fun A1 cp1 hv1 hc14 hm14 hA14=>?_)))))
   subst hv1
   refine yU (fun _ h=>h.allNew (l':=(x.zA.l.take (Mn.pos (x.zA.l.map zF.k) d.sr.l)++z4::x.zA.l.drop (Mn.pos (x.zA.l.map zF.k) d.sr.l))) 18 1 zF.Ok.loc rfl rfl mem_ins_of) ?_
   have hw7:∀ y ∈ (x.zA.l.take (Mn.pos (x.zA.l.map zF.k) d.sr.l)++z4::x.zA.l.drop (Mn.pos (x.zA.l.map zF.k) d.sr.l)),zF.Wf y:=wf_new mem_ins_of hwf hw6
   refine yP hKN [2,3,4,5,6,7,8,9,10,11,12,13,14,15,16,17,20,21] (vE 1 [10,11,12] [2,3,4,5,6,7,8,9,10,11,12,13,14,15,16,17,20,21] rfl fun KS hKS=>yB (zR rfl) (yB (zc rfl fld93_0) (yB (zc rfl fld25_0) (yZ hKS (yW 0 13 (yX (i:=13) rfl fun KN hKN=>yo 18 wn rfl rfl rfl rfl inf23 rfl rfl (yP hKN [2,3,4,5,6,7,8,9,10,11,12,13,14,15,16,17,20,21] (yp (by kernel_rfl) (yC hK31 (zG fun _ hK33=>?_))))))))))
   refine zB (zw [iV 0,iV 0,Zs,iV 0] pl34 inf34 rfl rfl) (zn 17 wn rfl rfl rfl inf34 rfl rfl rfl (zD hK33 (zV (zY (.inl rfl) results68 (zo 17 rfl rfl agg34 inf34 rfl) fun w1 hM=>?_))))
   have hf9:Bs.fresh d.sr.l x.zh=zF.e z3:=by rw [hz3,hz1]; rfl
   have hM:=hM.vT (yY.Ok.loc (noX 0)) fun Pb pp=>noX_ok _ _ _
   exact hM.vS (⟨⟨A1,cp1,(x.zA.l.take (Mn.pos (x.zA.l.map zF.k) d.sr.l)++z4::x.zA.l.drop (Mn.pos (x.zA.l.map zF.k) d.sr.l))⟩,x.zh⟩,noX 0) rfl (by have e9:=add_8 (x:=x) (d:=d) (z:=z4) (A:=A1) (c:=cp1) h1 h2 h3 h4 h6; rw [hf9] at e9; exact e9 h7 hz4) (fun h=>h.sel [0,19,2,1,21,22] (by decide) rfl)
 refine yX (i:=8) rfl fun KN hKN=>yt zx ([z4]:List zF) wn underlying23 inf50 rfl rfl rfl rfl (by decide) (by decide) rfl fun b119=>yP hKN [1,2,3,4,5,6,7,8,9,10,11,12,13,14,15,16,20,21] (yW 5 5 (yX (i:=5) rfl fun KN hKN=>zB (zi 17 rfl rfl rfl flat23) (yP hKN [1,2,3,4,5,6,7,8,9,10,11,12,13,14,15,16,20,21] (yW 4 9 (yX (i:=9) rfl fun KN hKN=>vK (α:=Value) [Row (.slice x.zA.A x.zA.l.length x.zA.c) 50 9 zx x.zA.l,Row (.slice (some ⟨b119,0,none⟩) 1 1) 50 9 zx ([z4]:List zF)] [okP zF.Ok z4,slP 2 zk (.slice z3.sr.A z3.sr.l.length z3.sr.c) z3.sr.l,slP 2 zr (.slice z3.raw.A z3.raw.l.length z3.raw.c) z3.raw.l,slP 8 zU (.slice z3.fine.A z3.fine.l.length z3.fine.c) z3.fine.l,slP 8 zU (.slice z3.coarse.A z3.coarse.l.length z3.coarse.c) z3.coarse.l,okP zF.Ok z3,slP 2 zk (.slice z1.sr.A z1.sr.l.length z1.sr.c) z1.sr.l,slP 2 zr (.slice z1.raw.A z1.raw.l.length z1.raw.c) z1.raw.l,slP 8 zU (.slice z1.fine.A z1.fine.l.length z1.fine.c) z1.fine.l,slP 8 zU (.slice z1.coarse.A z1.coarse.l.length z1.coarse.c) z1.coarse.l,.blk b9 [.slice z4.sr.A z4.sr.l.length z4.sr.c,.slice z4.raw.A z4.raw.l.length z4.raw.c,.slice z4.fine.A z4.fine.l.length z4.fine.c,.slice z4.coarse.A z4.coarse.l.length z4.coarse.c,iV z4.ze,iV z4.zX,iV z4.zI,iV z4.zN,iV z4.zH] 50,okP zF.Ok z1,.blk b6 [iV ((Codec.wrong ([d.zf]:List Sample)).err),iV ((Codec.wrong ([d.zf]:List Sample)).at_)] 61,Row (.slice (some ⟨b24,0,none⟩) 1 1) 41 2 zr ([d.zf]:List Sample),slP 2 zk (.slice d.sr.A d.sr.l.length d.sr.c) d.sr.l,.blk b4 [iV 0,iV 0,Zs,iV 0] 34,.blk bp [.slice x.zA.A x.zA.l.length x.zA.c,iV x.zh] 93,allP zF.Ok x.zA.l,celP dad [iV d.kind,iV d.tier,iV d.to,.slice d.sr.A d.sr.l.length d.sr.c,iV d.zf.time,iV d.zf.value,.string d.text],okP yv.Ok d] (fun z=>z) (fun z6=>True) (fun z6=>[Row z6 50 9 zx (x.zA.l.take (Mn.pos (x.zA.l.map zF.k) d.sr.l)++z4::x.zA.l.drop (Mn.pos (x.zA.l.map zF.k) d.sr.l))]) _ (fun _=>rfl) (S9 [18,0,1,2,3,4,5,6,7,8,9,10,11,12,13,14,15,16,17,19,20,21]) (fun _=>rfl) wn rfl rfl call115 rfl (fun w1 Pb hG=>c_insertS _ _ x.zA.l z4 (Mn.pos (x.zA.l.map zF.k) d.sr.l) Pb w1 hG pos_leS (by omega)) fun z6 hz6=>jG 0 (l:=(x.zA.l.take (Mn.pos (x.zA.l.map zF.k) d.sr.l)++z4::x.zA.l.drop (Mn.pos (x.zA.l.map zF.k) d.sr.l))) rfl fun A2 cp2 hv2 hc15 hm15 hA15=>?_)))))
 subst hv2
 refine yU (fun _ h=>h.allNew (l':=(x.zA.l.take (Mn.pos (x.zA.l.map zF.k) d.sr.l)++z4::x.zA.l.drop (Mn.pos (x.zA.l.map zF.k) d.sr.l))) 18 1 zF.Ok.loc rfl rfl mem_ins_of) ?_
 have hw8:∀ y ∈ (x.zA.l.take (Mn.pos (x.zA.l.map zF.k) d.sr.l)++z4::x.zA.l.drop (Mn.pos (x.zA.l.map zF.k) d.sr.l)),zF.Wf y:=wf_new mem_ins_of hwf hw6
 refine yP hKN [2,3,4,5,6,7,8,9,10,11,12,13,14,15,16,17,20,21] (vE 1 [10,11,12] [2,3,4,5,6,7,8,9,10,11,12,13,14,15,16,17,20,21] rfl fun KS hKS=>yB (zR rfl) (yB (zc rfl fld93_0) (yB (zc rfl fld25_0) (yZ hKS (yW 0 13 (yX (i:=13) rfl fun KN hKN=>yo 18 wn rfl rfl rfl rfl inf23 rfl rfl (yP hKN [2,3,4,5,6,7,8,9,10,11,12,13,14,15,16,17,20,21] (yp (by kernel_rfl) (yC hK31 (zG fun _ hK34=>?_))))))))))
 refine zB (zw [iV 0,iV 0,Zs,iV 0] pl34 inf34 rfl rfl) (zn 17 wn rfl rfl rfl inf34 rfl rfl rfl (zD hK34 (zV (zY (.inl rfl) results68 (zo 17 rfl rfl agg34 inf34 rfl) fun w1 hM=>?_))))
 have hf9:Bs.fresh d.sr.l x.zh=zF.e z3:=by rw [hz3,hz1]; rfl
 have hM:=hM.vT (yY.Ok.loc (noX 0)) fun Pb pp=>noX_ok _ _ _
 exact hM.vS (⟨⟨A2,cp2,(x.zA.l.take (Mn.pos (x.zA.l.map zF.k) d.sr.l)++z4::x.zA.l.drop (Mn.pos (x.zA.l.map zF.k) d.sr.l))⟩,x.zh⟩,noX 0) rfl (by have e9:=add_8 (x:=x) (d:=d) (z:=z4) (A:=A2) (c:=cp2) h1 h2 h3 h4 h6; rw [hf9] at e9; exact e9 h7 hz4) (fun h=>h.sel [0,19,2,1,21,22] (by decide) rfl)
end
section
open Tryz
open Ex
set_option linter.unusedVariables false
set_option linter.unusedSimpArgs false
theorem c_do1 (s : zF) (db dad : Addr) (d : yv) (P0 : Nat → Prop) (w : World) (hP0 : ∀ b, P0 b → b < w.heap.size) (hs : zF.Ok P0 s w) (hdb : vb P0 db [.pointer (some ((Addr.add dad 0).add 0))] w) (hdc : vb P0 dad (uB d) w) (hd : yv.Ok P0 d w)  :
    Calls prog 71 #[.agg (zx s).toArray,.pointer (some db)] w (RetE w P0 (fun z:zF=>.tuple #[.agg (zx z).toArray,iV (Sh.forget s.e d.tier d.to).2]) (fun z=>z.e=(Sh.forget s.e d.tier d.to).1) (fun z S=>zF.Ok S z)):=by
 have hws:=hs.wf
 have hwd:=hd.wf
 refine fstart (N:=17) (vals:=[.agg (zx s).toArray,.pointer (some ((Addr.add db 0).add 0))]) (S:=Mem w ⟨no,P0⟩ [okP zF.Ok s,celP db [.pointer (some ((Addr.add dad 0).add 0))],celP dad [iV d.kind,iV d.tier,iV d.to,.slice d.sr.A d.sr.l.length d.sr.c,iV d.zf.time,iV d.zf.value,.string d.text],okP yv.Ok d]) func71 rfl rfl rfl (Mem.ofDatsP hP0 (dc (dp (zF.Ok.loc _) hs) (dc (dp (vb.loc _ _) hdb) (dc (dp (vb.loc _ _) hdc) (dc (dp (yv.Ok.loc _) hd) dn))))) (zG fun _ hK1=>vR wn rfl rfl fun b2=>zy wn inf50 rfl fun b3=>zO rfl (zD hK1 (zS fun _ hK2=>vG (Mem w ⟨no,P0⟩ [.blk b2 [.slice s.sr.A s.sr.l.length s.sr.c,.slice s.raw.A s.raw.l.length s.raw.c,.slice s.fine.A s.fine.l.length s.fine.c,.slice s.coarse.A s.coarse.l.length s.coarse.c,iV s.ze,iV s.zX,iV s.zI,iV s.zN,iV s.zH] 50,okP zF.Ok s,celP db [.pointer (some ((Addr.add dad 0).add 0))],celP dad [iV d.kind,iV d.tier,iV d.to,.slice d.sr.A d.sr.l.length d.sr.c,iV d.zf.time,iV d.zf.value,.string d.text],okP yv.Ok d]) mix (fun _ h=>h.drew) rfl (vE 5 [0,1,2,3,4,5,6,7,8] [1,2,3,4,5] rfl fun KS hKS=>yB (yM 0 [.slice s.sr.A s.sr.l.length s.sr.c,.slice s.raw.A s.raw.l.length s.raw.c,.slice s.fine.A s.fine.l.length s.fine.c,.slice s.coarse.A s.coarse.l.length s.coarse.c,iV s.ze,iV s.zX,iV s.zI,iV s.zN,iV s.zH] rfl rfl rfl rfl agg50 inf50) (yB (yy 2 rfl rfl rfl flat95) (yB (zR rfl) ?_))))))
 refine yB (y0 rfl fld43_1) (yB (yy 3 rfl rfl rfl flat3) (yB (yy 2 rfl rfl rfl flat95) (yB (zR rfl) (yB (y0 rfl fld43_2) (yB (yy 3 rfl rfl rfl flat3) (yZ hKS (yW 4 9 (yX (i:=9) rfl fun KN hKN=>yU (fun _ h=>h.shelfX 2 rfl) ?_))))))))
 obtain ⟨hc1,hm1,hA1⟩:=hws.sr
 obtain ⟨hc2,hm2,hA2⟩:=hws.raw
 obtain ⟨hc3,hm3,hA3⟩:=hws.fine
 obtain ⟨hc4,hm4,hA4⟩:=hws.coarse
 refine l_callSh (fun u=>.tuple (List.toArray [u,iV ((Sh.forget (zF.e s) d.tier d.to).2)])) ((Sh.forget (zF.e s) d.tier d.to).1) wn rfl call72 rfl (fun w1 Pb hM pp=>c_forget _ _ _ _ (zF.e s) d.tier d.to Pb w1 pp.lt (pp.sl 0 rfl) (pp.sl 1 rfl) (pp.sl 2 rfl) (pp.sl 3 rfl)) fun A1 cp1 A2 cp2 A3 cp3 A4 cp4 hb1 hA5 hA6 hA7 hA8=>yP hKN [9,10,11,12,13] (vE 2 [10,11] [9,10,11,12,13] rfl fun KS hKS=>yB (yI rfl rfl) (yB (yI rfl rfl) (yZ hKS (yW 1 12 (yX (i:=12) rfl fun KN hKN=>zn 8 wn rfl rfl rfl inf50 rfl rfl rfl (yP hKN [9,10,11,12,13] (vE 0 [13] [9,10,11,12,13] rfl fun KS hKS=>yB (yf rfl) ?_)))))))
 refine yZ hKS (yp (by kernel_rfl) (yC hK2 (zV (yT (.inl rfl) results71 (zo 8 rfl rfl agg50 inf50 rfl) (zQ rfl) fun w1 hM=>?_))))
 exact hM.uE (zF.mk ⟨A1,cp1,((Sh.forget (zF.e s) d.tier d.to).1).zT⟩ ⟨A2,cp2,((Sh.forget (zF.e s) d.tier d.to).1).raw⟩ ⟨A3,cp3,((Sh.forget (zF.e s) d.tier d.to).1).fine⟩ ⟨A4,cp4,((Sh.forget (zF.e s) d.tier d.to).1).coarse⟩ (((Sh.forget (zF.e s) d.tier d.to).1).ze) (((Sh.forget (zF.e s) d.tier d.to).1).zX) (((Sh.forget (zF.e s) d.tier d.to).1).zI) (((Sh.forget (zF.e s) d.tier d.to).1).zN) (((Sh.forget (zF.e s) d.tier d.to).1).zH)) rfl rfl fun Pb pp=>⟨pp.sl 0 rfl,pp.sl 1 rfl,pp.sl 2 rfl,pp.sl 3 rfl⟩
theorem c_do2 (s : zF) (db dad : Addr) (d : yv) (P0 : Nat → Prop) (w : World) (hP0 : ∀ b, P0 b → b < w.heap.size) (hs : zF.Ok P0 s w) (hdb : vb P0 db [.pointer (some ((Addr.add dad 0).add 0))] w) (hdc : vb P0 dad (uB d) w) (hd : yv.Ok P0 d w)  :
    Calls prog 73 #[.agg (zx s).toArray,.pointer (some db)] w (RetE w P0 (fun z:zF=>.tuple #[.agg (zx z).toArray,iV (Sh.roll s.e d.to).2]) (fun z=>z.e=(Sh.roll s.e d.to).1) (fun z S=>zF.Ok S z)):=by
 have hws:=hs.wf
 have hwd:=hd.wf
 refine fstart (N:=13) (vals:=[.agg (zx s).toArray,.pointer (some ((Addr.add db 0).add 0))]) (S:=Mem w ⟨no,P0⟩ [okP zF.Ok s,celP db [.pointer (some ((Addr.add dad 0).add 0))],celP dad [iV d.kind,iV d.tier,iV d.to,.slice d.sr.A d.sr.l.length d.sr.c,iV d.zf.time,iV d.zf.value,.string d.text],okP yv.Ok d]) func73 rfl rfl rfl (Mem.ofDatsP hP0 (dc (dp (zF.Ok.loc _) hs) (dc (dp (vb.loc _ _) hdb) (dc (dp (vb.loc _ _) hdc) (dc (dp (yv.Ok.loc _) hd) dn))))) (zG fun _ hK1=>vR wn rfl rfl fun b2=>zy wn inf50 rfl fun b3=>zO rfl (zD hK1 (zS fun _ hK2=>vG (Mem w ⟨no,P0⟩ [.blk b2 [.slice s.sr.A s.sr.l.length s.sr.c,.slice s.raw.A s.raw.l.length s.raw.c,.slice s.fine.A s.fine.l.length s.fine.c,.slice s.coarse.A s.coarse.l.length s.coarse.c,iV s.ze,iV s.zX,iV s.zI,iV s.zN,iV s.zH] 50,okP zF.Ok s,celP db [.pointer (some ((Addr.add dad 0).add 0))],celP dad [iV d.kind,iV d.tier,iV d.to,.slice d.sr.A d.sr.l.length d.sr.c,iV d.zf.time,iV d.zf.value,.string d.text],okP yv.Ok d]) mix (fun _ h=>h.drew) rfl (vE 5 [0,1,2,3,4] [1,2,3,4,5] rfl fun KS hKS=>yB (yM 0 [.slice s.sr.A s.sr.l.length s.sr.c,.slice s.raw.A s.raw.l.length s.raw.c,.slice s.fine.A s.fine.l.length s.fine.c,.slice s.coarse.A s.coarse.l.length s.coarse.c,iV s.ze,iV s.zX,iV s.zI,iV s.zN,iV s.zH] rfl rfl rfl rfl agg50 inf50) (yB (yy 2 rfl rfl rfl flat95) (yB (zR rfl) ?_))))))
 refine yB (y0 rfl fld43_2) (yB (yy 3 rfl rfl rfl flat3) (yZ hKS (yW 4 5 (yX (i:=5) rfl fun KN hKN=>yU (fun _ h=>h.shelfX 2 rfl) ?_))))
 obtain ⟨hc1,hm1,hA1⟩:=hws.sr
 obtain ⟨hc2,hm2,hA2⟩:=hws.raw
 obtain ⟨hc3,hm3,hA3⟩:=hws.fine
 obtain ⟨hc4,hm4,hA4⟩:=hws.coarse
 refine l_callSh (fun u=>.tuple (List.toArray [u,iV ((Sh.roll (zF.e s) d.to).2)])) ((Sh.roll (zF.e s) d.to).1) wn rfl call74 rfl (fun w1 Pb hM pp=>c_roll _ _ _ _ (zF.e s) d.to Pb w1 pp.lt (pp.sl 0 rfl) (pp.sl 1 rfl) (pp.sl 2 rfl) (pp.sl 3 rfl)) fun A1 cp1 A2 cp2 A3 cp3 A4 cp4 hb1 hA5 hA6 hA7 hA8=>yP hKN [9,10,11,12,13] (vE 2 [6,7] [9,10,11,12,13] rfl fun KS hKS=>yB (yI rfl rfl) (yB (yI rfl rfl) (yZ hKS (yW 1 8 (yX (i:=8) rfl fun KN hKN=>zn 8 wn rfl rfl rfl inf50 rfl rfl rfl (yP hKN [9,10,11,12,13] (vE 0 [9] [9,10,11,12,13] rfl fun KS hKS=>yB (yf rfl) ?_)))))))
 refine yZ hKS (yp (by kernel_rfl) (yC hK2 (zV (yT (.inl rfl) results73 (zo 8 rfl rfl agg50 inf50 rfl) (zQ rfl) fun w1 hM=>?_))))
 exact hM.uE (zF.mk ⟨A1,cp1,((Sh.roll (zF.e s) d.to).1).zT⟩ ⟨A2,cp2,((Sh.roll (zF.e s) d.to).1).raw⟩ ⟨A3,cp3,((Sh.roll (zF.e s) d.to).1).fine⟩ ⟨A4,cp4,((Sh.roll (zF.e s) d.to).1).coarse⟩ (((Sh.roll (zF.e s) d.to).1).ze) (((Sh.roll (zF.e s) d.to).1).zX) (((Sh.roll (zF.e s) d.to).1).zI) (((Sh.roll (zF.e s) d.to).1).zN) (((Sh.roll (zF.e s) d.to).1).zH)) rfl rfl fun Pb pp=>⟨pp.sl 0 rfl,pp.sl 1 rfl,pp.sl 2 rfl,pp.sl 3 rfl⟩
set_option maxHeartbeats 1000000 in
theorem c_each (bp : Nat) (x : yw) (f : Nat) (fcap : Array Value) (C : (Nat → Prop) → World → Prop) (g : Shelf → Shelf × Int) (Pb : Nat → Prop) (w : World) (hG : Mem w ⟨fpOf [.blk bp [.slice x.zA.A x.zA.l.length x.zA.c, iV x.zh] 93, Row (.slice x.zA.A x.zA.l.length x.zA.c) 50 9 zx x.zA.l, allP zF.Ok x.zA.l, .pub C], Pb⟩ [.blk bp [.slice x.zA.A x.zA.l.length x.zA.c, iV x.zh] 93, Row (.slice x.zA.A x.zA.l.length x.zA.c) 50 9 zx x.zA.l, allP zF.Ok x.zA.l, .pub C] w) (hf : ShFn prog f fcap C g) (hlen : x.zA.l.length ≤ 8) :
    Calls prog 70 #[.pointer (some ⟨bp,0,none⟩),.func (.func f) #[] fcap] w (RetA w [.blk bp [.slice x.zA.A x.zA.l.length x.zA.c,iV x.zh] 93,Row (.slice x.zA.A x.zA.l.length x.zA.c) 50 9 zx x.zA.l,allP zF.Ok x.zA.l,.pub C] Pb (fun _:yw=>iV (Bs.each g x.e.zA).2) (fun z=>z.e=if (Bs.each g x.e.zA).2≠0 then x.e else ⟨(Bs.each g x.e.zA).1,x.zh⟩) (fun z=>[.blk bp [.slice z.zA.A z.zA.l.length z.zA.c,iV z.zh] 93,Row (.slice z.zA.A z.zA.l.length z.zA.c) 50 9 zx z.zA.l,allP zF.Ok z.zA.l,.pub C])):=by
 have hwf:∀ y ∈ x.zA.l,zF.Wf y:=fun y hy=>((hG.vP (i:=2) rfl) y hy).wf
 obtain ⟨hsc,hsm,hsA⟩:=row_wf (hG.row (i:=1) rfl)
 refine fstart (N:=39) (vals:=[.pointer (some ⟨bp,0,none⟩),.func (.func f) #[] fcap]) (S:=Mem w ⟨fpOf [.blk bp [.slice x.zA.A x.zA.l.length x.zA.c,iV x.zh] 93,Row (.slice x.zA.A x.zA.l.length x.zA.c) 50 9 zx x.zA.l,allP zF.Ok x.zA.l,.pub C],Pb⟩ [.blk bp [.slice x.zA.A x.zA.l.length x.zA.c,iV x.zh] 93,Row (.slice x.zA.A x.zA.l.length x.zA.c) 50 9 zx x.zA.l,allP zF.Ok x.zA.l,.pub C]) func70 rfl rfl rfl hG (zG fun _ hK1=>zO rfl (zD hK1 (zG fun _ hK2=>vB (zx:zF→List Value) 50 9 (yU (fun _ h=>h.all0 zF.Ok.loc) (zO rfl (zD hK2 (zS fun _ hK3=>zG fun _ hK4=>zE rfl ?_)))))))
 refine zB (zR rfl) (zB (zc rfl fld93_0) (zB (zc rfl fld25_0) (zB (zi 2 rfl rfl rfl flat23) (zB (yg rfl underlying23) (zE rfl (zD hK4 (zl (u7 (fun (k:Nat) (zs:List zF) (ov:Value)=>[(0,.pointer (some ⟨bp,0,none⟩)),(1,.func (.func f) #[] fcap),(5,ov),(14,.slice x.zA.A x.zA.l.length x.zA.c),(15,iV x.zA.l.length),(16,iV k)]) (fun (k:Nat) (zs:List zF) (ov:Value)=>[allP zF.Ok zs,Row ov 50 9 zx zs,.blk bp [.slice x.zA.A x.zA.l.length x.zA.c,iV x.zh] 93,Row (.slice x.zA.A x.zA.l.length x.zA.c) 50 9 zx x.zA.l,allP zF.Ok x.zA.l,.pub C]) (fun (k:Nat) (zs:List zF) (ov:Value)=>k≤x.zA.l.length∧(∀ y ∈ zs,zF.Wf y)∧Bs.each g ((x.zA.l.take k).map zF.e)=(zs.map zF.e,0)∧zs.length=k) (fun (k:Nat) (zs:List zF) (ov:Value)=>x.zA.l.length - k) 0 [] (Zs) (sc rfl (sc rfl (sc rfl (sc rfl (sc rfl (sc (ji (by omega)) sn)))))) (fun _ h=>h) ?_ (fun k zs ov hI1=>?_)))))))))
 · exact ⟨Nat.zero_le _,fun x hx=>(by cases hx),rfl,rfl⟩
 have hwz:=hI1.2.1
 have hzl:=hI1.2.2.2
 refine vV 1 (l:=zs) rfl fun A1 cp1 hv1 hc1 hm1 hA1=>?_
 subst hv1
 refine zG fun _ hK5=>zB (yR rfl rfl) (zD hK5 (zS fun _ hK6=>za rfl (fun h1=>?_) (fun h1=>?_)))
 · refine yL hK6 (zS fun _ hK7=>zl (zG fun _ hK8=>?_))
   obtain ⟨ad1,hd1⟩:=hsA (ne_nil (i:=k) (by first | omega | (simp <;> omega)))
   refine zB (vC (i:=k) rfl hd1 rfl (by omega) (by first | omega | (simp <;> omega)) underlying23 inf50) ?_
   obtain ⟨s1,hs1⟩:∃ y9,x.zA.l[k]?=some y9:=⟨_,List.getElem?_eq_getElem (by first | omega | (simp <;> omega))⟩
   refine zB (u9 3 [.slice s1.sr.A s1.sr.l.length s1.sr.c,.slice s1.raw.A s1.raw.l.length s1.raw.c,.slice s1.fine.A s1.fine.l.length s1.fine.c,.slice s1.coarse.A s1.coarse.l.length s1.coarse.c,iV s1.ze,iV s1.zX,iV s1.zI,iV s1.zN,iV s1.zH] encShelfX rfl rfl hd1 hs1 rfl rfl agg50 inf50) (zy wn inf50 rfl fun b7=>zn 0 wn rfl rfl rfl inf50 rfl rfl rfl (zD hK8 (zG fun _ hK9=>zE rfl (zB (yM 0 [.slice s1.sr.A s1.sr.l.length s1.sr.c,.slice s1.raw.A s1.raw.l.length s1.raw.c,.slice s1.fine.A s1.fine.l.length s1.fine.c,.slice s1.coarse.A s1.coarse.l.length s1.coarse.c,iV s1.ze,iV s1.zX,iV s1.zI,iV s1.zN,iV s1.zH] rfl rfl rfl rfl agg50 inf50) ?_))))
   have hw1:=hwf _ (List.mem_of_getElem? hs1)
   refine yU (fun _ h=>h.one 5 zF.Ok.loc rfl hs1) (l_callE (β:=zF) (fun z=>.tuple #[.agg (zx z).toArray,iV (g (zF.e s1)).2]) (fun z=>z.e=(g (zF.e s1)).1) (fun z S=>zF.Ok S z) (fun z=>zF.Ok.loc z) wn rfl rfl hf.call rfl (fun w1 Pb hM pp=>hf.run s1 w1 Pb pp.lt (pp.at_ 0 _ rfl) (pp.at_ 7 _ rfl)) fun z1 hz1=>vh 0 rfl (fun S w h=>zF.Ok.wf h) fun hw2=>zE rfl (zB (yI rfl rfl) (zB (yI rfl rfl) (zy wn inf50 rfl fun b8=>zn 0 wn rfl rfl rfl inf50 rfl rfl rfl (zO rfl (zD hK9 (zS fun _ hK10=>zG fun _ hK11=>?_)))))))
   refine zE rfl (zB (vH rfl rfl) (zD hK11 (za rfl (fun h2=>?_) (fun h2=>?_))))
   · refine zG fun _ hK12=>zE rfl (zO rfl (zD hK12 (zV (zJ (yD (zJ (uD (yD (zJ (zY (.inl rfl) results70 (zQ rfl) fun w1 hM=>?_))))))))))
     have hb9:(Bs.each g x.e.zA).2=(g s1.e).2:=eachX_bad hs1 hI1.2.2.1 h2
     exact hM.vS x (by rw [hb9]) (by rw [hb9,if_pos h2]) (fun h=>h.sel [6,7,8,9] (by decide) rfl)
   refine yL hK10 (zL (zE rfl (zB (yM 0 [.slice z1.sr.A z1.sr.l.length z1.sr.c,.slice z1.raw.A z1.raw.l.length z1.raw.c,.slice z1.fine.A z1.fine.l.length z1.fine.c,.slice z1.coarse.A z1.coarse.l.length z1.coarse.c,iV z1.ze,iV z1.zX,iV z1.zI,iV z1.zN,iV z1.zH] rfl rfl rfl rfl agg50 inf50) (yt zx ([z1]:List zF) wn underlying23 inf50 rfl rfl rfl rfl (by decide) (by decide) rfl fun b31=>vD 6 zs ([z1]:List zF) encShelfX wn rfl rfl rfl (fun _ hM=>(RowSl encShelfX hM 0 rfl)) underlying23 inf50 rfl rfl (by simp only [List.length_append,List.length_cons,List.length_nil]; omega) rfl fun A2 cp2 hc2 hm2 hA2=>yU (fun _ h=>h.allSnoc 5 2 zF.Ok.loc rfl rfl) ?_))))
   have hw3:∀ x ∈ (zs++([z1]:List zF)),zF.Wf x:=fun x hx=>(List.mem_append.1 hx).elim (hwz x) fun h=>by rw [List.mem_singleton.1 h]; exact hw2
   refine zO rfl (zj (zm (yC hK7 (zL (zB (zz rfl rfl (by omega)) (zE rfl (zj (vJ (k + 1) (zs++([z1]:List zF)) (.slice A2 ((zs++([z1]:List zF)).length) cp2) (sc rfl (sc rfl (sc rfl (sc rfl (sc rfl (sc (ji (by omega)) sn)))))) (S9 [0,7,8,9,10,11]) ?_ ?_))))))))
   · exact ⟨by omega,hw3,eachX_next hs1 hI1.2.2.1 h2 hz1,by rw [List.length_append,List.length_singleton]; omega⟩
   omega
 refine yc (yH (uV (yJ (yC hK3 (zG fun _ hK13=>zE rfl (zE rfl (zB (zR rfl) (zB (zc rfl fld93_0) (zB (zc rfl fld25_0) (yo 2 wn rfl rfl rfl rfl inf23 rfl rfl (zD hK13 (zG fun _ hK14=>zO rfl (zD hK14 ?_)))))))))))))
 refine zV (zY (.inl rfl) results70 (zQ rfl) fun w1 hM=>?_)
 have hb9:Bs.each g x.e.zA=(zs.map zF.e,0):=eachX_end hI1.2.2.1 (by omega)
 exact hM.vS (⟨⟨A1,cp1,zs⟩,x.zh⟩:yw) (by rw [hb9]) (by rw [hb9]; rfl) (fun h=>h.sel [2,1,0,5] (by decide) rfl)
end
end Go.Proofs.YtgojhpocpajmlaaGreatDoor
