/-
  What the statements on lines build: lines, and expressions.
-/
import Derived.Test.YtffpglgboaigfaaDoorPAsk
namespace Go.Proofs.YtffpglgboaigfaaDoor
def nilX {α : Type} : SlX α := ⟨none, 0, []⟩
/-- a window, as it is built -/
def sumX : ExprX := .mk 2 0 100 ⟨#[115, 117, 109]⟩ ⟨none, 0, []⟩ ⟨none, 0, []⟩ ⟨none, 0, []⟩
def numX (n : Int) : ExprX := .mk 1 n 0 .empty ⟨none, 0, []⟩ ⟨none, 0, []⟩ ⟨none, 0, []⟩
namespace Ex
structure LinesX.Ok (S : Nat → Prop) (z : SlX LineX) (w : World) : Prop where
  sl : FlatSl S 2 lineE (.slice z.A z.l.length z.c) z.l w
  all : ∀ c ∈ z.l, LineX.Ok S c w
theorem LinesX.Ok.loc (x : SlX LineX) : Loc (fun S => LinesX.Ok S x) := fun S S' u u' hs hk h => ⟨FlatSl.loc _ _ _ _ S S' u u' hs hk h.sl, fun c hc => LineX.Ok.loc c S S' u u' hs hk (h.all c hc)⟩
structure LinesX.Wf (z : SlX LineX) : Prop where
  sl : Ex.Wf z
  all : ∀ c ∈ z.l, LineX.Wf c
theorem LinesX.Ok.wf {S : Nat → Prop} {x : SlX LineX} {w : World} (h : LinesX.Ok S x w) : LinesX.Wf x := ⟨FlatSl.wf h.sl, fun c hc => (h.all c hc).wf⟩
theorem sumX_ok (S : Nat → Prop) (w : World) : ExprX.Ok S sumX w := .mk (FlatSl.nil_ _ _ _ _) (FlatSl.nil_ _ _ _ _) (FlatSl.nil_ _ _ _ _) (fun k hk => (by cases hk)) ⟨by decide, fun x hx => (by cases hx), fun x hx => (by cases hx)⟩
theorem numX_ok (n : Int) (S : Nat → Prop) (w : World) : ExprX.Ok S (numX n) w := .mk (FlatSl.nil_ _ _ _ _) (FlatSl.nil_ _ _ _ _) (FlatSl.nil_ _ _ _ _) (fun k hk => (by cases hk)) ⟨Nat.zero_le _, fun x hx => (by cases hx), fun x hx => (by cases hx)⟩
section
variable {P : Program} {N : Nat} {D : List Deferred} {E : Env} {Q : Exit → Act → World → Prop} {w0 w : World} {M : Fp} {L : List Own} {ops : Array Oper} {rest : List Oper} {d : Nat} {ty : TypeId} {pos : String} {aft : Array Edge} {g : Option (Nat × Bool)} {x : Operand}
/-- a call of a closure, whose result it lays out -/
theorem l_callEC {β : Type} {f : Nat} {args : Array Operand} {ts : Array TypeId} {vs cap : List Value} (mk : β → Value) (pure : β → Prop) (F : β → (Nat → Prop) → World → Prop) (hl : ∀ z, Loc (F z)) (hw : Want N D ops E g true) (hx : ev E x = some (.func (.func f) #[] cap.toArray)) (hargs : evs E args.toList = some vs)
    (hcall : ∀ vs w, (callFunc f vs).run P w = .ok (.enter f vs) w) (hd : Nat.blt d N = true)
    (hc : ∀ w Pb, Mem w0 M L w → Pubs w0 M L w Pb → Calls P f (vs ++ cap).toArray w (RetE w Pb mk pure F))
    (h : ∀ z, pure z → WL P N D ops Q rest ((d, mk z) :: E) (Mem w0 M (.pub (F z) :: L))) :
    WL P N D ops Q (⟨some d, .call { callee := .value x, args := args, argTypes := ts }, ty, pos, aft, g⟩ :: rest) E (Mem w0 M L) :=
  l_callE mk pure F hl hw hx hargs hcall hd (fun w Pb hM pp => by have := hc w Pb hM pp; rwa [← List.append_toArray] at this) h
theorem l_nilSl {α : Type} (k : Nat) (enc : α → List Value) (h : WL P N D ops Q rest E (Mem w0 M (slP k enc (.slice none 0 0) [] :: L))) : WL P N D ops Q rest E (Mem w0 M L) :=
  fun w hS => h w (hS.note (FlatSl.loc k enc _ []) fun _ _ => FlatSl.nil_ _ _ _ _)
end
section
variable {w0 w w' : World} {M : Fp} {L L' : List Own} {α : Type} {ok : (Nat → Prop) → α → World → Prop}
/-- what holds anywhere -/
theorem Mem.okAny {x : α} (h : Mem w0 M L w) (hl : ∀ x, Loc (fun S => ok S x)) (hx : ∀ S w, ok S x w) : Mem w0 M (okP ok x :: L) w := h.note (hl x) fun _ _ => hx _ _
theorem Mem.celsX (h : Mem w0 M L w) (q : Nat) {e : SlX CellX} (hi : L[q]? = some (okP CelsX.Ok e)) : Mem w0 M (slP 2 cellE (.slice e.A e.l.length e.c) e.l :: allP CellX.Ok e.l :: L) w := by
  have h1 := h.imp q hi (all_loc CellX.Ok.loc e.l) fun _ hF => CelsX.Ok.all hF
  exact h1.imp (q + 1) hi (FlatSl.loc 2 cellE _ e.l) fun _ hF => CelsX.Ok.cells hF
theorem Mem.linesX (h : Mem w0 M L w) (q : Nat) {e : SlX LineX} (hi : L[q]? = some (okP LinesX.Ok e)) : Mem w0 M (slP 2 lineE (.slice e.A e.l.length e.c) e.l :: allP LineX.Ok e.l :: L) w := by
  have h1 := h.imp q hi (all_loc LineX.Ok.loc e.l) fun _ hF => LinesX.Ok.all hF
  exact h1.imp (q + 1) hi (FlatSl.loc 2 lineE _ e.l) fun _ hF => LinesX.Ok.sl hF
/-- an expression over kids -/
theorem Mem.exprK (h : Mem w0 M L w) {k n r : Int} {wd : ByteArray} {A B : Option Addr} {c d : Nat} {ks : List ExprX} {bs : List ByteArray} (q qa qb : Nat) (hw : wd.size ≤ 9223372036854775807) (hbs : ∀ x ∈ bs, x.size ≤ 9223372036854775807) (hi : L[q]? = some (slP 7 exprE (.slice A ks.length c) ks)) (ha : L[qa]? = some (allP ExprX.Ok ks)) (hb : L[qb]? = some (slP 1 strE (.slice B bs.length d) bs)) :
    Mem w0 M (okP ExprX.Ok (.mk k n r wd ⟨none, 0, []⟩ ⟨B, d, bs⟩ ⟨A, c, ks⟩) :: L) w :=
  h.note (ExprX.Ok.loc _) fun Pb pp => .mk (FlatSl.nil_ _ _ _ _) (pp.at_ qb _ hb) (pp.at_ q _ hi) (pp.at_ qa _ ha) ⟨hw, fun x hx => (by cases hx), hbs⟩
/-- one more line -/
theorem Mem.allLine {l : List LineX} {sA mA : Option Addr} {sc mc : Nat} {sl : List Label} {ml : List Sample} (h : Mem w0 M L w) (q q2 q3 : Nat) (hi : L[q]? = some (allP LineX.Ok l)) (hi2 : L[q2]? = some (slP 2 labelE (.slice sA sl.length sc) sl)) (hi3 : L[q3]? = some (slP 2 sampleE (.slice mA ml.length mc) ml)) (hs : okLabels sl) : Mem w0 M (allP LineX.Ok (l ++ [LineX.mk ⟨sA, sc, sl⟩ ⟨mA, mc, ml⟩]) :: L) w :=
  h.note (all_loc LineX.Ok.loc _) fun Pb pp x hx => by
    rcases List.mem_append.1 hx with h1 | h1
    · exact pp.at_ q _ hi x h1
    · obtain rfl : x = LineX.mk ⟨sA, sc, sl⟩ ⟨mA, mc, ml⟩ := by simpa using h1
      exact ⟨hs, pp.at_ q2 _ hi2, pp.at_ q3 _ hi3⟩
end
end Ex
namespace Mn
open Ex
/-! ## What is asked, of plain lines -/
def linesFromP : Nat → Option (List Label) → List Line → Fault
  | _, _, [] => ⟨0, 0⟩
  | i, p, x :: r => if Names.wrong x.sr ≠ 0 then ⟨Names.wrong x.sr, i⟩ else if (Codec.wrong x.sm).err ≠ 0 then ⟨(Codec.wrong x.sm).err, i⟩ else if behind p x.sr then ⟨2, i⟩ else linesFromP (i + 1) (some x.sr) r
def linesP (l : List Line) : Fault := if 8 < l.length then ⟨5, 0⟩ else linesFromP 0 none l
theorem linesFrom_e : ∀ (l : List LineX) (i : Nat) (p : Option (List Label)), linesFrom i p l = linesFromP i p (l.map LineX.e)
  | [], _, _ => rfl
  | x :: r, i, p => by rw [linesFrom, List.map_cons, linesFromP, linesFrom_e r]; rfl
theorem lines_e (l : List LineX) : lines l = linesP (l.map LineX.e) := by rw [lines, linesP, List.length_map, linesFrom_e]
def askP (l : List Line) (e : Expr) (t : Int) : List Cell × Int := if (linesP l).err ≠ 0 then ([], (linesP l).err) else if check e t ≠ 0 then ([], check e t) else out (eval (lookL l) t e)
theorem ask_e (l : List LineX) (e : Expr) (t : Int) : ask l e t = askP (l.map LineX.e) e t := by rw [ask, askP, lines_e]
def aliveL : List Line := [⟨[⟨⟨#[104, 111, 115, 116]⟩, ⟨#[97]⟩⟩], [⟨5, 7⟩, ⟨15, 9⟩]⟩, ⟨[⟨⟨#[104, 111, 115, 116]⟩, ⟨#[98]⟩⟩], [⟨8, 1⟩]⟩]
def aliveE : Expr := .mk 3 0 0 ⟨#[115, 117, 109]⟩ [] [] [.mk 2 0 100 ⟨#[115, 117, 109]⟩ [] [] []]
set_option maxRecDepth 100000 in
theorem alive_is : askP aliveL aliveE 20 = ([⟨[], 17⟩], 0) := by decide +kernel
end Mn
end Go.Proofs.YtffpglgboaigfaaDoor
