/-
  Short names for what is said often.
-/
import Derived.Test.YtffpglgboaigfaaDoorOps
namespace Go.Proofs.YtffpglgboaigfaaDoor
namespace Ex
@[reducible] def iV (n : Int) : Value := .int .i64 n
@[reducible] def Zs : Value := .slice none 0 0
@[reducible] def Zx : List Value := [.int .i64 0, .int .i64 0, .int .i64 0, .string ⟨#[]⟩, .slice none 0 0, .slice none 0 0, .slice none 0 0]
@[reducible] def Wb (T : TypeId) (p : Nat) (s : ByteArray) (i : Nat) (n be ba : Int) : Own := .blk p [.string s, .int .i64 (i : Int), .int .i64 n, .int .i64 be, .int .i64 ba] T
@[reducible] def Rb (T : TypeId) (p : Nat) (s : ByteArray) (i : Nat) (n : Int) : Own := .blk p [.string s, .int .i64 (i : Int), .int .i64 n] T
end Ex
end Go.Proofs.YtffpglgboaigfaaDoor
