/-
  Texts as lists of bytes.
-/
import Derived.Test.YtffpglgboaigfaaDoorPure
namespace Go.Proofs.YtffpglgboaigfaaDoor
theorem bl_app (a b : ByteArray) : (a ++ b).data.toList = a.data.toList ++ b.data.toList := by simp [ByteArray.data_append]
theorem bl_size (a : ByteArray) : a.size = a.data.toList.length := by rw [Array.length_toList]; rfl
theorem toB {s : ByteArray} {l : List UInt8} (h : s.data.toList = l) : s = ⟨l.toArray⟩ := by subst h; cases s; simp
theorem bl_mk (l : List UInt8) : (⟨l.toArray⟩ : ByteArray).data.toList = l := by simp
theorem bl_msz (l : List UInt8) : (⟨l.toArray⟩ : ByteArray).size = l.length := by rw [bl_size, bl_mk]
end Go.Proofs.YtffpglgboaigfaaDoor
