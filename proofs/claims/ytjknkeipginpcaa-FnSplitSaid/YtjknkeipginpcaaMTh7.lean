/- Several texts in one: what the claim's last text rests on. No conditions. -/
import Derived.Test.YtjknkeipginpcaaMTh3
import Derived.Laws.Strings
import Derived.WideShapes
section
namespace Go.Proofs.Ytjknkeipginpcaa.Byt
set_option linter.unusedVariables false
open Go.RowKit Go.Proofs.YtjknkeipginpcaaW.PrintWords Go.Proofs.Ytjknkeipginpcaa.Pre
theorem toList_inj {a b : ByteArray} (h : a.toList = b.toList) : a = b := by
 rw [ByteArray.toList_eq, ByteArray.toList_eq] at h
 exact WideShapes.bytes_inj h
theorem toList_iff {a b : ByteArray} : a.toList = b.toList ↔ a = b := ⟨toList_inj, fun h => by rw [h]⟩

theorem toList_nil_iff (s : ByteArray) : s.toList = ([] : List UInt8) ↔ s.size = 0 := by
 rw [ByteArray.toList_eq]
 constructor
 ·
  intro h
  rw [← data_length, h]
  rfl
 ·
  intro h
  rw [← data_length] at h
  exact List.eq_nil_of_length_eq_zero h
end Go.Proofs.Ytjknkeipginpcaa.Byt
end
