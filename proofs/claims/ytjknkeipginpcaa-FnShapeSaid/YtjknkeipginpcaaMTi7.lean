/- Several texts in one: what the claim's last text rests on. No conditions. -/
import Derived.Test.YtjknkeipginpcaaMTi3
import Derived.Laws.Strings
import Derived.WideShapes
section
namespace Go.Proofs.Ytjknkeipginpcaa.Byt
set_option linter.unusedVariables false
open Go.RowKit Go.Proofs.YtjknkeipginpcaaW.PrintWords Go.Proofs.Ytjknkeipginpcaa.Pre
theorem toList_inj {a b : ByteArray} (h : a.toList = b.toList) : a = b := by
  rw [ByteArray.toList_eq, ByteArray.toList_eq] at h
  exact WideShapes.bytes_inj h
theorem toList_iff {a b : ByteArray} : a.toList = b.toList ↔ a = b := ⟨toList_inj, fun h => by rw [h]⟩

end Go.Proofs.Ytjknkeipginpcaa.Byt
end
