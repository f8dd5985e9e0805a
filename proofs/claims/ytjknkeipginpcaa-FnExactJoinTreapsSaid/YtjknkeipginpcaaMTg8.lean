/- Several texts in one: what the claim's last text rests on. No conditions. -/
import Derived.Test.YtjknkeipginpcaaMTg3
import Derived.Laws.Strings
import Derived.WideShapes
section
/- Texts as lists of numbers. No conditions. -/
namespace Go.Proofs.Ytjknkeipginpcaa.Byt
set_option linter.unusedVariables false
open Go.RowKit Go.Proofs.YtjknkeipginpcaaW.PrintWords Go.Proofs.Ytjknkeipginpcaa.Pre

theorem toList_inj {a b : ByteArray} (h : a.toList = b.toList) : a = b := by
  rw [ByteArray.toList_eq, ByteArray.toList_eq] at h
  exact WideShapes.bytes_inj h
/-! ### Texts as lists of numbers -/
end Go.Proofs.Ytjknkeipginpcaa.Byt
end
