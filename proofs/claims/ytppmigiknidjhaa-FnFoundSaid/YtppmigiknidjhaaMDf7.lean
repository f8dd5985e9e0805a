/- Several texts in one: what the claim's last text rests on. No conditions. -/
import Derived.Test.YtppmigiknidjhaaMDf4
import Derived.Laws.Strings
import Derived.WideShapes
section
/- Texts as lists of numbers. No conditions. -/
namespace Go.Proofs.Ytppmigiknidjhaa.Byt
set_option linter.unusedVariables false
open Go.RowKit Go.Proofs.YtppmigiknidjhaaW.PrintWords Go.Proofs.Ytppmigiknidjhaa.Pre

theorem toList_inj {a b : ByteArray} (h : a.toList = b.toList) : a = b := by
  rw [ByteArray.toList_eq, ByteArray.toList_eq] at h
  exact WideShapes.bytes_inj h
/-! ### Texts as lists of numbers -/
theorem bytesOf_get (s : ByteArray) (i : Nat) (h : i < s.size) : (bytesOf s)[i]'(by rw [bytesOf_length]; exact h) = bt s (i : Int) := by
  have h1 := rd_bytesOf s (i : Int)
  unfold rd at h1
  rw [← h1]
  simp [bytesOf_length, h]
end Go.Proofs.Ytppmigiknidjhaa.Byt
end
