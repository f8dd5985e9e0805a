/- Several texts in one: what the claim's last text rests on. No conditions. -/
import Derived.Test.YtcngebfcpobnnaaMRh5
import Derived.Test.YtcngebfcpobnnaaProg
import Derived.WalkLawsBesides
import Derived.Sort.Walk0
import Derived.Laws.Strings
section
namespace Go.Proofs.Ytcngebfcpobnnaa.CmpL
set_option linter.unusedVariables false
set_option linter.unusedSimpArgs false
set_option linter.unusedSectionVars false
open Go.RowKit Go.Proofs.YtcngebfcpobnnaaW.PrintWords
/-- A text stands ahead of another one. -/
def ltS (a b : ByteArray) : Bool := Op.bytesLess a.toList b.toList
theorem ltS_eq (a b : ByteArray) : ltS a b = decide (a.toList < b.toList) := Go.Proofs.bytesLess_eq _ _
theorem ltS_irrefl (a : ByteArray) : ltS a a = false := by
 rw [ltS_eq]
 exact decide_eq_false (List.lt_irrefl _)
theorem ltS_trans {a b c : ByteArray} (h1 : ltS a b = true) (h2 : ltS b c = true) : ltS a c = true := by
 rw [ltS_eq] at *
 exact decide_eq_true (List.lt_trans (of_decide_eq_true h1) (of_decide_eq_true h2))
theorem ltS_tri {a b : ByteArray} (h1 : ltS a b = false) (h2 : ltS b a = false) : a = b := by
 rw [ltS_eq] at *
 have e : a.toList = b.toList := List.le_antisymm (List.not_lt.1 (of_decide_eq_false h2)) (List.not_lt.1 (of_decide_eq_false h1))
 rw [ByteArray.toList_eq, ByteArray.toList_eq] at e
 exact WideShapes.bytes_inj e
theorem ltS_asymm {a b : ByteArray} (h : ltS a b = true) : ltS b a = false := by
 cases h2 : ltS b a with
 | false => rfl
 | true => exact absurd (ltS_trans h h2) (by rw [ltS_irrefl]; decide)
theorem ltS_ntrans {a b c : ByteArray} (h1 : ltS a b = false) (h2 : ltS b c = false) : ltS a c = false := by
 cases h : ltS a c with
 | false => rfl
 | true =>
  cases h3 : ltS b a with
  | false =>
   obtain rfl := ltS_tri h1 h3
   rw [h] at h2
   cases h2
  | true =>
   have := ltS_trans h3 h
   rw [h2] at this
   cases this
end Go.Proofs.Ytcngebfcpobnnaa.CmpL
end
