/- Several texts in one: what the claim's last text rests on. No conditions. -/
import Derived.Test.YtaomjndfjmfelaaMWo3
import Derived.Sort.Walk0
import Derived.Laws.Strings
section
namespace Go.Proofs.Ytaomjndfjmfelaa.StrO
theorem or_eq (x y : List UInt8) : (Op.bytesLess x y || x == y) = !(Op.bytesLess y x) := by
 rw [Go.Proofs.bytesLess_eq, Go.Proofs.bytesLess_eq]
 by_cases h : y < x
 ·have h1 : ¬ x < y := fun h2 => List.lt_irrefl x (List.lt_trans h2 h)
  have h2 : ¬ x = y := fun e => by rw [e] at h; exact List.lt_irrefl y h
  simp [h, h1, h2]
 ·by_cases h2 : x < y
  ·simp [h, h2]
  ·have : x = y := List.le_antisymm (List.not_lt.1 h) (List.not_lt.1 h2)
   simp [this, List.lt_irrefl]
theorem leq_s (t : TypeId) (a b : ByteArray) : binOp .leq t (.string a) (.string b) = pure (.bool !(Op.bytesLess b.toList a.toList)) := by
 rw [← or_eq]
 simp [binOp, Op.stringOp]
theorem gtr_s (t : TypeId) (a b : ByteArray) : binOp .gtr t (.string a) (.string b) = pure (.bool (Op.bytesLess b.toList a.toList)) := by
 rw [show Op.bytesLess b.toList a.toList = !(Op.bytesLess a.toList b.toList || a.toList == b.toList) by rw [or_eq]; simp]
 simp [binOp, Op.stringOp]
theorem geq_s (t : TypeId) (a b : ByteArray) : binOp .geq t (.string a) (.string b) = pure (.bool !(Op.bytesLess a.toList b.toList)) := by
 simp [binOp, Op.stringOp]
end Go.Proofs.Ytaomjndfjmfelaa.StrO
end
