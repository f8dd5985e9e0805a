/- Several texts in one: what the claim's last text rests on. No conditions. -/
import Derived.Test.YtcngebfcpobnnaaMRh11
import Derived.Test.YtcngebfcpobnnaaMRh23
section
namespace Go.Proofs.Ytcngebfcpobnnaa.Rx
set_option linter.unusedVariables false
open Go.RowKit Go.Proofs.Ytcngebfcpobnnaa.PQ Go.Proofs.YtcngebfcpobnnaaW.PrintWords Go.Proofs.YtcngebfcpobnnaaW.PrintLast Go.Proofs.Ytcngebfcpobnnaa.Pre
def pre (s t : ByteArray) : Bool := decide (t.size ≤ s.size ∧ s.extract 0 t.size = t)
theorem pre_has (s t : ByteArray) (hs : s.size ≤ 1048576) (ht : t.size ≤ 1048576) : strings_HasPrefix.f s t = some (pre s t) := by
 unfold strings_HasPrefix.f stringslite_HasPrefix.f pre
 by_cases h : t.size ≤ s.size
 ·
  rw [if_pos (by omega), if_pos (by omega), if_pos (by omega)]
  show some _ = some _
  congr 1
  rw [Bool.eq_iff_iff, beq_iff_eq, decide_eq_true_iff]
  exact ⟨fun e => ⟨h, Byt.toList_inj e⟩, fun e => by rw [e.2]⟩
 ·
  rw [if_neg (by omega)]
  show some _ = some _
  rw [decide_eq_false (fun e => h e.1)]
end Go.Proofs.Ytcngebfcpobnnaa.Rx
end
