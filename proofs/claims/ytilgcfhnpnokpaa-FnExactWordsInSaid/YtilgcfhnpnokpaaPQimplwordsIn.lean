-- Written by a program of this session (pprint.py) out of the translation's print; Lean checks it.
import Derived.Test.YtilgcfhnpnokpaaPQx0
import Derived.Test.YtilgcfhnpnokpaaWordsW
namespace Go.Proofs.Ytilgcfhnpnokpaa.PQ
open Go.RowKit Go.Proofs.YtilgcfhnpnokpaaW.PrintWords Go.Proofs.YtilgcfhnpnokpaaW.PrintLast Go.Proofs.YtilgcfhnpnokpaaW.PrintMore
attribute [local go_sem] max2_int min2_int max_two min_two max_three min_three max_four min_four   -- for this text's walks alone
set_option linter.unusedVariables false
set_option linter.unusedSimpArgs false

--OWNPART impl_wordsIn
/-! ### impl_wordsIn: function 65, by hand -/
--IMPORT WordsW
def impl_wordsIn.f (a0 : ByteArray) : Option (List ByteArray) := if a0.size ≤ 200 then some (WordsW.wordsOf a0) else none
theorem impl_wordsIn.calls (a0 : ByteArray) (r : List ByteArray) (w : World) (h : impl_wordsIn.f a0 = some r) :
    Calls Try.prog 65 #[.string a0] w fun e w' => ∃ v0_ : Value, e = .returned (v0_) ∧ Kd.R Kd.string 9 w' w.heap.size (fun _ => True) v0_ r ∧ Below w.heap.size w w' := by
  unfold impl_wordsIn.f at h
  split at h
  · rename_i hs
    obtain rfl := Option.some.inj h
    exact WordsW.calls a0 w hs
  · cases h

end Go.Proofs.Ytilgcfhnpnokpaa.PQ
