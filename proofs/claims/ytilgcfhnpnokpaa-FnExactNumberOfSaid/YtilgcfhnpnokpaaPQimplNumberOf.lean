-- Written by a program of this session (pprint.py) out of the translation's print; Lean checks it.
import Derived.Test.YtilgcfhnpnokpaaPQx0
import Derived.Test.YtilgcfhnpnokpaaNum
namespace Go.Proofs.Ytilgcfhnpnokpaa.PQ
open Go.RowKit Go.Proofs.YtilgcfhnpnokpaaW.PrintWords Go.Proofs.YtilgcfhnpnokpaaW.PrintLast Go.Proofs.YtilgcfhnpnokpaaW.PrintMore
attribute [local go_sem] max2_int min2_int max_two min_two max_three min_three max_four min_four   -- for this text's walks alone
set_option linter.unusedVariables false
set_option linter.unusedSimpArgs false

--OWNPART impl_NumberOf
/-! ### impl_NumberOf: function 30, by hand -/
--IMPORT Num
def impl_NumberOf.f (a0 : Int) : Option (List (S89)) := some (Num.one (if -1000000000 ≤ a0 ∧ a0 ≤ 1000000000 then a0 else 0))
theorem impl_NumberOf.calls (a0 : Int) (r : List (S89)) (w : World) (h : impl_NumberOf.f a0 = some r) :
    Calls Try.prog 30 #[.int .i64 a0] w fun e w' => ∃ v0_ : Value, e = .returned (.agg #[v0_]) ∧ Kd.R k89 89 w' w.heap.size (fun _ => True) v0_ r ∧ Below w.heap.size w w' := by
  obtain rfl := Option.some.inj h
  exact Num.calls a0 w

end Go.Proofs.Ytilgcfhnpnokpaa.PQ
