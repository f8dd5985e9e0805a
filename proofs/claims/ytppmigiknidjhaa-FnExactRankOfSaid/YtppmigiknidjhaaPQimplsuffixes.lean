-- Written by a program of this session (pprint.py) out of the translation's print; Lean checks it.
import Derived.Test.YtppmigiknidjhaaPQx0
import Derived.Test.YtppmigiknidjhaaSufW
namespace Go.Proofs.Ytppmigiknidjhaa.PQ
open Go.RowKit Go.Proofs.YtppmigiknidjhaaW.PrintWords Go.Proofs.YtppmigiknidjhaaW.PrintLast Go.Proofs.YtppmigiknidjhaaW.PrintMore
attribute [local go_sem] max2_int min2_int max_two min_two max_three min_three max_four min_four   -- for this text's walks alone
set_option linter.unusedVariables false
set_option linter.unusedSimpArgs false

--OWNPART impl_suffixes
/-! ### impl_suffixes: function 38, by hand -/
--IMPORT SufW
def impl_suffixes.f (a0 : ByteArray) : Option (List Int) := if a0.size ≤ 1048576 then some (Suf.sufs a0) else none
theorem impl_suffixes.calls (a0 : ByteArray) (r : List Int) (w : World) (h : impl_suffixes.f a0 = some r) :
    Calls Try.prog 38 #[.string a0] w fun e w' => ∃ v0_ : Value, e = .returned (v0_) ∧ Kd.R (Kd.int .i64) 3 w' w.heap.size (fun _ => True) v0_ r ∧ Below w.heap.size w w' := by
  unfold impl_suffixes.f at h
  split at h
  · rename_i hs
    obtain rfl := Option.some.inj h
    exact Suf.calls a0 w hs
  · cases h

end Go.Proofs.Ytppmigiknidjhaa.PQ
