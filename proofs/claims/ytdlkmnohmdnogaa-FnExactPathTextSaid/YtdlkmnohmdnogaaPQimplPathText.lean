-- Written by a program of this session (pprint.py) out of the translation's print; Lean checks it.
import Derived.Test.YtdlkmnohmdnogaaPQx0
import Derived.Test.YtdlkmnohmdnogaaPth
namespace Go.Proofs.Ytdlkmnohmdnogaa.PQ
open Go.RowKit Go.Proofs.YtdlkmnohmdnogaaW.PrintWords Go.Proofs.YtdlkmnohmdnogaaW.PrintLast Go.Proofs.YtdlkmnohmdnogaaW.PrintMore
attribute [local go_sem] max2_int min2_int max_two min_two max_three min_three max_four min_four   -- for this text's walks alone
set_option linter.unusedVariables false
set_option linter.unusedSimpArgs false

--OWNPART impl_PathText
/-! ### impl_PathText: function 7, by hand -/
--NEEDS loop.example/g00274/impl.stringOK
--IMPORT Pth
def impl_PathText.f (l0 : List ByteArray) : Option (ByteArray × Bool) := if l0.length ≤ 1048576 ∧ (∀ s ∈ l0, s.size ≤ 1048576) then some (Pth.ans l0) else none
theorem impl_PathText.calls (A0 : Option Addr) (c0 : Nat) (l0 : List ByteArray) (r1 : ByteArray) (r2 : Bool) (w : World) (hr0 : Kd.C Kd.string w A0 l0.length l0) (hc0 : l0.length ≤ c0) (h : impl_PathText.f l0 = some (r1, r2)) :
    Calls Try.prog 7 #[.slice A0 l0.length c0] w fun e w' => e = .returned (.tuple #[.string r1, .bool r2]) ∧ Below w.heap.size w w' := by
  unfold impl_PathText.f at h
  split at h
  · rename_i hs
    have h1 := Option.some.inj h
    have := Pth.path_calls A0 c0 l0 w hr0 hs.1 hs.2
    rw [h1] at this
    exact this
  · cases h

end Go.Proofs.Ytdlkmnohmdnogaa.PQ
