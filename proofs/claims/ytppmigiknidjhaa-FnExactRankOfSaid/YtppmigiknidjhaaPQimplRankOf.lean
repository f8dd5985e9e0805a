-- Written by a program of this session (pprint.py) out of the translation's print; Lean checks it.
import Derived.Test.YtppmigiknidjhaaPQx0
import Derived.Test.YtppmigiknidjhaaRkW
namespace Go.Proofs.Ytppmigiknidjhaa.PQ
open Go.RowKit Go.Proofs.YtppmigiknidjhaaW.PrintWords Go.Proofs.YtppmigiknidjhaaW.PrintLast Go.Proofs.YtppmigiknidjhaaW.PrintMore
attribute [local go_sem] max2_int min2_int max_two min_two max_three min_three max_four min_four   -- for this text's walks alone
set_option linter.unusedVariables false
set_option linter.unusedSimpArgs false

--OWNPART impl_RankOf
/-! ### impl_RankOf: function 28, by hand -/
--NEEDS loop.example/g00274/impl.within
--NEEDS slices.BinarySearch[[]string,string]
--IMPORT RkW
def impl_RankOf.f (a0 : ByteArray) (a1 : Int) (a2 : Int) : Option (List Int × Bool) := some (Rk.ansRank a0 a1 a2)
theorem impl_RankOf.calls (a0 : ByteArray) (a1 : Int) (a2 : Int) (r1 : List Int) (r2 : Bool) (w : World) (h : impl_RankOf.f a0 a1 a2 = some (r1, r2)) :
    Calls Try.prog 28 #[.string a0, .int .i64 a1, .int .i64 a2] w fun e w' => ∃ v0_ : Value, e = .returned (.tuple #[v0_, .bool r2]) ∧ Kd.R (Kd.int .i64) 3 w' w.heap.size (fun _ => True) v0_ r1 ∧ Below w.heap.size w w' := by
  unfold impl_RankOf.f at h
  have h1 := Option.some.inj h
  have := Rk.calls a0 a1 a2 w
  rw [h1] at this
  exact this

end Go.Proofs.Ytppmigiknidjhaa.PQ
