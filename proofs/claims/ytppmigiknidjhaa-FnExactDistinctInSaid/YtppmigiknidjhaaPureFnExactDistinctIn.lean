/- The law FnExactDistinctIn returns true at every text. No conditions. -/
import Derived.Test.YtppmigiknidjhaaSufC
import Derived.Test.YtppmigiknidjhaaPQlawsFnExactDistinctIn
namespace Go.Proofs.Ytppmigiknidjhaa.Pure
open Go.RowKit Go.Proofs.Ytppmigiknidjhaa.PQ Go.Proofs.YtppmigiknidjhaaW.PrintWords Go.Proofs.YtppmigiknidjhaaW.PrintLast Go.Proofs.Ytppmigiknidjhaa.Pre Go.Proofs.Ytppmigiknidjhaa.Suf
theorem FnExactDistinctIn : laws_FnExactDistinctIn.Pure := by
  intro s _
  refine Evt.ex (r := true) ?_
  unfold laws_FnExactDistinctIn.f
  by_cases hs : s.size ≤ 1048576
  · exact Evt.neg (by omega) (Evt.bind (specDist_ev s) (Evt.bind (implDist_ev s) (Evt.pos rfl (Evt.neg (by simp) (Evt.const _)))))
  · exact Evt.pos (by omega) (Evt.const _)
end Go.Proofs.Ytppmigiknidjhaa.Pure
