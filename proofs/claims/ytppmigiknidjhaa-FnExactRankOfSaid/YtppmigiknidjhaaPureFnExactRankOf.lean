/- The law FnExactRankOf returns true at every text and numbers. No conditions. -/
import Derived.Test.YtppmigiknidjhaaRkS
import Derived.Test.YtppmigiknidjhaaPQimplRankOf
import Derived.Test.YtppmigiknidjhaaPQlawsFnExactRankOf
namespace Go.Proofs.Ytppmigiknidjhaa.Pure
open Go.RowKit Go.Proofs.Ytppmigiknidjhaa.PQ Go.Proofs.YtppmigiknidjhaaW.PrintWords Go.Proofs.YtppmigiknidjhaaW.PrintLast Go.Proofs.Ytppmigiknidjhaa.Pre Go.Proofs.Ytppmigiknidjhaa.Rk
theorem FnExactRankOf : laws_FnExactRankOf.Pure := by
  intro s a d _ ha _
  refine Evt.ex (r := true) ?_
  unfold laws_FnExactRankOf.f
  by_cases hs : s.size ≤ 1048576
  · refine Evt.neg (by omega) ?_
    have hl := ansRank_len s a d
    have he := Ints.eq_self (ansRank s a d).1 (by omega)
    have hh := Ints.held_ev (ansRank s a d).1.length 1 (by omega) (by omega)
    refine Evt.bind (specRank_ev s a d ha) (Evt.bsome (Evt.bind he (Evt.pos rfl ?_)))
    refine Evt.step (fun k => laws_FnExactRankOf.j0.eq_2 _ _ _ _ _ _ _ k) (Evt.neg (by simp) (Evt.bind (Ints.mark_ev _ 1 (by omega) (by omega)) (Evt.bind hh (Evt.neg (by omega) (Evt.pos rfl (Evt.bsome (Evt.bind he (Evt.pos rfl ?_))))))))
    exact Evt.step (fun k => laws_FnExactRankOf.j1.eq_2 _ _ _ k) (Evt.neg (by simp) (Evt.bind hh (Evt.neg (by omega) (Evt.pos rfl (Evt.const _)))))
  · exact Evt.pos (by omega) (Evt.const _)
end Go.Proofs.Ytppmigiknidjhaa.Pure
