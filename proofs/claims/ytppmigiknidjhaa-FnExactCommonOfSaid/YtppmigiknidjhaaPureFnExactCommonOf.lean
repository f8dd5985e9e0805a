/- The law FnExactCommonOf returns true at every text and list. No conditions. -/
import Derived.Test.YtppmigiknidjhaaSufC
import Derived.Test.YtppmigiknidjhaaPQlawsFnExactCommonOf
namespace Go.Proofs.Ytppmigiknidjhaa.Pure
open Go.RowKit Go.Proofs.Ytppmigiknidjhaa.PQ Go.Proofs.YtppmigiknidjhaaW.PrintWords Go.Proofs.YtppmigiknidjhaaW.PrintLast Go.Proofs.Ytppmigiknidjhaa.Pre Go.Proofs.Ytppmigiknidjhaa.Suf
theorem FnExactCommonOf : laws_FnExactCommonOf.Pure := by
  intro s l _ _ _ _
  refine Evt.ex (r := true) ?_
  unfold laws_FnExactCommonOf.f
  by_cases hs : s.size ≤ 1048576
  · refine Evt.neg (by omega) ?_
    by_cases hl : l.length ≤ 1048576
    · have ht := Ints.to_ev l hl
      have hc := ansCom_len s l
      have he := Ints.eq_self (ansCom s l).1 (by omega)
      have hh := Ints.held_ev (ansCom s l).1.length 1 (by omega) (by omega)
      refine Evt.neg (by omega) (Evt.bind ht (Evt.bind (specComOf_ev s l hl) (Evt.bind ht (Evt.bind (implComOf_ev s l) (Evt.bind he (Evt.pos rfl ?_))))))
      refine Evt.step (fun k => laws_FnExactCommonOf.j0.eq_2 _ _ _ _ _ _ _ _ k) (Evt.neg (by simp) (Evt.bind ht (Evt.bind (Ints.eq_self l hl) (Evt.pos rfl (Evt.bind (Ints.mark_ev l 1 (by omega) hl) (Evt.neg (by omega) (Evt.bind he (Evt.pos rfl ?_))))))))
      refine Evt.step (fun k => laws_FnExactCommonOf.j1.eq_2 _ _ _ _ _ _ k) (Evt.neg (by simp) (Evt.bind (Ints.mark_ev _ 1 (by omega) (by omega)) (Evt.bind hh (Evt.neg (by omega) (Evt.pos rfl (Evt.bind ht (Evt.bind (implComOf_ev s l) (Evt.bind he (Evt.pos rfl ?_)))))))))
      exact Evt.step (fun k => laws_FnExactCommonOf.j2.eq_2 _ _ _ k) (Evt.neg (by simp) (Evt.bind hh (Evt.neg (by omega) (Evt.pos rfl (Evt.const _)))))
    · exact Evt.pos (by omega) (Evt.const _)
  · exact Evt.pos (by omega) (Evt.const _)
end Go.Proofs.Ytppmigiknidjhaa.Pure
