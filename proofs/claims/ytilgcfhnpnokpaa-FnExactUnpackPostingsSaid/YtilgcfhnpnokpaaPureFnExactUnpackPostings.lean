/- The law FnExactUnpackPostings returns true at every text: the program finds the postings that the reference finds. No conditions. -/
import Derived.Test.YtilgcfhnpnokpaaUnp
import Derived.Test.YtilgcfhnpnokpaaMarkPo
import Derived.Test.YtilgcfhnpnokpaaPQlawsFnExactUnpackPostings
namespace Go.Proofs.Ytilgcfhnpnokpaa.Pure
open Go.RowKit Go.Proofs.Ytilgcfhnpnokpaa.PQ Go.Proofs.YtilgcfhnpnokpaaW.PrintWords Go.Proofs.YtilgcfhnpnokpaaW.PrintLast Go.Proofs.Ytilgcfhnpnokpaa.Pre Go.Proofs.Ytilgcfhnpnokpaa.Posts

theorem FnExactUnpackPostings : laws_FnExactUnpackPostings.Pure := by
  intro s _
  refine Evt.ex (r := true) ?_
  unfold laws_FnExactUnpackPostings.f
  by_cases hs : s.size ≤ 1048576
  · refine Evt.neg (by omega) ?_
    obtain ⟨l, b, h1, h2, _, _, hl⟩ := Unp.both s hs
    have he := eq_self l (by omega)
    have hh := held_ev l.length (by omega)
    have hb : ¬ ((b != b) = true) := by simp
    have j1 : Evt (fun k => laws_FnExactUnpackPostings.j1 k ((List.range l.length).map mk) ((2 * l.length + 1 : Nat) : Int) (b != b)) true :=
      Evt.step (fun k => laws_FnExactUnpackPostings.j1.eq_2 _ _ _ k) (Evt.neg hb (Evt.bind hh (Evt.neg (by omega) (Evt.pos rfl (Evt.const _)))))
    refine Evt.bind h1 (Evt.bind h2 (Evt.bind he (Evt.pos rfl ?_)))
    refine Evt.step (fun k => laws_FnExactUnpackPostings.j0.eq_2 _ _ _ _ _ k) (Evt.neg hb (Evt.bind (mark_ev l (by omega)) (Evt.bind hh (Evt.neg (by omega) (Evt.pos rfl ?_)))))
    exact Evt.bind h2 (Evt.bind he (Evt.pos rfl j1))
  · exact Evt.pos (by omega) (Evt.const _)

end Go.Proofs.Ytilgcfhnpnokpaa.Pure
