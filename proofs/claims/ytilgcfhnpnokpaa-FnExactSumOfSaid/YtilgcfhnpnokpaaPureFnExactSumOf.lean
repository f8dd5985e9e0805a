/- The law FnExactSumOf returns true at every list of rankings and every id. No conditions. -/
import Derived.Test.YtilgcfhnpnokpaaRankT
import Derived.Test.YtilgcfhnpnokpaaRankS
import Derived.Test.YtilgcfhnpnokpaaPQlawsFnExactSumOf
namespace Go.Proofs.Ytilgcfhnpnokpaa.Pure
open Go.RowKit Go.Proofs.Ytilgcfhnpnokpaa.PQ Go.Proofs.YtilgcfhnpnokpaaW.PrintWords Go.Proofs.YtilgcfhnpnokpaaW.PrintLast Go.Proofs.Ytilgcfhnpnokpaa.Pre Go.Proofs.Ytilgcfhnpnokpaa.RankT

theorem sum_impl_within (a b c : Int) : impl_within.f a b c = some (decide (b ≤ a ∧ a ≤ c)) := by
  unfold impl_within.f
  by_cases h1 : a ≥ b
  · rw [if_pos h1]
    congr 1
    by_cases h2 : a ≤ c
    · rw [decide_eq_true h2, decide_eq_true ⟨h1, h2⟩]
    · rw [decide_eq_false h2, decide_eq_false (fun e => h2 e.2)]
  · rw [if_neg h1, decide_eq_false (fun e => h1 e.1)]
theorem FnExactSumOf : laws_FnExactSumOf.Pure := by
  intro l id hw hid
  refine Evt.ex (r := true) ?_
  unfold laws_FnExactSumOf.f
  obtain ⟨r, hr, hb⟩ := sz_ev l hw.1 (fun x hx => (hw.2 x hx).1)
  refine Evt.bind hr ?_
  by_cases hneg : r < 0
  · exact Evt.pos hneg (Evt.const _)
  · obtain ⟨h1, h2⟩ := hb (by omega)
    obtain ⟨m1, m2⟩ := map_small l h1 h2
    have ht := toR_ev l h1 h2
    refine Evt.neg hneg (Evt.bind ht ?_)
    obtain ⟨v, hv⟩ : ∃ v : Int × Bool, Evt (fun k => spec_SumOf.f k (l.map cvR) id) v ∧ Evt (fun k => impl_SumOf.f k (l.map cvR) id) v := by
      unfold spec_SumOf.f impl_SumOf.f impl_GoodRankings.f
      by_cases hg : RankG.good (l.map cvR) = true
      · by_cases hi : 0 ≤ id ∧ id ≤ 1000
        · refine ⟨(RankS.sumR id (l.map cvR), true), Evt.bind (RankP.spec_ev _ m1 m2) (Evt.pos hg ?_), Evt.bsome (Evt.pos hg ?_)⟩
          · rw [RankP.in_ev, decide_eq_true hi]
            exact Evt.bsome (Evt.pos rfl (Evt.bind (RankS.spec_l11Sum_ev id _ m1 m2) (Evt.const _)))
          · rw [sum_impl_within, decide_eq_true hi]
            exact Evt.bsome (Evt.pos rfl (Evt.bind (RankS.impl_sumOf_ev id _ m1 m2) (Evt.const _)))
        · refine ⟨(0, false), Evt.bind (RankP.spec_ev _ m1 m2) (Evt.pos hg ?_), Evt.bsome (Evt.pos hg ?_)⟩
          · rw [RankP.in_ev, decide_eq_false hi]
            exact Evt.bsome (Evt.neg (by simp) (Evt.const _))
          · rw [sum_impl_within, decide_eq_false hi]
            exact Evt.bsome (Evt.neg (by simp) (Evt.const _))
      · exact ⟨(0, false), Evt.bind (RankP.spec_ev _ m1 m2) (Evt.neg hg (Evt.const _)), Evt.bsome (Evt.neg hg (Evt.const _))⟩
    refine Evt.bind hv.1 (Evt.bind ht (Evt.bind hv.2 (Evt.pos rfl ?_)))
    exact Evt.step (fun k => laws_FnExactSumOf.j0.eq_2 _ _ _ k) (Evt.neg (by simp) (Evt.bind ht (Evt.bind (eqR_ev _ m1 m2) (Evt.pos rfl (Evt.const _)))))
end Go.Proofs.Ytilgcfhnpnokpaa.Pure
