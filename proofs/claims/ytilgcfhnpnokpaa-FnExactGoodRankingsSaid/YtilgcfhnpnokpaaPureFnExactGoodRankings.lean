/- The law FnExactGoodRankings returns true at every list of rankings. No conditions. -/
import Derived.Test.YtilgcfhnpnokpaaRankT
import Derived.Test.YtilgcfhnpnokpaaPQlawsFnExactGoodRankings
namespace Go.Proofs.Ytilgcfhnpnokpaa.Pure
open Go.RowKit Go.Proofs.Ytilgcfhnpnokpaa.PQ Go.Proofs.YtilgcfhnpnokpaaW.PrintWords Go.Proofs.YtilgcfhnpnokpaaW.PrintLast Go.Proofs.Ytilgcfhnpnokpaa.Pre Go.Proofs.Ytilgcfhnpnokpaa.RankT

theorem FnExactGoodRankings : laws_FnExactGoodRankings.Pure := by
  intro l hw
  refine Evt.ex (r := true) ?_
  unfold laws_FnExactGoodRankings.f
  obtain ⟨r, hr, hb⟩ := sz_ev l hw.1 (fun x hx => (hw.2 x hx).1)
  refine Evt.bind hr ?_
  by_cases hneg : r < 0
  · exact Evt.pos hneg (Evt.const _)
  · obtain ⟨h1, h2⟩ := hb (by omega)
    obtain ⟨m1, m2⟩ := map_small l h1 h2
    have ht := toR_ev l h1 h2
    refine Evt.neg hneg (Evt.bind ht (Evt.bind (RankP.spec_ev _ m1 m2) (Evt.bind ht ?_)))
    unfold impl_GoodRankings.f
    exact Evt.bsome (Evt.neg (by simp) (Evt.bind ht (Evt.bind (eqR_ev _ m1 m2) (Evt.pos rfl (Evt.const _)))))
end Go.Proofs.Ytilgcfhnpnokpaa.Pure
