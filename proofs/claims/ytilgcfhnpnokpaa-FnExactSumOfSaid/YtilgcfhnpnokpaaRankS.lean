/- The sums of an id's scores: the program's and the reference's. No conditions. -/
import Derived.Test.YtilgcfhnpnokpaaRankP
import Derived.Test.YtilgcfhnpnokpaaPQimplsumOf
import Derived.Test.YtilgcfhnpnokpaaPQspecl11Sum
namespace Go.Proofs.Ytilgcfhnpnokpaa.RankS
set_option linter.unusedVariables false
open Go.RowKit Go.Proofs.Ytilgcfhnpnokpaa.PQ Go.Proofs.YtilgcfhnpnokpaaW.PrintWords Go.Proofs.YtilgcfhnpnokpaaW.PrintLast Go.Proofs.Ytilgcfhnpnokpaa.Pre Go.Proofs.Ytilgcfhnpnokpaa.Rank Go.Proofs.Ytilgcfhnpnokpaa.RankG Go.Proofs.Ytilgcfhnpnokpaa.RankP

def sum1 (id : Int) (s : Int) (l : List Sc) : Int := l.foldl (fun s x => if x.f0 = id then wrap64 (s + x.f1) else s) s
def sumR (id : Int) (L : List Rk) : Int := L.foldl (fun s x => sum1 id s x.f0) 0
theorem impl_sumOf_1 (id : Int) (L : List Rk) (x11 x12 : Int) (l : List Sc) (hl : l.length ≤ 1048576) (r : Int) : ∀ (n i : Nat) (s : Int), i + n = l.length → Evt (fun k => impl_sumOf.l0 k id (sum1 id s (l.drop i)) L x11 (wrap64 (x12 + 1))) r → Evt (fun k => impl_sumOf.l1 k id s L x11 x12 l (l.length : Int) (i : Int)) r := by
  intro n
  induction n with
  | zero =>
    intro i s hi hn
    rw [List.drop_of_length_le (by omega)] at hn
    exact Evt.step (fun k => impl_sumOf.l1.eq_2 _ _ _ _ _ _ _ _ k) (Evt.neg (by omega) hn)
  | succ n ih =>
    intro i s hi hn
    have hlt : i < l.length := by omega
    refine Evt.step (fun k => impl_sumOf.l1.eq_2 _ _ _ _ _ _ _ _ k) (Evt.pos (by omega) (Evt.pos (by omega) (Evt.pos (by omega) ?_)))
    rw [rd_at l i hlt, w64 (n := (i : Int) + 1) (by omega) (by omega)]
    rw [List.drop_eq_getElem_cons hlt] at hn
    by_cases he : l[i].f0 = id
    · refine Evt.pos he (ih (i + 1) _ (by omega) ?_)
      have e : sum1 id s (l[i] :: l.drop (i + 1)) = sum1 id (wrap64 (s + l[i].f1)) (l.drop (i + 1)) := by
        unfold sum1
        rw [List.foldl_cons, if_pos he]
      rw [e] at hn
      exact hn
    · refine Evt.neg he (ih (i + 1) _ (by omega) ?_)
      have e : sum1 id s (l[i] :: l.drop (i + 1)) = sum1 id s (l.drop (i + 1)) := by
        unfold sum1
        rw [List.foldl_cons, if_neg he]
      rw [e] at hn
      exact hn
theorem impl_sumOf_ev (id : Int) (L : List Rk) (hL : L.length ≤ 1048576) (hx : ∀ x ∈ L, x.f0.length ≤ 1048576) : Evt (fun k => impl_sumOf.f k L id) (sumR id L) := by
  have key : ∀ (n i : Nat) (s : Int), i + n = L.length → Evt (fun k => impl_sumOf.l0 k id s L (L.length : Int) (i : Int)) ((L.drop i).foldl (fun s x => sum1 id s x.f0) s) := by
    intro n
    induction n with
    | zero =>
      intro i s hi
      rw [List.drop_of_length_le (by omega)]
      exact Evt.step (fun k => impl_sumOf.l0.eq_2 _ _ _ _ _ k) (Evt.neg (by omega) (Evt.const _))
    | succ n ih =>
      intro i s hi
      have hlt : i < L.length := by omega
      refine Evt.step (fun k => impl_sumOf.l0.eq_2 _ _ _ _ _ k) (Evt.pos (by omega) (Evt.pos (by omega) (Evt.pos (by omega) ?_)))
      rw [rd_atR L i hlt, List.drop_eq_getElem_cons hlt, List.foldl_cons]
      refine impl_sumOf_1 id L (L.length : Int) (i : Int) L[i].f0 (hx _ (List.getElem_mem _)) _ L[i].f0.length 0 s (by omega) ?_
      rw [List.drop_zero, w64 (n := (i : Int) + 1) (by omega) (by omega)]
      exact ih (i + 1) _ (by omega)
  exact key L.length 0 0 (by omega)
theorem spec_l11Sum_1 (id : Int) (L : List Rk) (x11 x12 : Int) (l : List Sc) (hl : l.length ≤ 1048576) (r : Int) : ∀ (n i : Nat) (s : Int), i + n = l.length → Evt (fun k => spec_l11Sum.l0 k id (sum1 id s (l.drop i)) L x11 (wrap64 (x12 + 1))) r → Evt (fun k => spec_l11Sum.l1 k id s L x11 x12 l (l.length : Int) (i : Int)) r := by
  intro n
  induction n with
  | zero =>
    intro i s hi hn
    rw [List.drop_of_length_le (by omega)] at hn
    exact Evt.step (fun k => spec_l11Sum.l1.eq_2 _ _ _ _ _ _ _ _ k) (Evt.neg (by omega) hn)
  | succ n ih =>
    intro i s hi hn
    have hlt : i < l.length := by omega
    refine Evt.step (fun k => spec_l11Sum.l1.eq_2 _ _ _ _ _ _ _ _ k) (Evt.pos (by omega) (Evt.pos (by omega) (Evt.pos (by omega) ?_)))
    rw [rd_at l i hlt, w64 (n := (i : Int) + 1) (by omega) (by omega)]
    rw [List.drop_eq_getElem_cons hlt] at hn
    by_cases he : l[i].f0 = id
    · refine Evt.pos he (ih (i + 1) _ (by omega) ?_)
      have e : sum1 id s (l[i] :: l.drop (i + 1)) = sum1 id (wrap64 (s + l[i].f1)) (l.drop (i + 1)) := by
        unfold sum1
        rw [List.foldl_cons, if_pos he]
      rw [e] at hn
      exact hn
    · refine Evt.neg he (ih (i + 1) _ (by omega) ?_)
      have e : sum1 id s (l[i] :: l.drop (i + 1)) = sum1 id s (l.drop (i + 1)) := by
        unfold sum1
        rw [List.foldl_cons, if_neg he]
      rw [e] at hn
      exact hn
theorem spec_l11Sum_ev (id : Int) (L : List Rk) (hL : L.length ≤ 1048576) (hx : ∀ x ∈ L, x.f0.length ≤ 1048576) : Evt (fun k => spec_l11Sum.f k L id) (sumR id L) := by
  have key : ∀ (n i : Nat) (s : Int), i + n = L.length → Evt (fun k => spec_l11Sum.l0 k id s L (L.length : Int) (i : Int)) ((L.drop i).foldl (fun s x => sum1 id s x.f0) s) := by
    intro n
    induction n with
    | zero =>
      intro i s hi
      rw [List.drop_of_length_le (by omega)]
      exact Evt.step (fun k => spec_l11Sum.l0.eq_2 _ _ _ _ _ k) (Evt.neg (by omega) (Evt.const _))
    | succ n ih =>
      intro i s hi
      have hlt : i < L.length := by omega
      refine Evt.step (fun k => spec_l11Sum.l0.eq_2 _ _ _ _ _ k) (Evt.pos (by omega) (Evt.pos (by omega) (Evt.pos (by omega) ?_)))
      rw [rd_atR L i hlt, List.drop_eq_getElem_cons hlt, List.foldl_cons]
      refine spec_l11Sum_1 id L (L.length : Int) (i : Int) L[i].f0 (hx _ (List.getElem_mem _)) _ L[i].f0.length 0 s (by omega) ?_
      rw [List.drop_zero, w64 (n := (i : Int) + 1) (by omega) (by omega)]
      exact ih (i + 1) _ (by omega)
  exact key L.length 0 0 (by omega)
end Go.Proofs.Ytilgcfhnpnokpaa.RankS
