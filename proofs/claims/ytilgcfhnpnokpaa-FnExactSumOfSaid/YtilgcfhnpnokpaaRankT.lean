/- Rankings that came in: taken over, counted, the same as themselves. No conditions. -/
import Derived.Test.YtilgcfhnpnokpaaRankP
import Derived.Test.YtilgcfhnpnokpaaPQlawstoRankingS
import Derived.Test.YtilgcfhnpnokpaaPQlawsszRankingS
import Derived.Test.YtilgcfhnpnokpaaPQlawseqRankingS
namespace Go.Proofs.Ytilgcfhnpnokpaa.RankT
set_option linter.unusedVariables false
set_option linter.unusedSimpArgs false
open Go.RowKit Go.Proofs.Ytilgcfhnpnokpaa.PQ Go.Proofs.YtilgcfhnpnokpaaW.PrintWords Go.Proofs.YtilgcfhnpnokpaaW.PrintLast Go.Proofs.Ytilgcfhnpnokpaa.Pre Go.Proofs.Ytilgcfhnpnokpaa.Rank Go.Proofs.Ytilgcfhnpnokpaa.RankG Go.Proofs.Ytilgcfhnpnokpaa.RankP

abbrev Cl := S153
abbrev Rl := S105
def cvC (x : Cl) : Sc := ⟨x.f0, x.f1⟩
def cvR (x : Rl) : Rk := ⟨x.f0.map cvC⟩
theorem toC_ev (l : List Cl) (hl : l.length ≤ 1048576) : Evt (fun k => laws_toScoredS.f k l) (l.map cvC) := by
  unfold laws_toScoredS.f
  refine Evt.pos (by omega) (Evt.pos (by omega) ?_)
  have h := fill (L := fun k acc i => laws_toScoredS.l0 k l acc i) (f := fun i => cvC (l.getD i z153)) (n := l.length) ?_ ?_ (List.replicate ((l.length : Int)).toNat z110) (by simp)
  · rw [map_range] at h
    exact h
  · intro acc ha
    refine Evt.step (fun k => laws_toScoredS.l0.eq_2 _ _ _ k) (Evt.neg (by omega) (Evt.const _))
  · intro acc i r hi ha hr
    refine Evt.step (fun k => laws_toScoredS.l0.eq_2 _ _ _ k) (Evt.pos (by omega) (Evt.pos (by omega) ?_))
    unfold laws_toScored.f
    refine Evt.bsome (Evt.pos (by omega) ?_)
    rw [w64 (n := (i : Int) + 1) (by omega) (by omega)]
    exact hr
theorem rd_Rl (l : List Rl) (i : Nat) (h : i < l.length) : rd_T105 l (i : Int) = l[i] := by
  unfold rd_T105
  rw [Int.toNat_natCast, List.getD_eq_getElem?_getD, List.getElem?_eq_getElem h]
  rfl
theorem toR_ev (l : List Rl) (hl : l.length ≤ 1048576) (hx : ∀ x ∈ l, x.f0.length ≤ 1048576) : Evt (fun k => laws_toRankingS.f k l) (l.map cvR) := by
  unfold laws_toRankingS.f
  refine Evt.pos (by omega) (Evt.pos (by omega) ?_)
  have h := fill (L := fun k acc i => laws_toRankingS.l0 k l acc i) (f := fun i => cvR (l.getD i z105)) (n := l.length) ?_ ?_ (List.replicate ((l.length : Int)).toNat z108) (by simp)
  · rw [map_range] at h
    exact h
  · intro acc ha
    refine Evt.step (fun k => laws_toRankingS.l0.eq_2 _ _ _ k) (Evt.neg (by omega) (Evt.const _))
  · intro acc i r hi ha hr
    refine Evt.step (fun k => laws_toRankingS.l0.eq_2 _ _ _ k) (Evt.pos (by omega) (Evt.pos (by omega) ?_))
    rw [rd_Rl l i hi]
    unfold laws_toRanking.f
    refine Evt.bind (a := l[i].f0.map cvC) (Evt.bind (toC_ev l[i].f0 (hx _ (List.getElem_mem _))) (Evt.const _)) (Evt.pos (by omega) ?_)
    rw [w64 (n := (i : Int) + 1) (by omega) (by omega)]
    have e : l.getD i z105 = l[i] := by
      rw [List.getD_eq_getElem?_getD, List.getElem?_eq_getElem hi]
      rfl
    simp only [e] at hr
    exact hr
theorem eqC_ev (a b : List Sc) (ha : a.length ≤ 1048576) : a = b → Evt (fun k => laws_eqScoredS.f k a b) true := by
  rintro rfl
  unfold laws_eqScoredS.f
  refine Evt.pos rfl ?_
  have key : ∀ (m i : Nat), i + m = a.length → Evt (fun k => laws_eqScoredS.l0 k a a (i : Int)) true := by
    intro m
    induction m with
    | zero => intro i hi; exact Evt.step (fun k => laws_eqScoredS.l0.eq_2 _ _ _ k) (Evt.neg (by omega) (Evt.const _))
    | succ m ih =>
      intro i hi
      refine Evt.step (fun k => laws_eqScoredS.l0.eq_2 _ _ _ k) (Evt.pos (by omega) (Evt.pos (by omega) (Evt.pos (by omega) ?_)))
      have e : ∀ x y : Int, laws_eqScored.f x y x y = some true := fun x y => by unfold laws_eqScored.f; simp
      rw [e]
      refine Evt.bsome (Evt.pos rfl ?_)
      rw [w64 (n := (i : Int) + 1) (by omega) (by omega)]
      exact ih (i + 1) (by omega)
  exact key a.length 0 (by omega)
theorem eqR_ev (a : List Rk) (ha : a.length ≤ 1048576) (hx : ∀ x ∈ a, x.f0.length ≤ 1048576) : Evt (fun k => laws_eqRankingS.f k a a) true := by
  unfold laws_eqRankingS.f
  refine Evt.pos rfl ?_
  have key : ∀ (m i : Nat), i + m = a.length → Evt (fun k => laws_eqRankingS.l0 k a a (i : Int)) true := by
    intro m
    induction m with
    | zero => intro i hi; exact Evt.step (fun k => laws_eqRankingS.l0.eq_2 _ _ _ k) (Evt.neg (by omega) (Evt.const _))
    | succ m ih =>
      intro i hi
      have hi2 : i < a.length := by omega
      refine Evt.step (fun k => laws_eqRankingS.l0.eq_2 _ _ _ k) (Evt.pos (by omega) (Evt.pos (by omega) (Evt.pos (by omega) ?_)))
      rw [rd_atR a i hi2]
      unfold laws_eqRanking.f
      refine Evt.bind (a := true) (Evt.bind (eqC_ev a[i].f0 a[i].f0 (hx _ (List.getElem_mem _)) rfl) (Evt.pos rfl (Evt.const _))) (Evt.pos rfl ?_)
      rw [w64 (n := (i : Int) + 1) (by omega) (by omega)]
      exact ih (i + 1) (by omega)
  exact key a.length 0 (by omega)
theorem sz_one (x : List Cl) (hx : x.length ≤ 9223372036854775807) (a : Int) (h0 : 0 ≤ a) (h1 : a ≤ 1048576) : laws_szRanking.f x a = some (if a < x.length then -1 else a - x.length) := by
  unfold laws_szRanking.f laws_szScoredS.f
  rw [w64 (n := a - (x.length : Int)) (by omega) (by omega)]
  by_cases h : a < x.length
  · rw [if_pos (by omega), if_pos h]
    rfl
  · rw [if_neg (by omega), if_neg h]
    show (if a - (x.length : Int) < 0 then some (-1) else some (a - (x.length : Int))) = _
    rw [if_neg (by omega)]
/-- What came in is small, or the count falls below zero. -/
theorem sz_ev (l : List Rl) (hl : l.length ≤ 9223372036854775807) (hx : ∀ x ∈ l, x.f0.length ≤ 9223372036854775807) :
    ∃ r : Int, Evt (fun k => laws_szRankingS.f k l 1048576) r ∧ (0 ≤ r → l.length ≤ 1048576 ∧ ∀ x ∈ l, x.f0.length ≤ 1048576) := by
  unfold laws_szRankingS.f
  rw [w64 (n := 1048576 - (l.length : Int)) (by omega) (by omega)]
  by_cases hbig : l.length ≤ 1048576
  · have key : ∀ (m i : Nat) (a : Int), i + m = l.length → 0 ≤ a → a ≤ 1048576 → (∀ x ∈ l.take i, x.f0.length ≤ 1048576) → ∃ r : Int, Evt (fun k => laws_szRankingS.l0 k l a (i : Int)) r ∧ (0 ≤ r → l.length ≤ 1048576 ∧ ∀ x ∈ l, x.f0.length ≤ 1048576) := by
      intro m
      induction m with
      | zero =>
        intro i a hi h0 h1 ht
        refine ⟨a, Evt.step (fun k => laws_szRankingS.l0.eq_2 _ _ _ k) (Evt.neg (by omega) (Evt.const _)), fun _ => ⟨hbig, ?_⟩⟩
        rwa [List.take_of_length_le (by omega)] at ht
      | succ m ih =>
        intro i a hi h0 h1 ht
        have hi2 : i < l.length := by omega
        have hone := sz_one l[i].f0 (hx _ (List.getElem_mem _)) a h0 h1
        by_cases hlt : a < l[i].f0.length
        · refine ⟨-1, Evt.step (fun k => laws_szRankingS.l0.eq_2 _ _ _ k) (Evt.pos (by omega) (Evt.pos (by omega) ?_)), fun h => by omega⟩
          rw [rd_Rl l i hi2, hone, if_pos hlt]
          exact Evt.bsome (Evt.pos (by omega) (Evt.const _))
        · obtain ⟨r, hr, hb⟩ := ih (i + 1) (a - l[i].f0.length) (by omega) (by omega) (by omega) (by
            intro x hxm
            rw [List.take_succ_eq_append_getElem hi2, List.mem_append, List.mem_singleton] at hxm
            rcases hxm with hxm | rfl
            · exact ht x hxm
            · omega)
          refine ⟨r, Evt.step (fun k => laws_szRankingS.l0.eq_2 _ _ _ k) (Evt.pos (by omega) (Evt.pos (by omega) ?_)), hb⟩
          rw [rd_Rl l i hi2, hone, if_neg hlt, w64 (n := (i : Int) + 1) (by omega) (by omega)]
          exact Evt.bsome (Evt.neg (by omega) hr)
    obtain ⟨r, hr, hb⟩ := key l.length 0 (1048576 - (l.length : Int)) (by omega) (by omega) (by omega) (by simp)
    exact ⟨r, Evt.neg (by omega) hr, hb⟩
  · exact ⟨-1, Evt.pos (by omega) (Evt.const _), fun h => by omega⟩
theorem map_small (l : List Rl) (hl : l.length ≤ 1048576) (hx : ∀ x ∈ l, x.f0.length ≤ 1048576) : (l.map cvR).length ≤ 1048576 ∧ ∀ x ∈ l.map cvR, x.f0.length ≤ 1048576 := by
  refine ⟨by rw [List.length_map]; exact hl, fun x hm => ?_⟩
  rw [List.mem_map] at hm
  obtain ⟨y, hy, rfl⟩ := hm
  show (y.f0.map cvC).length ≤ 1048576
  rw [List.length_map]
  exact hx y hy
end Go.Proofs.Ytilgcfhnpnokpaa.RankT
