/- The law FnExactNumberOf returns true at every number. No conditions. -/
import Derived.Test.YtilgcfhnpnokpaaStrs
import Derived.Test.YtilgcfhnpnokpaaNum
import Derived.Test.YtilgcfhnpnokpaaPQlawsFnExactNumberOf
namespace Go.Proofs.Ytilgcfhnpnokpaa.Pure
open Go.RowKit Go.Proofs.Ytilgcfhnpnokpaa.PQ Go.Proofs.YtilgcfhnpnokpaaW.PrintWords Go.Proofs.YtilgcfhnpnokpaaW.PrintLast Go.Proofs.Ytilgcfhnpnokpaa.Pre Go.Proofs.Ytilgcfhnpnokpaa.Num Go.Proofs.Ytilgcfhnpnokpaa.Strs

theorem num_spec (a : Int) : spec_NumberOf.f a = some (one (if -1000000000 ≤ a ∧ a ≤ 1000000000 then a else 0)) := by
  unfold spec_NumberOf.f spec_l1Number.f
  have e : spec_l1In.f a (-1000000000) 1000000000 = some (decide (-1000000000 ≤ a ∧ a ≤ 1000000000)) := by
    unfold spec_l1In.f
    by_cases h1 : a ≥ -1000000000
    · rw [if_pos h1]
      congr 1
      by_cases h2 : a ≤ 1000000000
      · rw [decide_eq_true h2, decide_eq_true ⟨h1, h2⟩]
      · rw [decide_eq_false h2, decide_eq_false (fun e => h2 e.2)]
    · rw [if_neg h1, decide_eq_false (fun e => h1 e.1)]
  rw [e]
  by_cases h : -1000000000 ≤ a ∧ a ≤ 1000000000
  · rw [decide_eq_true h, if_pos h]
    rfl
  · rw [decide_eq_false h, if_neg h]
    rfl
theorem num_eq (n : Int) : Evt (fun k => laws_eqValue.f k (one n) (one n)) true := by
  unfold laws_eqValue.f laws_eqNodeS.f
  refine Evt.bind (a := true) (Evt.pos rfl ?_) (Evt.pos rfl (Evt.const _))
  refine Evt.step (fun k => laws_eqNodeS.l0.eq_2 _ _ _ k) (Evt.pos (show (0 : Int) < 1 by decide) (Evt.pos (by decide) (Evt.pos (show (0 : Int) < 1 by decide) ?_)))
  have e : laws_eqNode.f 4 n ⟨#[]⟩ ⟨#[]⟩ (-1) 4 n ⟨#[]⟩ ⟨#[]⟩ (-1) = some true := by unfold laws_eqNode.f; simp
  refine Evt.bind (a := true) (Evt.congr (fun _ => e) (Evt.const _)) (Evt.pos rfl ?_)
  rw [w64 (n := 0 + 1) (by omega) (by omega)]
  exact Evt.step (fun k => laws_eqNodeS.l0.eq_2 _ _ _ k) (Evt.neg (show ¬ (0 : Int) + 1 < 1 by decide) (Evt.const _))
noncomputable def numMarked : List Nd := [⟨1, 2, mT 3, mT 4, 5⟩]
theorem num_mark (n : Int) : Evt (fun k => laws_markValue.f k (one n) 1) (6, numMarked) := by
  unfold laws_markValue.f laws_markNodeS.f
  refine Evt.bind (a := (6, numMarked)) ?_ (Evt.const _)
  refine Evt.step (fun k => laws_markNodeS.l0.eq_2 _ _ _ k) (Evt.pos (show (0 : Int) < 1 by decide) (Evt.pos (by decide) (Evt.bsome (Evt.bsome ?_))))
  simp only [w64 (n := 1 + 1) (by omega) (by omega), w64 (n := 1 + 1 + 1) (by omega) (by omega), w64 (n := 1 + 1 + 1 + 1) (by omega) (by omega), w64 (n := 1 + 1 + 1 + 1 + 1) (by omega) (by omega), w64 (n := 1 + 1 + 1 + 1 + 1 + 1) (by omega) (by omega), w64 (n := 0 + 1) (by omega) (by omega)]
  refine Evt.bind (mT_ev 3 (by omega)) (Evt.bsome (Evt.bind (mT_ev 4 (by omega)) (Evt.bsome ?_)))
  exact Evt.step (fun k => laws_markNodeS.l0.eq_2 _ _ _ k) (Evt.neg (by simp [one]) (Evt.const _))
theorem num_held : Evt (fun k => laws_heldValue.f k numMarked 1) 6 := by
  unfold laws_heldValue.f laws_heldNodeS.f
  refine Evt.bind (a := 6) ?_ (Evt.neg (by decide) (Evt.const _))
  refine Evt.step (fun k => laws_heldNodeS.l0.eq_2 _ _ _ k) (Evt.pos (show (0 : Int) < 1 by decide) (Evt.pos (by decide) (Evt.pos rfl ?_)))
  simp only [w64 (n := 1 + 1) (by omega) (by omega), w64 (n := 1 + 1 + 1) (by omega) (by omega), w64 (n := 1 + 1 + 1 + 1) (by omega) (by omega), w64 (n := 1 + 1 + 1 + 1 + 1) (by omega) (by omega), w64 (n := 1 + 1 + 1 + 1 + 1 + 1) (by omega) (by omega), w64 (n := 0 + 1) (by omega) (by omega)]
  refine Evt.pos rfl (Evt.bind (mT_ev 3 (by omega)) (Evt.pos rfl (Evt.bind (mT_ev 4 (by omega)) (Evt.pos rfl (Evt.pos rfl ?_)))))
  exact Evt.step (fun k => laws_heldNodeS.l0.eq_2 _ _ _ k) (Evt.neg (show ¬ (1 : Int) < 1 by decide) (Evt.const _))
theorem FnExactNumberOf : laws_FnExactNumberOf.Pure := by
  intro a _
  refine Evt.ex (r := true) ?_
  unfold laws_FnExactNumberOf.f impl_NumberOf.f
  rw [num_spec]
  refine Evt.bsome (Evt.bsome (Evt.bind (num_eq _) (Evt.pos rfl (Evt.bind (num_mark _) (Evt.bind num_held (Evt.neg (by decide) (Evt.pos rfl (Evt.bsome (Evt.bind (num_eq _) (Evt.pos rfl (Evt.bind num_held (Evt.neg (by decide) (Evt.pos rfl (Evt.const _))))))))))))))
end Go.Proofs.Ytilgcfhnpnokpaa.Pure
