/- Postings that are marked tell their marks; postings are the same as themselves. No conditions. -/
import Derived.Test.YtilgcfhnpnokpaaPosts
import Derived.Test.YtilgcfhnpnokpaaPQlawsmarkPostingS
import Derived.Test.YtilgcfhnpnokpaaPQlawsheldPostingS
import Derived.Test.YtilgcfhnpnokpaaPQlawseqPostingS
namespace Go.Proofs.Ytilgcfhnpnokpaa.Posts
set_option linter.unusedVariables false
open Go.RowKit Go.Proofs.Ytilgcfhnpnokpaa.PQ Go.Proofs.YtilgcfhnpnokpaaW.PrintWords Go.Proofs.YtilgcfhnpnokpaaW.PrintLast Go.Proofs.Ytilgcfhnpnokpaa.Pre

theorem eq_self (l : List Po) (hl : l.length ≤ 1048576) : Evt (fun k => laws_eqPostingS.f k l l) true := by
  unfold laws_eqPostingS.f
  refine Evt.pos rfl ?_
  have key : ∀ (m i : Nat), i + m = l.length → Evt (fun k => laws_eqPostingS.l0 k l l (i : Int)) true := by
    intro m
    induction m with
    | zero => intro i hi; exact Evt.step (fun k => laws_eqPostingS.l0.eq_2 _ _ _ k) (Evt.neg (by omega) (Evt.const _))
    | succ m ih =>
      intro i hi
      refine Evt.step (fun k => laws_eqPostingS.l0.eq_2 _ _ _ k) (Evt.pos (by omega) (Evt.pos (by omega) (Evt.pos (by omega) ?_)))
      have e : ∀ x y : Int, laws_eqPosting.f x y x y = some true := fun x y => by unfold laws_eqPosting.f; simp
      rw [e]
      refine Evt.bsome (Evt.pos rfl ?_)
      rw [w64 (n := (i : Int) + 1) (by omega) (by omega)]
      exact ih (i + 1) (by omega)
  exact key l.length 0 (by omega)
def mk (j : Nat) : Po := ⟨((2 * j + 1 : Nat) : Int), ((2 * j + 2 : Nat) : Int)⟩
theorem mark_ev (l : List Po) (hl : l.length ≤ 1048576) : Evt (fun k => laws_markPostingS.f k l 1) (((2 * l.length + 1 : Nat) : Int), (List.range l.length).map mk) := by
  unfold laws_markPostingS.f
  have key : ∀ (m i : Nat) (acc : List Po), i + m = l.length → acc.length = l.length → (∀ j, j < i → acc[j]? = some (mk j)) →
      Evt (fun k => laws_markPostingS.l0 k acc ((2 * i + 1 : Nat) : Int) (i : Int)) (((2 * l.length + 1 : Nat) : Int), (List.range l.length).map mk) := by
    intro m
    induction m with
    | zero =>
      intro i acc hi ha hj
      refine Evt.step (fun k => laws_markPostingS.l0.eq_2 _ _ _ k) (Evt.neg (by omega) ((Evt.const _).eq ?_))
      rw [show i = l.length by omega]
      congr 1
      apply List.ext_getElem?
      intro j
      by_cases hlt : j < l.length
      · rw [hj j (by omega)]
        simp [hlt]
      · rw [List.getElem?_eq_none (by omega), List.getElem?_eq_none (by simp; omega)]
    | succ m ih =>
      intro i acc hi ha hj
      refine Evt.step (fun k => laws_markPostingS.l0.eq_2 _ _ _ k) (Evt.pos (by omega) (Evt.pos (by omega) (Evt.bsome ?_)))
      rw [w64 (n := ((2 * i + 1 : Nat) : Int) + 1) (by omega) (by omega), w64 (n := ((2 * i + 1 : Nat) : Int) + 1 + 1) (by omega) (by omega), w64 (n := (i : Int) + 1) (by omega) (by omega)]
      rw [show ((2 * i + 1 : Nat) : Int) + 1 + 1 = ((2 * (i + 1) + 1 : Nat) : Int) by omega]
      refine ih (i + 1) _ (by omega) (by simp; omega) (fun j hlt => ?_)
      have hi' : i < acc.length := by omega
      have e : rd_T81 (acc.set (i : Int).toNat ⟨((2 * i + 1 : Nat) : Int), (rd_T81 acc (i : Int)).f1⟩) (i : Int) = ⟨((2 * i + 1 : Nat) : Int), (rd_T81 acc (i : Int)).f1⟩ := by
        rw [rd_get _ i (by simp; omega)]
        simp
      rw [e]
      by_cases hji : j = i
      · subst hji
        rw [Int.toNat_natCast, List.set_set, List.getElem?_set_self (by omega)]
        unfold mk
        simp; omega
      · rw [Int.toNat_natCast, List.set_set, List.getElem?_set_ne (by omega)]
        exact hj j (by omega)
  exact key l.length 0 l (by omega) rfl (fun j h => by omega)
theorem held_ev (n : Nat) (hl : n ≤ 1048576) : Evt (fun k => laws_heldPostingS.f k ((List.range n).map mk) 1) ((2 * n + 1 : Nat) : Int) := by
  unfold laws_heldPostingS.f
  have key : ∀ (m i : Nat), i + m = n → Evt (fun k => laws_heldPostingS.l0 k ((List.range n).map mk) ((2 * i + 1 : Nat) : Int) (i : Int)) ((2 * n + 1 : Nat) : Int) := by
    intro m
    induction m with
    | zero =>
      intro i hi
      refine Evt.step (fun k => laws_heldPostingS.l0.eq_2 _ _ _ k) (Evt.neg (by simp; omega) ((Evt.const _).eq ?_))
      rw [show i = n by omega]
    | succ m ih =>
      intro i hi
      have e : rd_T81 ((List.range n).map mk) (i : Int) = mk i := by
        rw [rd_get _ i (by simp; omega)]
        simp
      refine Evt.step (fun k => laws_heldPostingS.l0.eq_2 _ _ _ k) (Evt.pos (by simp; omega) (Evt.pos (by omega) ?_))
      rw [e, w64 (n := ((2 * i + 1 : Nat) : Int) + 1) (by omega) (by omega), w64 (n := ((2 * i + 1 : Nat) : Int) + 1 + 1) (by omega) (by omega), w64 (n := (i : Int) + 1) (by omega) (by omega)]
      refine Evt.pos rfl (Evt.pos (by unfold mk; simp; omega) ?_)
      rw [show ((2 * i + 1 : Nat) : Int) + 1 + 1 = ((2 * (i + 1) + 1 : Nat) : Int) by omega]
      exact ih (i + 1) (by omega)
  exact key n 0 (by omega)
end Go.Proofs.Ytilgcfhnpnokpaa.Posts
