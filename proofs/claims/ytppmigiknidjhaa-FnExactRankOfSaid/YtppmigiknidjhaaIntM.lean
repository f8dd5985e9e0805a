/- Lists of numbers: the same as themselves, marked and held. No conditions. -/
import Derived.Test.YtppmigiknidjhaaPre
import Derived.Test.YtppmigiknidjhaaPQlawsmarkIntS
import Derived.Test.YtppmigiknidjhaaPQlawsheldIntS
import Derived.Test.YtppmigiknidjhaaPQlawseqIntS
namespace Go.Proofs.Ytppmigiknidjhaa.Ints
set_option linter.unusedVariables false
open Go.RowKit Go.Proofs.Ytppmigiknidjhaa.PQ Go.Proofs.YtppmigiknidjhaaW.PrintWords Go.Proofs.YtppmigiknidjhaaW.PrintLast Go.Proofs.Ytppmigiknidjhaa.Pre

theorem rd_get (l : List Int) (i : Nat) (h : i < l.length) : rd l (i : Int) = l[i] := by
  unfold rd
  simp [h]
theorem eq_ev (a b : List Int) (hl : a.length ≤ 1048576) : Evt (fun k => laws_eqIntS.f k a b) (decide (a = b)) := by
  unfold laws_eqIntS.f
  by_cases hn : a.length = b.length
  · refine Evt.pos (by omega) ?_
    have key : ∀ (m i : Nat), i + m = a.length → a.take i = b.take i → Evt (fun k => laws_eqIntS.l0 k a b (i : Int)) (decide (a = b)) := by
      intro m
      induction m with
      | zero =>
        intro i hi ht
        refine Evt.step (fun k => laws_eqIntS.l0.eq_2 _ _ _ k) (Evt.neg (by omega) ((Evt.const _).eq ?_))
        rw [List.take_of_length_le (by omega), List.take_of_length_le (by omega)] at ht
        exact (decide_eq_true ht).symm
      | succ m ih =>
        intro i hi ht
        refine Evt.step (fun k => laws_eqIntS.l0.eq_2 _ _ _ k) (Evt.pos (by omega) (Evt.pos (by omega) (Evt.pos (by omega) ?_)))
        rw [rd_get a i (by omega), rd_get b i (by omega), w64 (n := (i : Int) + 1) (by omega) (by omega)]
        by_cases he : a[i] = b[i]
        · refine Evt.pos he (ih (i + 1) (by omega) ?_)
          rw [List.take_succ_eq_append_getElem (by omega), List.take_succ_eq_append_getElem (by omega), ht, he]
        · refine Evt.neg he ((Evt.const _).eq ?_)
          refine (decide_eq_false ?_).symm
          intro e
          subst e
          exact he rfl
    exact key a.length 0 (by omega) rfl
  · refine Evt.neg (by omega) ((Evt.const _).eq ?_)
    refine (decide_eq_false ?_).symm
    intro e
    rw [e] at hn
    exact hn rfl
theorem eq_self (a : List Int) (hl : a.length ≤ 1048576) : Evt (fun k => laws_eqIntS.f k a a) true := (eq_ev a a hl).eq (by simp)
def mk (m0 : Nat) (j : Nat) : Int := ((m0 + j : Nat) : Int)
theorem mark_ev (l : List Int) (m0 : Nat) (hm : m0 ≤ 1048576) (hl : l.length ≤ 1048576) : Evt (fun k => laws_markIntS.f k l (m0 : Int)) (((m0 + l.length : Nat) : Int), (List.range l.length).map (mk m0)) := by
  unfold laws_markIntS.f
  have key : ∀ (m i : Nat) (acc : List Int), i + m = l.length → acc.length = l.length → (∀ j, j < i → acc[j]? = some (mk m0 j)) →
      Evt (fun k => laws_markIntS.l0 k acc ((m0 + i : Nat) : Int) (i : Int)) (((m0 + l.length : Nat) : Int), (List.range l.length).map (mk m0)) := by
    intro m
    induction m with
    | zero =>
      intro i acc hi ha hj
      refine Evt.step (fun k => laws_markIntS.l0.eq_2 _ _ _ k) (Evt.neg (by omega) ((Evt.const _).eq ?_))
      rw [show i = l.length by omega]
      congr 1
      apply List.ext_getElem?
      intro j
      by_cases hlt : j < l.length
      · rw [hj j (by omega)]
        simp [hlt]
      · rw [List.getElem?_eq_none (by omega), List.getElem?_eq_none (by simp; omega)]
    | succ m ih =>
      intro i acc hi ha hj
      refine Evt.step (fun k => laws_markIntS.l0.eq_2 _ _ _ k) (Evt.pos (by omega) (Evt.pos (by omega) ?_))
      rw [w64 (n := ((m0 + i : Nat) : Int) + 1) (by omega) (by omega), w64 (n := (i : Int) + 1) (by omega) (by omega)]
      rw [show ((m0 + i : Nat) : Int) + 1 = ((m0 + (i + 1) : Nat) : Int) by omega]
      refine ih (i + 1) _ (by omega) (by simp; omega) (fun j hlt => ?_)
      by_cases hji : j = i
      · subst hji
        rw [Int.toNat_natCast, List.getElem?_set_self (by omega)]
        rfl
      · rw [Int.toNat_natCast, List.getElem?_set_ne (by omega)]
        exact hj j (by omega)
  exact key l.length 0 l (by omega) rfl (fun j h => by omega)
theorem held_ev (n m0 : Nat) (hm : m0 ≤ 1048576) (hl : n ≤ 1048576) : Evt (fun k => laws_heldIntS.f k ((List.range n).map (mk m0)) (m0 : Int)) ((m0 + n : Nat) : Int) := by
  unfold laws_heldIntS.f
  have key : ∀ (m i : Nat), i + m = n → Evt (fun k => laws_heldIntS.l0 k ((List.range n).map (mk m0)) ((m0 + i : Nat) : Int) (i : Int)) ((m0 + n : Nat) : Int) := by
    intro m
    induction m with
    | zero =>
      intro i hi
      refine Evt.step (fun k => laws_heldIntS.l0.eq_2 _ _ _ k) (Evt.neg (by simp; omega) ((Evt.const _).eq ?_))
      rw [show i = n by omega]
    | succ m ih =>
      intro i hi
      have e : rd ((List.range n).map (mk m0)) (i : Int) = mk m0 i := by
        rw [rd_get _ i (by simp; omega)]
        simp
      refine Evt.step (fun k => laws_heldIntS.l0.eq_2 _ _ _ k) (Evt.pos (by simp; omega) (Evt.pos (by omega) ?_))
      rw [e, w64 (n := ((m0 + i : Nat) : Int) + 1) (by omega) (by omega), w64 (n := (i : Int) + 1) (by omega) (by omega)]
      refine Evt.pos rfl ?_
      rw [show ((m0 + i : Nat) : Int) + 1 = ((m0 + (i + 1) : Nat) : Int) by omega]
      exact ih (i + 1) (by omega)
  exact key n 0 (by omega)
end Go.Proofs.Ytppmigiknidjhaa.Ints
