/- Several texts in one: what the claim's last text rests on. No conditions. -/
import Derived.Test.YtjknkeipginpcaaMTa11
import Derived.Test.YtjknkeipginpcaaMTa19
import Derived.Test.YtjknkeipginpcaaMTa18
import Derived.Test.YtjknkeipginpcaaMTa20
section
/- Treaps in laws: limbs marked and held. No conditions. -/
namespace Go.Proofs.Ytjknkeipginpcaa.TrG
set_option linter.unusedVariables false
open Go.RowKit Go.Proofs.Ytjknkeipginpcaa.PQ Go.Proofs.YtjknkeipginpcaaW.PrintWords Go.Proofs.Ytjknkeipginpcaa.Pre Go.Proofs.Ytjknkeipginpcaa.Tr Go.Proofs.Ytjknkeipginpcaa.Po Go.Proofs.Ytjknkeipginpcaa.Strs

noncomputable def mkL (n m0 : Nat) : List Lb := (List.range n).map fun (j : Nat) => ⟨mT (m0 + 4 * j), mT (m0 + 4 * j + 1), ((m0 + 4 * j + 2 : Nat) : Int), ((m0 + 4 * j + 3 : Nat) : Int)⟩
theorem mkL_len (n m0 : Nat) : (mkL n m0).length = n := by simp [mkL]
theorem mark_evL (l : List Lb) (m0 : Nat) (hm : m0 ≤ 4194304) (hl : l.length ≤ 1048576) : Evt (fun k => laws_markTreap.f k l (m0 : Int)) (((m0 + 4 * l.length : Nat) : Int), mkL l.length m0) := by
  unfold laws_markTreap.f
  refine Evt.bind (a := (((m0 + 4 * l.length : Nat) : Int), mkL l.length m0)) ?_ (Evt.const _)
  unfold laws_markLimbS.f
  have key : ∀ (m i : Nat) (acc : List Lb), i + m = l.length → acc.length = l.length → (∀ j, j < i → acc[j]? = (mkL l.length m0)[j]?) →
      Evt (fun k => laws_markLimbS.l0 k acc ((m0 + 4 * i : Nat) : Int) (i : Int)) (((m0 + 4 * l.length : Nat) : Int), mkL l.length m0) := by
    intro m
    induction m with
    | zero =>
      intro i acc hi ha hj
      refine Evt.step (fun k => laws_markLimbS.l0.eq_2 _ _ _ k) (Evt.neg (by omega) ((Evt.const _).eq ?_))
      rw [show i = l.length by omega]
      congr 1
      apply List.ext_getElem?
      intro j
      by_cases hlt : j < l.length
      · exact hj j (by omega)
      · rw [List.getElem?_eq_none (by omega), List.getElem?_eq_none (by rw [mkL_len]; omega)]
    | succ m ih =>
      intro i acc hi ha hj
      have hia : i < acc.length := by omega
      have e : ∀ y : Lb, rd_T71 (acc.set i y) (i : Int) = y := by
        intro y
        rw [rdL _ i (by simpa using hia)]
        simp
      refine Evt.step (fun k => laws_markLimbS.l0.eq_2 _ _ _ k) (Evt.pos (by omega) (Evt.bind (mT_ev (m0 + 4 * i) (by omega)) (Evt.pos (by omega) (Evt.bsome ?_))))
      rw [w64 (n := ((m0 + 4 * i : Nat) : Int) + 1) (by omega) (by omega), show ((m0 + 4 * i : Nat) : Int) + 1 = ((m0 + 4 * i + 1 : Nat) : Int) by omega]
      refine Evt.bind (mT_ev (m0 + 4 * i + 1) (by omega)) (Evt.bsome (Evt.bsome ?_))
      rw [w64 (n := ((m0 + 4 * i + 1 : Nat) : Int) + 1) (by omega) (by omega), show ((m0 + 4 * i + 1 : Nat) : Int) + 1 = ((m0 + 4 * i + 2 : Nat) : Int) by omega]
      rw [w64 (n := ((m0 + 4 * i + 2 : Nat) : Int) + 1) (by omega) (by omega), show ((m0 + 4 * i + 2 : Nat) : Int) + 1 = ((m0 + 4 * i + 3 : Nat) : Int) by omega]
      rw [w64 (n := ((m0 + 4 * i + 3 : Nat) : Int) + 1) (by omega) (by omega), show ((m0 + 4 * i + 3 : Nat) : Int) + 1 = ((m0 + 4 * (i + 1) : Nat) : Int) by omega]
      rw [w64 (n := (i : Int) + 1) (by omega) (by omega), show (i : Int) + 1 = ((i + 1 : Nat) : Int) by omega]
      simp only [Int.toNat_natCast, e, List.set_set]
      refine ih (i + 1) _ (by omega) (by simp; omega) (fun j hlt => ?_)
      by_cases hji : j = i
      · subst hji
        rw [List.getElem?_set_self hia]
        unfold mkL
        rw [List.getElem?_map, List.getElem?_range (by omega)]
        rfl
      · rw [List.getElem?_set_ne (by omega)]
        exact hj j (by omega)
  exact key l.length 0 l (by omega) rfl (fun j h => absurd h (Nat.not_lt_zero _))
end Go.Proofs.Ytjknkeipginpcaa.TrG
end

section
/- The law FnExactKeysFrom returns true at every treap and keys. No conditions. -/
namespace Go.Proofs.Ytjknkeipginpcaa.Pure
open Go.RowKit Go.Proofs.Ytjknkeipginpcaa.PQ Go.Proofs.YtjknkeipginpcaaW.PrintWords Go.Proofs.YtjknkeipginpcaaW.PrintLast Go.Proofs.Ytjknkeipginpcaa.Pre Go.Proofs.Ytjknkeipginpcaa.TrG Go.Proofs.Ytjknkeipginpcaa.Tr Go.Proofs.Ytjknkeipginpcaa.Po Go.Proofs.Ytjknkeipginpcaa.Strs

theorem FnExactKeysFrom : laws_FnExactKeysFrom.Pure := by
  intro l a1 a2 hw hw1 hw2
  refine Evt.ex (r := true) ?_
  obtain ⟨t, ht, h2⟩ := sz_ev l hw.1 (fun x hx => ⟨(hw.2 x hx).1, (hw.2 x hx).2.1⟩)
  unfold laws_FnExactKeysFrom.f
  by_cases hbig : (a1.size : Int) > 1048576
  · exact Evt.pos hbig (Evt.const _)
  · refine Evt.neg hbig ?_
    by_cases hbig2 : (a2.size : Int) > 1048576
    · exact Evt.pos hbig2 (Evt.const _)
    · refine Evt.neg hbig2 (Evt.bind ht ?_)
      by_cases hc : t < 0
      · exact Evt.pos hc (Evt.const _)
      · refine Evt.neg hc ?_
        obtain ⟨hl, _⟩ := h2 (by omega)
        have hto := to_ev l hl
        have hm : (l.map cvL).length ≤ 1048576 := by rw [List.length_map]; exact hl
        generalize l.map cvL = L at hto hm
        obtain ⟨⟨ks, b⟩, hI, hS, hk⟩ := keysFrom_both L hm a1 a2
        replace hk : ks.length ≤ 60 := hk
        have hmk := mark_evL L 1 (by omega) hm
        have heq := Strs.eq_self ks (by omega)
        have hh := held_ev ks.length 1 (by omega) (by omega)
        refine Evt.bind hto (Evt.bind hS (Evt.bind hto (Evt.bind hI (Evt.bind heq (Evt.pos rfl ?_)))))
        refine Evt.step (fun k => laws_FnExactKeysFrom.j0.eq_2 _ _ _ _ _ _ _ _ _ k) (Evt.neg (by simp) (Evt.bind hto (Evt.bind (eq_ev L hm) (Evt.pos rfl (Evt.bind hmk (Evt.neg (by simp; omega) (Evt.bind heq (Evt.pos rfl ?_))))))))
        refine Evt.step (fun k => laws_FnExactKeysFrom.j1.eq_2 _ _ _ _ _ _ _ k) (Evt.neg (by simp) (Evt.bind (Strs.mark_ev ks 1 (by omega) (by omega)) (Evt.bind hh (Evt.neg (by omega) (Evt.pos rfl ?_)))))
        refine Evt.bind hto (Evt.bind hI (Evt.bind heq (Evt.pos rfl ?_)))
        exact Evt.step (fun k => laws_FnExactKeysFrom.j2.eq_2 _ _ _ k) (Evt.neg (by simp) (Evt.bind hh (Evt.neg (by omega) (Evt.pos rfl (Evt.const _)))))
end Go.Proofs.Ytjknkeipginpcaa.Pure
end
