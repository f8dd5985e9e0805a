/- Several texts in one: what the claim's last text rests on. No conditions. -/
import Derived.Test.YtjknkeipginpcaaMTa7
import Derived.Test.YtjknkeipginpcaaMTa18
section
/- Lists of texts: the same as themselves; the text of a mark. No conditions. -/
namespace Go.Proofs.Ytjknkeipginpcaa.Strs
set_option linter.unusedVariables false
open Go.RowKit Go.Proofs.Ytjknkeipginpcaa.PQ Go.Proofs.YtjknkeipginpcaaW.PrintWords Go.Proofs.YtjknkeipginpcaaW.PrintLast Go.Proofs.Ytjknkeipginpcaa.Pre

theorem rd_get (l : List ByteArray) (i : Nat) (h : i < l.length) : rdOf ByteArray.empty l (i : Int) = l[i] := by
  unfold rdOf
  simp [h]
theorem size1 (c : Int) : (strOfNums [c]).size = 1 := by
  show (strOfNums [c]).data.size = 1
  rw [← Array.length_toList, strOfNums_data]
  rfl
theorem eq_ev (a b : List ByteArray) (hl : a.length ≤ 1048576) : Evt (fun k => laws_eqStringS.f k a b) (decide (a = b)) := by
  unfold laws_eqStringS.f
  by_cases hn : a.length = b.length
  · refine Evt.pos (by omega) ?_
    have key : ∀ (m i : Nat), i + m = a.length → a.take i = b.take i → Evt (fun k => laws_eqStringS.l0 k a b (i : Int)) (decide (a = b)) := by
      intro m
      induction m with
      | zero =>
        intro i hi ht
        refine Evt.step (fun k => laws_eqStringS.l0.eq_2 _ _ _ k) (Evt.neg (by omega) ((Evt.const _).eq ?_))
        rw [List.take_of_length_le (by omega), List.take_of_length_le (by omega)] at ht
        exact (decide_eq_true ht).symm
      | succ m ih =>
        intro i hi ht
        refine Evt.step (fun k => laws_eqStringS.l0.eq_2 _ _ _ k) (Evt.pos (by omega) (Evt.pos (by omega) (Evt.pos (by omega) ?_)))
        rw [rd_get a i (by omega), rd_get b i (by omega), w64 (n := (i : Int) + 1) (by omega) (by omega)]
        by_cases he : a[i] = b[i]
        · refine Evt.pos (by rw [he]) (ih (i + 1) (by omega) ?_)
          rw [List.take_succ_eq_append_getElem (by omega), List.take_succ_eq_append_getElem (by omega), ht, he]
        · refine Evt.neg (fun e => he (Byt.toList_inj e)) ((Evt.const _).eq ?_)
          refine (decide_eq_false ?_).symm
          intro e
          subst e
          exact he rfl
    exact key a.length 0 (by omega) rfl
  · refine Evt.neg (by omega) ((Evt.const _).eq ?_)
    refine (decide_eq_false ?_).symm
    intro e
    rw [e] at hn
    exact hn rfl
theorem eq_self (a : List ByteArray) (hl : a.length ≤ 1048576) : Evt (fun k => laws_eqStringS.f k a a) true := (eq_ev a a hl).eq (by simp)
theorem text_ex : ∀ (m n : Nat) (x : ByteArray), n < 10 ^ m → n ≤ 4611686018427387904 → x.size + m ≤ 1000 → ∃ t, Evt (fun k => laws_markText.l0 k (n : Int) x) t
  | 0, n, x, h, _, hx => by
    obtain rfl : n = 0 := by simpa using h
    exact ⟨_, Evt.step (fun k => laws_markText.l0.eq_2 _ _ k) (Evt.neg (by omega) (Evt.pos (by omega) (Evt.const _)))⟩
  | m + 1, n, x, h, hb, hx => by
    by_cases h0 : n = 0
    · subst h0
      exact ⟨_, Evt.step (fun k => laws_markText.l0.eq_2 _ _ k) (Evt.neg (by omega) (Evt.pos (by omega) (Evt.const _)))⟩
    · have hd : n / 10 < 10 ^ m := by
        rw [Nat.div_lt_iff_lt_mul (by omega), ← Nat.pow_succ]
        exact h
      obtain ⟨t, ht⟩ := text_ex m (n / 10) (strOfNums [(wrap64 (48 + (Int.tmod (n : Int) 10))) % 256] ++ x) hd (by omega) (by rw [ByteArray.size_append, size1]; omega)
      refine ⟨t, Evt.step (fun k => laws_markText.l0.eq_2 _ _ k) (Evt.pos (by omega) (Evt.bsome (Evt.pos (by rw [size1]; omega) ?_)))⟩
      rw [show Int.tdiv (n : Int) 10 = ((n / 10 : Nat) : Int) by rw [Int.tdiv_eq_ediv_of_nonneg (by omega)]; omega, w64 (by omega) (by omega)]
      exact ht
theorem mtext (n : Nat) : ∃ t, n ≤ 4611686018427387904 → Evt (fun k => laws_markText.f k (n : Int)) t := by
  by_cases h : n ≤ 4611686018427387904
  · by_cases h0 : n = 0
    · subst h0
      exact ⟨_, fun _ => by unfold laws_markText.f; exact Evt.pos (by omega) (Evt.const _)⟩
    · have h12 : (10 : Nat) ^ 19 = 10000000000000000000 := by decide
      obtain ⟨t, ht⟩ := text_ex 19 n ⟨#[]⟩ (by rw [h12]; omega) h (by decide)
      exact ⟨t, fun _ => by unfold laws_markText.f; exact Evt.neg (by omega) ht⟩
  · exact ⟨⟨#[]⟩, fun h2 => absurd h2 h⟩
/-- The text of a mark. -/
noncomputable def mT (n : Nat) : ByteArray := (mtext n).choose
theorem mT_ev (n : Nat) (h : n ≤ 4611686018427387904) : Evt (fun k => laws_markText.f k (n : Int)) (mT n) := (mtext n).choose_spec h
end Go.Proofs.Ytjknkeipginpcaa.Strs
end

section
/- Lists of texts: the same as themselves, marked and held. No conditions. -/
namespace Go.Proofs.Ytjknkeipginpcaa.Strs
set_option linter.unusedVariables false
open Go.RowKit Go.Proofs.Ytjknkeipginpcaa.PQ Go.Proofs.YtjknkeipginpcaaW.PrintWords Go.Proofs.YtjknkeipginpcaaW.PrintLast Go.Proofs.Ytjknkeipginpcaa.Pre

theorem mark_ev (l : List ByteArray) (m0 : Nat) (hm : m0 ≤ 4194304) (hl : l.length ≤ 1048576) : Evt (fun k => laws_markStringS.f k l (m0 : Int)) (((m0 + l.length : Nat) : Int), (List.range l.length).map (fun j => mT (m0 + j))) := by
  unfold laws_markStringS.f
  have key : ∀ (m i : Nat) (acc : List ByteArray), i + m = l.length → acc.length = l.length → (∀ j, j < i → acc[j]? = some (mT (m0 + j))) →
      Evt (fun k => laws_markStringS.l0 k acc ((m0 + i : Nat) : Int) (i : Int)) (((m0 + l.length : Nat) : Int), (List.range l.length).map (fun j => mT (m0 + j))) := by
    intro m
    induction m with
    | zero =>
      intro i acc hi ha hj
      refine Evt.step (fun k => laws_markStringS.l0.eq_2 _ _ _ k) (Evt.neg (by omega) ((Evt.const _).eq ?_))
      rw [show i = l.length by omega]
      congr 1
      apply List.ext_getElem?
      intro j
      by_cases hlt : j < l.length
      · rw [hj j (by omega)]
        simp [hlt]
      · rw [List.getElem?_eq_none (by omega), List.getElem?_eq_none (by simp; omega)]
    | succ m ih =>
      intro i acc hi ha hj
      refine Evt.step (fun k => laws_markStringS.l0.eq_2 _ _ _ k) (Evt.pos (by omega) (Evt.bind (mT_ev (m0 + i) (by omega)) (Evt.pos (by omega) ?_)))
      rw [w64 (n := ((m0 + i : Nat) : Int) + 1) (by omega) (by omega), w64 (n := (i : Int) + 1) (by omega) (by omega)]
      rw [show ((m0 + i : Nat) : Int) + 1 = ((m0 + (i + 1) : Nat) : Int) by omega]
      refine ih (i + 1) _ (by omega) (by simp; omega) (fun j hlt => ?_)
      rw [Int.toNat_natCast]
      by_cases hji : j = i
      · subst hji
        exact List.getElem?_set_self (by omega)
      · rw [List.getElem?_set_ne (by omega)]
        exact hj j (by omega)
  exact key l.length 0 l (by omega) rfl (fun j h => by omega)
theorem held_ev (n m0 : Nat) (hm : m0 ≤ 4194304) (hl : n ≤ 1048576) : Evt (fun k => laws_heldStringS.f k ((List.range n).map (fun j => mT (m0 + j))) (m0 : Int)) ((m0 + n : Nat) : Int) := by
  unfold laws_heldStringS.f
  have hlen : ((List.range n).map (fun j => mT (m0 + j))).length = n := by simp
  have key : ∀ (m i : Nat), i + m = n → Evt (fun k => laws_heldStringS.l0 k ((List.range n).map (fun j => mT (m0 + j))) ((m0 + i : Nat) : Int) (i : Int)) ((m0 + n : Nat) : Int) := by
    intro m
    induction m with
    | zero =>
      intro i hi
      refine Evt.step (fun k => laws_heldStringS.l0.eq_2 _ _ _ k) (Evt.neg (by rw [hlen]; omega) ((Evt.const _).eq ?_))
      rw [show i = n by omega]
    | succ m ih =>
      intro i hi
      refine Evt.step (fun k => laws_heldStringS.l0.eq_2 _ _ _ k) (Evt.pos (by rw [hlen]; omega) (Evt.pos (by omega) (Evt.bind (mT_ev (m0 + i) (by omega)) ?_)))
      rw [w64 (n := ((m0 + i : Nat) : Int) + 1) (by omega) (by omega), w64 (n := (i : Int) + 1) (by omega) (by omega)]
      rw [show ((m0 + i : Nat) : Int) + 1 = ((m0 + (i + 1) : Nat) : Int) by omega]
      refine Evt.pos ?_ (ih (i + 1) (by omega))
      rw [rd_get _ i (by rw [hlen]; omega)]
      simp
  exact key n 0 (by omega)
end Go.Proofs.Ytjknkeipginpcaa.Strs
end
