/- Several texts in one: what the claim's last text rests on. No conditions. -/
import Derived.Test.YtjknkeipginpcaaMTg8
import Derived.Test.YtjknkeipginpcaaMTg5
import Derived.Test.YtjknkeipginpcaaMTg6
section
/- Lists of texts: the same as themselves; the text of a mark. No conditions. -/
namespace Go.Proofs.Ytjknkeipginpcaa.Strs
set_option linter.unusedVariables false
open Go.RowKit Go.Proofs.Ytjknkeipginpcaa.PQ Go.Proofs.YtjknkeipginpcaaW.PrintWords Go.Proofs.YtjknkeipginpcaaW.PrintLast Go.Proofs.Ytjknkeipginpcaa.Pre

theorem rd_get (l : List ByteArray) (i : Nat) (h : i < l.length) : rdOf ByteArray.empty l (i : Int) = l[i] := by
  unfold rdOf
  simp [h]
theorem size1 (c : Int) : (strOfNums [c]).size = 1 := by
  show (strOfNums [c]).data.size = 1
  rw [← Array.length_toList, strOfNums_data]
  rfl
theorem eq_ev (a b : List ByteArray) (hl : a.length ≤ 1048576) : Evt (fun k => laws_eqStringS.f k a b) (decide (a = b)) := by
  unfold laws_eqStringS.f
  by_cases hn : a.length = b.length
  · refine Evt.pos (by omega) ?_
    have key : ∀ (m i : Nat), i + m = a.length → a.take i = b.take i → Evt (fun k => laws_eqStringS.l0 k a b (i : Int)) (decide (a = b)) := by
      intro m
      induction m with
      | zero =>
        intro i hi ht
        refine Evt.step (fun k => laws_eqStringS.l0.eq_2 _ _ _ k) (Evt.neg (by omega) ((Evt.const _).eq ?_))
        rw [List.take_of_length_le (by omega), List.take_of_length_le (by omega)] at ht
        exact (decide_eq_true ht).symm
      | succ m ih =>
        intro i hi ht
        refine Evt.step (fun k => laws_eqStringS.l0.eq_2 _ _ _ k) (Evt.pos (by omega) (Evt.pos (by omega) (Evt.pos (by omega) ?_)))
        rw [rd_get a i (by omega), rd_get b i (by omega), w64 (n := (i : Int) + 1) (by omega) (by omega)]
        by_cases he : a[i] = b[i]
        · refine Evt.pos (by rw [he]) (ih (i + 1) (by omega) ?_)
          rw [List.take_succ_eq_append_getElem (by omega), List.take_succ_eq_append_getElem (by omega), ht, he]
        · refine Evt.neg (fun e => he (Byt.toList_inj e)) ((Evt.const _).eq ?_)
          refine (decide_eq_false ?_).symm
          intro e
          subst e
          exact he rfl
    exact key a.length 0 (by omega) rfl
  · refine Evt.neg (by omega) ((Evt.const _).eq ?_)
    refine (decide_eq_false ?_).symm
    intro e
    rw [e] at hn
    exact hn rfl
theorem text_ex : ∀ (m n : Nat) (x : ByteArray), n < 10 ^ m → n ≤ 4611686018427387904 → x.size + m ≤ 1000 → ∃ t, Evt (fun k => laws_markText.l0 k (n : Int) x) t
  | 0, n, x, h, _, hx => by
    obtain rfl : n = 0 := by simpa using h
    exact ⟨_, Evt.step (fun k => laws_markText.l0.eq_2 _ _ k) (Evt.neg (by omega) (Evt.pos (by omega) (Evt.const _)))⟩
  | m + 1, n, x, h, hb, hx => by
    by_cases h0 : n = 0
    · subst h0
      exact ⟨_, Evt.step (fun k => laws_markText.l0.eq_2 _ _ k) (Evt.neg (by omega) (Evt.pos (by omega) (Evt.const _)))⟩
    · have hd : n / 10 < 10 ^ m := by
        rw [Nat.div_lt_iff_lt_mul (by omega), ← Nat.pow_succ]
        exact h
      obtain ⟨t, ht⟩ := text_ex m (n / 10) (strOfNums [(wrap64 (48 + (Int.tmod (n : Int) 10))) % 256] ++ x) hd (by omega) (by rw [ByteArray.size_append, size1]; omega)
      refine ⟨t, Evt.step (fun k => laws_markText.l0.eq_2 _ _ k) (Evt.pos (by omega) (Evt.bsome (Evt.pos (by rw [size1]; omega) ?_)))⟩
      rw [show Int.tdiv (n : Int) 10 = ((n / 10 : Nat) : Int) by rw [Int.tdiv_eq_ediv_of_nonneg (by omega)]; omega, w64 (by omega) (by omega)]
      exact ht
theorem mtext (n : Nat) : ∃ t, n ≤ 4611686018427387904 → Evt (fun k => laws_markText.f k (n : Int)) t := by
  by_cases h : n ≤ 4611686018427387904
  · by_cases h0 : n = 0
    · subst h0
      exact ⟨_, fun _ => by unfold laws_markText.f; exact Evt.pos (by omega) (Evt.const _)⟩
    · have h12 : (10 : Nat) ^ 19 = 10000000000000000000 := by decide
      obtain ⟨t, ht⟩ := text_ex 19 n ⟨#[]⟩ (by rw [h12]; omega) h (by decide)
      exact ⟨t, fun _ => by unfold laws_markText.f; exact Evt.neg (by omega) ht⟩
  · exact ⟨⟨#[]⟩, fun h2 => absurd h2 h⟩
/-- The text of a mark. -/
noncomputable def mT (n : Nat) : ByteArray := (mtext n).choose
theorem mT_ev (n : Nat) (h : n ≤ 4611686018427387904) : Evt (fun k => laws_markText.f k (n : Int)) (mT n) := (mtext n).choose_spec h
end Go.Proofs.Ytjknkeipginpcaa.Strs
end
