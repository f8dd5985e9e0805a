/- Several texts in one: what the claim's last text rests on. No conditions. -/
import Derived.Test.YtppmigiknidjhaaMDf4
import Derived.Lib.SlicesCompact
import Derived.Shelf.Spec.SearchS
section
/- Sorted rows without what stands twice: where each element stands in them. No conditions. -/
namespace Go.Proofs.Ytppmigiknidjhaa.Cpt
set_option linter.unusedVariables false
set_option linter.unusedSectionVars false
open Go.Lib

section
variable {α : Type} [Inhabited α] [DecidableEq α] {lt : α → α → Prop}
theorem facts (htr : ∀ a b c, lt a b → lt b c → lt a c) (d : Array α) (hs : ∀ i, i + 1 < d.size → d[i]! ≠ d[i + 1]! → lt d[i]! d[i + 1]!) :
    ∀ m, m + 1 ≤ d.size → (compactUpTo d (m + 1)).Pairwise lt ∧ (compactUpTo d (m + 1)).getLast? = some d[m]! := by
  intro m
  induction m with
  | zero =>
    intro h
    rw [compactUpTo_succ, keeps_lt_one d 0 (by omega), if_pos rfl]
    simp [compactUpTo]
  | succ m ih =>
    intro h
    obtain ⟨h1, h2⟩ := ih (by omega)
    rw [compactUpTo_succ]
    by_cases he : d[m]! = d[m + 1]!
    · rw [keeps_neg (by omega) (by simpa using he.symm)]
      rw [if_neg (by decide), List.append_nil, ← he]
      exact ⟨h1, h2⟩
    · rw [keeps_pos (by simpa using (Ne.symm he)), if_pos rfl]
      have hlt := hs m (by omega) he
      refine ⟨List.pairwise_append.2 ⟨h1, by simp, ?_⟩, by simp⟩
      intro a ha b hb
      obtain rfl := List.mem_singleton.1 hb
      obtain ⟨l, hl⟩ : ∃ l, compactUpTo d (m + 1) = l ++ [d[m]!] := by
        have := List.getLast?_eq_some_iff.1 h2
        exact this
      rw [hl] at ha h1
      rcases List.mem_append.1 ha with ha | ha
      · exact htr _ _ _ ((List.pairwise_append.1 h1).2.2 a ha _ (by simp)) hlt
      · obtain rfl := List.mem_singleton.1 ha
        exact hlt
theorem pre (d : Array α) (m : Nat) : ∀ k, compactUpTo d m <+: compactUpTo d (m + k) := by
  intro k
  induction k with
  | zero => exact List.prefix_rfl
  | succ k ih =>
    rw [show m + (k + 1) = (m + k) + 1 by omega, compactUpTo_succ]
    exact ih.trans (List.prefix_append _ _)
/-- Where the m-th element stands. -/
theorem place (htr : ∀ a b c, lt a b → lt b c → lt a c) (d : Array α) (hs : ∀ i, i + 1 < d.size → d[i]! ≠ d[i + 1]! → lt d[i]! d[i + 1]!) (m : Nat) (hm : m + 1 ≤ d.size) :
    0 < (compactUpTo d (m + 1)).length ∧ (compactUpTo d d.size)[(compactUpTo d (m + 1)).length - 1]? = some d[m]! := by
  obtain ⟨h1, h2⟩ := facts htr d hs m hm
  have hp := pre d (m + 1) (d.size - (m + 1))
  rw [show m + 1 + (d.size - (m + 1)) = d.size by omega] at hp
  have hne : compactUpTo d (m + 1) ≠ [] := by
    intro e
    rw [e] at h2
    cases h2
  have hl := List.length_pos_iff.2 hne
  refine ⟨hl, ?_⟩
  obtain ⟨r, hr⟩ := hp
  rw [← hr, List.getElem?_append_left (by omega), ← List.getLast?_eq_getElem?]
  exact h2
theorem whole (htr : ∀ a b c, lt a b → lt b c → lt a c) (d : Array α) (hs : ∀ i, i + 1 < d.size → d[i]! ≠ d[i + 1]! → lt d[i]! d[i + 1]!) : (compactUpTo d d.size).Pairwise lt := by
  cases h : d.size with
  | zero => simp [compactUpTo]
  | succ n => exact (facts htr d hs n (by omega)).1
/-- What halving finds in it. -/
theorem found (hirr : ∀ a, ¬ lt a a) (htr : ∀ a b c, lt a b → lt b c → lt a c) (C : List α) (hC : C.Pairwise lt) (less : Nat → Bool) (x : α) (k : Nat) (hk : C[k]? = some x)
    (hl : ∀ t, ∀ h : t < C.length, less t = true ↔ lt C[t] x) (hb : ∀ t, C.length ≤ t → less t = false) : bsGo less C.length 0 C.length = k := by
  obtain ⟨hk1, hk2⟩ := List.getElem?_eq_some_iff.1 hk
  refine bsGo_spec less k ?_ ?_ _ _ _ (by omega) (by omega) (by omega)
  · intro t ht
    rw [hl t (by omega), ← hk2]
    exact (List.pairwise_iff_getElem.1 hC) t k (by omega) hk1 ht
  · intro t ht
    by_cases hlt : t < C.length
    · rw [Bool.eq_false_iff]
      intro e
      rw [hl t hlt, ← hk2] at e
      rcases Nat.lt_or_eq_of_le ht with h | h
      · exact hirr _ (htr _ _ _ e ((List.pairwise_iff_getElem.1 hC) k t hk1 hlt h))
      · subst h
        exact hirr _ e
    · exact hb t (by omega)
end
end Go.Proofs.Ytppmigiknidjhaa.Cpt
end
