/- Several texts in one: what the claim's last text rests on. No conditions. -/
section
namespace Go.Proofs.YtdlkmnohmdnogaaDoor.Esc
set_option linter.unusedVariables false
def e1 (b : UInt8) : List UInt8 := if b = 47 then [126, 49] else if b = 126 then [126, 48] else [b]
def eL (l : List UInt8) : List UInt8 := l.flatMap e1
def esc (s : ByteArray) : ByteArray := ⟨(eL s.data.toList).toArray⟩
/-- How many bytes of a text are marked. -/
def odd (l : List UInt8) : Nat := l.count 47 + l.count 126
theorem odd_cons (b : UInt8) (l : List UInt8) : odd (b :: l) = odd l + (if b = 47 ∨ b = 126 then 1 else 0) := by
 unfold odd
 rw [List.count_cons, List.count_cons]
 by_cases h1 : b = 47
 ·subst h1
  simp
  omega
 ·by_cases h2 : b = 126
  ·subst h2
   simp
   omega
  ·simp [h1, h2]
theorem odd_append (a b : List UInt8) : odd (a ++ b) = odd a + odd b := by
 unfold odd
 rw [List.count_append, List.count_append]
 omega
theorem odd_le (l : List UInt8) : odd l ≤ l.length := by
 induction l with
 | nil => exact Nat.le_refl _
 | cons b l ih =>
  rw [odd_cons, List.length_cons]
  split <;> omega
theorem eL_append (a b : List UInt8) : eL (a ++ b) = eL a ++ eL b := by simp [eL]
theorem eL_len (l : List UInt8) : (eL l).length = l.length + odd l := by
 induction l with
 | nil => rfl
 | cons b l ih =>
  rw [show b :: l = [b] ++ l from rfl, eL_append, List.length_append, ih, odd_append, List.length_append]
  have : (eL [b]).length = [b].length + odd [b] := by
   rw [odd_cons]
   simp only [eL, e1, List.flatMap_cons, List.flatMap_nil, List.append_nil]
   by_cases h1 : b = 47
   ·simp [h1, odd]
   ·by_cases h2 : b = 126
    ·simp [h2, odd]
    ·simp [h1, h2, odd]
  omega
theorem eL_none (l : List UInt8) (h : odd l = 0) : eL l = l := by
 induction l with
 | nil => rfl
 | cons b l ih =>
  rw [odd_cons] at h
  split at h
  ·omega
  ·rename_i hn
   have h1 : b ≠ 47 := fun e => hn (.inl e)
   have h2 : b ≠ 126 := fun e => hn (.inr e)
   show e1 b ++ eL l = _
   rw [ih (by omega)]
   simp [e1, h1, h2]
theorem take_next {α : Type} (l : List α) (i : Nat) (h : i < l.length) : l.take (i + 1) = l.take i ++ [l[i]] := by
 rw [List.take_succ_eq_append_getElem h]
theorem odd_next (l : List UInt8) (i : Nat) (h : i < l.length) : odd (l.take (i + 1)) = odd (l.take i) + (if l[i] = 47 ∨ l[i] = 126 then 1 else 0) := by
 rw [take_next l i h, odd_append, odd_cons]
 simp [odd]
theorem eL_next (l : List UInt8) (i : Nat) (h : i < l.length) : eL (l.take (i + 1)) = eL (l.take i) ++ e1 l[i] := by
 rw [take_next l i h, eL_append]
 simp [eL]
theorem odd_take_le (l : List UInt8) (i : Nat) : odd (l.take i) ≤ odd l := by
 conv => rhs; rw [← List.take_append_drop i l, odd_append]
 omega
theorem esc_none (s : ByteArray) (h : odd s.data.toList = 0) : esc s = s := by
 unfold esc
 rw [eL_none _ h]
end Go.Proofs.YtdlkmnohmdnogaaDoor.Esc
end
