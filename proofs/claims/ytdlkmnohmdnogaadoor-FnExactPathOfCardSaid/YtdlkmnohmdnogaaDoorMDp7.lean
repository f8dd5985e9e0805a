/- Several texts in one: what the claim's last text rests on. No conditions. -/
import Derived.Test.YtdlkmnohmdnogaaDoorMDp5
import Derived.Laws.Strings
import Derived.WideShapes
import Derived.Test.YtdlkmnohmdnogaaDoorMDp0
section
namespace Go.Proofs.YtdlkmnohmdnogaaDoor.Byt
set_option linter.unusedVariables false
open Go.RowKit Go.Proofs.YtdlkmnohmdnogaaDoorW.PrintWords Go.Proofs.YtdlkmnohmdnogaaDoor.Pre
theorem toList_inj {a b : ByteArray} (h : a.toList = b.toList) : a = b := by
  rw [ByteArray.toList_eq, ByteArray.toList_eq] at h
  exact WideShapes.bytes_inj h
theorem bytesOf_get (s : ByteArray) (i : Nat) (h : i < s.size) : (bytesOf s)[i]'(by rw [bytesOf_length]; exact h) = bt s (i : Int) := by
  have h1 := rd_bytesOf s (i : Int)
  unfold rd at h1
  rw [← h1]
  simp [bytesOf_length, h]
end Go.Proofs.YtdlkmnohmdnogaaDoor.Byt
end

section
namespace Go.Proofs.YtdlkmnohmdnogaaDoor.Uns
set_option linter.unusedVariables false
open Go.Proofs.YtdlkmnohmdnogaaDoor.Esc
def un : List UInt8 → List UInt8
 | [] => []
 | [c] => [c]
 | c :: d :: t => if c = 126 ∧ d = 48 then 126 :: un t else if c = 126 ∧ d = 49 then 47 :: un t else c :: un (d :: t)
theorem un_til (t : List UInt8) : un (126 :: 48 :: t) = 126 :: un t := by
 rw [un, if_pos ⟨rfl, rfl⟩]
theorem un_sla (t : List UInt8) : un (126 :: 49 :: t) = 47 :: un t := by
 rw [un, if_neg (by decide), if_pos ⟨rfl, rfl⟩]
theorem un_one (c : UInt8) (l : List UInt8) (h : c ≠ 126) : un (c :: l) = c :: un l := by
 cases l with
 | nil => rfl
 | cons d t => rw [un, if_neg (fun e => h e.1), if_neg (fun e => h e.1)]
theorem un_two (c d : UInt8) (l : List UInt8) (h0 : d ≠ 48) (h1 : d ≠ 49) : un (c :: d :: l) = c :: un (d :: l) := by
 rw [un, if_neg (fun e => h0 e.2), if_neg (fun e => h1 e.2)]
theorem un_len : ∀ n (l : List UInt8), l.length ≤ n → (un l).length ≤ l.length
 | 0, l, h => by
  obtain rfl : l = [] := List.eq_nil_of_length_eq_zero (by omega)
  exact Nat.le_refl _
 | n + 1, [], h => Nat.le_refl _
 | n + 1, [c], h => Nat.le_refl _
 | n + 1, c :: d :: t, h => by
  have h2 : t.length + 2 ≤ n + 1 := h
  rw [un]
  split
  ·have := un_len n t (by omega)
   simp only [List.length_cons]
   omega
  ·split
   ·have := un_len n t (by omega)
    simp only [List.length_cons]
    omega
   ·have := un_len n (d :: t) (by simp only [List.length_cons]; omega)
    simp only [List.length_cons] at this ⊢
    omega
/-- What is still to be done behind i: the invariant of the replacer's loop. -/
theorem un_step (L cont : List UInt8) (last i : Nat) (hl : last ≤ i) (hi : i < L.length) (h : un L = cont ++ (L.drop last).take (i - last) ++ un (L.drop i)) (hs : un (L.drop i) = L[i] :: un (L.drop (i + 1))) :
  un L = cont ++ (L.drop last).take (i + 1 - last) ++ un (L.drop (i + 1)) := by
 rw [h, hs]
 have e : (L.drop last).take (i + 1 - last) = (L.drop last).take (i - last) ++ [L[i]] := by
  rw [show i + 1 - last = (i - last) + 1 by omega, take_next _ _ (by rw [List.length_drop]; omega)]
  congr 2
  rw [List.getElem_drop]
  congr 1
  omega
 rw [e]
 simp
theorem un_hit (L cont : List UInt8) (last i : Nat) (v : UInt8) (h : un L = cont ++ (L.drop last).take (i - last) ++ un (L.drop i)) (hs : un (L.drop i) = v :: un (L.drop (i + 2))) :
  un L = (cont ++ (L.drop last).take (i - last) ++ [v]) ++ (L.drop (i + 2)).take (i + 2 - (i + 2)) ++ un (L.drop (i + 2)) := by
 rw [h, hs]
 simp
theorem un_end (L cont : List UInt8) (last : Nat) (hl : last ≤ L.length) (h : un L = cont ++ (L.drop last).take (L.length - last) ++ un (L.drop L.length)) :
  un L = cont ++ (L.drop last).take (L.length + 1 - last) ++ un (L.drop (L.length + 1)) := by
 have e1 : (L.drop last).take (L.length - last) = L.drop last := List.take_of_length_le (by rw [List.length_drop]; omega)
 have e2 : (L.drop last).take (L.length + 1 - last) = L.drop last := List.take_of_length_le (by rw [List.length_drop]; omega)
 have e3 : L.drop L.length = [] := List.drop_eq_nil_of_le (Nat.le_refl _)
 have e4 : L.drop (L.length + 1) = [] := List.drop_eq_nil_of_le (by omega)
 rw [e2, e4]
 rw [e1, e3] at h
 exact h
theorem str_cons (S : ByteArray) (c : UInt8) (l : List UInt8) (h : S.data.toList = c :: l) : S.toList.isEmpty = false ∧ (0 : Int) < (S.size : Int) ∧ (∀ h, S[0]'h = c) ∧ (S.extract 1 S.size).data.toList = l := by
 have hs : S.size = l.length + 1 := by
  show S.data.size = _
  rw [← Array.length_toList, h]
  rfl
 refine ⟨?_, by omega, fun h0 => ?_, ?_⟩
 ·rw [ByteArray.toList_eq, h]
  rfl
 ·have h1 : S.data.toList[0]'(by rw [h]; simp) = c := by simp [h]
  exact h1
 ·rw [ByteArray.data_extract, Array.toList_extract, List.extract_eq_take_drop, h, hs]
  show (l.take (l.length + 1 - 1)) = l
  rw [Nat.add_sub_cancel, List.take_length]
theorem str_nil (S : ByteArray) (h : S.data.toList = []) : S.toList.isEmpty = true := by
 rw [ByteArray.toList_eq, h]
 rfl
theorem ext_list (s : ByteArray) (a b : Nat) : (s.extract a b).data.toList = (s.data.toList.drop a).take (b - a) := by
 rw [ByteArray.data_extract, Array.toList_extract, List.extract_eq_take_drop]
theorem ext_end (s : ByteArray) (a : Nat) : (s.extract a s.size).data.toList = s.data.toList.drop a := by
 rw [ext_list, List.take_of_length_le (by rw [List.length_drop]; show s.data.size - a ≤ _; exact Nat.le_refl _)]
end Go.Proofs.YtdlkmnohmdnogaaDoor.Uns
end
