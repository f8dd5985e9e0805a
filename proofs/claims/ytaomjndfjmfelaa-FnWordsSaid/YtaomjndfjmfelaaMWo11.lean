/- Several texts in one: what the claim's last text rests on. No conditions. -/
import Derived.Test.YtaomjndfjmfelaaMWo3
import Derived.Test.YtaomjndfjmfelaaProg
import Derived.WalkLawsBesides
import Derived.Sort.Walk0
import Derived.Laws.Strings
section
namespace Go.Proofs.Ytaomjndfjmfelaa.CmpL
set_option linter.unusedVariables false
set_option linter.unusedSimpArgs false
set_option linter.unusedSectionVars false
open Go.RowKit Go.Proofs.YtaomjndfjmfelaaW.PrintWords
/-- A text stands ahead of another one. -/
def ltS (a b : ByteArray) : Bool := Op.bytesLess a.toList b.toList
def cmpS (a b : ByteArray) : Int := if ltS a b = true then -1 else if ltS b a = true then 1 else 0
theorem ltS_eq (a b : ByteArray) : ltS a b = decide (a.toList < b.toList) := Go.Proofs.bytesLess_eq _ _
theorem ltS_irrefl (a : ByteArray) : ltS a a = false := by
 rw [ltS_eq]
 exact decide_eq_false (List.lt_irrefl _)
theorem ltS_trans {a b c : ByteArray} (h1 : ltS a b = true) (h2 : ltS b c = true) : ltS a c = true := by
 rw [ltS_eq] at *
 exact decide_eq_true (List.lt_trans (of_decide_eq_true h1) (of_decide_eq_true h2))
theorem ltS_tri {a b : ByteArray} (h1 : ltS a b = false) (h2 : ltS b a = false) : a = b := by
 rw [ltS_eq] at *
 have e : a.toList = b.toList := List.le_antisymm (List.not_lt.1 (of_decide_eq_false h2)) (List.not_lt.1 (of_decide_eq_false h1))
 rw [ByteArray.toList_eq, ByteArray.toList_eq] at e
 exact WideShapes.bytes_inj e
theorem cmp_lt (a b : ByteArray) : decide (cmpS a b < 0) = ltS a b := by
 unfold cmpS
 by_cases h : ltS a b = true
 ·rw [if_pos h, h]
  decide
 ·rw [if_neg h]
  replace h : ltS a b = false := by simpa using h
  rw [h]
  by_cases h2 : ltS b a = true
  ·rw [if_pos h2]
   decide
  ·rw [if_neg h2]
   decide
set_option maxHeartbeats 400000 in
theorem isNaN_s (x : ByteArray) (w : World) : Calls Try.prog 154 #[.string x] w fun e w' => e = .returned (.bool false) ∧ w = w' := by
 go_enter Try.func154, Try.ntmps154
 go_wp2
 go_ret
 exact ⟨by simp, rfl⟩
set_option maxHeartbeats 400000 in
theorem compare_s (x y : ByteArray) (w : World) : Calls Try.prog 129 #[.string x, .string y] w fun e w' => e = .returned (.int .i64 (cmpS x y)) ∧ w = w' := by
 unfold cmpS ltS
 by_cases h1 : Op.bytesLess x.toList y.toList = true
 ·rw [if_pos h1]
  go_enter Try.func129, Try.ntmps129
  go_wp2_with (go_at_call 154; refine (isNaN_s _ _).mono ?_; rintro e w' ⟨rfl, rfl⟩)
  go_ret
  exact ⟨rfl, rfl⟩
 ·rw [if_neg h1]
  replace h1 : Op.bytesLess x.toList y.toList = false := by simpa using h1
  by_cases h2 : Op.bytesLess y.toList x.toList = true
  ·rw [if_pos h2]
   have hne : (x.toList == y.toList) = false := by
    rw [beq_eq_false_iff_ne]
    intro e
    rw [e] at h2
    exact absurd h2 (by rw [show Op.bytesLess y.toList y.toList = false from ltS_irrefl y]; decide)
   go_enter Try.func129, Try.ntmps129
   go_wp2_with (go_at_call 154; refine (isNaN_s _ _).mono ?_; rintro e w' ⟨rfl, rfl⟩)
   go_ret
   exact ⟨rfl, rfl⟩
  ·rw [if_neg h2]
   replace h2 : Op.bytesLess y.toList x.toList = false := by simpa using h2
   obtain rfl : x = y := ltS_tri h1 h2
   go_enter Try.func129, Try.ntmps129
   go_wp2_with (go_at_call 154; refine (isNaN_s _ _).mono ?_; rintro e w' ⟨rfl, rfl⟩)
   go_ret
   exact ⟨rfl, rfl⟩

theorem compare_q (x y : ByteArray) (w : World) : Calls Try.prog 129 #[.string x, .string y] w fun e w' => e = .returned (.int .i64 (cmpS x y)) ∧ w' = w := (compare_s x y w).mono fun _ _ h => ⟨h.1, h.2.symm⟩
end Go.Proofs.Ytaomjndfjmfelaa.CmpL
end
