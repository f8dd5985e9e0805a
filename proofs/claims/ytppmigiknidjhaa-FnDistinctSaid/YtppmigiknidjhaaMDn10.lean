/- Several texts in one: what the claim's last text rests on. No conditions. -/
import Derived.Test.YtppmigiknidjhaaMDn4
import Derived.Test.YtppmigiknidjhaaProg
import Derived.Lib.OwnBridge
import Derived.WalkLawsBesides
import Derived.Sort.Walk0
import Derived.WideShapes
import Derived.Laws.Strings
import Derived.Shelf.SlSortCmp.NoneTotal
section
namespace Go.Proofs.Ytppmigiknidjhaa.Srt
set_option linter.unusedVariables false
set_option linter.unusedSimpArgs false
set_option linter.unusedSectionVars false
open Go.RowKit Go.Sort Go.Lib Go.Proofs.YtppmigiknidjhaaW.PrintWords
/-- A text stands ahead of another one. -/
def ltS (a b : ByteArray) : Bool := Op.bytesLess a.toList b.toList
def cmpS (a b : ByteArray) : Int := if ltS a b = true then -1 else if ltS b a = true then 1 else 0
theorem ltS_eq (a b : ByteArray) : ltS a b = decide (a.toList < b.toList) := Go.Proofs.bytesLess_eq _ _
theorem ltS_irrefl (a : ByteArray) : ltS a a = false := by
 rw [ltS_eq]
 exact decide_eq_false (List.lt_irrefl _)
theorem ltS_trans {a b c : ByteArray} (h1 : ltS a b = true) (h2 : ltS b c = true) : ltS a c = true := by
 rw [ltS_eq] at *
 exact decide_eq_true (List.lt_trans (of_decide_eq_true h1) (of_decide_eq_true h2))
theorem ltS_tri {a b : ByteArray} (h1 : ltS a b = false) (h2 : ltS b a = false) : a = b := by
 rw [ltS_eq] at *
 have e : a.toList = b.toList := List.le_antisymm (List.not_lt.1 (of_decide_eq_false h2)) (List.not_lt.1 (of_decide_eq_false h1))
 rw [ByteArray.toList_eq, ByteArray.toList_eq] at e
 exact WideShapes.bytes_inj e
theorem ltS_asymm {a b : ByteArray} (h : ltS a b = true) : ltS b a = false := by
 cases h2 : ltS b a with
 | false => rfl
 | true => exact absurd (ltS_trans h h2) (by rw [ltS_irrefl]; decide)
theorem ltS_ntrans {a b c : ByteArray} (h1 : ltS a b = false) (h2 : ltS b c = false) : ltS a c = false := by
 cases h : ltS a c with
 | false => rfl
 | true =>
  cases h3 : ltS b a with
  | false =>
   obtain rfl := ltS_tri h1 h3
   rw [h] at h2
   cases h2
  | true =>
   have := ltS_trans h3 h
   rw [h2] at this
   cases this
theorem cmp_lt (a b : ByteArray) : decide (cmpS a b < 0) = ltS a b := by
 unfold cmpS
 by_cases h : ltS a b = true
 ·rw [if_pos h, h]
  decide
 ·rw [if_neg h]
  replace h : ltS a b = false := by simpa using h
  rw [h]
  by_cases h2 : ltS b a = true
  ·rw [if_pos h2]
   decide
  ·rw [if_neg h2]
   decide
set_option maxHeartbeats 400000 in
theorem isNaN_s (x : ByteArray) (w : World) : Calls Try.prog 75 #[.string x] w fun e w' => e = .returned (.bool false) ∧ w = w' := by
 go_enter Try.func75, Try.ntmps75
 go_wp2
 go_ret
 exact ⟨by simp, rfl⟩
set_option maxHeartbeats 400000 in
theorem compare_s (x y : ByteArray) (w : World) : Calls Try.prog 63 #[.string x, .string y] w fun e w' => e = .returned (.int .i64 (cmpS x y)) ∧ w = w' := by
 unfold cmpS ltS
 by_cases h1 : Op.bytesLess x.toList y.toList = true
 ·rw [if_pos h1]
  go_enter Try.func63, Try.ntmps63
  go_wp2_with (go_at_call 75; refine (isNaN_s _ _).mono ?_; rintro e w' ⟨rfl, rfl⟩)
  go_ret
  exact ⟨rfl, rfl⟩
 ·rw [if_neg h1]
  replace h1 : Op.bytesLess x.toList y.toList = false := by simpa using h1
  by_cases h2 : Op.bytesLess y.toList x.toList = true
  ·rw [if_pos h2]
   have hne : (x.toList == y.toList) = false := by
    rw [beq_eq_false_iff_ne]
    intro e
    rw [e] at h2
    exact absurd h2 (by rw [show Op.bytesLess y.toList y.toList = false from ltS_irrefl y]; decide)
   go_enter Try.func63, Try.ntmps63
   go_wp2_with (go_at_call 75; refine (isNaN_s _ _).mono ?_; rintro e w' ⟨rfl, rfl⟩)
   go_ret
   exact ⟨rfl, rfl⟩
  ·rw [if_neg h2]
   replace h2 : Op.bytesLess y.toList x.toList = false := by simpa using h2
   obtain rfl : x = y := ltS_tri h1 h2
   go_enter Try.func63, Try.ntmps63
   go_wp2_with (go_at_call 75; refine (isNaN_s _ _).mono ?_; rintro e w' ⟨rfl, rfl⟩)
   go_ret
   exact ⟨rfl, rfl⟩

theorem compare_q (x y : ByteArray) (w : World) : Calls Try.prog 63 #[.string x, .string y] w fun e w' => e = .returned (.int .i64 (cmpS x y)) ∧ w' = w := (compare_s x y w).mono fun _ _ h => ⟨h.1, h.2.symm⟩
theorem encs_map {α : Type} (enc : α → Value) (xs : List α) : encs enc xs = xs.map enc := rfl
section
variable {α : Type} [Inhabited α] {enc : α → Value} {h1 : ∀ x, (enc x).oneCell' = true} {e : Nat} {W : World} {base : Nat} {ok : Nat → Prop} {g n cap : Nat} {xs ys : List α}
theorem R_len (h : (Kd.scalar enc h1).R e W base ok (.slice (some ⟨g, 0, none⟩) n cap) xs) : n = xs.length := by
 obtain ⟨A, c, he, _⟩ := Kd.R_reads h
 injection he
theorem R_holds (h : (Kd.scalar enc h1).R e W base ok (.slice (some ⟨g, 0, none⟩) n cap) xs) : Holds enc W g 0 xs.toArray ∧ g < W.heap.size ∧ base ≤ g := by
 have ho := Kd.own_of_R h
 rw [encs_map] at ho
 obtain ⟨g', cap', e1, hb, hl, _, _, _, hH⟩ := holds_of_ownsRow ho (by simp)
 have e2 : g' = g := by
  injection e1 with e1
  injection e1 with e1
  injection e1 with e1
  exact e1.symm
 subst e2
 exact ⟨hH, hl, hb⟩
/-- The row behind a sort. -/
theorem R_sorted (h : (Kd.scalar enc h1).R e W base ok (.slice (some ⟨g, 0, none⟩) n cap) xs) (hy : ys.length = xs.length) (q : Nat) (os : Array Obj) :
  (Kd.scalar enc h1).R e (sortWorld enc W g 0 q ys.toArray os) base ok (.slice (some ⟨g, 0, none⟩) n cap) ys := by
 have hn := R_len h
 have ho := Kd.own_of_R h
 rw [encs_map, ← hn] at ho
 have h2 := ownsRow_putRow (q := q) (k := n) ho (by rw [hy, hn]) (Nat.le_refl _)
 rw [List.take_of_length_le (by omega)] at h2
 have hl : g < (putRow enc (Sort.ahead W q) g 0 ys.toArray).heap.size := by
  rw [size_putRow]
  exact (R_holds h).2.1
 have h3 : (sortWorld enc W g 0 q ys.toArray os).ownsRow base e 1 (.slice (some ⟨g, 0, none⟩) n cap) n (ys.map enc) := own_move h2 (fun k hk => by
  have hk' : k = g := by
   simp only [Value.ownBlock, Option.some.injEq] at hk
   exact hk.symm
  subst hk'
  show ((putRow enc (Sort.ahead W q) k 0 ys.toArray).heap ++ os)[k]? = _
  rw [Array.getElem?_append_left hl])
 have hyn : n = ys.length := by omega
 rw [hyn] at h3 ⊢
 rw [hyn] at h
 exact Kd.R_of_own h3 (fun k hk => h.1 k hk)
theorem sort_grown (q : Nat) (os : Array Obj) (ys : List α) : W.grownBy (sortWorld enc W g 0 q ys.toArray os) (some g) := by
 refine ⟨rfl, rfl, rfl, ?_, fun k hk hne => ?_⟩
 ·show W.heap.size ≤ ((putRow enc (Sort.ahead W q) g 0 ys.toArray).heap ++ os).size
  rw [Array.size_append, size_putRow]
  exact Nat.le_add_right _ _
 ·show ((putRow enc (Sort.ahead W q) g 0 ys.toArray).heap ++ os)[k]? = _
  rw [Array.getElem?_append_left (by rw [size_putRow]; exact hk)]
  simp [putRow, mapBlock, Sort.ahead, Array.getElem?_modify, show g ≠ k from fun e => hne (by rw [e])]
end
end Go.Proofs.Ytppmigiknidjhaa.Srt
end
