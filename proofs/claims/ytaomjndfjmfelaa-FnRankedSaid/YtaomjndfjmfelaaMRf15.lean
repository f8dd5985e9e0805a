/- Several texts in one: what the claim's last text rests on. No conditions. -/
import Derived.Test.YtaomjndfjmfelaaMRf10
import Derived.Shelf.SlSortCmp.NoneTotal
section
namespace Go.Proofs.Ytaomjndfjmfelaa.SoB
set_option linter.unusedVariables false
set_option linter.unusedSimpArgs false
open Go.RowKit Go.Shelf Go.Lib Go.Sort Go.Proofs.Ytaomjndfjmfelaa.PQ Go.Proofs.YtaomjndfjmfelaaW.PrintWords Go.Proofs.YtaomjndfjmfelaaW.PrintLast Go.Proofs.YtaomjndfjmfelaaW.PrintMore Go.Proofs.Ytaomjndfjmfelaa.Pre
instance : Inhabited Sc := ⟨⟨0, 0⟩⟩
theorem add0 (g m : Nat) : Addr.add ⟨g, 0, none⟩ m = ⟨g, m, none⟩ := by
 unfold Addr.add
 split
 ·rename_i h; rw [h]
 ·simp
/-- The two cells of one. -/
def encSc (x : Sc) : List Value := [.int .i64 x.f0, .int .i64 x.f1]
theorem flat_get : ∀ (ys : List Sc) (j : Nat), j < ys.length * 2 → (ys.flatMap encSc)[j]? = some ((encSc (ys.toArray[j / 2]!))[j % 2]!)
 | [], j, h => by simp at h
 | y :: ys, 0, h => by simp [encSc]
 | y :: ys, 1, h => by simp [encSc]
 | y :: ys, j + 2, h => by
  have ih := flat_get ys j (by simp at h; omega)
  have e1 : (j + 2) / 2 = j / 2 + 1 := by omega
  have e2 : (j + 2) % 2 = j % 2 := by omega
  have hj : j / 2 < ys.length := by simp at h; omega
  rw [e1, e2]
  rw [show (y :: ys).flatMap encSc = .int .i64 y.f0 :: .int .i64 y.f1 :: ys.flatMap encSc from rfl, List.getElem?_cons_succ, List.getElem?_cons_succ, ih]
  congr 3
  rw [getElem!_pos _ _ (by simpa using hj), getElem!_pos _ _ (by simp; omega)]
  simp
theorem flat_len (ys : List Sc) : (ys.flatMap encSc).length = ys.length * 2 := by
 induction ys with
 | nil => rfl
 | cons y ys ih => rw [show (y :: ys).flatMap encSc = .int .i64 y.f0 :: .int .i64 y.f1 :: ys.flatMap encSc from rfl, List.length_cons, List.length_cons, ih, List.length_cons]; omega
theorem reps_cons {α : Type} {R : α → List Value → Prop} {size : Nat} {ps : List α} {cs c : List Value} {p : α} (hp : R p c) (hc : c.length = size) (h : Reps R size ps cs) : Reps R size (p :: ps) (c ++ cs) := by
 refine ⟨by rw [List.length_append, h.1, hc, List.length_cons, Nat.add_mul, Nat.one_mul, Nat.add_comm], fun j q hq => ?_⟩
 cases j with
 | zero =>
  have e : p = q := by simpa using hq
  subst e
  rw [Nat.zero_mul, List.drop_zero, List.take_left' hc]
  exact hp
 | succ j =>
  have h2 := h.2 j q (by simpa using hq)
  have e : (c ++ cs).drop ((j + 1) * size) = cs.drop (j * size) := by
   rw [Nat.add_mul, Nat.one_mul, Nat.add_comm, ← List.drop_drop, List.drop_left' hc]
  rw [e]
  exact h2
theorem reps_flat (W : World) (base : Nat) (ok : Nat → Prop) : ∀ ys : List Sc, Reps (Kd.M k79 W base ok) 2 ys (ys.flatMap encSc)
 | [] => Reps.none _ _
 | y :: ys => reps_cons (k79_mkM W base ok y) rfl (reps_flat W base ok ys)
section
variable {W : World} {base : Nat} {ok : Nat → Prop} {g n cap : Nat} {xs ys : List Sc}
theorem R_hold (h : Kd.R k79 79 W base ok (.slice (some ⟨g, 0, none⟩) n cap) xs) : HoldsK encSc 2 W g 0 xs.toArray ∧ g < W.heap.size ∧ base ≤ g ∧ n = xs.length := by
 have hr := Kd.R_reads' h
 obtain ⟨_, inner, ho, _⟩ := h
 rcases ho.2 with ⟨e0, _⟩ | ⟨g', cap', cur, e0, hb, hg, hn, hm, hs, ht⟩
 ·cases e0
 ·injection e0 with e1 _ e3
  injection e1 with e1
  injection e1 with e1
  subst e1; subst e3
  refine ⟨fun j hj => ?_, blk_lt hg, hb, hr.1⟩
  rw [size_flatK] at hj
  have hj2 : j < xs.length * 2 := by simpa using hj
  have hi : j / 2 < xs.length := by omega
  obtain ⟨ad, ea, hc0, hc1⟩ := at_T79 hr.2.2 ((j / 2 : Nat) : Int) (by omega) (by omega)
  injection ea with ea
  subst ea
  have ex : rd_T79 xs ((j / 2 : Nat) : Int) = xs.toArray[j / 2]! := by
   rw [getElem!_pos _ _ (by simpa using hi)]
   unfold rd_T79
   rw [Int.toNat_natCast]
   simp [hi]
  rw [Int.toNat_natCast, ex] at hc0 hc1
  refine ⟨?_, blk_frozen hg _⟩
  rw [get_flatK _ _ _ _ (by simpa using hj), Nat.zero_add]
  rw [add0] at hc0 hc1
  rcases Nat.mod_two_eq_zero_or_one j with e | e
  ·rw [e]
   have e2 : j / 2 * 2 = j := by omega
   rw [e2] at hc0
   exact hc0
  ·rw [e]
   have e2 : j / 2 * 2 + 1 = j := by omega
   rw [show (⟨(⟨g, j / 2 * 2, none⟩ : Addr).block, (⟨g, j / 2 * 2, none⟩ : Addr).off + 1, none⟩ : Addr) = ⟨g, j, none⟩ by show (⟨g, j / 2 * 2 + 1, none⟩ : Addr) = _; rw [e2]] at hc1
   exact hc1
/-- The row behind a sort. -/
theorem R_back (h : Kd.R k79 79 W base ok (.slice (some ⟨g, 0, none⟩) n cap) xs) (hy : ys.length = xs.length) (q : Nat) (os : Array Obj) :
  Kd.R k79 79 (sortWorldK encSc 2 W g 0 q ys.toArray os) base ok (.slice (some ⟨g, 0, none⟩) n cap) ys := by
 obtain ⟨_, hgs, _, hnx⟩ := R_hold h
 obtain ⟨hok, inner, ho, _⟩ := h
 refine ⟨hok, ys.flatMap encSc, ?_, reps_flat _ _ _ ys⟩
 rcases ho.2 with ⟨e0, _⟩ | ⟨g', cap', cur, e0, hb, hg, hn, hm, hs, ht⟩
 ·cases e0
 ·injection e0 with e1 _ e3
  injection e1 with e1
  injection e1 with e1
  subst e1; subst e3
  have hs2 : cur.size = cap * 2 := hs
  refine ⟨by rw [flat_len]; show ys.length * 2 = ys.length * 2; rfl, .inr ⟨g, cap, putCells id 0 (flatK encSc 2 ys.toArray) cur, by rw [hnx, hy], hb, ?_, by omega, hm, by simpa [putCells] using hs, ?_⟩⟩
  ·show ((putRow id (Sort.ahead W q) g 0 (flatK encSc 2 ys.toArray)).heap ++ os)[g]? = _
   rw [Array.getElem?_append_left (by rw [size_putRow]; exact hgs)]
   simp [putRow, mapBlock, Sort.ahead, Array.getElem?_modify, hg, onCells]
  ·apply List.ext_getElem?
   intro j
   show ((putCells id 0 (flatK encSc 2 ys.toArray) cur).toList.take (ys.length * 2))[j]? = _
   rw [List.getElem?_take, Array.getElem?_toList]
   by_cases hj : j < ys.length * 2
   ·have hjc : j < cur.size := by omega
    rw [flat_get ys j hj]
    simp only [if_pos hj, putCells, Array.getElem?_mapIdx, Array.getElem?_eq_getElem hjc, Option.map_some]
    rw [if_pos (by rw [size_flatK]; simp; omega), Nat.sub_zero, get_flatK _ _ _ _ (by simpa using hj)]
    rfl
   ·rw [if_neg hj, List.getElem?_eq_none (by rw [flat_len]; omega)]
theorem back_kept (q : Nat) (os : Array Obj) (ys : List Sc) : Kept W (sortWorldK encSc 2 W g 0 q ys.toArray os) (fun k => k = g) := by
 refine ⟨?_, fun k hk hne => ?_⟩
 ·show W.heap.size ≤ ((putRow id (Sort.ahead W q) g 0 (flatK encSc 2 ys.toArray)).heap ++ os).size
  rw [Array.size_append, size_putRow]
  exact Nat.le_add_right _ _
 ·show ((putRow id (Sort.ahead W q) g 0 (flatK encSc 2 ys.toArray)).heap ++ os)[k]? = _
  rw [Array.getElem?_append_left (by rw [size_putRow]; exact hk)]
  simp [putRow, mapBlock, Sort.ahead, Array.getElem?_modify, show g ≠ k from fun e => hne e.symm]
theorem back_below (q : Nat) (os : Array Obj) (ys : List Sc) {B : Nat} {w0 : World} (h : Below B w0 W) (hB : B ≤ g) (hg : g < W.heap.size) : Below B w0 (sortWorldK encSc 2 W g 0 q ys.toArray os) := by
 refine h.trans ⟨rfl, rfl, rfl, (back_kept (W := W) (g := g) q os ys).1, fun k hk => (back_kept (W := W) (g := g) q os ys).2 k (by omega) (by omega)⟩
end
/-- What stands ahead. -/
def le (x y : Sc) : Bool := !(ltOf bf) y x
theorem lt_bf (x y : Sc) : ltOf bf x y = decide (y.f1 < x.f1 ∨ (x.f1 = y.f1 ∧ x.f0 < y.f0)) := by
 unfold ltOf bf cpi
 by_cases h1 : y.f1 < x.f1
 ·simp [h1]
 ·by_cases h2 : x.f1 < y.f1
  ·have h3 : ¬ x.f1 = y.f1 := by omega
   simp [h1, h2, h3]
  ·have h3 : x.f1 = y.f1 := by omega
   by_cases h4 : x.f0 < y.f0
   ·simp [h3, h4]
   ·by_cases h5 : y.f0 < x.f0
    ·simp [h3, h4, h5]
    ·simp [h3, h4, h5]
theorem swo : SWO (ltOf bf) where
 irrefl x := by rw [lt_bf]; simp
 trans x y z h1 h2 := by rw [lt_bf] at *; simp at *; omega
 ntrans x y z h1 h2 := by rw [lt_bf] at *; simp at *; omega
theorem tot (x y : Sc) (h1 : ltOf bf x y = false) (h2 : ltOf bf y x = false) : x = y := by
 rw [lt_bf] at h1 h2
 simp at h1 h2
 have e1 : x.f1 = y.f1 := by omega
 have e0 : x.f0 = y.f0 := by omega
 cases x; cases y
 simp_all
/-- slices.SortFunc of what is one's own. -/
theorem sort_calls (xs : List Sc) (A : Option Addr) (n c : Nat) (w0 w : World) (lo : Nat) (ok : Nat → Prop) (h : Kd.R k79 79 w lo ok (.slice A n c) xs) (hl : xs.length ≤ 1048576) (hb : Below w0.heap.size w0 w) (hlo : w0.heap.size ≤ lo) :
  Calls Try.prog 143 #[.slice A n c, .func (.func 144) #[] #[]] w fun e w' => e = .returned (.tuple #[]) ∧ Kd.R k79 79 w' lo ok (.slice A n c) (xs.mergeSort le) ∧ Below w0.heap.size w0 w' ∧ Kept w w' (fun k => some k = (Value.slice A n c).ownBlock) := by
 have hr := Kd.R_reads' h
 by_cases h0 : xs.length = 0
 ·have e0 : xs = [] := List.length_eq_zero_iff.1 h0
  subst e0
  have hn : n = 0 := hr.1
  subst hn
  refine (AnyF.slices_SortFunc_none Try.sortSc A c (.func (.func 144) #[] #[]) w).mono ?_
  rintro e w' ⟨rfl, rfl⟩
  exact ⟨rfl, by simpa using h, hb, ⟨Nat.le_refl _, fun _ _ _ => rfl⟩⟩
 ·obtain ⟨inner, hin⟩ := Kd.R_own h
  obtain ⟨g, c2, e2, hgb, hgl⟩ := hin.form (by have := hr.1; omega)
  injection e2 with e1 _ e3
  subst e1; subst e3
  obtain ⟨hH, hgs, hgb2, hn⟩ := R_hold h
  subst hn
  have eg : ∀ args w, (callFunc 144 args).run Try.prog w = .ok (.enter 144 args) w := enters_of Try.func144 (by kernel_rfl) rfl
  have hcon := AnyQ.slices_SortFunc_total Try.sortSc 2 (fun w => Try.isAgg79 w) (fun w => Try.sizeOf79 w) encSc (fun _ => rfl) (fun x v hv => by simp [encSc] at hv; rcases hv with rfl | rfl <;> rfl) bf swo 144 #[] g 0 c xs.toArray w eg (fun _ _ _ _ x y => before_lays x y _) hH hgs (by simp; omega) tot
  rw [show xs.toArray.size = xs.length by simp] at hcon
  refine hcon.mono ?_
  rintro e w' ⟨rfl, q, os, rfl⟩
  refine ⟨rfl, ?_, back_below q os _ hb (by omega) hgs, ?_⟩
  ·exact R_back h (List.length_mergeSort _) q os
  ·have hk := back_kept (W := w) (g := g) q os (xs.mergeSort le)
   exact ⟨hk.1, fun k hk1 hk2 => hk.2 k hk1 (fun e => hk2 (by rw [e]; rfl))⟩
end Go.Proofs.Ytaomjndfjmfelaa.SoB
end
