/- Several texts in one: what the claim's last text rests on. No conditions. -/
import Derived.Test.YtcngebfcpobnnaaMRh14
import Derived.Test.YtcngebfcpobnnaaMRh16
import Derived.Shelf.GgSortFunc.Insertion
section
namespace Go.Proofs.Ytcngebfcpobnnaa.SrE
set_option linter.unusedVariables false
set_option linter.unusedSimpArgs false
set_option linter.unusedSectionVars false
open Go.RowKit Go.Sort Go.Lib Go.Proofs.YtcngebfcpobnnaaW.PrintWords Go.Proofs.Ytcngebfcpobnnaa.CmpL
theorem encs_map {α : Type} (enc : α → Value) (xs : List α) : encs enc xs = xs.map enc := rfl
section
variable {α : Type} [Inhabited α] {enc : α → Value} {h1 : ∀ x, (enc x).oneCell' = true} {e : Nat} {W : World} {base : Nat} {ok : Nat → Prop} {g n cap : Nat} {xs ys : List α}
theorem R_len (h : (Kd.scalar enc h1).R e W base ok (.slice (some ⟨g, 0, none⟩) n cap) xs) : n = xs.length := by
 obtain ⟨A, c, he, _⟩ := Kd.R_reads h
 injection he
theorem R_holds (h : (Kd.scalar enc h1).R e W base ok (.slice (some ⟨g, 0, none⟩) n cap) xs) : Holds enc W g 0 xs.toArray ∧ g < W.heap.size ∧ base ≤ g := by
 have ho := Kd.own_of_R h
 rw [encs_map] at ho
 obtain ⟨g', cap', e1, hb, hl, _, _, _, hH⟩ := holds_of_ownsRow ho (by simp)
 have e2 : g' = g := by
  injection e1 with e1
  injection e1 with e1
  injection e1 with e1
  exact e1.symm
 subst e2
 exact ⟨hH, hl, hb⟩
/-- The row behind a sort. -/
theorem R_sorted (h : (Kd.scalar enc h1).R e W base ok (.slice (some ⟨g, 0, none⟩) n cap) xs) (hy : ys.length = xs.length) (q : Nat) (os : Array Obj) :
  (Kd.scalar enc h1).R e (sortWorld enc W g 0 q ys.toArray os) base ok (.slice (some ⟨g, 0, none⟩) n cap) ys := by
 have hn := R_len h
 have ho := Kd.own_of_R h
 rw [encs_map, ← hn] at ho
 have h2 := ownsRow_putRow (q := q) (k := n) ho (by rw [hy, hn]) (Nat.le_refl _)
 rw [List.take_of_length_le (by omega)] at h2
 have hl : g < (putRow enc (Sort.ahead W q) g 0 ys.toArray).heap.size := by
  rw [size_putRow]
  exact (R_holds h).2.1
 have h3 : (sortWorld enc W g 0 q ys.toArray os).ownsRow base e 1 (.slice (some ⟨g, 0, none⟩) n cap) n (ys.map enc) := own_move h2 (fun k hk => by
  have hk' : k = g := by
   simp only [Value.ownBlock, Option.some.injEq] at hk
   exact hk.symm
  subst hk'
  show ((putRow enc (Sort.ahead W q) k 0 ys.toArray).heap ++ os)[k]? = _
  rw [Array.getElem?_append_left hl])
 have hyn : n = ys.length := by omega
 rw [hyn] at h3 ⊢
 rw [hyn] at h
 exact Kd.R_of_own h3 (fun k hk => h.1 k hk)
theorem sort_grown (q : Nat) (os : Array Obj) (ys : List α) : W.grownBy (sortWorld enc W g 0 q ys.toArray os) (some g) := by
 refine ⟨rfl, rfl, rfl, ?_, fun k hk hne => ?_⟩
 ·
  show W.heap.size ≤ ((putRow enc (Sort.ahead W q) g 0 ys.toArray).heap ++ os).size
  rw [Array.size_append, size_putRow]
  exact Nat.le_add_right _ _
 ·
  show ((putRow enc (Sort.ahead W q) g 0 ys.toArray).heap ++ os)[k]? = _
  rw [Array.getElem?_append_left (by rw [size_putRow]; exact hk)]
  simp [putRow, mapBlock, Sort.ahead, Array.getElem?_modify, show g ≠ k from fun e => hne (by rw [e])]
end
theorem grown_refl (W : World) (r : Option Nat) : W.grownBy W r := ⟨rfl, rfl, rfl, Nat.le_refl _, fun _ _ _ => rfl⟩
/-- A row of texts that is read. -/
def HasL (W : World) (A : Option Addr) (n c : Nat) (C : List ByteArray) : Prop := n = C.length ∧ n ≤ c ∧ Kd.string.C W A n C
theorem HasL.below {W W1 : World} {A : Option Addr} {n c : Nat} {C : List ByteArray} (h : HasL W A n c C) (hb : Below W.heap.size W W1) : HasL W1 A n c C := ⟨h.1, h.2.1, Kd.C_below h.2.2 hb⟩
def enb (l : List UInt8) : ByteArray := ⟨l.toArray⟩
def cc (xs : List ByteArray) : List (List UInt8) := compactUpTo (xs.map (fun x : ByteArray => x.toList)).toArray (xs.map (fun x : ByteArray => x.toList)).toArray.size
theorem compact_calls (xs : List ByteArray) (v : Value) (W : World) (base : Nat) (ok : Nat → Prop) (h : Kd.string.R 9 W base ok v xs) (hx : xs.length ≤ 1048576) :
  Calls Try.prog 45 #[v] W fun e w' => ∃ A n c, e = .returned (.slice A n c) ∧ HasL w' A n c ((cc xs).map enb) ∧ W.grownBy w' v.ownBlock := by
 rcases Nat.eq_zero_or_pos xs.length with hz | hp
 ·
  obtain rfl : xs = [] := List.eq_nil_of_length_eq_zero hz
  obtain ⟨A, c, rfl, _, _⟩ := Kd.R_reads h
  refine (Try.slices_Compact_string_empty_f45 A c W).mono ?_
  rintro e w' ⟨rfl, rfl⟩
  exact ⟨A, 0, c, rfl, ⟨by simp [cc, compactUpTo], Nat.zero_le _, Kd.C_of_reads (d := ByteArray.empty) ⟨by simp [cc, compactUpTo], by omega, fun h => absurd h (Nat.lt_irrefl 0)⟩⟩, grown_refl _ _⟩
 ·
  obtain ⟨g, cg, rfl, gb, gl, cells, HG⟩ := Kd.R_form h hp
  obtain ⟨hH, hgl, hgb⟩ := R_holds (enc := Value.string) h
  obtain ⟨A', c', e', hl', _⟩ := Kd.R_reads h
  injection e' with e1 e2 e3
  have hH2 : Holds encStr W g 0 (xs.map (fun x : ByteArray => x.toList)).toArray := by
   intro j hj
   have hj2 : j < xs.length := by simpa using hj
   obtain ⟨h1, h2⟩ := hH j (by simpa using hj2)
   refine ⟨?_, h2⟩
   rw [h1, getElem!_pos _ j (by simpa using hj2), getElem!_pos _ j hj]
   simp only [List.getElem_toArray, List.getElem_map]
   show some (Value.string xs[j]) = some (Value.string ⟨(xs[j].toList).toArray⟩)
   rw [ByteArray.toList_eq]
  have HT := Try.slices_Compact_string_arr_f45 g 0 cg (xs.map (fun x : ByteArray => x.toList)).toArray W hH2 (by simp; omega) (by simp; omega)
  rw [show (xs.map (fun x : ByteArray => x.toList)).toArray.size = xs.length from by simp] at HT
  refine HT.mono ?_
  rintro e w' ⟨rfl, q, rfl⟩
  have ecc : cc xs = compactUpTo (xs.map (fun x : ByteArray => x.toList)).toArray xs.length := by
   unfold cc
   rw [show (xs.map (fun x : ByteArray => x.toList)).toArray.size = xs.length from by simp]
  have hle : (cc xs).length ≤ xs.length := by
   rw [ecc]
   unfold compactUpTo
   rw [List.length_map]
   refine Nat.le_trans (List.length_filter_le _ _) ?_
   rw [List.length_range]
   exact Nat.le_refl _
  refine ⟨_, _, _, rfl, ⟨by rw [← ecc, List.length_map], by rw [← ecc]; omega, Kd.C_of_reads (d := ByteArray.empty) ⟨by rw [← ecc, List.length_map], by rw [← ecc]; omega, fun hn => ⟨⟨g, 0, none⟩, rfl, fun j hj => ?_⟩⟩⟩, ?_⟩
  ·
   have hh := holds_putRow encStr (Sort.ahead W q) g 0 (xs.map (fun x : ByteArray => x.toList)).toArray (compactUpTo (xs.map (fun x : ByteArray => x.toList)).toArray xs.length ++ List.replicate (xs.length - (compactUpTo (xs.map (fun x : ByteArray => x.toList)).toArray xs.length).length) []).toArray (holds_ahead encStr W q g 0 _ hH2) (by
    rw [← ecc]
    simp
    omega)
   rw [← ecc] at hj hh ⊢
   have hj3 : j < (cc xs ++ List.replicate (xs.length - (cc xs).length) ([] : List UInt8)).toArray.size := by simp; omega
   rw [Rws.add_plain', (hh j hj3).1, getElem!_pos _ j hj3]
   simp only [List.getElem_toArray]
   rw [List.getElem_append_left hj, List.getD_eq_getElem?_getD, List.getElem?_eq_getElem (by rw [List.length_map]; exact hj)]
   simp only [List.getElem_map, Option.getD_some]
   rfl
  ·
   have h1 := sort_grown (enc := encStr) (W := W) (g := g) q #[] (compactUpTo (xs.map (fun x : ByteArray => x.toList)).toArray xs.length ++ List.replicate (xs.length - (compactUpTo (xs.map (fun x : ByteArray => x.toList)).toArray xs.length).length) [])
   unfold sortWorld at h1
   rw [grow_empty] at h1
   exact h1
/-- Texts in their order. -/
def leB (a b : ByteArray) : Bool := !(ltS b a)
def srt (l : List ByteArray) : List ByteArray := l.mergeSort leB
theorem srt_len (l : List ByteArray) : (srt l).length = l.length := List.length_mergeSort _
theorem put_texts (w : World) (blk off : Nat) (ys : List ByteArray) : putRow encStr w blk off (ys.map (fun x : ByteArray => x.toList)).toArray = putRow Value.string w blk off ys.toArray := by
 unfold putRow
 have e : putCells encStr off (ys.map (fun x : ByteArray => x.toList)).toArray = putCells Value.string off ys.toArray := by
  funext c
  unfold putCells
  congr 1
  funext k x
  have hs : (ys.map (fun x : ByteArray => x.toList)).toArray.size = ys.toArray.size := by simp
  rw [hs]
  split
  ·
   rename_i h
   have hk : k - off < ys.length := by have := h.2; simp at this; omega
   rw [getElem!_pos _ (k - off) (by simpa using hk), getElem!_pos _ (k - off) (by simpa using hk)]
   simp only [List.getElem_toArray, List.getElem_map]
   show Value.string ⟨(ys[k - off].toList).toArray⟩ = Value.string ys[k - off]
   rw [ByteArray.toList_eq]
  ·
   rfl
 rw [e]
theorem sort_lists (xs : List ByteArray) : (xs.map (fun x : ByteArray => x.toList)).mergeSort (fun x y => decide (x ≤ y)) = (srt xs).map (fun x : ByteArray => x.toList) := by
 unfold srt
 symm
 refine List.map_mergeSort (fun a _ b _ => ?_)
 unfold leB
 rw [ltS_eq, Bool.eq_iff_iff]
 simp only [Bool.not_eq_true', decide_eq_false_iff_not, decide_eq_true_eq]
 exact Iff.rfl
theorem sort_calls (xs : List ByteArray) (v : Value) (W : World) (base : Nat) (ok : Nat → Prop) (h : Kd.string.R 9 W base ok v xs) (hx : xs.length ≤ 1048576) :
  Calls Try.prog 44 #[v] W fun e w' => e = .returned (.tuple #[]) ∧ Kd.string.R 9 w' base ok v (srt xs) ∧ W.grownBy w' v.ownBlock := by
 rcases Nat.eq_zero_or_pos xs.length with hz | hp
 ·
  obtain rfl : xs = [] := List.eq_nil_of_length_eq_zero hz
  obtain ⟨A, c, rfl, _, _⟩ := Kd.R_reads h
  refine (Try.slices_Sort_string_none_f44 A c W).mono ?_
  rintro e w' ⟨rfl, rfl⟩
  exact ⟨rfl, by unfold srt; rw [List.mergeSort_nil]; exact h, grown_refl _ _⟩
 ·
  obtain ⟨g, cg, rfl, gb, gl, cells, HG⟩ := Kd.R_form h hp
  obtain ⟨hH, hgl, hgb⟩ := R_holds (enc := Value.string) h
  have hH2 : Holds encStr W g 0 (xs.map (fun x : ByteArray => x.toList)).toArray := by
   intro j hj
   have hj2 : j < xs.length := by simpa using hj
   obtain ⟨h1, h2⟩ := hH j (by simpa using hj2)
   refine ⟨?_, h2⟩
   rw [h1, getElem!_pos _ j (by simpa using hj2), getElem!_pos _ j hj]
   simp only [List.getElem_toArray, List.getElem_map]
   show some (Value.string xs[j]) = some (Value.string ⟨(xs[j].toList).toArray⟩)
   rw [ByteArray.toList_eq]
  have HT := Try.slices_Sort_string_f44 g 0 cg (xs.map (fun x : ByteArray => x.toList)) W hH2 hgl (by simp; omega)
  rw [List.length_map, sort_lists] at HT
  refine HT.mono ?_
  rintro e w' ⟨rfl, nq, os, rfl⟩
  rw [put_texts]
  exact ⟨rfl, R_sorted (enc := Value.string) h (by rw [srt_len]) nq os, sort_grown nq os _⟩
end Go.Proofs.Ytcngebfcpobnnaa.SrE
end
