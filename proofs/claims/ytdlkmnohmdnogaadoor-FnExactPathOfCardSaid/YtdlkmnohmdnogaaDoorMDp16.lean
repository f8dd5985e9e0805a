/- Several texts in one: what the claim's last text rests on. No conditions. -/
import Derived.Test.YtdlkmnohmdnogaaDoorMDp8
import Derived.Test.YtdlkmnohmdnogaaDoorMDp2
import Derived.Deep.OwnRows
import Derived.WalkLawsBesides
import Derived.WalkSpells
section
namespace Go.Proofs.YtdlkmnohmdnogaaDoor.Spl
set_option linter.unusedVariables false
set_option linter.unusedSimpArgs false
open Go.RowKit Go.Lib Go.Proofs.YtdlkmnohmdnogaaDoorW.PrintWords Go.Proofs.YtdlkmnohmdnogaaDoorW.PrintLast Go.Proofs.YtdlkmnohmdnogaaDoorW.PrintMore Go.Proofs.YtdlkmnohmdnogaaDoor.Pre Go.Proofs.YtdlkmnohmdnogaaDoor.Esc Go.Proofs.YtdlkmnohmdnogaaDoor.Uns Go.Proofs.YtdlkmnohmdnogaaDoor.PtS Go.Proofs.YtdlkmnohmdnogaaDoor.Seg
attribute [local go_sem] max2_int min2_int max_two min_two
theorem first47 (r : List UInt8) (h : 1 ≤ r.count 47) : ∃ a b, r = a ++ 47 :: b ∧ indexByte r 47 = (a.length : Int) ∧ fld r = a :: fld b ∧ b.count 47 + 1 = r.count 47 := by
 induction r with
 | nil => simp at h
 | cons c l ih =>
  by_cases hc : c = 47
  ·subst hc
   exact ⟨[], l, rfl, rfl, fld_sep l, (List.count_cons_self).symm⟩
  ·rw [List.count_cons_of_ne hc] at h
   obtain ⟨a, b, h1, h2, h3, h4⟩ := ih h
   obtain ⟨f, fs, g1, g2⟩ := fld_char c l hc
   rw [h3] at g1
   injection g1 with g1 g3
   subst g1
   subst g3
   refine ⟨c :: a, b, by rw [h1]; rfl, ?_, g2, by rw [List.count_cons_of_ne hc]; exact h4⟩
   rw [indexByte, if_neg (by simpa using hc), h2, if_neg (by simp)]
   rfl
theorem none47 (r : List UInt8) (h : r.count 47 = 0) : fld r = [r] := by
 induction r with
 | nil => rfl
 | cons c l ih =>
  have hc : c ≠ 47 := by
   rintro rfl
   rw [List.count_cons_self] at h
   omega
  rw [List.count_cons_of_ne hc] at h
  obtain ⟨f, fs, g1, g2⟩ := fld_char c l hc
  rw [ih h] at g1
  injection g1 with g1 g3
  rw [g2, ← g1, ← g3]
/-- The row: the parts that are done, and empty texts. -/
def row (D : List (List UInt8)) (n : Nat) : Array Value := (D.map (fun p => Value.string (mk p)) ++ List.replicate (n - D.length) (Value.string ⟨#[]⟩)).toArray
theorem row_zero (n : Nat) : madeCells #[.string ⟨#[]⟩] n = row [] n := by
 unfold madeCells row
 apply Array.ext'
 simp only [Array.toList_map, Array.toList_range, List.map_nil, List.nil_append, List.length_nil, Nat.sub_zero]
 apply List.ext_getElem
 ·simp
 ·intro i h1 h2
  simp [Nat.mod_one]
theorem row_put (D : List (List UInt8)) (n : Nat) (p : List UInt8) (h : D.length < n) : (row D n).setIfInBounds D.length (.string (mk p)) = row (D ++ [p]) n := by
 unfold row
 rw [List.setIfInBounds_toArray]
 congr 1
 rw [List.set_append_right _ _ (by simp)]
 obtain ⟨m, hm⟩ : ∃ m, n - D.length = m + 1 := ⟨n - D.length - 1, by omega⟩
 have hm2 : n - (D ++ [p]).length = m := by simp; omega
 rw [hm, hm2, List.replicate_succ]
 simp
theorem row_at (D : List (List UInt8)) (n : Nat) (h : D.length < n) : (row D n)[D.length]? = some (.string ⟨#[]⟩) := by
 unfold row
 obtain ⟨m, hm⟩ : ∃ m, n - D.length = m + 1 := ⟨n - D.length - 1, by omega⟩
 rw [hm, List.replicate_succ]
 simp
theorem row_get (D : List (List UInt8)) (j : Nat) (h : j < D.length) : (row D D.length)[j]? = some (.string (mk (D[j]))) := by
 unfold row
 simp [h]
theorem ext_of (S : ByteArray) (a b : List UInt8) (h : S.data.toList = a ++ 47 :: b) : S.extract 0 a.length = mk a ∧ S.extract (a.length + 1) S.size = mk b ∧ S.size = a.length + 1 + b.length := by
 have hs : S.size = a.length + 1 + b.length := by
  show S.data.size = _
  rw [← Array.length_toList, h, List.length_append, List.length_cons]
  omega
 refine ⟨?_, ?_, hs⟩
 ·apply ByteArray.ext
  apply Array.ext'
  rw [ext_list, h]
  simp [mk]
 ·apply ByteArray.ext
  apply Array.ext'
  rw [ext_end, h]
  simp [mk]

set_option maxHeartbeats 2000000 in
set_option maxRecDepth 100000 in
theorem gen_calls (s : ByteArray) (w : World) (hs : s.size ≤ 1048576) :
  Calls Tryd.prog 18 #[.string s, .string ⟨#[47]⟩, .int .i64 0, .int .i64 (-1)] w fun e w' => ∃ g, e = .returned (.slice (some ⟨g, 0, none⟩) (fld s.data.toList).length (fld s.data.toList).length) ∧ w'.heap[g]? = some (.cells (row (fld s.data.toList) (fld s.data.toList).length) 9 (0, 0)) ∧ w.heap.size ≤ g ∧ Below w.heap.size w w' := by
 obtain ⟨n, hn⟩ : ∃ n, n = s.data.toList.count 47 := ⟨_, rfl⟩
 have hle : n ≤ s.size := by rw [hn]; exact List.count_le_length
 have HN : Aside0 ((fld s.data.toList).length = n + 1) := ⟨by rw [fld_len, hn]⟩
 rw [HN.out]
 have HS := aM hs
 have HNE := aM hn
 have HC : Aside0 (∀ W : World, Calls Tryd.prog 22 #[.string s, .string ⟨#[47]⟩] W fun e w' => e = .returned (.int .i64 (n : Int)) ∧ W = w') := ⟨fun W => by rw [hn]; exact (Tryd.strings_Count_one_f22 s 47 W).mono (fun _ _ h => ⟨h.1, h.2.symm⟩)⟩
 have HI : Aside0 (∀ (S : ByteArray) (W : World), Calls Tryd.prog 23 #[.string S, .string ⟨#[47]⟩] W fun e w' => e = .returned (.int .i64 (indexByte S.data.toList 47)) ∧ W = w') := ⟨fun S W => (Tryd.strings_Index_one_f23 S 47 W).mono (fun _ _ h => ⟨h.1, h.2.symm⟩)⟩
 have hw1 : wrap64 ((n : Int) + 1) = (n : Int) + 1 := w64 (by omega) (by omega)
 have hw2 : wrap64 ((s.size : Int) + 1) = (s.size : Int) + 1 := w64 (by clear hw1; omega) (by clear hw1; omega)
 have hmin : ((s.size : Int) + 1 < (n : Int) + 1) = False := eq_false (by clear hw1 hw2; omega)
 have hmk : ∀ W : World, (Instr.makeSlice 22 (.int .i64 ((n : Int) + 1)) (.int .i64 ((n : Int) + 1))).run Tryd.prog W = .ok (.slice (some ⟨W.heap.size, 0, none⟩) (n + 1) (n + 1)) (W.alloc (.cells (madeCells #[.string ⟨#[]⟩] (n + 1)) 9)) := fun W => by
  have h := run_make_row' (P := Tryd.prog) 22 9 (.string ⟨#[]⟩) 16 Tryd.underlying22 (by kernel_rfl) rfl .i64 .i64 (n + 1) (by clear hw1 hw2 hmin; omega) (by clear hw1 hw2 hmin; omega) W
  exact h
 have hw3 : wrap64 ((n : Int) + 1 - 1) = (n : Int) := by rw [Int.add_sub_cancel]; exact w64 (by clear hw1 hw2 hmin; omega) (by clear hw1 hw2 hmin; omega)
 have hw4 : wrap64 (n : Int) = (n : Int) := w64 (by clear hw1 hw2 hmin hw3; omega) (by clear hw1 hw2 hmin hw3; omega)
 have HLE := aM hle
 clear hs hle hn
 go_enter Tryd.func18, Tryd.ntmps18
 go_wp2_with (go_at_call 22; go_loud ((with_reducible refine (HC.out _).mono ?_); rintro e w2 ⟨rfl, rfl⟩))
 rw [hw4]
 clear hw1 hw2 hmin hmk hw3 hw4
 obtain ⟨g, hg⟩ : ∃ x, x = w.heap.size := ⟨_, rfl⟩
 have HG := aM hg
 rw [← hg]
 clear hg
 go_loopg [0, 10] (n + 1) (fun kq v0 v10 w' => ∃ (i : Nat) (S : ByteArray) (D : List (List UInt8)), v10 = .int .i64 (i : Int) ∧ v0 = .string S ∧ i ≤ n ∧ kq = n + 1 - i ∧ Aside0 (D.length = i) ∧ Aside0 (fld s.data.toList = D ++ fld S.data.toList) ∧ Aside0 (S.data.toList.count 47 + i = n) ∧ Aside0 (S.size ≤ 1048576) ∧ Aside0 (w'.heap[g]? = some (.cells (row D (n + 1)) 9 (0, 0))) ∧ Aside0 (Below w.heap.size w w'))
 case atStart => exact ⟨0, s, [], rfl, rfl, by omega, by omega, ⟨rfl⟩, ⟨rfl⟩, ⟨by rw [← HNE.out]; omega⟩, HS, ⟨by rw [HG.out, row_zero]; exact blk_new w _⟩, ⟨below_alloc (Below.refl _ _) _⟩⟩
 case round =>
  obtain ⟨i, S, D, rfl, rfl, hi, hk, HDL, HFD, HCN, HSZ, HRW, HBL⟩ := hrel
  have HK := aM hk
  by_cases hlt : i < n
  ·have HLT := aM hlt
   obtain ⟨a, b, e1, e2, e3, e4⟩ := first47 S.data.toList (by have := HCN.out; omega)
   obtain ⟨x1, x2, x3⟩ := ext_of S a b e1
   have HIX : Aside0 (indexByte S.data.toList 47 = (a.length : Int)) := ⟨e2⟩
   have HE3 := aM e3
   have HE4 := aM e4
   have HX3 := aM x3
   obtain ⟨m, hm⟩ : ∃ m, m = a.length := ⟨_, rfl⟩
   have HM := aM hm
   rw [← hm] at x1 x2 x3 HIX
   have p1 : (0 : Int) ≤ (m : Int) := by omega
   have p2 : (m : Int) ≤ (S.size : Int) := by omega
   have p3 : (m : Int) + 1 ≤ (S.size : Int) := by omega
   have p4 : (0 : Int) ≤ (m : Int) + 1 := by omega
   have p5 : (0 : Int) ≤ (i : Int) := by omega
   have p6 : (i : Int) < (n : Int) + 1 := by omega
   have p7 : (i : Int) < (n : Int) := by omega
   have p8 : ((m : Int) < 0) = False := eq_false (by omega)
   have hb := HSZ.out
   have hw0 : wrap64 (m : Int) = (m : Int) := w64 (by omega) (by omega)
   have hw1 : wrap64 ((m : Int) + 1) = (m : Int) + 1 := w64 (by clear hw0; omega) (by clear hw0; omega)
   have HW2 : Aside0 (wrap64 ((i : Int) + 1) = (i : Int) + 1) := ⟨w64 (by clear hw0 hw1; omega) (by clear hw0 hw1; have := HLE.out; have := HS.out; omega)⟩
   have ci : wr.cell? ⟨g, i, none⟩ = some (.string ⟨#[]⟩) := (blk_cell HRW.out i).trans (by have h := row_at D (n + 1) (by rw [HDL.out]; clear hw0 hw1; omega); rw [HDL.out] at h; exact h)
   have zi : wr.frozen? ⟨g, i, none⟩ = false := blk_frozen HRW.out i
   clear e1 e2 e3 e4 x3 hm hb hlt hi hk
   go_wp2_with (go_at_call 23; go_loud ((with_reducible refine (HI.out S _).mono ?_); rintro e w2 ⟨rfl, rfl⟩; rw [HIX.out]))
   go_roundg (n + 1 - (i + 1))
   case measure => have := HK.out; have := HLT.out; clear hw0 hw1; omega
   case rel =>
    have hbz : b.length + 1 ≤ S.size := by clear hw0 hw1; have := HX3.out; omega
    refine ⟨i + 1, mk b, D ++ [a], by first | rfl | (rw [HW2.out]; rfl), rfl, by have := HLT.out; clear hw0 hw1; omega, rfl, ⟨by rw [List.length_append, HDL.out]; rfl⟩, ⟨?_⟩, ⟨?_⟩, ⟨?_⟩, ⟨?_⟩, ⟨HBL.out.setCell (p := ⟨g, i, none⟩) (Nat.le_of_eq HG.out.symm) _⟩⟩
    ·rw [HFD.out, HE3.out, List.append_assoc]
     rfl
    ·have h1 := HE4.out
     have h2 := HCN.out
     show b.count 47 + (i + 1) = n
     clear hw0 hw1
     omega
    ·rw [mk_size]
     have := HSZ.out
     clear hw0 hw1
     omega
    ·have h1 := row_put D (n + 1) a (by rw [HDL.out]; have := HLT.out; clear hw0 hw1; omega)
     rw [HDL.out] at h1
     exact blk_put HRW.out i _ h1
  ·obtain rfl : i = n := by omega
   have HF1 : Aside0 (fld S.data.toList = [S.data.toList]) := ⟨none47 _ (by have := HCN.out; omega)⟩
   have p5 : (0 : Int) ≤ (i : Int) := by omega
   have p6 : (i : Int) < (i : Int) + 1 := by omega
   have hw1 : wrap64 ((i : Int) + 1) = (i : Int) + 1 := w64 (by omega) (by have := HLE.out; have := HS.out; omega)
   have ci : wr.cell? ⟨g, i, none⟩ = some (.string ⟨#[]⟩) := (blk_cell HRW.out i).trans (by have h := row_at D (i + 1) (by rw [HDL.out]; exact Nat.lt_succ_self _); rw [HDL.out] at h; exact h)
   have zi : wr.frozen? ⟨g, i, none⟩ = false := blk_frozen HRW.out i
   clear hlt hi hk
   go_wp2
   go_ret
   refine ⟨g, rfl, ?_, Nat.le_of_eq HG.out.symm, HBL.out.setCell (p := ⟨g, i, none⟩) (Nat.le_of_eq HG.out.symm) _⟩
   rw [HFD.out, HF1.out]
   have h1 := row_put D (i + 1) S.data.toList (by rw [HDL.out]; exact Nat.lt_succ_self _)
   rw [HDL.out] at h1
   exact blk_put HRW.out i _ h1

theorem split_calls (s : ByteArray) (w : World) (hs : s.size ≤ 1048576) :
  Calls Tryd.prog 13 #[.string s, .string ⟨#[47]⟩] w fun e w' => ∃ g, e = .returned (.slice (some ⟨g, 0, none⟩) (fld s.data.toList).length (fld s.data.toList).length) ∧ w'.heap[g]? = some (.cells (row (fld s.data.toList) (fld s.data.toList).length) 9 (0, 0)) ∧ w.heap.size ≤ g ∧ Below w.heap.size w w' := by
 have HS := aM hs
 clear hs
 go_enter Tryd.func13, Tryd.ntmps13
 go_wp2_with (go_at_call 18; go_loud ((with_reducible refine (gen_calls s _ HS.out).mono ?_); rintro e w2 ⟨g, rfl, h1, h2, h3⟩; have H1 := aM h1; have H2 := aM h2; have H3 := aM h3; clear h1 h2 h3))
 go_ret
 exact ⟨g, rfl, H1.out, H2.out, H3.out⟩
end Go.Proofs.YtdlkmnohmdnogaaDoor.Spl
end
