/- Several texts in one: what the claim's last text rests on. No conditions. -/
import Derived.Test.YtdlkmnohmdnogaaDoorMDp15
import Derived.Test.YtdlkmnohmdnogaaDoorMDp0
import Derived.Test.YtdlkmnohmdnogaaDoorMDp2
import Derived.Deep.OwnRows
import Derived.Laws.IdiomCopy
import Derived.Laws.CopyOwn
section
namespace Go.Proofs.YtdlkmnohmdnogaaDoor.Bsr
set_option linter.unusedVariables false
set_option linter.unusedSimpArgs false
open Go.RowKit Go.Lib Go.Proofs.YtdlkmnohmdnogaaDoorW.PrintWords Go.Proofs.YtdlkmnohmdnogaaDoorW.PrintLast Go.Proofs.YtdlkmnohmdnogaaDoorW.PrintMore Go.Proofs.YtdlkmnohmdnogaaDoor.Bld Go.Proofs.YtdlkmnohmdnogaaDoor.Esc Go.Proofs.YtdlkmnohmdnogaaDoor.Pre
/-- What the loops know of a byte. -/
theorem three (b : UInt8) : b = 47 ∨ b = 126 ∨ (b ≠ 47 ∧ b ≠ 126) := by
 by_cases h1 : b = 47
 ·exact .inl h1
 ·by_cases h2 : b = 126
  ·exact .inr (.inl h2)
  ·exact .inr (.inr ⟨h1, h2⟩)
theorem no_at {w : World} {R T c1 c2 k1 k2 : Nat} (h : IsR w R T c1 c2 k1 k2) (b : UInt8) (h1 : b ≠ 47) (h2 : b ≠ 126) : w.cell? ⟨R, b.toNat, none⟩ = some (.slice none 0 0) :=
 h.no b.toNat b.toNat_lt (fun e => h1 (UInt8.toNat_inj.1 e)) (fun e => h2 (UInt8.toNat_inj.1 e))

/-- The filled part of the row, and what is still 0. -/
def row (l : List UInt8) (n : Nat) : Array Value := (l.map (fun b : UInt8 => Value.int .u8 (b.toNat : Int)) ++ List.replicate (n - l.length) (Value.int .u8 0)).toArray
theorem row_zero (n : Nat) : madeCells #[.int .u8 0] n = row [] n := by
 unfold madeCells row
 apply Array.ext'
 simp only [Array.toList_map, Array.toList_range, List.map_nil, List.nil_append, List.length_nil, Nat.sub_zero]
 apply List.ext_getElem
 ·simp
 ·intro i h1 h2
  simp [Nat.mod_one]
theorem row_put (l : List UInt8) (n : Nat) (b : UInt8) (h : l.length < n) : (row l n).setIfInBounds l.length (.int .u8 (b.toNat : Int)) = row (l ++ [b]) n := by
 unfold row
 rw [List.setIfInBounds_toArray]
 congr 1
 rw [List.set_append_right _ _ (by simp)]
 obtain ⟨m, hm⟩ : ∃ m, n - l.length = m + 1 := ⟨n - l.length - 1, by omega⟩
 have hm2 : n - (l ++ [b]).length = m := by simp; omega
 rw [hm, hm2, List.replicate_succ]
 simp
theorem row_at (l : List UInt8) (n j : Nat) (h : j < l.length) : (row l n)[j]? = some (.int .u8 ((l[j]).toNat : Int)) := by
 unfold row
 simp [List.getElem?_append_left, h]
theorem row_some (l : List UInt8) (n j : Nat) (hl : l.length ≤ n) (h : j < n) : ((row l n)[j]?).isSome = true := by
 have hs : (row l n).size = n := by
  unfold row
  simp
  omega
 rw [Array.getElem?_eq_getElem (by omega)]
 rfl
theorem add_plain (b j : Nat) : (⟨b, 0, none⟩ : Addr).add j = ⟨b, j, none⟩ := by
 unfold Addr.add
 by_cases h : j = 0
 ·subst h
  rfl
 ·rw [if_neg h, Nat.zero_add]
theorem copy2 (W : World) (B j n c k : Nat) (x y : Value) (cur : Array Value) (hx : W.cell? ⟨c, 0, none⟩ = some x) (hy : W.cell? ⟨c, 1, none⟩ = some y) (hB : W.heap[B]? = some (.cells cur 5 (0, 0))) (h1 : x.oneCell' = true) (h2 : y.oneCell' = true) (hj : j + 2 ≤ cur.size) (hn : j + 2 ≤ n) :
  (Builtin.copy_ #[33, 33] 3 #[.slice (some ⟨B, j, none⟩) (n - j) (n - j), .slice (some ⟨c, 0, none⟩) 2 k]).run Tryd.prog W = .ok (.int .i64 2) ((W.setCell ⟨B, j, none⟩ x).setCell ⟨B, j + 1, none⟩ y) := by
 have hm : Nat.min 2 (n - j) = 2 := Nat.min_eq_left (by omega)
 have h := run_copy_cells (P := Tryd.prog) W 33 33 3 5 B j (n - j) (n - j) ⟨c, 0, none⟩ 2 k [x, y] Tryd.underlying33 (by kernel_rfl) hm.symm (by
  intro i v hv
  have hi := (List.getElem?_eq_some_iff.1 hv).1
  have hi : i < 2 := by simpa using hi
  rcases (show i = 0 ∨ i = 1 by omega) with rfl | rfl <;> (injection hv with hv; subst hv)
  ·exact hx
  ·exact hy) (by
  intro i hi
  have hi : i < 2 := by simpa using hi
  rw [blk_cell hB, Array.getElem?_eq_getElem (by omega)]
  rfl) (fun i hi => blk_frozen hB _) (by
  intro v hv
  rcases List.mem_cons.1 hv with rfl | hv
  ·exact h1
  ·rw [List.mem_singleton.1 hv]
   exact h2)
 exact h
theorem row_size (l : List UInt8) (n : Nat) (h : l.length ≤ n) : (row l n).size = n := by
 unfold row
 simp
 omega

set_option maxRecDepth 100000 in
set_option maxHeartbeats 2000000 in
theorem rep_short (R T c1 c2 k1 k2 : Nat) (s : ByteArray) (w : World) (h : IsR w R T c1 c2 k1 k2) (hs : s.size < 16) :
  Calls Tryd.prog 99 #[.pointer (some ⟨R, 0, none⟩), .string s] w fun e w' => e = .returned (.string (esc s)) ∧ Below w.heap.size w w' := by
 have HI := aM h
 have HS := aM hs
 have hl := h.li
 have hge : decide ((16 : Int) ≤ (s.size : Int)) = false := decide_eq_false (by omega)
 have e47 : (47 : UInt8).toNat = 47 := rfl
 have e126 : (126 : UInt8).toNat = 126 := rfl
 clear h hs
 go_enter Tryd.func99, Tryd.ntmps99
 go_wp2
 go_loopg [5, 6, 10] s.size (fun kq v5 v6 v10 w' => ∃ i q : Nat, v10 = .int .i64 (i : Int) ∧ v5 = .int .i64 ((s.size : Int) + (q : Int)) ∧ v6 = .bool (!decide (q = 0)) ∧ i ≤ s.size ∧ kq = s.size - i ∧ Aside0 (q = odd (s.data.toList.take i)) ∧ w' = w)
 case atStart => exact ⟨0, 0, rfl, by simp, by simp, by omega, by omega, ⟨by simp [odd]⟩, rfl⟩
 case round =>
  obtain ⟨i, q, rfl, rfl, rfl, hi, hk, HQ, rfl⟩ := hrel
  by_cases hlt : i < s.size
  ·have HT := aM hlt
   have hql : q ≤ s.size := by
    have h1 := odd_take_le s.data.toList i
    have h2 := odd_le s.data.toList
    have h3 : s.data.toList.length = s.size := rfl
    have := HQ.out
    omega
   have hw1 : wrap64 ((i : Int) + 1) = (i : Int) + 1 := w64 (by omega) (by have := HS.out; omega)
   have hw2 : wrap64 ((s.size : Int) + (q : Int) + 1) = (s.size : Int) + (q : Int) + 1 := w64 (by omega) (by have := HS.out; omega)
   obtain ⟨b, hb⟩ : ∃ b, s[i] = b := ⟨_, rfl⟩
   have HO := aM (odd_next s.data.toList i hlt)
   have HBB : Aside0 (s.data.toList[i]'hlt = b) := ⟨hb⟩
   have HW1 := aM hw1
   clear hql
   rcases three b with rfl | rfl | ⟨h1, h2⟩
   ·have hc := HI.out.sl
    go_wp2
    go_roundg (s.size - (i + 1))
    case measure => have := HT.out; omega
    case rel => exact ⟨i + 1, q + 1, by rw [HW1.out]; rfl, by simp; omega, by simp, by have := HT.out; omega, rfl, ⟨by rw [HO.out, HBB.out, ← HQ.out]; simp⟩, rfl⟩
   ·have hc := HI.out.ti
    go_wp2
    go_roundg (s.size - (i + 1))
    case measure => have := HT.out; omega
    case rel => exact ⟨i + 1, q + 1, by rw [HW1.out]; rfl, by simp; omega, by simp, by have := HT.out; omega, rfl, ⟨by rw [HO.out, HBB.out, ← HQ.out]; simp⟩, rfl⟩
   ·have hc := no_at HI.out b h1 h2
    have h256 : ((b.toNat : Nat) : Int) < 256 := by have := b.toNat_lt; omega
    have H12 := aM (And.intro h1 h2)
    clear h1 h2
    go_wp2
    go_roundg (s.size - (i + 1))
    case measure => have := HT.out; omega
    case rel => exact ⟨i + 1, q, by rw [HW1.out]; rfl, rfl, rfl, by have := HT.out; omega, rfl, ⟨by rw [HO.out, HBB.out, ← HQ.out]; simp [H12.out.1, H12.out.2]⟩, rfl⟩
  ·obtain rfl : i = s.size := by omega
   have hq : q = odd s.data.toList := HQ.out.trans (by rw [List.take_of_length_le (by exact Nat.le_refl _)])
   have HQ := aM hq
   clear hq
   rcases Nat.eq_zero_or_pos q with h0 | h0
   ·subst h0
    go_wp2
    go_ret
    exact ⟨by rw [esc_none s HQ.out.symm]; rfl, Below.refl _ _⟩
   ·have hq0 : decide (q = 0) = false := decide_eq_false (by omega)
    have HP := aM h0
    obtain ⟨n, hn⟩ : ∃ n, n = s.size + q := ⟨_, rfl⟩
    have HN := aM hn
    have hmk : ∀ W : World, (Instr.makeSlice 33 (.int .i64 ((s.size : Int) + (q : Int))) (.int .i64 ((s.size : Int) + (q : Int)))).run Tryd.prog W = .ok (.slice (some ⟨W.heap.size, 0, none⟩) n n) (W.alloc (.cells (madeCells #[.int .u8 0] n) 5)) := fun W => by
     have h := run_make_row' (P := Tryd.prog) 33 5 (.int .u8 0) 1 Tryd.underlying33 (by kernel_rfl) rfl .i64 .i64 n (by have := HS.out; have := odd_le s.data.toList; have h3 : s.data.toList.length = s.size := rfl; have := HQ.out; omega) (by have := HS.out; have := odd_le s.data.toList; have h3 : s.data.toList.length = s.size := rfl; have := HQ.out; omega) W
     rw [hn] at h ⊢
     exact h
    clear hn h0
    go_wp2
    obtain ⟨W, hW⟩ : ∃ x, x = wr := ⟨_, rfl⟩
    rw [← hW]
    have HI2 : Aside0 (∀ w', Below W.heap.size W w' → IsR w' R T c1 c2 k1 k2) := ⟨fun w' hb => by rw [hW] at hb; exact HI.out.later hb⟩
    have HWW := aM hW
    clear hW
    go_loopg [13, 14] s.size (fun kq v13 v14 w' => ∃ i j : Nat, v14 = .int .i64 (i : Int) ∧ v13 = .int .i64 (j : Int) ∧ i ≤ s.size ∧ kq = s.size - i ∧ Aside0 (j = (eL (s.data.toList.take i)).length) ∧ Aside0 (w'.heap[W.heap.size]? = some (.cells (row (eL (s.data.toList.take i)) n) 5 (0, 0))) ∧ Aside0 (Below W.heap.size W w'))
    case atStart => exact ⟨0, 0, rfl, rfl, by omega, by omega, ⟨rfl⟩, ⟨by rw [row_zero]; exact blk_new _ _⟩, ⟨below_alloc (Below.refl _ _) _⟩⟩
    case round =>
     obtain ⟨i, j, rfl, rfl, hi, hk, HJ, HROW, HBW⟩ := hrel
     by_cases hlt : i < s.size
     ·have HT := aM hlt
      obtain ⟨b, hb⟩ : ∃ b, s[i] = b := ⟨_, rfl⟩
      have HNX := aM (eL_next s.data.toList i hlt)
      have HBB : Aside0 (s.data.toList[i]'hlt = b) := ⟨hb⟩
      have HW1 : Aside0 (wrap64 ((i : Int) + 1) = (i : Int) + 1) := ⟨w64 (by omega) (by have := HS.out; omega)⟩
      have HFIT : Aside0 (j + (e1 b).length ≤ n) := ⟨by
       have h1 : (eL (s.data.toList.take (i + 1))).length ≤ (eL s.data.toList).length := by
        conv => rhs; rw [← List.take_append_drop (i + 1) s.data.toList, eL_append, List.length_append]
        omega
       rw [HNX.out, HBB.out, List.length_append, eL_len s.data.toList, ← HQ.out, ← HJ.out] at h1
       have := HN.out
       have h3 : s.data.toList.length = s.size := rfl
       omega⟩
      rcases three b with rfl | rfl | ⟨h1, h2⟩
      ·have hc := (HI2.out _ HBW.out).sl
       have HE : Aside0 (e1 47 = [126, 49]) := ⟨rfl⟩
       have HJN : j + 2 ≤ n := HFIT.out
       have hj1 : (0 : Int) ≤ (j : Int) := by omega
       have hj2 : (j : Int) ≤ (n : Int) := by omega
       have hnj : (n = j) = False := eq_false (by omega)
       have HWS : Aside0 (wrap64 ((j : Int) + 2) = (j : Int) + 2) := ⟨w64 (by omega) (by have := HS.out; have := HN.out; have := odd_le s.data.toList; have h3 : s.data.toList.length = s.size := rfl; have := HQ.out; omega)⟩
       have HJN2 := aM HJN
       obtain ⟨w3, hw3⟩ : ∃ x, x = (wr.drew.setCell ⟨W.heap.size, j, none⟩ (.int .u8 126)).setCell ⟨W.heap.size, j + 1, none⟩ (.int .u8 49) := ⟨_, rfl⟩
       have hcp := copy2 wr.drew W.heap.size j n c1 k1 (.int .u8 126) (.int .u8 49) _ (HI2.out _ HBW.out).a0 (HI2.out _ HBW.out).a1 (blk_drew HROW.out) rfl rfl (by rw [row_size _ _ (by rw [← HJ.out]; omega)]; omega) HJN
       rw [← hw3] at hcp
       have HROW3 : Aside0 (w3.heap[W.heap.size]? = some (.cells (row (eL (s.data.toList.take (i + 1))) n) 5 (0, 0))) := ⟨by
        have h1 := row_put (eL (s.data.toList.take i)) n 126 (by rw [← HJ.out]; omega)
        have h2 := row_put (eL (s.data.toList.take i) ++ [126]) n 49 (by rw [List.length_append, ← HJ.out, List.length_singleton]; omega)
        rw [List.length_append, ← HJ.out, List.length_singleton] at h2
        rw [← HJ.out] at h1
        rw [hw3, HNX.out, HBB.out, HE.out]
        refine blk_put (blk_put (blk_drew HROW.out) j (.int .u8 126) h1) (j + 1) (.int .u8 49) (h2.trans ?_)
        rw [List.append_assoc]
        rfl⟩
       have HBW3 : Aside0 (Below W.heap.size W w3) := ⟨by
        rw [hw3]
        exact below_set (below_set (below_drew HBW.out) (Nat.le_refl _)) (Nat.le_refl _)⟩
       clear hw3 HJN
       go_upto_region 28 with (fail)
       go_region
       go_wp2
       go_roundg (s.size - (i + 1))
       case measure => have := HT.out; omega
       case rel => exact ⟨i + 1, j + 2, by rw [HW1.out]; rfl, by rw [HWS.out]; rfl, by have := HT.out; omega, rfl, ⟨by rw [HNX.out, HBB.out, HE.out, List.length_append, ← HJ.out]; rfl⟩, HROW3, HBW3⟩
      ·have hc := (HI2.out _ HBW.out).ti
       have HE : Aside0 (e1 126 = [126, 48]) := ⟨rfl⟩
       have HJN : j + 2 ≤ n := HFIT.out
       have hj1 : (0 : Int) ≤ (j : Int) := by omega
       have hj2 : (j : Int) ≤ (n : Int) := by omega
       have hnj : (n = j) = False := eq_false (by omega)
       have HWS : Aside0 (wrap64 ((j : Int) + 2) = (j : Int) + 2) := ⟨w64 (by omega) (by have := HS.out; have := HN.out; have := odd_le s.data.toList; have h3 : s.data.toList.length = s.size := rfl; have := HQ.out; omega)⟩
       have HJN2 := aM HJN
       obtain ⟨w3, hw3⟩ : ∃ x, x = (wr.drew.setCell ⟨W.heap.size, j, none⟩ (.int .u8 126)).setCell ⟨W.heap.size, j + 1, none⟩ (.int .u8 48) := ⟨_, rfl⟩
       have hcp := copy2 wr.drew W.heap.size j n c2 k2 (.int .u8 126) (.int .u8 48) _ (HI2.out _ HBW.out).b0 (HI2.out _ HBW.out).b1 (blk_drew HROW.out) rfl rfl (by rw [row_size _ _ (by rw [← HJ.out]; omega)]; omega) HJN
       rw [← hw3] at hcp
       have HROW3 : Aside0 (w3.heap[W.heap.size]? = some (.cells (row (eL (s.data.toList.take (i + 1))) n) 5 (0, 0))) := ⟨by
        have h1 := row_put (eL (s.data.toList.take i)) n 126 (by rw [← HJ.out]; omega)
        have h2 := row_put (eL (s.data.toList.take i) ++ [126]) n 48 (by rw [List.length_append, ← HJ.out, List.length_singleton]; omega)
        rw [List.length_append, ← HJ.out, List.length_singleton] at h2
        rw [← HJ.out] at h1
        rw [hw3, HNX.out, HBB.out, HE.out]
        refine blk_put (blk_put (blk_drew HROW.out) j (.int .u8 126) h1) (j + 1) (.int .u8 48) (h2.trans ?_)
        rw [List.append_assoc]
        rfl⟩
       have HBW3 : Aside0 (Below W.heap.size W w3) := ⟨by
        rw [hw3]
        exact below_set (below_set (below_drew HBW.out) (Nat.le_refl _)) (Nat.le_refl _)⟩
       clear hw3 HJN
       go_upto_region 28 with (fail)
       go_region
       go_wp2
       go_roundg (s.size - (i + 1))
       case measure => have := HT.out; omega
       case rel => exact ⟨i + 1, j + 2, by rw [HW1.out]; rfl, by rw [HWS.out]; rfl, by have := HT.out; omega, rfl, ⟨by rw [HNX.out, HBB.out, HE.out, List.length_append, ← HJ.out]; rfl⟩, HROW3, HBW3⟩
      ·have hc := no_at (HI2.out _ HBW.out) b h1 h2
       have h256 : ((b.toNat : Nat) : Int) < 256 := by have := b.toNat_lt; omega
       have HE : Aside0 (e1 b = [b]) := ⟨by simp [e1, h1, h2]⟩
       have hj1 : (0 : Int) ≤ (j : Int) := by omega
       have hj2 : (j : Int) < (n : Int) := by have h3 := HFIT.out; rw [HE.out] at h3; simp at h3; omega
       obtain ⟨x, hx⟩ := Option.isSome_iff_exists.1 (row_some (eL (s.data.toList.take i)) n j (by rw [← HJ.out]; omega) (by omega))
       have hcb := (blk_cell HROW.out j).trans hx
       have hfb := blk_frozen HROW.out j
       have HWS : Aside0 (wrap64 ((j : Int) + 1) = (j : Int) + 1) := ⟨w64 (by omega) (by have := HS.out; have := HN.out; have := odd_le s.data.toList; have h3 : s.data.toList.length = s.size := rfl; have := HQ.out; omega)⟩
       have HJN := aM hj2
       clear h1 h2 hx
       go_wp2
       go_roundg (s.size - (i + 1))
       case measure => have := HT.out; omega
       case rel =>
        refine ⟨i + 1, j + 1, by rw [HW1.out]; rfl, by rw [HWS.out]; rfl, by have := HT.out; omega, rfl, ⟨by rw [HNX.out, HBB.out, HE.out, List.length_append, ← HJ.out]; rfl⟩, ⟨?_⟩, ⟨below_set HBW.out (Nat.le_refl _)⟩⟩
        rw [HNX.out, HBB.out, HE.out]
        have h1 := row_put (eL (s.data.toList.take i)) n b (by have := HJN.out; rw [← HJ.out]; omega)
        rw [← HJ.out] at h1
        exact blk_put HROW.out j _ h1
     ·obtain rfl : i = s.size := by omega
      have hall : s.data.toList.take s.size = s.data.toList := List.take_of_length_le (Nat.le_refl _)
      rw [hall] at HROW
      have hel : (eL s.data.toList).length = n := by rw [eL_len, HN.out, HQ.out]; rfl
      have hcv := run_convert_bytes_back (P := Tryd.prog) wr 33 9 5 ⟨W.heap.size, 0, none⟩ n (eL s.data.toList) Tryd.underlying33 Tryd.underlying5 Tryd.underlying9 (by
       intro k hk
       have hadd : (⟨W.heap.size, 0, none⟩ : Addr).add k = ⟨W.heap.size, k, none⟩ := add_plain _ _
       rw [hadd]
       exact (blk_cell HROW.out k).trans (row_at _ _ k hk))
      rw [hel] at hcv
      clear hall hel hlt
      go_wp2
      go_ret
      exact ⟨rfl, HWW.out ▸ HBW.out⟩
theorem below_two {w v u : World} (h : Below w.heap.size w v ∧ v.heap.size = w.heap.size) (k : Below v.heap.size v u) : Below w.heap.size w u := h.1.trans (h.2 ▸ k)
set_option maxRecDepth 100000 in
set_option maxHeartbeats 2000000 in
theorem rep_long (R T c1 c2 k1 k2 : Nat) (s : ByteArray) (w : World) (h : IsR w R T c1 c2 k1 k2) (h16 : 16 ≤ s.size) (hs : s.size ≤ 1048576) :
  Calls Tryd.prog 99 #[.pointer (some ⟨R, 0, none⟩), .string s] w fun e w' => e = .returned (.string (esc s)) ∧ Below w.heap.size w w' := by
 have HI := aM h
 have HS := aM hs
 have hl := h.li
 have hge : decide ((16 : Int) ≤ (s.size : Int)) = true := decide_eq_true (by omega)
 have e47 : (47 : UInt8).toNat = 47 := rfl
 have e126 : (126 : UInt8).toNat = 126 := rfl
 obtain ⟨m1, hm1⟩ : ∃ m, m = s.data.toList.count 47 := ⟨_, rfl⟩
 obtain ⟨m2, hm2⟩ : ∃ m, m = s.data.toList.count 126 := ⟨_, rfl⟩
 have HM1 := aM hm1
 have HM2 := aM hm2
 have HLE : Aside0 (m1 + m2 ≤ s.size) := ⟨by have := odd_le s.data.toList; unfold odd at this; rw [← hm1, ← hm2] at this; exact this⟩
 have HC1 : Aside0 (∀ W : World, Calls Tryd.prog 22 #[.string s, .string ⟨#[47]⟩] W fun e w' => e = .returned (.int .i64 (m1 : Int)) ∧ w' = W) := ⟨fun W => by rw [hm1]; exact Tryd.strings_Count_one_f22 s 47 W⟩
 have HC2 : Aside0 (∀ W : World, Calls Tryd.prog 22 #[.string s, .string ⟨#[126]⟩] W fun e w' => e = .returned (.int .i64 (m2 : Int)) ∧ w' = W) := ⟨fun W => by rw [hm2]; exact Tryd.strings_Count_one_f22 s 126 W⟩
 clear h hs h16 hm1 hm2
 go_enter Tryd.func99, Tryd.ntmps99
 go_wp2
 go_loopg [5, 6, 32] 2 (fun kq v5 v6 v32 w' => ∃ k q : Nat, v32 = .int .i64 (k : Int) ∧ v5 = .int .i64 ((s.size : Int) + (q : Int)) ∧ v6 = .bool (!decide (q = 0)) ∧ k ≤ 2 ∧ kq = 2 - k ∧ Aside0 (q = (if k = 0 then 0 else m1) + (if k = 2 then m2 else 0)) ∧ ∃ m, w' = w.drewN m)
 case atStart => exact ⟨0, 0, rfl, by simp, by simp, by omega, by omega, ⟨by simp⟩, 0, rfl⟩
 case round =>
  obtain ⟨k, q, rfl, rfl, rfl, hi, hk, HQ0, m, rfl⟩ := hrel
  rcases (show k = 0 ∨ k = 1 ∨ k = 2 by omega) with rfl | rfl | rfl
  ·obtain rfl : q = 0 := HQ0.out
   have ht := HI.out.t0
   have hc := HI.out.sl
   have ec : ∀ h, ((⟨#[47]⟩ : ByteArray)[0]'h).toNat = 47 := fun _ => rfl
   by_cases hz : m1 = 0
   ·subst hz
    go_wp2_with (go_at_call 22; go_loud ((with_reducible refine (HC1.out _).mono ?_); rintro e w2 ⟨rfl, rfl⟩))
    go_roundg 1
    case measure => omega
    case rel => exact ⟨1, 0, rfl, rfl, rfl, by omega, by omega, ⟨rfl⟩, m, rfl⟩
   ·have hz1 : ((m1 : Int) != 0) = true := bne_iff_ne.2 (by omega)
    have HZ := aM hz
    have hwm : wrap64 (m1 : Int) = (m1 : Int) := w64 (by omega) (by have := HLE.out; have := HS.out; omega)
    have hwa : wrap64 ((s.size : Int) + (m1 : Int)) = (s.size : Int) + (m1 : Int) := w64 (by clear hwm; omega) (by clear hwm; have := HLE.out; have := HS.out; omega)
    have HWA := aM hwa
    clear hz
    go_upto_region 9 with (go_at_call 22; go_loud ((with_reducible refine (HC1.out _).mono ?_); rintro e w2 ⟨rfl, rfl⟩))
    go_quiet (fail)
    go_wp2
    go_roundg 1
    case measure => clear hwm hwa; omega
    case rel => exact ⟨1, m1, rfl, by rw [HWA.out], by have := HZ.out; clear hwm hwa hz1; simp [this], by clear hwm hwa; omega, by clear hwm hwa; omega, ⟨rfl⟩, _, rfl⟩
  ·obtain rfl : q = m1 := HQ0.out
   have ht := HI.out.t1
   have hc := HI.out.ti
   have ec : ∀ h, ((⟨#[126]⟩ : ByteArray)[0]'h).toNat = 126 := fun _ => rfl
   by_cases hz : m2 = 0
   ·subst hz
    go_wp2_with (go_at_call 22; go_loud ((with_reducible refine (HC2.out _).mono ?_); rintro e w2 ⟨rfl, rfl⟩))
    go_roundg 0
    case measure => omega
    case rel => exact ⟨2, q, rfl, rfl, rfl, by omega, by omega, ⟨rfl⟩, m, rfl⟩
   ·have hz1 : ((m2 : Int) != 0) = true := bne_iff_ne.2 (by omega)
    have HZ := aM hz
    have hwm : wrap64 (m2 : Int) = (m2 : Int) := w64 (by omega) (by have := HLE.out; have := HS.out; omega)
    have hwa : wrap64 ((s.size : Int) + (q : Int) + (m2 : Int)) = (s.size : Int) + (q : Int) + (m2 : Int) := w64 (by clear hwm; omega) (by clear hwm; have := HLE.out; have := HS.out; omega)
    have HWA := aM hwa
    clear hz
    go_upto_region 9 with (go_at_call 22; go_loud ((with_reducible refine (HC2.out _).mono ?_); rintro e w2 ⟨rfl, rfl⟩))
    go_quiet (fail)
    go_wp2
    go_roundg 0
    case measure => clear hwm hwa; omega
    case rel => exact ⟨2, q + m2, rfl, by rw [HWA.out, Int.natCast_add, Int.add_assoc], by have := HZ.out; clear hwm hwa hz1; simp [this], by clear hwm hwa; omega, by clear hwm hwa; omega, ⟨rfl⟩, _, rfl⟩
  ·have hq : q = odd s.data.toList := HQ0.out.trans (by unfold odd; rw [← HM1.out, ← HM2.out]; rfl)
   have HQ := aM hq
   have HIW : Aside0 (IsR (w.drewN m) R T c1 c2 k1 k2) := ⟨HI.out.later ⟨rfl, rfl, rfl, Nat.le_refl _, fun _ _ => rfl⟩⟩
   obtain ⟨wr, hwr⟩ : ∃ x, x = w.drewN m := ⟨_, rfl⟩
   rw [← hwr] at HIW ⊢
   have HWR : Aside0 (Below w.heap.size w wr ∧ wr.heap.size = w.heap.size) := ⟨by rw [hwr]; exact ⟨⟨rfl, rfl, rfl, Nat.le_refl _, fun _ _ => rfl⟩, rfl⟩⟩
   have hl2 := HIW.out.li
   clear hq hwr HQ0 hl
   rcases Nat.eq_zero_or_pos q with h0 | h0
   ·subst h0
    go_wp2
    go_ret
    exact ⟨by rw [esc_none s HQ.out.symm]; rfl, HWR.out.1⟩
   ·have hq0 : decide (q = 0) = false := decide_eq_false (by omega)
    have HP := aM h0
    obtain ⟨n, hn⟩ : ∃ n, n = s.size + q := ⟨_, rfl⟩
    have HN := aM hn
    have hmk : ∀ W : World, (Instr.makeSlice 33 (.int .i64 ((s.size : Int) + (q : Int))) (.int .i64 ((s.size : Int) + (q : Int)))).run Tryd.prog W = .ok (.slice (some ⟨W.heap.size, 0, none⟩) n n) (W.alloc (.cells (madeCells #[.int .u8 0] n) 5)) := fun W => by
     have h := run_make_row' (P := Tryd.prog) 33 5 (.int .u8 0) 1 Tryd.underlying33 (by kernel_rfl) rfl .i64 .i64 n (by have := HS.out; have := odd_le s.data.toList; have h3 : s.data.toList.length = s.size := rfl; have := HQ.out; omega) (by have := HS.out; have := odd_le s.data.toList; have h3 : s.data.toList.length = s.size := rfl; have := HQ.out; omega) W
     rw [hn] at h ⊢
     exact h
    clear hn h0
    go_wp2
    obtain ⟨W, hW⟩ : ∃ x, x = wr := ⟨_, rfl⟩
    rw [← hW]
    have HI2 : Aside0 (∀ w', Below W.heap.size W w' → IsR w' R T c1 c2 k1 k2) := ⟨fun w' hb => by rw [hW] at hb; exact HIW.out.later hb⟩
    have HWW := aM hW
    clear hW
    go_loopg [13, 14] s.size (fun kq v13 v14 w' => ∃ i j : Nat, v14 = .int .i64 (i : Int) ∧ v13 = .int .i64 (j : Int) ∧ i ≤ s.size ∧ kq = s.size - i ∧ Aside0 (j = (eL (s.data.toList.take i)).length) ∧ Aside0 (w'.heap[W.heap.size]? = some (.cells (row (eL (s.data.toList.take i)) n) 5 (0, 0))) ∧ Aside0 (Below W.heap.size W w'))
    case atStart => exact ⟨0, 0, rfl, rfl, by omega, by omega, ⟨rfl⟩, ⟨by rw [row_zero]; exact blk_new _ _⟩, ⟨below_alloc (Below.refl _ _) _⟩⟩
    case round =>
     obtain ⟨i, j, rfl, rfl, hi, hk, HJ, HROW, HBW⟩ := hrel
     by_cases hlt : i < s.size
     ·have HT := aM hlt
      obtain ⟨b, hb⟩ : ∃ b, s[i] = b := ⟨_, rfl⟩
      have HNX := aM (eL_next s.data.toList i hlt)
      have HBB : Aside0 (s.data.toList[i]'hlt = b) := ⟨hb⟩
      have HW1 : Aside0 (wrap64 ((i : Int) + 1) = (i : Int) + 1) := ⟨w64 (by omega) (by have := HS.out; omega)⟩
      have HFIT : Aside0 (j + (e1 b).length ≤ n) := ⟨by
       have h1 : (eL (s.data.toList.take (i + 1))).length ≤ (eL s.data.toList).length := by
        conv => rhs; rw [← List.take_append_drop (i + 1) s.data.toList, eL_append, List.length_append]
        omega
       rw [HNX.out, HBB.out, List.length_append, eL_len s.data.toList, ← HQ.out, ← HJ.out] at h1
       have := HN.out
       have h3 : s.data.toList.length = s.size := rfl
       omega⟩
      rcases three b with rfl | rfl | ⟨h1, h2⟩
      ·have hc := (HI2.out _ HBW.out).sl
       have HE : Aside0 (e1 47 = [126, 49]) := ⟨rfl⟩
       have HJN : j + 2 ≤ n := HFIT.out
       have hj1 : (0 : Int) ≤ (j : Int) := by omega
       have hj2 : (j : Int) ≤ (n : Int) := by omega
       have hnj : (n = j) = False := eq_false (by omega)
       have HWS : Aside0 (wrap64 ((j : Int) + 2) = (j : Int) + 2) := ⟨w64 (by omega) (by have := HS.out; have := HN.out; have := odd_le s.data.toList; have h3 : s.data.toList.length = s.size := rfl; have := HQ.out; omega)⟩
       have HJN2 := aM HJN
       obtain ⟨w3, hw3⟩ : ∃ x, x = (wr.drew.setCell ⟨W.heap.size, j, none⟩ (.int .u8 126)).setCell ⟨W.heap.size, j + 1, none⟩ (.int .u8 49) := ⟨_, rfl⟩
       have hcp := copy2 wr.drew W.heap.size j n c1 k1 (.int .u8 126) (.int .u8 49) _ (HI2.out _ HBW.out).a0 (HI2.out _ HBW.out).a1 (blk_drew HROW.out) rfl rfl (by rw [row_size _ _ (by rw [← HJ.out]; omega)]; omega) HJN
       rw [← hw3] at hcp
       have HROW3 : Aside0 (w3.heap[W.heap.size]? = some (.cells (row (eL (s.data.toList.take (i + 1))) n) 5 (0, 0))) := ⟨by
        have h1 := row_put (eL (s.data.toList.take i)) n 126 (by rw [← HJ.out]; omega)
        have h2 := row_put (eL (s.data.toList.take i) ++ [126]) n 49 (by rw [List.length_append, ← HJ.out, List.length_singleton]; omega)
        rw [List.length_append, ← HJ.out, List.length_singleton] at h2
        rw [← HJ.out] at h1
        rw [hw3, HNX.out, HBB.out, HE.out]
        refine blk_put (blk_put (blk_drew HROW.out) j (.int .u8 126) h1) (j + 1) (.int .u8 49) (h2.trans ?_)
        rw [List.append_assoc]
        rfl⟩
       have HBW3 : Aside0 (Below W.heap.size W w3) := ⟨by
        rw [hw3]
        exact below_set (below_set (below_drew HBW.out) (Nat.le_refl _)) (Nat.le_refl _)⟩
       clear hw3 HJN
       go_upto_region 28 with (fail)
       go_region
       go_wp2
       go_roundg (s.size - (i + 1))
       case measure => have := HT.out; omega
       case rel => exact ⟨i + 1, j + 2, by rw [HW1.out]; rfl, by rw [HWS.out]; rfl, by have := HT.out; omega, rfl, ⟨by rw [HNX.out, HBB.out, HE.out, List.length_append, ← HJ.out]; rfl⟩, HROW3, HBW3⟩
      ·have hc := (HI2.out _ HBW.out).ti
       have HE : Aside0 (e1 126 = [126, 48]) := ⟨rfl⟩
       have HJN : j + 2 ≤ n := HFIT.out
       have hj1 : (0 : Int) ≤ (j : Int) := by omega
       have hj2 : (j : Int) ≤ (n : Int) := by omega
       have hnj : (n = j) = False := eq_false (by omega)
       have HWS : Aside0 (wrap64 ((j : Int) + 2) = (j : Int) + 2) := ⟨w64 (by omega) (by have := HS.out; have := HN.out; have := odd_le s.data.toList; have h3 : s.data.toList.length = s.size := rfl; have := HQ.out; omega)⟩
       have HJN2 := aM HJN
       obtain ⟨w3, hw3⟩ : ∃ x, x = (wr.drew.setCell ⟨W.heap.size, j, none⟩ (.int .u8 126)).setCell ⟨W.heap.size, j + 1, none⟩ (.int .u8 48) := ⟨_, rfl⟩
       have hcp := copy2 wr.drew W.heap.size j n c2 k2 (.int .u8 126) (.int .u8 48) _ (HI2.out _ HBW.out).b0 (HI2.out _ HBW.out).b1 (blk_drew HROW.out) rfl rfl (by rw [row_size _ _ (by rw [← HJ.out]; omega)]; omega) HJN
       rw [← hw3] at hcp
       have HROW3 : Aside0 (w3.heap[W.heap.size]? = some (.cells (row (eL (s.data.toList.take (i + 1))) n) 5 (0, 0))) := ⟨by
        have h1 := row_put (eL (s.data.toList.take i)) n 126 (by rw [← HJ.out]; omega)
        have h2 := row_put (eL (s.data.toList.take i) ++ [126]) n 48 (by rw [List.length_append, ← HJ.out, List.length_singleton]; omega)
        rw [List.length_append, ← HJ.out, List.length_singleton] at h2
        rw [← HJ.out] at h1
        rw [hw3, HNX.out, HBB.out, HE.out]
        refine blk_put (blk_put (blk_drew HROW.out) j (.int .u8 126) h1) (j + 1) (.int .u8 48) (h2.trans ?_)
        rw [List.append_assoc]
        rfl⟩
       have HBW3 : Aside0 (Below W.heap.size W w3) := ⟨by
        rw [hw3]
        exact below_set (below_set (below_drew HBW.out) (Nat.le_refl _)) (Nat.le_refl _)⟩
       clear hw3 HJN
       go_upto_region 28 with (fail)
       go_region
       go_wp2
       go_roundg (s.size - (i + 1))
       case measure => have := HT.out; omega
       case rel => exact ⟨i + 1, j + 2, by rw [HW1.out]; rfl, by rw [HWS.out]; rfl, by have := HT.out; omega, rfl, ⟨by rw [HNX.out, HBB.out, HE.out, List.length_append, ← HJ.out]; rfl⟩, HROW3, HBW3⟩
      ·have hc := no_at (HI2.out _ HBW.out) b h1 h2
       have h256 : ((b.toNat : Nat) : Int) < 256 := by have := b.toNat_lt; omega
       have HE : Aside0 (e1 b = [b]) := ⟨by simp [e1, h1, h2]⟩
       have hj1 : (0 : Int) ≤ (j : Int) := by omega
       have hj2 : (j : Int) < (n : Int) := by have h3 := HFIT.out; rw [HE.out] at h3; simp at h3; omega
       obtain ⟨x, hx⟩ := Option.isSome_iff_exists.1 (row_some (eL (s.data.toList.take i)) n j (by rw [← HJ.out]; omega) (by omega))
       have hcb := (blk_cell HROW.out j).trans hx
       have hfb := blk_frozen HROW.out j
       have HWS : Aside0 (wrap64 ((j : Int) + 1) = (j : Int) + 1) := ⟨w64 (by omega) (by have := HS.out; have := HN.out; have := odd_le s.data.toList; have h3 : s.data.toList.length = s.size := rfl; have := HQ.out; omega)⟩
       have HJN := aM hj2
       clear h1 h2 hx
       go_wp2
       go_roundg (s.size - (i + 1))
       case measure => have := HT.out; omega
       case rel =>
        refine ⟨i + 1, j + 1, by rw [HW1.out]; rfl, by rw [HWS.out]; rfl, by have := HT.out; omega, rfl, ⟨by rw [HNX.out, HBB.out, HE.out, List.length_append, ← HJ.out]; rfl⟩, ⟨?_⟩, ⟨below_set HBW.out (Nat.le_refl _)⟩⟩
        rw [HNX.out, HBB.out, HE.out]
        have h1 := row_put (eL (s.data.toList.take i)) n b (by have := HJN.out; rw [← HJ.out]; omega)
        rw [← HJ.out] at h1
        exact blk_put HROW.out j _ h1
     ·obtain rfl : i = s.size := by omega
      have hall : s.data.toList.take s.size = s.data.toList := List.take_of_length_le (Nat.le_refl _)
      rw [hall] at HROW
      have hel : (eL s.data.toList).length = n := by rw [eL_len, HN.out, HQ.out]; rfl
      have hcv := run_convert_bytes_back (P := Tryd.prog) wr 33 9 5 ⟨W.heap.size, 0, none⟩ n (eL s.data.toList) Tryd.underlying33 Tryd.underlying5 Tryd.underlying9 (by
       intro k hk
       have hadd : (⟨W.heap.size, 0, none⟩ : Addr).add k = ⟨W.heap.size, k, none⟩ := add_plain _ _
       rw [hadd]
       exact (blk_cell HROW.out k).trans (row_at _ _ k hk))
      rw [hel] at hcv
      clear hall hel hlt
      go_wp2
      go_ret
      exact ⟨rfl, below_two HWR.out (HWW.out ▸ HBW.out)⟩
/-- What Replace answers. -/
theorem rep_calls (R T c1 c2 k1 k2 : Nat) (s : ByteArray) (w : World) (h : IsR w R T c1 c2 k1 k2) (hs : s.size ≤ 1048576) :
  Calls Tryd.prog 99 #[.pointer (some ⟨R, 0, none⟩), .string s] w fun e w' => e = .returned (.string (esc s)) ∧ Below w.heap.size w w' := by
 by_cases h16 : s.size < 16
 ·exact rep_short R T c1 c2 k1 k2 s w h h16
 ·exact rep_long R T c1 c2 k1 k2 s w h (by omega) hs
end Go.Proofs.YtdlkmnohmdnogaaDoor.Bsr
end

section
namespace Go.Proofs.YtdlkmnohmdnogaaDoor.Esw
set_option linter.unusedVariables false
set_option linter.unusedSimpArgs false
open Go.RowKit Go.Lib Go.Proofs.YtdlkmnohmdnogaaDoorW.PrintWords Go.Proofs.YtdlkmnohmdnogaaDoorW.PrintLast Go.Proofs.YtdlkmnohmdnogaaDoorW.PrintMore Go.Proofs.YtdlkmnohmdnogaaDoor.Bld Go.Proofs.YtdlkmnohmdnogaaDoor.Rep Go.Proofs.YtdlkmnohmdnogaaDoor.Esc Go.Proofs.YtdlkmnohmdnogaaDoor.Bsr
theorem nil_ahead (a : Addr) (w : World) : (nilAhead 252 75 (.pointer (some a)) "Replace").run Tryd.prog w = .ok (some false) w := by kernel_rfl
theorem method_rep (a : Addr) (w : World) : (method 252 75 (.pointer (some a)) "Replace").run Tryd.prog w = .ok (99, .pointer (some a)) w := by kernel_rfl

set_option maxRecDepth 100000 in
set_option maxHeartbeats 2000000 in
theorem replace_calls (b k cc : Nat) (s : ByteArray) (w : World) (hb : w.heap[b]? = some (.cells #[.int .u32 0, .int .i32 0, .int .u32 0, .nilIface, .slice (some ⟨k, 0, none⟩) 4 cc] 50 (0, 0))) (hk : Four w k) (hne : b ≠ k) (hs : s.size ≤ 1048576) :
  Calls Tryd.prog 15 #[.pointer (some ⟨b, 0, none⟩), .string s] w fun e w' => e = .returned (.string (esc s)) ∧ Below b w w' := by
 have HB := aM hb
 have HK := aM hk
 have HN := aM hne
 have HS := aM hs
 have hmf : ∀ (fn : Fn) (first cap : Array Value) (w : World), (Instr.makeFunc fn first cap).run Tryd.prog w = .ok (.func fn first cap) w := fun _ _ _ _ => rfl
 have hna := nil_ahead
 have hme := method_rep
 clear hb hk hne hs
 go_enter Tryd.func15, Tryd.ntmps15
 go_wp2_with (first | (go_at_call 19; go_loud ((with_reducible refine (do_calls b k cc _ HB.out HK.out HN.out).mono ?_); rintro e w2 ⟨rfl, R, T, c1, c2, k1, k2, hR, hD, hd⟩; have HR2 := aM hR; have HD2 := aM hd; have HB2 := aM hD.blk; clear hR hD hd; have c3 := (blk_cell HB2.out 3).trans rfl)) | (go_at_call 99; go_loud ((with_reducible refine (rep_calls R T c1 c2 k1 k2 s _ HR2.out HS.out).mono ?_); rintro e w3 ⟨rfl, hd⟩; have HD3 := aM hd; clear hd)))
 go_ret
 exact ⟨rfl, HD2.out.trans (HD3.out.mono (Nat.le_of_lt (blk_lt HB2.out)))⟩
set_option maxRecDepth 100000 in
set_option maxHeartbeats 2000000 in
theorem escaped_calls (s : ByteArray) (w : World) (hs : s.size ≤ 1048576) :
  Calls Tryd.prog 16 #[.string s] w fun e w' => e = .returned (.string (esc s)) ∧ Below w.heap.size w w' := by
 have HS := aM hs
 have H4 : Aside0 (Four (w.alloc (.cells #[.string ⟨#[126]⟩, .string ⟨#[126, 48]⟩, .string ⟨#[47]⟩, .string ⟨#[126, 49]⟩] 9)) w.heap.size) := ⟨⟨(blk_cell (blk_new w _) 0).trans rfl, (blk_cell (blk_new w _) 1).trans rfl, (blk_cell (blk_new w _) 2).trans rfl, (blk_cell (blk_new w _) 3).trans rfl⟩⟩
 have H1 : Aside0 (Below w.heap.size w (w.alloc (.cells #[.string ⟨#[126]⟩, .string ⟨#[126, 48]⟩, .string ⟨#[47]⟩, .string ⟨#[126, 49]⟩] 9))) := ⟨below_alloc (Below.refl _ _) _⟩
 clear hs
 go_enter Tryd.func16, Tryd.ntmps16
 go_wp2_with (first | (go_at_call 14; go_loud ((with_reducible refine (new_calls w.heap.size _ H4.out).mono ?_); rintro e w2 ⟨b, k, cc, rfl, hb, hk, hne, hle, hd⟩; have HB2 := aM hb; have HK2 := aM hk; have HN2 := aM hne; have HD2 := aM (below_step H1.out hd); have HL2 := aM (Nat.le_trans H1.out.size hle); clear hb hk hne hle hd)) | (go_at_call 15; go_loud ((with_reducible refine (replace_calls b k cc s _ HB2.out HK2.out HN2.out HS.out).mono ?_); rintro e w3 ⟨rfl, hd⟩; have HD3 := aM hd; clear hd)))
 go_ret
 exact ⟨rfl, HD2.out.trans (HD3.out.mono HL2.out)⟩
end Go.Proofs.YtdlkmnohmdnogaaDoor.Esw
end
