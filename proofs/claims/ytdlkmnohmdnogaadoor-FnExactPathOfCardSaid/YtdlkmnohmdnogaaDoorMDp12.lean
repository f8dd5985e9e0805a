/- Several texts in one: what the claim's last text rests on. No conditions. -/
import Derived.Test.YtdlkmnohmdnogaaDoorMDp11
import Derived.Deep.MidRow
section
namespace Go.Proofs.YtdlkmnohmdnogaaDoor.Gnc
set_option linter.unusedVariables false
set_option linter.unusedSimpArgs false
open Go.RowKit Go.Lib Go.Proofs.YtdlkmnohmdnogaaDoorW.PrintWords Go.Proofs.YtdlkmnohmdnogaaDoorW.PrintLast Go.Proofs.YtdlkmnohmdnogaaDoorW.PrintMore Go.Proofs.YtdlkmnohmdnogaaDoor.Pre Go.Proofs.YtdlkmnohmdnogaaDoor.Gna Go.Proofs.YtdlkmnohmdnogaaDoor.Gnb
/-- The replacer's cells: the root's table, the size, the numbers of the bytes. -/
def nums (f : Nat → Int) : Array Value := ((List.range 256).map (fun i => Value.int .u8 (f i))).toArray
def gen (tb : Value) (ts : Int) (f : Nat → Int) : Array Value := #[.string ⟨#[]⟩, .int .i64 0, .string ⟨#[]⟩, .pointer none, tb, .int .i64 ts] ++ nums f
def upd (f : Nat → Int) (i : Nat) (v : Int) : Nat → Int := fun j => if j = i then v else f j
theorem nums_size (f : Nat → Int) : (nums f).size = 256 := by simp [nums]
theorem nums_get (f : Nat → Int) (i : Nat) (h : i < 256) : (nums f)[i]? = some (.int .u8 (f i)) := by
 unfold nums
 simp [h]
theorem gen_map (tb : Value) (ts : Int) (f : Nat → Int) (i : Nat) (h : i < 256) : (gen tb ts f)[6 + i]? = some (.int .u8 (f i)) := by
 unfold gen
 rw [Array.getElem?_append_right (show (#[.string ⟨#[]⟩, .int .i64 0, .string ⟨#[]⟩, .pointer none, tb, .int .i64 ts] : Array Value).size ≤ 6 + i from Nat.le_add_right 6 i)]
 show (nums f)[6 + i - 6]? = _
 rw [Nat.add_sub_cancel_left]
 exact nums_get f i h
theorem gen_head (tb : Value) (ts : Int) (f : Nat → Int) (i : Nat) (h : i < 6) : (gen tb ts f)[i]? = (#[.string ⟨#[]⟩, .int .i64 0, .string ⟨#[]⟩, .pointer none, tb, .int .i64 ts] : Array Value)[i]? := by
 unfold gen
 rw [Array.getElem?_append_left h]
theorem gen_size (tb : Value) (ts : Int) (f : Nat → Int) : (gen tb ts f).size = 262 := by
 unfold gen
 rw [Array.size_append, nums_size]
 rfl
theorem gen_put (tb : Value) (ts : Int) (f : Nat → Int) (i : Nat) (v : Int) (h : i < 256) : (gen tb ts f).setIfInBounds (6 + i) (.int .u8 v) = gen tb ts (upd f i v) := by
 apply Array.ext_getElem?
 intro j
 by_cases hj : j = 6 + i
 ·subst hj
  rw [Array.getElem?_setIfInBounds_self_of_lt (by rw [gen_size]; omega), gen_map _ _ _ _ h]
  simp [upd]
 ·rw [Array.getElem?_setIfInBounds_ne (fun e => hj e.symm)]
  by_cases h6 : j < 6
  ·rw [gen_head _ _ _ _ h6, gen_head _ _ _ _ h6]
  ·obtain ⟨m, rfl⟩ : ∃ m, j = 6 + m := ⟨j - 6, by omega⟩
   by_cases hm : m < 256
   ·rw [gen_map _ _ _ _ hm, gen_map _ _ _ _ hm]
    have : m ≠ i := fun e => hj (by rw [e])
    simp [upd, this]
   ·rw [Array.getElem?_eq_none (by rw [gen_size]; omega), Array.getElem?_eq_none (by rw [gen_size]; omega)]
theorem gen_ts (tb : Value) (ts ts' : Int) (f : Nat → Int) : (gen tb ts f).setIfInBounds 5 (.int .i64 ts') = gen tb ts' f := by
 unfold gen
 rw [Array.setIfInBounds_append_left (show 5 < (#[.string ⟨#[]⟩, .int .i64 0, .string ⟨#[]⟩, .pointer none, tb, .int .i64 ts] : Array Value).size from (by decide : 5 < 6))]
 rfl
theorem gen_tb (tb tb' : Value) (ts : Int) (f : Nat → Int) : (gen tb ts f).setIfInBounds 4 tb' = gen tb' ts f := by
 unfold gen
 rw [Array.setIfInBounds_append_left (show 4 < (#[.string ⟨#[]⟩, .int .i64 0, .string ⟨#[]⟩, .pointer none, tb, .int .i64 ts] : Array Value).size from (by decide : 4 < 6))]
 rfl
theorem zero_run (w : World) : (zeroValue 90).run Tryd.prog w = .ok (.agg (gen (.slice none 0 0) 0 (fun _ => 0))) w :=
 (zero_of_info (P := Tryd.prog) (t := 90) (v := .agg (gen (.slice none 0 0) 0 (fun _ => 0))) (n := 262) (by kernel_rfl)).1 w
/-- Which bytes stand in the marks. -/
def f1 : Nat → Int := upd (upd (upd (upd (fun _ => 0) 126 1) 48 1) 126 1) 49 1
theorem f1_at (i : Nat) : f1 i = if i = 48 ∨ i = 49 ∨ i = 126 then 1 else 0 := by
 unfold f1 upd
 by_cases h1 : i = 49
 ·simp [h1]
 ·by_cases h2 : i = 126
  ·simp [h2]
  ·by_cases h3 : i = 48
   ·simp [h3]
   ·simp [h1, h2, h3]

theorem index_run (c : Array Value) (i : Nat) (x : Int) (hi : i < 256) (h : c[i]? = some (.int .u8 x)) (W : World) : (Instr.index 69 (.agg c) (.int .i64 (i : Int))).run Tryd.prog W = .ok (.int .u8 x) W := by
 have h1 : (0 : Int) ≤ (i : Int) ∧ (i : Int) < 256 := by omega
 simp [Instr.index, asIntOf, run_underlying Tryd.underlying69, Tryd.sizeOf5, Tryd.isAgg5, part, h1, h, Result.andThen]
 exact fun h2 => absurd hi (by omega)
/-- How many bytes below i stand in the marks. -/
def cnt (i : Nat) : Nat := (if 48 < i then 1 else 0) + (if 49 < i then 1 else 0) + (if 126 < i then 1 else 0)
theorem cnt_next (i : Nat) : ((cnt (i + 1) : Nat) : Int) = (cnt i : Int) + f1 i := by
 rw [f1_at]
 unfold cnt
 by_cases h1 : i = 48
 ·subst h1; rfl
 ·by_cases h2 : i = 49
  ·subst h2; rfl
  ·by_cases h3 : i = 126
   ·subst h3; rfl
   ·rw [if_neg (show ¬ (i = 48 ∨ i = 49 ∨ i = 126) by omega)]
    have e1 : (48 < i + 1) = (48 < i) := by apply propext; omega
    have e2 : (49 < i + 1) = (49 < i) := by apply propext; omega
    have e3 : (126 < i + 1) = (126 < i) := by apply propext; omega
    simp only [e1, e2, e3]
    omega
/-- The numbers when the bytes below i are done. -/
def num (i : Nat) : Nat → Int := fun j => if j < i then (mp j : Int) else f1 j
theorem num_zero : num 0 = f1 := by
 funext j
 simp [num]
theorem num_next (i : Nat) : num (i + 1) = upd (num i) i (mp i : Int) := by
 funext j
 unfold num upd
 by_cases h : j = i
 ·subst h
  simp
 ·have e : (j < i + 1) = (j < i) := by apply propext; omega
  simp [h, e]
theorem gen_all (tb : Value) (ts : Int) : ∀ i, i < 256 → (gen tb ts (num 256))[6 + i]? = some (.int .u8 (mp i : Int)) := fun i hi => by
 rw [gen_map _ _ _ i hi]
 simp [num, hi]
theorem cnt_le (i : Nat) : cnt i ≤ 3 := by
 unfold cnt
 split <;> split <;> split <;> omega

/-- The replacer that takes the marks away. -/
structure IsG (w : World) (G T0 N1 T1 N2 N3 : Nat) : Prop where
 m : IsM w G T0
 t0 : w.heap[T0]? = some (.cells #[.pointer none, .pointer none, .pointer (some ⟨N1, 0, none⟩)] 85 (0, 0))
 n1 : Nd w N1 ⟨#[]⟩ 0 ⟨#[]⟩ (.pointer none) (.slice (some ⟨T1, 0, none⟩) 3 3)
 t1 : w.heap[T1]? = some (.cells #[.pointer (some ⟨N2, 0, none⟩), .pointer (some ⟨N3, 0, none⟩), .pointer none] 85 (0, 0))
 n2 : Nd w N2 ⟨#[126]⟩ 4 ⟨#[]⟩ (.pointer none) (.slice none 0 0)
 n3 : Nd w N3 ⟨#[47]⟩ 2 ⟨#[]⟩ (.pointer none) (.slice none 0 0)

set_option maxHeartbeats 4000000 in
set_option maxRecDepth 100000 in
theorem make_calls (k : Nat) (w : World) (h0 : w.cell? ⟨k, 0, none⟩ = some (.string ⟨#[126, 48]⟩)) (h1 : w.cell? ⟨k, 1, none⟩ = some (.string ⟨#[126]⟩)) (h2 : w.cell? ⟨k, 2, none⟩ = some (.string ⟨#[126, 49]⟩)) (h3 : w.cell? ⟨k, 3, none⟩ = some (.string ⟨#[47]⟩)) (cc : Nat) :
  Calls Tryd.prog 36 #[.slice (some ⟨k, 0, none⟩) 4 cc] w fun e w' => ∃ G T0 N1 T1 N2 N3, e = .returned (.pointer (some ⟨G, 0, none⟩)) ∧ IsG w' G T0 N1 T1 N2 N3 ∧ (w.heap.size ≤ G ∧ w.heap.size ≤ T0 ∧ w.heap.size ≤ N1 ∧ w.heap.size ≤ T1 ∧ w.heap.size ≤ N2 ∧ w.heap.size ≤ N3) ∧ Below w.heap.size w w' := by
 have H0 := aM h0
 have H1 := aM h1
 have H2 := aM h2
 have H3 := aM h3
 have hz := zero_run
 clear h0 h1 h2 h3
 go_enter Tryd.func36, Tryd.ntmps36
 go_upto_region 2 with (fail)
 obtain ⟨w0, hw0⟩ : ∃ x, x = w.alloc (.cells (gen (.slice none 0 0) 0 (fun _ => 0)) 90) := ⟨_, rfl⟩
 rw [← hw0]
 have HG0 : Aside0 (w0.heap[w.heap.size]? = some (.cells (gen (.slice none 0 0) 0 (fun _ => 0)) 90 (0, 0))) := ⟨by rw [hw0]; exact blk_new w _⟩
 have HB0 : Aside0 (Below w.heap.size w w0) := ⟨by rw [hw0]; exact below_alloc (Below.refl _ _) _⟩
 obtain ⟨G, hG⟩ : ∃ x, x = w.heap.size := ⟨_, rfl⟩
 have HGE := aM hG
 rw [← hG] at HG0 HB0
 rw [← hG]
 clear hw0 hG hz
 have e00 : ∀ h, ((⟨#[126, 48]⟩ : ByteArray)[0]'h).toNat = 126 := fun _ => rfl
 have e01 : ∀ h, ((⟨#[126, 48]⟩ : ByteArray)[1]'h).toNat = 48 := fun _ => rfl
 have e10 : ∀ h, ((⟨#[126, 49]⟩ : ByteArray)[0]'h).toNat = 126 := fun _ => rfl
 have e11 : ∀ h, ((⟨#[126, 49]⟩ : ByteArray)[1]'h).toNat = 49 := fun _ => rfl
 have k00 := (HB0.out.cell (by rw [HGE.out]; exact World.block_lt_of_cell? w _ H0.out)).trans H0.out
 go_wp2
 refine wp_loop_rounds 3 ?_
 rw [rounds_succ]
 go_wp2
 refine wp_loop_rounds 3 ?_
 rw [rounds_succ]
 have c0 : w0.cell? ⟨G, 132, none⟩ = some (.int .u8 ((fun _ => 0) 126)) := (blk_cell HG0.out 132).trans (gen_map _ _ (fun _ => 0) 126 (by decide))
 have z0 : w0.frozen? ⟨G, 132, none⟩ = false := blk_frozen HG0.out 132
 go_upto_region 9 with (fail)
 go_still_tail 7, (by kernel_rfl)
 change wpList _ _ _ _ _ w0.drew
 go_wp2
 obtain ⟨w1, hw1⟩ : ∃ x, x = (w0.setCell ⟨G, 132, none⟩ (.int .u8 1)).drew := ⟨_, rfl⟩
 rw [← hw1]
 have HG1 : Aside0 (w1.heap[G]? = some (.cells (gen (.slice none 0 0) 0 (upd (fun _ => 0) 126 1)) 90 (0, 0))) := ⟨by rw [hw1]; exact blk_put HG0.out 132 _ (gen_put _ _ (fun _ => 0) 126 1 (by decide))⟩
 have HB1 : Aside0 (Below G w w1) := ⟨by rw [hw1]; exact (HB0.out.setCell (p := ⟨G, 132, none⟩) (Nat.le_refl _) _).drew⟩
 clear hw1 c0 z0
 rw [rounds_succ]
 have c1 : w1.cell? ⟨G, 54, none⟩ = some (.int .u8 ((upd (fun _ => 0) 126 1) 48)) := (blk_cell HG1.out 54).trans (gen_map _ _ (upd (fun _ => 0) 126 1) 48 (by decide))
 have z1 : w1.frozen? ⟨G, 54, none⟩ = false := blk_frozen HG1.out 54
 go_upto_region 9 with (fail)
 go_still_tail 7, (by kernel_rfl)
 change wpList _ _ _ _ _ w1.drew
 go_wp2
 obtain ⟨w2, hw2⟩ : ∃ x, x = (w1.setCell ⟨G, 54, none⟩ (.int .u8 1)).drew := ⟨_, rfl⟩
 rw [← hw2]
 have HG2 : Aside0 (w2.heap[G]? = some (.cells (gen (.slice none 0 0) 0 (upd (upd (fun _ => 0) 126 1) 48 1)) 90 (0, 0))) := ⟨by rw [hw2]; exact blk_put HG1.out 54 _ (gen_put _ _ (upd (fun _ => 0) 126 1) 48 1 (by decide))⟩
 have HB2 : Aside0 (Below G w w2) := ⟨by rw [hw2]; exact (HB1.out.setCell (p := ⟨G, 54, none⟩) (Nat.le_refl _) _).drew⟩
 clear hw2 c1 z1
 rw [rounds_succ]
 go_wp2
 have k20 := (HB2.out.cell (by rw [HGE.out]; exact World.block_lt_of_cell? w _ H2.out)).trans H2.out
 rw [rounds_succ]
 go_wp2
 refine wp_loop_rounds 3 ?_
 rw [rounds_succ]
 have c2 : w2.cell? ⟨G, 132, none⟩ = some (.int .u8 ((upd (upd (fun _ => 0) 126 1) 48 1) 126)) := (blk_cell HG2.out 132).trans (gen_map _ _ (upd (upd (fun _ => 0) 126 1) 48 1) 126 (by decide))
 have z2 : w2.frozen? ⟨G, 132, none⟩ = false := blk_frozen HG2.out 132
 go_upto_region 9 with (fail)
 go_still_tail 7, (by kernel_rfl)
 change wpList _ _ _ _ _ w2.drew
 go_wp2
 obtain ⟨w3, hw3⟩ : ∃ x, x = (w2.setCell ⟨G, 132, none⟩ (.int .u8 1)).drew := ⟨_, rfl⟩
 rw [← hw3]
 have HG3 : Aside0 (w3.heap[G]? = some (.cells (gen (.slice none 0 0) 0 (upd (upd (upd (fun _ => 0) 126 1) 48 1) 126 1)) 90 (0, 0))) := ⟨by rw [hw3]; exact blk_put HG2.out 132 _ (gen_put _ _ (upd (upd (fun _ => 0) 126 1) 48 1) 126 1 (by decide))⟩
 have HB3 : Aside0 (Below G w w3) := ⟨by rw [hw3]; exact (HB2.out.setCell (p := ⟨G, 132, none⟩) (Nat.le_refl _) _).drew⟩
 clear hw3 c2 z2
 rw [rounds_succ]
 have c3 : w3.cell? ⟨G, 55, none⟩ = some (.int .u8 ((upd (upd (upd (fun _ => 0) 126 1) 48 1) 126 1) 49)) := (blk_cell HG3.out 55).trans (gen_map _ _ (upd (upd (upd (fun _ => 0) 126 1) 48 1) 126 1) 49 (by decide))
 have z3 : w3.frozen? ⟨G, 55, none⟩ = false := blk_frozen HG3.out 55
 go_upto_region 9 with (fail)
 go_still_tail 7, (by kernel_rfl)
 change wpList _ _ _ _ _ w3.drew
 go_wp2
 obtain ⟨w4, hw4⟩ : ∃ x, x = (w3.setCell ⟨G, 55, none⟩ (.int .u8 1)).drew := ⟨_, rfl⟩
 rw [← hw4]
 have HG4 : Aside0 (w4.heap[G]? = some (.cells (gen (.slice none 0 0) 0 (upd (upd (upd (upd (fun _ => 0) 126 1) 48 1) 126 1) 49 1)) 90 (0, 0))) := ⟨by rw [hw4]; exact blk_put HG3.out 55 _ (gen_put _ _ (upd (upd (upd (fun _ => 0) 126 1) 48 1) 126 1) 49 1 (by decide))⟩
 have HB4 : Aside0 (Below G w w4) := ⟨by rw [hw4]; exact (HB3.out.setCell (p := ⟨G, 55, none⟩) (Nat.le_refl _) _).drew⟩
 clear hw4 c3 z3
 rw [rounds_succ]
 go_wp2
 rw [rounds_succ]
 clear e00 e01 e10 e11 k00 k20
 have HG4' : Aside0 (w4.heap[G]? = some (.cells (gen (.slice none 0 0) 0 f1) 90 (0, 0))) := HG4
 obtain ⟨c, hc⟩ : ∃ c, c = nums f1 := ⟨_, rfl⟩
 have HCG : Aside0 (∀ i, i < 256 → c[i]? = some (.int .u8 (f1 i))) := ⟨fun i hi => by rw [hc]; exact nums_get f1 i hi⟩
 have HRA : Aside0 (w4.rangeAt G 6 c.toList) := ⟨fun j v hv => by
  have hj := (List.getElem?_eq_some_iff.1 hv).1
  have hj : j < 256 := by rw [Array.length_toList, hc, nums_size] at hj; exact hj
  rw [Array.getElem?_toList, HCG.out j hj] at hv
  injection hv with hv
  rw [← hv]
  exact (blk_cell HG4'.out (6 + j)).trans (gen_map _ _ _ j hj)⟩
 have HIN : Aside0 ((Tryd.prog.info? 69).map (·.size) = some c.toList.length) := ⟨by rw [Array.length_toList, hc, nums_size]; kernel_rfl⟩
 clear hc
 go_upto_region 10 with (fail)
 go_upto_region 11 with (refine wpList_load_mid rfl 69 (.tmp 39) rfl G 6 rfl c.toList _ HRA.out Tryd.underlying69 rfl HIN.out ?_)
 go_loopg [41] 256 (fun kq v41 w' => ∃ i : Nat, v41 = .int .i64 (i : Int) ∧ i ≤ 256 ∧ kq = 256 - i ∧ Aside0 (w'.heap[G]? = some (.cells (gen (.slice none 0 0) (cnt i : Int) f1) 90 (0, 0))) ∧ Aside0 (Below G w w'))
 case atStart => exact ⟨0, rfl, by omega, by omega, ⟨HG4'.out⟩, HB4⟩
 case round =>
  obtain ⟨i, rfl, hi, hk, HGL, HBL⟩ := hrel
  by_cases hlt : i < 256
  ·obtain ⟨x, hx⟩ : ∃ x, x = f1 i := ⟨_, rfl⟩
   have hix := fun W => index_run c i (f1 i) hlt (HCG.out i hlt) W
   rw [← hx] at hix
   have hx0 : 0 ≤ x ∧ x ≤ 1 := by rw [hx, f1_at]; split <;> omega
   have HCN : Aside0 ((cnt i : Int) + x = ((cnt (i + 1) : Nat) : Int)) := ⟨by rw [cnt_next, hx]⟩
   have hcl := cnt_le i
   have HLT := aM hlt
   have p1 : (0 : Int) ≤ (i : Int) := by omega
   have q1 : (i : Int) < 256 := by omega
   have c5 : wr.cell? ⟨G, 5, none⟩ = some (.int .i64 (cnt i : Int)) := (blk_cell HGL.out 5).trans ((gen_head _ _ _ 5 (by decide)).trans rfl)
   have z5 : wr.frozen? ⟨G, 5, none⟩ = false := blk_frozen HGL.out 5
   have HW1 : Aside0 (wrap64 ((i : Int) + 1) = (i : Int) + 1) := ⟨w64 (by omega) (by omega)⟩
   have hwx : wrap64 x = x := w64 (by omega) (by omega)
   have hws : wrap64 ((cnt i : Int) + x) = (cnt i : Int) + x := w64 (by clear hwx; omega) (by clear hwx; omega)
   clear hx hx0 hcl p1 hlt
   go_wp2
   go_roundg (256 - (i + 1))
   case measure => have := HLT.out; clear hwx hws; omega
   case rel => exact ⟨i + 1, by first | rfl | (rw [HW1.out]; rfl), by have := HLT.out; clear hwx hws; omega, rfl, ⟨by rw [← HCN.out]; exact blk_put HGL.out 5 _ (gen_ts _ _ _ _)⟩, ⟨HBL.out.setCell (p := ⟨G, 5, none⟩) (Nat.le_refl _) _⟩⟩
  ·obtain rfl : i = 256 := by omega
   have HG5 : Aside0 (wr.heap[G]? = some (.cells (gen (.slice none 0 0) 3 (num 0)) 90 (0, 0))) := ⟨by rw [num_zero]; exact HGL.out⟩
   have HRA2 : Aside0 (wr.rangeAt G 6 c.toList) := ⟨fun j v hv => by
    have hj := (List.getElem?_eq_some_iff.1 hv).1
    have hj : j < 256 := by
     have h := HRA.out j v hv
     rcases Nat.lt_or_ge j 256 with h1 | h1
     ·exact h1
     ·have h2 := HIN.out
      have h3 : (Tryd.prog.info? 69).map (·.size) = some 256 := by kernel_rfl
      rw [h3] at h2
      injection h2 with h2
      omega
    rw [Array.getElem?_toList, HCG.out j hj] at hv
    injection hv with hv
    rw [← hv]
    exact (blk_cell HGL.out (6 + j)).trans (gen_map _ _ _ j hj)⟩
   clear hlt hi hk
   go_upto_region 16 with (fail)
   go_upto_region 17 with (refine wpList_load_mid rfl 69 (.tmp 56) rfl G 6 rfl c.toList _ HRA2.out Tryd.underlying69 rfl HIN.out ?_)
   obtain ⟨w5, hw5⟩ : ∃ x, x = wr := ⟨_, rfl⟩
   rw [← hw5] at HG5 HBL ⊢
   clear hw5 HGL HRA2
   go_loopg [9, 58] 256 (fun kq v9 v58 w' => ∃ i : Nat, v58 = .int .i64 (i : Int) ∧ v9 = .int .u8 (cnt i : Int) ∧ i ≤ 256 ∧ kq = 256 - i ∧ Aside0 (w'.heap[G]? = some (.cells (gen (.slice none 0 0) 3 (num i)) 90 (0, 0))) ∧ Aside0 (Below G w w'))
   case atStart => exact ⟨0, rfl, rfl, by omega, by omega, HG5, HBL⟩
   case round =>
    obtain ⟨i, rfl, rfl, hi, hk, HGM, HBM⟩ := hrel
    by_cases hlt : i < 256
    ·have HLT := aM hlt
     by_cases h48 : i = 48
     ·subst h48
      have HK := aM hk
      have hix : ∀ W : World, (Instr.index 69 (.agg c) (.int .i64 48)).run Tryd.prog W = .ok (.int .u8 1) W := fun W => index_run c 48 1 (by decide) (by rw [HCG.out 48 (by decide)]; rfl) W
      have ci : wr.cell? ⟨G, 54, none⟩ = some (.int .u8 (num 48 48)) := (blk_cell HGM.out 54).trans (gen_map _ _ _ 48 (by decide))
      have zi : wr.frozen? ⟨G, 54, none⟩ = false := blk_frozen HGM.out 54
      have HNX : Aside0 (num 49 = upd (num 48) 48 0) := ⟨num_next 48⟩
      have ecn : cnt 48 = 0 := rfl
      clear hlt hi hk
      go_wp2
      go_roundg (256 - 49)
      case measure => have := HK.out; omega
      case rel => exact ⟨49, rfl, rfl, by decide, rfl, ⟨by rw [HNX.out]; exact blk_put HGM.out 54 _ (gen_put _ _ _ 48 0 (by decide))⟩, ⟨HBM.out.setCell (p := ⟨G, 54, none⟩) (Nat.le_refl _) _⟩⟩
     ·by_cases h49 : i = 49
      ·subst h49
       have HK := aM hk
       have hix : ∀ W : World, (Instr.index 69 (.agg c) (.int .i64 49)).run Tryd.prog W = .ok (.int .u8 1) W := fun W => index_run c 49 1 (by decide) (by rw [HCG.out 49 (by decide)]; rfl) W
       have ci : wr.cell? ⟨G, 55, none⟩ = some (.int .u8 (num 49 49)) := (blk_cell HGM.out 55).trans (gen_map _ _ _ 49 (by decide))
       have zi : wr.frozen? ⟨G, 55, none⟩ = false := blk_frozen HGM.out 55
       have HNX : Aside0 (num 50 = upd (num 49) 49 1) := ⟨num_next 49⟩
       have ecn : cnt 49 = 1 := rfl
       clear hlt hi hk
       go_wp2
       go_roundg (256 - 50)
       case measure => have := HK.out; omega
       case rel => exact ⟨50, rfl, rfl, by decide, rfl, ⟨by rw [HNX.out]; exact blk_put HGM.out 55 _ (gen_put _ _ _ 49 1 (by decide))⟩, ⟨HBM.out.setCell (p := ⟨G, 55, none⟩) (Nat.le_refl _) _⟩⟩
      ·by_cases h126 : i = 126
       ·subst h126
        have HK := aM hk
        have hix : ∀ W : World, (Instr.index 69 (.agg c) (.int .i64 126)).run Tryd.prog W = .ok (.int .u8 1) W := fun W => index_run c 126 1 (by decide) (by rw [HCG.out 126 (by decide)]; rfl) W
        have ci : wr.cell? ⟨G, 132, none⟩ = some (.int .u8 (num 126 126)) := (blk_cell HGM.out 132).trans (gen_map _ _ _ 126 (by decide))
        have zi : wr.frozen? ⟨G, 132, none⟩ = false := blk_frozen HGM.out 132
        have HNX : Aside0 (num 127 = upd (num 126) 126 2) := ⟨num_next 126⟩
        have ecn : cnt 126 = 2 := rfl
        clear hlt hi hk
        go_wp2
        go_roundg (256 - 127)
        case measure => have := HK.out; omega
        case rel => exact ⟨127, rfl, rfl, by decide, rfl, ⟨by rw [HNX.out]; exact blk_put HGM.out 132 _ (gen_put _ _ _ 126 2 (by decide))⟩, ⟨HBM.out.setCell (p := ⟨G, 132, none⟩) (Nat.le_refl _) _⟩⟩
       ·have hf : f1 i = 0 := by rw [f1_at, if_neg (by omega)]
        have hm : mp i = 3 := by unfold mp; rw [if_neg h48, if_neg h49, if_neg h126]
        have hix := fun W => index_run c i 0 hlt (by rw [HCG.out i hlt, hf]) W
        have HNX : Aside0 (num (i + 1) = upd (num i) i 3) := ⟨by rw [num_next, hm]; rfl⟩
        have HCN : Aside0 ((cnt (i + 1) : Nat) = cnt i) := ⟨by have h := cnt_next i; rw [hf] at h; omega⟩
        have q1 : (i : Int) < 256 := by omega
        have c5 : wr.cell? ⟨G, 5, none⟩ = some (.int .i64 3) := (blk_cell HGM.out 5).trans ((gen_head _ _ _ 5 (by decide)).trans rfl)
        have ci : wr.cell? ⟨G, 6 + i, none⟩ = some (.int .u8 (num i i)) := (blk_cell HGM.out (6 + i)).trans (gen_map _ _ _ i hlt)
        have zi : wr.frozen? ⟨G, 6 + i, none⟩ = false := blk_frozen HGM.out (6 + i)
        have HW1 : Aside0 (wrap64 ((i : Int) + 1) = (i : Int) + 1) := ⟨w64 (by omega) (by omega)⟩
        have HK := aM hk
        clear h48 h49 h126 hf hm hlt hi hk
        go_upto_region 20 with (fail)
        go_still_tail 10, (by kernel_rfl)
        change wpList _ _ _ _ _ wr.drew
        go_wp2
        go_roundg (256 - (i + 1))
        case measure => have := HLT.out; have := HK.out; omega
        case rel => exact ⟨i + 1, by first | rfl | (rw [HW1.out]; rfl), by rw [HCN.out], by have := HLT.out; omega, rfl, ⟨by rw [HNX.out]; exact blk_put HGM.out (6 + i) _ (gen_put _ _ _ i 3 HLT.out)⟩, ⟨(HBM.out.setCell (p := ⟨G, 6 + i, none⟩) (Nat.le_refl _) _).drew⟩⟩
    ·obtain rfl : i = 256 := by omega
     have c5 : wr.cell? ⟨G, 5, none⟩ = some (.int .i64 3) := (blk_cell HGM.out 5).trans ((gen_head _ _ _ 5 (by decide)).trans rfl)
     have hmk : ∀ W : World, (Instr.makeSlice 86 (.int .i64 3) (.int .i64 3)).run Tryd.prog W = .ok (.slice (some ⟨W.heap.size, 0, none⟩) 3 3) (W.alloc (.cells #[.pointer none, .pointer none, .pointer none] 85)) := fun _ => by kernel_rfl
     have c4 : ∀ o, (wr.alloc o).cell? ⟨G, 4, none⟩ = some (.slice none 0 0) := fun o => (blk_cell (blk_alloc HGM.out o) 4).trans ((gen_head _ _ _ 4 (by decide)).trans rfl)
     have z4 : ∀ o, (wr.alloc o).frozen? ⟨G, 4, none⟩ = false := fun o => blk_frozen (blk_alloc HGM.out o) 4
     have HGL := aM (blk_lt HGM.out)
     clear hlt hi hk
     go_upto_region 25 with (fail)
     obtain ⟨w6, hw6⟩ : ∃ x, x = (wr.alloc (.cells #[.pointer none, .pointer none, .pointer none] 85)).setCell ⟨G, 4, none⟩ (.slice (some ⟨wr.heap.size, 0, none⟩) 3 3) := ⟨_, rfl⟩
     rw [← hw6]
     have HB6 : Aside0 (Below G w w6) := ⟨by rw [hw6]; exact (HBM.out.alloc (Nat.le_of_lt HGL.out) _).setCell (p := ⟨G, 4, none⟩) (Nat.le_refl _) _⟩
     have HG6 : Aside0 (w6.heap[G]? = some (.cells (gen (.slice (some ⟨wr.heap.size, 0, none⟩) 3 3) 3 (num 256)) 90 (0, 0))) := ⟨by rw [hw6]; exact blk_put (blk_alloc HGM.out _) 4 _ (gen_tb _ _ _ _)⟩
     have HT6 : Aside0 (w6.heap[wr.heap.size]? = some (.cells #[.pointer none, .pointer none, .pointer none] 85 (0, 0))) := ⟨by rw [hw6]; exact blk_far (blk_new wr _) (Ne.symm (Nat.ne_of_lt HGL.out)) _⟩
     obtain ⟨T0, hT0⟩ : ∃ x, x = wr.heap.size := ⟨_, rfl⟩
     rw [← hT0] at HG6 HT6 HGL
     have HM6 : Aside0 (IsM w6 G T0) := ⟨⟨(blk_cell HG6.out 0).trans ((gen_head _ _ _ 0 (by decide)).trans rfl), (blk_cell HG6.out 1).trans ((gen_head _ _ _ 1 (by decide)).trans rfl), (blk_cell HG6.out 2).trans ((gen_head _ _ _ 2 (by decide)).trans rfl), (blk_cell HG6.out 3).trans ((gen_head _ _ _ 3 (by decide)).trans rfl), (blk_cell HG6.out 4).trans ((gen_head _ _ _ 4 (by decide)).trans rfl), (blk_cell HG6.out 5).trans ((gen_head _ _ _ 5 (by decide)).trans rfl), fun i hi => (blk_cell HG6.out (6 + i)).trans (gen_all _ _ i hi)⟩⟩
     clear hw6 hT0 c5 hmk c4 z4
     have k0 := (HB6.out.cell (by rw [HGE.out]; exact World.block_lt_of_cell? w _ H0.out)).trans H0.out
     have k1 := (HB6.out.cell (by rw [HGE.out]; exact World.block_lt_of_cell? w _ H1.out)).trans H1.out
     have i1 : IntKind.i64.wrap 1 = 1 := rfl
     have i2 : IntKind.i64.wrap 2 = 2 := rfl
     have i3 : IntKind.i64.wrap 3 = 3 := rfl
     have i4 : IntKind.i64.wrap 4 = 4 := rfl
     go_upto_region 26 with (fail)
     refine wp_loop_rounds 3 ?_
     rw [rounds_succ]
     go_upto_region 28 with (fail)
     go_still_tail 17, (by kernel_rfl)
     change wpList _ _ _ _ _ w6.drew
     obtain ⟨w7, hw7⟩ : ∃ x, x = w6.drew := ⟨_, rfl⟩
     rw [← hw7]
     have HB7 : Aside0 (Below G w w7) := ⟨by rw [hw7]; exact HB6.out.drew⟩
     have HT7 : Aside0 (w7.heap[T0]? = some (.cells #[.pointer none, .pointer none, .pointer none] 85 (0, 0))) := ⟨by rw [hw7]; exact HT6.out⟩
     have HM7 : Aside0 (IsM w7 G T0) := ⟨by rw [hw7]; exact HM6.out.later (Below.drew (Below.refl T0 w6)) HGL.out⟩
     clear hw7 k0 k1
     go_wp2_with (go_at_call 47; go_loud ((with_reducible refine (add_one G T0 ⟨#[126]⟩ 4 _ HM7.out HT7.out HGL.out).mono ?_); rintro e w8 ⟨rfl, hm, ⟨N1, N2, l1, l2, ht, hn1, hn2⟩, hb⟩; have HM8 := aM hm; have HT8 := aM ht; have HL1 := aM l1; have HL2 := aM l2; have HN1 := aM hn1; have HN2 := aM hn2; have HB8 := aM (HB7.out.trans (hb.mono (Nat.le_of_lt HGL.out))); clear hm l1 l2 ht hn1 hn2 hb))
     have k2 := (HB8.out.cell (by rw [HGE.out]; exact World.block_lt_of_cell? w _ H2.out)).trans H2.out
     have k3 := (HB8.out.cell (by rw [HGE.out]; exact World.block_lt_of_cell? w _ H3.out)).trans H3.out
     rw [rounds_succ]
     go_upto_region 28 with (fail)
     go_still_tail 17, (by kernel_rfl)
     change wpList _ _ _ _ _ w8.drew
     obtain ⟨w9, hw9⟩ : ∃ x, x = w8.drew := ⟨_, rfl⟩
     rw [← hw9]
     have HB9 : Aside0 (Below G w w9) := ⟨by rw [hw9]; exact HB8.out.drew⟩
     have HT9 : Aside0 (w9.heap[T0]? = some (.cells #[.pointer none, .pointer none, .pointer (some ⟨N1, 0, none⟩)] 85 (0, 0))) := ⟨by rw [hw9]; exact HT8.out⟩
     have HM9 : Aside0 (IsM w9 G T0) := ⟨by rw [hw9]; exact HM8.out.later (Below.drew (Below.refl T0 w8)) HGL.out⟩
     have HN91 : Aside0 (Nd w9 N1 ⟨#[]⟩ 0 ⟨#[48]⟩ (.pointer (some ⟨N2, 0, none⟩)) (.slice none 0 0)) := ⟨by rw [hw9]; exact HN1.out⟩
     have HN92 : Aside0 (Nd w9 N2 ⟨#[126]⟩ 4 ⟨#[]⟩ (.pointer none) (.slice none 0 0)) := ⟨by rw [hw9]; exact HN2.out⟩
     clear hw9 k2 k3
     go_wp2_with (go_at_call 47; go_loud ((with_reducible refine (add_two G T0 N1 N2 ⟨#[47]⟩ 2 _ HM9.out (Nat.lt_trans HGL.out HL1.out) HL1.out HT9.out HN91.out).mono ?_); rintro e wA ⟨rfl, ⟨T1, N3, l3, l4, a1, a2, a3⟩, hf, hb⟩; have HL3 := aM l3; have HL4 := aM l4; have HA1 := aM a1; have HA2 := aM a2; have HA3 := aM a3; have HF := aM hf; have HBA := aM (HB9.out.trans (hb.mono (Nat.le_of_lt (Nat.lt_trans HGL.out HL1.out)))); have HBB := aM hb; clear l3 l4 a1 a2 a3 hf hb))
     rw [rounds_succ]
     go_wp2
     go_ret
     have g0 : w.heap.size ≤ G := Nat.le_of_eq HGE.out.symm
     have g1 : w.heap.size ≤ T0 := Nat.le_trans g0 (Nat.le_of_lt HGL.out)
     have g2 : w.heap.size ≤ N1 := Nat.le_trans g1 (Nat.le_of_lt HL1.out)
     have g3 : w.heap.size ≤ N2 := Nat.le_trans g2 (Nat.le_of_lt HL2.out)
     have g4 : w.heap.size ≤ w9.heap.size := HB9.out.size
     refine ⟨G, T0, N1, T1, N2, N3, rfl, ⟨HM9.out.later HBB.out (Nat.lt_trans HGL.out HL1.out), ?_, HA1.out, HA2.out, ?_, HA3.out⟩, ⟨g0, g1, g2, Nat.le_trans g4 HL4.out, g3, Nat.le_trans g4 HL3.out⟩, by rw [← HGE.out]; exact HBA.out⟩
     ·exact (HF.out T0 (blk_lt HT9.out) (Nat.ne_of_lt HL1.out)).trans HT9.out
     ·exact (HF.out N2 HN92.out.lt (Nat.ne_of_gt HL2.out)).trans HN92.out
end Go.Proofs.YtdlkmnohmdnogaaDoor.Gnc
end

section
namespace Go.Proofs.YtdlkmnohmdnogaaDoor.Gnl
set_option linter.unusedVariables false
set_option linter.unusedSimpArgs false
open Go.RowKit Go.Lib Go.Proofs.YtdlkmnohmdnogaaDoorW.PrintWords Go.Proofs.YtdlkmnohmdnogaaDoorW.PrintLast Go.Proofs.YtdlkmnohmdnogaaDoorW.PrintMore Go.Proofs.YtdlkmnohmdnogaaDoor.Pre Go.Proofs.YtdlkmnohmdnogaaDoor.Gna Go.Proofs.YtdlkmnohmdnogaaDoor.Gnc
theorem IsG.drewN {w : World} {G T0 N1 T1 N2 N3 : Nat} (h : IsG w G T0 N1 T1 N2 N3) (m : Nat) : IsG (w.drewN m) G T0 N1 T1 N2 N3 :=
 ⟨⟨h.m.c0, h.m.c1, h.m.c2, h.m.c3, h.m.c4, h.m.c5, h.m.map⟩, h.t0, h.n1, h.t1, h.n2, h.n3⟩
theorem drewN_two (w : World) (a b : Nat) : (w.drewN a).drewN b = w.drewN (a + b) := by
 show ({ w with drawn := w.drawn + a + b } : World) = { w with drawn := w.drawn + (a + b) }
 rw [Nat.add_assoc]
set_option maxHeartbeats 2000000 in
set_option maxRecDepth 100000 in
theorem look_end (G T0 N1 T1 N2 N3 : Nat) (S0 : ByteArray) (w : World) (hG : IsG w G T0 N1 T1 N2 N3) (hE0 : S0.toList.isEmpty = true) :
  Calls Tryd.prog 96 #[.pointer (some ⟨G, 0, none⟩), .string S0, .bool false] w fun e w' => e = .returned (.tuple #[.string ⟨#[]⟩, .int .i64 0, .bool false]) ∧ ∃ m, w' = w.drewN m := by
 have HG := aM hG
 have c1 := hG.m.c1
 clear hG
 go_enter Tryd.func96, Tryd.ntmps96
 go_wp2
 refine wp_loop_rounds 1 ?_
 rw [rounds_succ]
 go_wp2
 go_ret3
 exact ⟨rfl, 0, rfl⟩
set_option maxHeartbeats 2000000 in
set_option maxRecDepth 100000 in
theorem look_one (G T0 N1 T1 N2 N3 : Nat) (S0 S1 : ByteArray) (w : World) (hG : IsG w G T0 N1 T1 N2 N3) (hE0 : S0.toList.isEmpty = false) (hZ0 : (0 : Int) < (S0.size : Int)) (hI0 : ∀ h, S0[0]'h = 126) (hX0 : S0.extract 1 S0.size = S1) (hE1 : S1.toList.isEmpty = true) :
  Calls Tryd.prog 96 #[.pointer (some ⟨G, 0, none⟩), .string S0, .bool false] w fun e w' => e = .returned (.tuple #[.string ⟨#[]⟩, .int .i64 0, .bool false]) ∧ ∃ m, w' = w.drewN m := by
 have HG := aM hG
 have c1 := hG.m.c1
 clear hG
 go_enter Tryd.func96, Tryd.ntmps96
 go_wp2
 refine wp_loop_rounds 2 ?_
 rw [rounds_succ]
 have c4 := HG.out.m.c4
 have c5 := HG.out.m.c5
 have e126 : (126 : UInt8).toNat = 126 := rfl
 have cm : w.cell? ⟨G, 132, none⟩ = some (.int .u8 2) := HG.out.m.map 126 (by decide)
 have hz1 : (1 : Int) ≤ (S0.size : Int) := by omega
 go_upto_region 12 with (fail)
 go_quiet (fail)
 obtain ⟨w1, hw1⟩ : ∃ x, x = w.drewN nq := ⟨_, rfl⟩
 rw [← hw1]
 have HG1 : Aside0 (IsG w1 G T0 N1 T1 N2 N3) := ⟨by rw [hw1]; exact IsG.drewN HG.out _⟩
 have HW1 := aM hw1
 clear hw1 c1 c4 c5 cm
 have c4 := HG1.out.m.c4
 have c5 := HG1.out.m.c5
 have ct : w1.cell? ⟨T0, 2, none⟩ = some (.pointer (some ⟨N1, 0, none⟩)) := (blk_cell HG1.out.t0 2).trans rfl
 have d1 := HG1.out.n1.k1
 go_wp2
 rw [rounds_succ]
 go_wp2
 go_ret3
 exact ⟨rfl, nq, HW1.out⟩
set_option maxHeartbeats 2000000 in
set_option maxRecDepth 100000 in
theorem look_bad (G T0 N1 T1 N2 N3 : Nat) (S0 S1 : ByteArray) (b : UInt8) (w : World) (hG : IsG w G T0 N1 T1 N2 N3) (hE0 : S0.toList.isEmpty = false) (hZ0 : (0 : Int) < (S0.size : Int)) (hI0 : ∀ h, S0[0]'h = 126) (hX0 : S0.extract 1 S0.size = S1) (hE1 : S1.toList.isEmpty = false) (hZ1 : (0 : Int) < (S1.size : Int)) (hI1 : ∀ h, S1[0]'h = b) (hb : mp b.toNat = 3) :
  Calls Tryd.prog 96 #[.pointer (some ⟨G, 0, none⟩), .string S0, .bool false] w fun e w' => e = .returned (.tuple #[.string ⟨#[]⟩, .int .i64 0, .bool false]) ∧ ∃ m, w' = w.drewN m := by
 have HG := aM hG
 have c1 := hG.m.c1
 clear hG
 go_enter Tryd.func96, Tryd.ntmps96
 go_wp2
 refine wp_loop_rounds 2 ?_
 rw [rounds_succ]
 have c4 := HG.out.m.c4
 have c5 := HG.out.m.c5
 have e126 : (126 : UInt8).toNat = 126 := rfl
 have cm : w.cell? ⟨G, 132, none⟩ = some (.int .u8 2) := HG.out.m.map 126 (by decide)
 have hz1 : (1 : Int) ≤ (S0.size : Int) := by omega
 go_upto_region 12 with (fail)
 go_quiet (fail)
 obtain ⟨w1, hw1⟩ : ∃ x, x = w.drewN nq := ⟨_, rfl⟩
 rw [← hw1]
 have HG1 : Aside0 (IsG w1 G T0 N1 T1 N2 N3) := ⟨by rw [hw1]; exact IsG.drewN HG.out _⟩
 have HW1 := aM hw1
 clear hw1 c1 c4 c5 cm
 have c4 := HG1.out.m.c4
 have c5 := HG1.out.m.c5
 have ct : w1.cell? ⟨T0, 2, none⟩ = some (.pointer (some ⟨N1, 0, none⟩)) := (blk_cell HG1.out.t0 2).trans rfl
 have d1 := HG1.out.n1.k1
 go_wp2
 rw [rounds_succ]
 have d4 := HG1.out.n1.k4
 have hz2 : (1 : Int) ≤ (S1.size : Int) := by omega
 have h256 : ((b.toNat : Nat) : Int) < 256 := by have := b.toNat_lt; omega
 have cb : w1.cell? ⟨G, 6 + b.toNat, none⟩ = some (.int .u8 3) := (HG1.out.m.map b.toNat b.toNat_lt).trans (by rw [hb]; rfl)
 go_upto_region 12 with (fail)
 go_quiet (fail)
 obtain ⟨w2, hw2⟩ : ∃ x, x = w1.drewN nq := ⟨_, rfl⟩
 rw [← hw2]
 have HG2 : Aside0 (IsG w2 G T0 N1 T1 N2 N3) := ⟨by rw [hw2]; exact IsG.drewN HG1.out _⟩
 have HW2 : Aside0 (∃ m, w2 = w.drewN m) := ⟨by rw [hw2, HW1.out]; exact ⟨_, drewN_two _ _ _⟩⟩
 clear hw2 c4 c5 ct d1 d4 cb
 have c5 := HG2.out.m.c5
 have d4 := HG2.out.n1.k4
 go_wp2
 go_ret3
 exact ⟨rfl, HW2.out⟩
set_option maxHeartbeats 2000000 in
set_option maxRecDepth 100000 in
theorem look_two (G T0 N1 T1 N2 N3 : Nat) (S0 S1 S2 : ByteArray) (w : World) (hG : IsG w G T0 N1 T1 N2 N3) (hE0 : S0.toList.isEmpty = false) (hZ0 : (0 : Int) < (S0.size : Int)) (hI0 : ∀ h, S0[0]'h = 126) (hX0 : S0.extract 1 S0.size = S1) (hE1 : S1.toList.isEmpty = false) (hZ1 : (0 : Int) < (S1.size : Int)) (hI1 : ∀ h, S1[0]'h = 126) (hX1 : S1.extract 1 S1.size = S2) :
  Calls Tryd.prog 96 #[.pointer (some ⟨G, 0, none⟩), .string S0, .bool false] w fun e w' => e = .returned (.tuple #[.string ⟨#[]⟩, .int .i64 0, .bool false]) ∧ ∃ m, w' = w.drewN m := by
 have HG := aM hG
 have c1 := hG.m.c1
 clear hG
 go_enter Tryd.func96, Tryd.ntmps96
 go_wp2
 refine wp_loop_rounds 3 ?_
 rw [rounds_succ]
 have c4 := HG.out.m.c4
 have c5 := HG.out.m.c5
 have e126 : (126 : UInt8).toNat = 126 := rfl
 have cm : w.cell? ⟨G, 132, none⟩ = some (.int .u8 2) := HG.out.m.map 126 (by decide)
 have hz1 : (1 : Int) ≤ (S0.size : Int) := by omega
 go_upto_region 12 with (fail)
 go_quiet (fail)
 obtain ⟨w1, hw1⟩ : ∃ x, x = w.drewN nq := ⟨_, rfl⟩
 rw [← hw1]
 have HG1 : Aside0 (IsG w1 G T0 N1 T1 N2 N3) := ⟨by rw [hw1]; exact IsG.drewN HG.out _⟩
 have HW1 := aM hw1
 clear hw1 c1 c4 c5 cm
 have c4 := HG1.out.m.c4
 have c5 := HG1.out.m.c5
 have ct : w1.cell? ⟨T0, 2, none⟩ = some (.pointer (some ⟨N1, 0, none⟩)) := (blk_cell HG1.out.t0 2).trans rfl
 have d1 := HG1.out.n1.k1
 go_wp2
 rw [rounds_succ]
 have d4 := HG1.out.n1.k4
 have hz2 : (1 : Int) ≤ (S1.size : Int) := by omega
 have eb : (126 : UInt8).toNat = 126 := rfl
 have cb : w1.cell? ⟨G, 132, none⟩ = some (.int .u8 2) := HG1.out.m.map 126 (by decide)
 go_upto_region 12 with (fail)
 go_quiet (fail)
 obtain ⟨w2, hw2⟩ : ∃ x, x = w1.drewN nq := ⟨_, rfl⟩
 rw [← hw2]
 have HG2 : Aside0 (IsG w2 G T0 N1 T1 N2 N3) := ⟨by rw [hw2]; exact IsG.drewN HG1.out _⟩
 have HW2 : Aside0 (∃ m, w2 = w.drewN m) := ⟨by rw [hw2, HW1.out]; exact ⟨_, drewN_two _ _ _⟩⟩
 clear hw2 c4 c5 ct d1 d4 cb
 have c5 := HG2.out.m.c5
 have d4 := HG2.out.n1.k4
 have ct2 : w2.cell? ⟨T1, 2, none⟩ = some (.pointer none) := (blk_cell HG2.out.t1 2).trans rfl
 go_wp2
 rw [rounds_succ]
 go_wp2
 go_ret3
 exact ⟨rfl, HW2.out⟩
set_option maxHeartbeats 2000000 in
set_option maxRecDepth 100000 in
theorem look_til (G T0 N1 T1 N2 N3 : Nat) (S0 S1 S2 : ByteArray) (w : World) (hG : IsG w G T0 N1 T1 N2 N3) (hE0 : S0.toList.isEmpty = false) (hZ0 : (0 : Int) < (S0.size : Int)) (hI0 : ∀ h, S0[0]'h = 126) (hX0 : S0.extract 1 S0.size = S1) (hE1 : S1.toList.isEmpty = false) (hZ1 : (0 : Int) < (S1.size : Int)) (hI1 : ∀ h, S1[0]'h = 48) (hX1 : S1.extract 1 S1.size = S2) :
  Calls Tryd.prog 96 #[.pointer (some ⟨G, 0, none⟩), .string S0, .bool false] w fun e w' => e = .returned (.tuple #[.string ⟨#[126]⟩, .int .i64 2, .bool true]) ∧ ∃ m, w' = w.drewN m := by
 have HG := aM hG
 have c1 := hG.m.c1
 clear hG
 go_enter Tryd.func96, Tryd.ntmps96
 go_wp2
 refine wp_loop_rounds 3 ?_
 rw [rounds_succ]
 have c4 := HG.out.m.c4
 have c5 := HG.out.m.c5
 have e126 : (126 : UInt8).toNat = 126 := rfl
 have cm : w.cell? ⟨G, 132, none⟩ = some (.int .u8 2) := HG.out.m.map 126 (by decide)
 have hz1 : (1 : Int) ≤ (S0.size : Int) := by omega
 go_upto_region 12 with (fail)
 go_quiet (fail)
 obtain ⟨w1, hw1⟩ : ∃ x, x = w.drewN nq := ⟨_, rfl⟩
 rw [← hw1]
 have HG1 : Aside0 (IsG w1 G T0 N1 T1 N2 N3) := ⟨by rw [hw1]; exact IsG.drewN HG.out _⟩
 have HW1 := aM hw1
 clear hw1 c1 c4 c5 cm
 have c4 := HG1.out.m.c4
 have c5 := HG1.out.m.c5
 have ct : w1.cell? ⟨T0, 2, none⟩ = some (.pointer (some ⟨N1, 0, none⟩)) := (blk_cell HG1.out.t0 2).trans rfl
 have d1 := HG1.out.n1.k1
 go_wp2
 rw [rounds_succ]
 have d4 := HG1.out.n1.k4
 have hz2 : (1 : Int) ≤ (S1.size : Int) := by omega
 have eb : (48 : UInt8).toNat = 48 := rfl
 have cb : w1.cell? ⟨G, 54, none⟩ = some (.int .u8 0) := HG1.out.m.map 48 (by decide)
 go_upto_region 12 with (fail)
 go_quiet (fail)
 obtain ⟨w2, hw2⟩ : ∃ x, x = w1.drewN nq := ⟨_, rfl⟩
 rw [← hw2]
 have HG2 : Aside0 (IsG w2 G T0 N1 T1 N2 N3) := ⟨by rw [hw2]; exact IsG.drewN HG1.out _⟩
 have HW2 : Aside0 (∃ m, w2 = w.drewN m) := ⟨by rw [hw2, HW1.out]; exact ⟨_, drewN_two _ _ _⟩⟩
 clear hw2 c4 c5 ct d1 d4 cb
 have c5 := HG2.out.m.c5
 have d4 := HG2.out.n1.k4
 have ct2 : w2.cell? ⟨T1, 0, none⟩ = some (.pointer (some ⟨N2, 0, none⟩)) := (blk_cell HG2.out.t1 0).trans rfl
 have f0 := HG2.out.n2.k0
 have f1 := HG2.out.n2.k1
 have f2 := HG2.out.n2.k2
 have f4 := HG2.out.n2.k4
 obtain ⟨e, he⟩ : ∃ e, S2.toList.isEmpty = e := ⟨_, rfl⟩
 go_upto_region 15 with (fail)
 go_wp2
 rw [rounds_succ]
 cases e with
 | true =>
  go_wp2
  go_ret3
  exact ⟨rfl, HW2.out⟩
 | false =>
  go_wp2
  go_ret3
  exact ⟨rfl, HW2.out⟩
set_option maxHeartbeats 2000000 in
set_option maxRecDepth 100000 in
theorem look_sla (G T0 N1 T1 N2 N3 : Nat) (S0 S1 S2 : ByteArray) (w : World) (hG : IsG w G T0 N1 T1 N2 N3) (hE0 : S0.toList.isEmpty = false) (hZ0 : (0 : Int) < (S0.size : Int)) (hI0 : ∀ h, S0[0]'h = 126) (hX0 : S0.extract 1 S0.size = S1) (hE1 : S1.toList.isEmpty = false) (hZ1 : (0 : Int) < (S1.size : Int)) (hI1 : ∀ h, S1[0]'h = 49) (hX1 : S1.extract 1 S1.size = S2) :
  Calls Tryd.prog 96 #[.pointer (some ⟨G, 0, none⟩), .string S0, .bool false] w fun e w' => e = .returned (.tuple #[.string ⟨#[47]⟩, .int .i64 2, .bool true]) ∧ ∃ m, w' = w.drewN m := by
 have HG := aM hG
 have c1 := hG.m.c1
 clear hG
 go_enter Tryd.func96, Tryd.ntmps96
 go_wp2
 refine wp_loop_rounds 3 ?_
 rw [rounds_succ]
 have c4 := HG.out.m.c4
 have c5 := HG.out.m.c5
 have e126 : (126 : UInt8).toNat = 126 := rfl
 have cm : w.cell? ⟨G, 132, none⟩ = some (.int .u8 2) := HG.out.m.map 126 (by decide)
 have hz1 : (1 : Int) ≤ (S0.size : Int) := by omega
 go_upto_region 12 with (fail)
 go_quiet (fail)
 obtain ⟨w1, hw1⟩ : ∃ x, x = w.drewN nq := ⟨_, rfl⟩
 rw [← hw1]
 have HG1 : Aside0 (IsG w1 G T0 N1 T1 N2 N3) := ⟨by rw [hw1]; exact IsG.drewN HG.out _⟩
 have HW1 := aM hw1
 clear hw1 c1 c4 c5 cm
 have c4 := HG1.out.m.c4
 have c5 := HG1.out.m.c5
 have ct : w1.cell? ⟨T0, 2, none⟩ = some (.pointer (some ⟨N1, 0, none⟩)) := (blk_cell HG1.out.t0 2).trans rfl
 have d1 := HG1.out.n1.k1
 go_wp2
 rw [rounds_succ]
 have d4 := HG1.out.n1.k4
 have hz2 : (1 : Int) ≤ (S1.size : Int) := by omega
 have eb : (49 : UInt8).toNat = 49 := rfl
 have cb : w1.cell? ⟨G, 55, none⟩ = some (.int .u8 1) := HG1.out.m.map 49 (by decide)
 go_upto_region 12 with (fail)
 go_quiet (fail)
 obtain ⟨w2, hw2⟩ : ∃ x, x = w1.drewN nq := ⟨_, rfl⟩
 rw [← hw2]
 have HG2 : Aside0 (IsG w2 G T0 N1 T1 N2 N3) := ⟨by rw [hw2]; exact IsG.drewN HG1.out _⟩
 have HW2 : Aside0 (∃ m, w2 = w.drewN m) := ⟨by rw [hw2, HW1.out]; exact ⟨_, drewN_two _ _ _⟩⟩
 clear hw2 c4 c5 ct d1 d4 cb
 have c5 := HG2.out.m.c5
 have d4 := HG2.out.n1.k4
 have ct2 : w2.cell? ⟨T1, 1, none⟩ = some (.pointer (some ⟨N3, 0, none⟩)) := (blk_cell HG2.out.t1 1).trans rfl
 have f0 := HG2.out.n3.k0
 have f1 := HG2.out.n3.k1
 have f2 := HG2.out.n3.k2
 have f4 := HG2.out.n3.k4
 obtain ⟨e, he⟩ : ∃ e, S2.toList.isEmpty = e := ⟨_, rfl⟩
 go_upto_region 15 with (fail)
 go_wp2
 rw [rounds_succ]
 cases e with
 | true =>
  go_wp2
  go_ret3
  exact ⟨rfl, HW2.out⟩
 | false =>
  go_wp2
  go_ret3
  exact ⟨rfl, HW2.out⟩
end Go.Proofs.YtdlkmnohmdnogaaDoor.Gnl
end
