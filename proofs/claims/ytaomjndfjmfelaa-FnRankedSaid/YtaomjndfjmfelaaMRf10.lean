/- Several texts in one: what the claim's last text rests on. No conditions. -/
import Derived.Test.YtaomjndfjmfelaaMRf4
import Derived.Test.YtaomjndfjmfelaaMRf7
import Derived.Test.YtaomjndfjmfelaaMRf0
section
namespace Go.Proofs.Ytaomjndfjmfelaa.SoB
set_option linter.unusedVariables false
set_option linter.unusedSimpArgs false
open Go.RowKit Go.Shelf Go.Lib Go.Sort Go.Proofs.Ytaomjndfjmfelaa.PQ Go.Proofs.YtaomjndfjmfelaaW.PrintWords Go.Proofs.YtaomjndfjmfelaaW.PrintLast Go.Proofs.YtaomjndfjmfelaaW.PrintMore Go.Proofs.Ytaomjndfjmfelaa.Pre
abbrev Sc := S79
/-- The world is the old one, drawn, with blocks at its end. -/
def Gw (w W : World) : Prop := ∃ (q : Nat) (os : Array Obj), W = grow (w.drewN q) os
theorem Gw.refl (w : World) : Gw w w := ⟨0, #[], by rw [grow_empty]; rfl⟩
theorem Gw.alloc {w W : World} (h : Gw w W) (o : Obj) : Gw w (W.alloc o) := by
 obtain ⟨q, os, rfl⟩ := h
 exact ⟨q, os ++ #[o], by rw [alloc_eq_grow, grow_grow]⟩
theorem Gw.drewN {w W : World} (h : Gw w W) (n : Nat) : Gw w (W.drewN n) := by
 obtain ⟨q, os, rfl⟩ := h
 refine ⟨q + n, os, ?_⟩
 simp only [grow, World.drewN, Nat.add_assoc]
theorem Gw.drew {w W : World} (h : Gw w W) : Gw w W.drew := Gw.drewN h 1
theorem lit2 (w : World) (a b : Int) : Kd.C (Kd.int .i64) (w.alloc (.cells #[.int .i64 a, .int .i64 b] 3)) (some ⟨w.heap.size, 0, none⟩) [a, b].length [a, b] := by
 have h : Kd.R (Kd.int .i64) 3 (w.alloc (.cells #[.int .i64 a, .int .i64 b] 3)) w.heap.size (fun _ => True) (.slice (some ⟨w.heap.size, 0, none⟩) 2 2) [a, b] := by
  refine ⟨fun _ _ => trivial, [.int .i64 a, .int .i64 b], ?_, ?_⟩
  ·have h2 := World.ownsRow_lit (base := w.heap.size) (e := 3) (size := 1) w #[.int .i64 a, .int .i64 b] 2 (Nat.le_refl _) (by simp [maxLen]) (by simp)
   show World.ownsRow _ _ _ 1 _ _ _
   simpa using h2
  ·exact Reps.one (show Kd.M (Kd.int .i64) _ _ _ a [.int .i64 a] from rfl) (Reps.one (show Kd.M (Kd.int .i64) _ _ _ b [.int .i64 b] from rfl) (Reps.none _ _))
 exact (Kd.R_reads' h).2.2
def cpi (a b : Int) : Int := if a < b then -1 else if b < a then 1 else 0
/-- What before answers. -/
def bf (y x : Sc) : Int := if cpi x.f1 y.f1 = 0 then cpi y.f0 x.f0 else cpi x.f1 y.f1
theorem cmp_ev (a b : Int) : cmp_Compare_int.f a b = some (cpi a b) := by
 unfold cmp_Compare_int.f cpi
 have h1 : ∀ x : Int, cmp_isNaN_int.f x = some false := fun x => by simp [cmp_isNaN_int.f]
 rw [h1, h1]
 by_cases h2 : a < b
 ·simp [h2]
 ·by_cases h3 : b < a
  ·simp [h2, h3]
  ·simp [h2, h3]
theorem or_ev (a b : Int) : Evt (fun k => cmp_Or_int.f k [a, b]) (if a = 0 then b else a) := by
 unfold cmp_Or_int.f
 refine Evt.step (fun k => cmp_Or_int.l0.eq_2 _ _ _ _ k) (Evt.pos (by simp) (Evt.pos (by omega) (Evt.pos (by simp) ?_)))
 show Evt (fun k => if a = 0 then cmp_Or_int.l0 k 0 [a, b] 2 (wrap64 (0 + 1)) else some a) _
 by_cases h : a = 0
 ·rw [if_pos h, w64 (by omega) (by omega)]
  refine Evt.pos h (Evt.step (fun k => cmp_Or_int.l0.eq_2 _ _ _ _ k) (Evt.pos (by omega) (Evt.pos (by omega) (Evt.pos (by simp) ?_))))
  show Evt (fun k => if b = 0 then cmp_Or_int.l0 k 0 [a, b] 2 (wrap64 (0 + 1 + 1)) else some b) _
  by_cases h2 : b = 0
  ·refine Evt.pos h2 ?_
   rw [w64 (by omega) (by omega)]
   exact Evt.step (fun k => cmp_Or_int.l0.eq_2 _ _ _ _ k) (Evt.neg (by omega) ((Evt.const _).eq h2.symm))
  ·exact Evt.neg h2 (Evt.const _)
 ·rw [if_neg h]
  exact Evt.neg h (Evt.const _)
set_option maxHeartbeats 2000000 in
set_option maxRecDepth 100000 in
theorem before_lays (y x : Sc) (w : World) : Calls Try.prog 144 #[.agg #[.int .i64 y.f0, .int .i64 y.f1], .agg #[.int .i64 x.f0, .int .i64 x.f1]] w fun e w' => e = .returned (.int .i64 (bf y x)) ∧ ∃ q os', w' = grow (w.drewN q) os' := by
 obtain ⟨k, h5⟩ := (or_ev (cpi x.f1 y.f1) (cpi y.f0 x.f0)).ex
 have A3 := aM (cmp_ev x.f1 y.f1)
 have A4 := aM (cmp_ev y.f0 x.f0)
 have eb : bf y x = if cpi x.f1 y.f1 = 0 then cpi y.f0 x.f0 else cpi x.f1 y.f1 := rfl
 rw [← eb] at h5
 generalize bf y x = c3 at h5 ⊢
 clear eb
 generalize cpi x.f1 y.f1 = c1 at A3 h5
 generalize cpi y.f0 x.f0 = c2 at A4 h5
 have A5 := aM h5
 clear h5
 obtain ⟨w0, hw0⟩ : ∃ W, W = (w.alloc (.cells #[.int .i64 y.f0, .int .i64 y.f1] 79)).alloc (.cells #[.int .i64 x.f0, .int .i64 x.f1] 79) := ⟨_, rfl⟩
 have HW0 := aM hw0
 have G0 := aM (show Gw w w0 by rw [hw0]; exact Gw.alloc (Gw.alloc (Gw.refl w) _) _)
 have B0_0 := aM (show w0.heap[w.heap.size]? = some (.cells #[.int .i64 y.f0, .int .i64 y.f1] 79 (0, 0)) by rw [hw0]; exact blk_alloc (blk_new w _) _)
 have B1_0 := aM (show w0.heap[w.heap.size + 1]? = some (.cells #[.int .i64 x.f0, .int .i64 x.f1] 79 (0, 0)) by rw [hw0]; have h := blk_new (w.alloc (.cells #[.int .i64 y.f0, .int .i64 y.f1] 79)) (.cells #[.int .i64 x.f0, .int .i64 x.f1] 79 (0, 0)); rw [show (w.alloc (.cells #[.int .i64 y.f0, .int .i64 y.f1] 79)).heap.size = w.heap.size + 1 by simp] at h; exact h)
 clear hw0
 go_enter Try.func144, Try.ntmps144
 go_upto_region 1 with (fail)
 rw [← HW0.out]
 obtain ⟨w1, hw⟩ : ∃ W_, W_ = w0.drew := ⟨_, rfl⟩
 have HD := aM hw
 have G1 := aM (show Gw w w1 by rw [hw]; exact Gw.drew G0.out)
 have B0_1 := aM (show w1.heap[w.heap.size]? = some (.cells #[.int .i64 y.f0, .int .i64 y.f1] 79 (0, 0)) by rw [hw]; exact B0_0.out)
 have B1_1 := aM (show w1.heap[w.heap.size + 1]? = some (.cells #[.int .i64 x.f0, .int .i64 x.f1] 79 (0, 0)) by rw [hw]; exact B1_0.out)
 clear hw
 refine start_ (n := 13) (S := fun w' => w'.cell? ⟨w.heap.size + 1, 0, none⟩ = some (.int .i64 x.f0) ∧ w'.cell? ⟨w.heap.size + 1, 1, none⟩ = some (.int .i64 x.f1) ∧ w'.cell? ⟨w.heap.size, 0, none⟩ = some (.int .i64 y.f0) ∧ w'.cell? ⟨w.heap.size, 1, none⟩ = some (.int .i64 y.f1)) (ds := []) (bq 13 0) (by kernel_rfl) rfl (by kernel_rfl) ⟨(HD.out ▸ (blk_cell B1_1.out 0).trans rfl), (HD.out ▸ (blk_cell B1_1.out 1).trans rfl), (HD.out ▸ (blk_cell B0_1.out 0).trans rfl), (HD.out ▸ (blk_cell B0_1.out 1).trans rfl)⟩ (fun hHeld => ?_)
 rw [← HD.out] at hHeld ⊢
 refine pX 13 1 0 5 ?_
 refine pX 13 5 2 7 ?_
 refine pX 13 37 5 10 ?_
 refine pX 13 165 7 12 ?_
 refine sX4 13 167 1 6 hHeld ?_
 refine sX4 13 175 3 8 hHeld ?_
 refine sX4 13 239 6 11 hHeld ?_
 refine sX4 13 495 8 13 hHeld ?_
 refine one_ (i := 4) (N := some 9) (bq 13 511) rfl rfl (by kernel_rfl) (by decide) (fun K hK => ?_)
 refine gA Try.func162 #[.int .i64 x.f1, .int .i64 y.f1] ?_
 with_reducible refine (cmp_Compare_int.calls x.f1 y.f1 c1 _ A3.out).mono ?_
 rintro e w' ⟨rfl, ⟨nd, rfl⟩⟩
 refine ⟨_, rfl, ?_⟩
 obtain ⟨w2, hw⟩ : ∃ W_, W_ = World.drewN w1 nd := ⟨_, rfl⟩
 rw [← hw]
 have G2 := aM (show Gw w w2 by rw [hw]; exact Gw.drewN G1.out nd)
 have B0_2 := aM (show w2.heap[w.heap.size]? = some (.cells #[.int .i64 y.f0, .int .i64 y.f1] 79 (0, 0)) by rw [hw]; exact B0_1.out)
 have B1_2 := aM (show w2.heap[w.heap.size + 1]? = some (.cells #[.int .i64 x.f0, .int .i64 x.f1] 79 (0, 0)) by rw [hw]; exact B1_1.out)
 clear hw
 refine hK.out _ _ ⟨(blk_cell B1_2.out 0).trans rfl, (blk_cell B1_2.out 1).trans rfl, (blk_cell B0_2.out 0).trans rfl, (blk_cell B0_2.out 1).trans rfl⟩ (fun hHeld => ?_)
 clear hK K
 refine nM 9 ?_
 refine one_ (i := 9) (N := some 14) (bq 13 1023) rfl rfl (by kernel_rfl) (by decide) (fun K hK => ?_)
 refine gA Try.func162 #[.int .i64 y.f0, .int .i64 x.f0] ?_
 with_reducible refine (cmp_Compare_int.calls y.f0 x.f0 c2 _ A4.out).mono ?_
 rintro e w' ⟨rfl, ⟨nd, rfl⟩⟩
 refine ⟨_, rfl, ?_⟩
 obtain ⟨w3, hw⟩ : ∃ W_, W_ = World.drewN w2 nd := ⟨_, rfl⟩
 rw [← hw]
 have G3 := aM (show Gw w w3 by rw [hw]; exact Gw.drewN G2.out nd)
 have B0_3 := aM (show w3.heap[w.heap.size]? = some (.cells #[.int .i64 y.f0, .int .i64 y.f1] 79 (0, 0)) by rw [hw]; exact B0_2.out)
 have B1_3 := aM (show w3.heap[w.heap.size + 1]? = some (.cells #[.int .i64 x.f0, .int .i64 x.f1] 79 (0, 0)) by rw [hw]; exact B1_2.out)
 clear hw
 refine hK.out _ _ ⟨(blk_cell B1_3.out 0).trans rfl, (blk_cell B1_3.out 1).trans rfl, (blk_cell B0_3.out 0).trans rfl, (blk_cell B0_3.out 1).trans rfl⟩ (fun hHeld => ?_)
 clear hK K
 refine nM 14 ?_
 refine one_ (i := 10) (N := some 15) (bq 13 2047) rfl rfl (by kernel_rfl) (by decide) (fun K hK => ?_)
 refine value_ (w1 := ?_) (v := ?_) (by rfl) rfl ?_ ?_
 rotate_left 2
 ·go_simp
  constructor
  ·rfl
  ·rfl
 obtain ⟨w4, hw⟩ : ∃ W_, W_ = w3.alloc (.cells #[.int .i64 c1, .int .i64 c2] 3) := ⟨_, rfl⟩
 rw [← hw]
 have HC4 := aM (show Kd.C (Kd.int .i64) w4 (some ⟨w3.heap.size, 0, none⟩) [c1, c2].length [c1, c2] by rw [hw]; exact lit2 w3 c1 c2)
 have G4 := aM (show Gw w w4 by rw [hw]; exact Gw.alloc G3.out _)
 have B0_4 := aM (show w4.heap[w.heap.size]? = some (.cells #[.int .i64 y.f0, .int .i64 y.f1] 79 (0, 0)) by rw [hw]; exact blk_alloc B0_3.out _)
 have B1_4 := aM (show w4.heap[w.heap.size + 1]? = some (.cells #[.int .i64 x.f0, .int .i64 x.f1] 79 (0, 0)) by rw [hw]; exact blk_alloc B1_3.out _)
 clear hw
 refine hK.out _ _ ⟨(blk_cell B1_4.out 0).trans rfl, (blk_cell B1_4.out 1).trans rfl, (blk_cell B0_4.out 0).trans rfl, (blk_cell B0_4.out 1).trans rfl⟩ (fun hHeld => ?_)
 clear hK K
 refine nM 15 ?_
 refine one_ (i := 11) (N := some 16) (bq 13 4095) rfl rfl (by kernel_rfl) (by decide) (fun K hK => ?_)
 refine gA Try.func161 #[.slice (some ⟨w3.heap.size, 0, none⟩) [c1, c2].length 2] ?_
 with_reducible refine (cmp_Or_int.calls k (some ⟨w3.heap.size, 0, none⟩) 2 [c1, c2] c3 _ HC4.out (Nat.le_refl _) A5.out).mono ?_
 rintro e w' ⟨rfl, ⟨nd, rfl⟩⟩
 refine ⟨_, rfl, ?_⟩
 obtain ⟨w5, hw⟩ : ∃ W_, W_ = World.drewN w4 nd := ⟨_, rfl⟩
 rw [← hw]
 have G5 := aM (show Gw w w5 by rw [hw]; exact Gw.drewN G4.out nd)
 have B0_5 := aM (show w5.heap[w.heap.size]? = some (.cells #[.int .i64 y.f0, .int .i64 y.f1] 79 (0, 0)) by rw [hw]; exact B0_4.out)
 have B1_5 := aM (show w5.heap[w.heap.size + 1]? = some (.cells #[.int .i64 x.f0, .int .i64 x.f1] 79 (0, 0)) by rw [hw]; exact B1_4.out)
 clear hw
 refine hK.out _ _ ⟨(blk_cell B1_5.out 0).trans rfl, (blk_cell B1_5.out 1).trans rfl, (blk_cell B0_5.out 0).trans rfl, (blk_cell B0_5.out 1).trans rfl⟩ (fun hHeld => ?_)
 clear hK K
 refine nM 16 ?_
 refine pX 13 8191 12 4 ?_
 refine done_ (by kernel_rfl) ?_
 go_wp2
 go_ret
 exact ⟨rfl, G5.out⟩
end Go.Proofs.Ytaomjndfjmfelaa.SoB
end
