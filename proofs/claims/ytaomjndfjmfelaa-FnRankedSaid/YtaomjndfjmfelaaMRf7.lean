/- Several texts in one: what the claim's last text rests on. No conditions. -/
import Derived.Test.YtaomjndfjmfelaaMRf6
import Derived.Test.YtaomjndfjmfelaaMRf4
section
namespace Go.Proofs.Ytaomjndfjmfelaa.PQ
open Go.RowKit Go.Proofs.YtaomjndfjmfelaaW.PrintWords Go.Proofs.YtaomjndfjmfelaaW.PrintLast Go.Proofs.YtaomjndfjmfelaaW.PrintMore
attribute [local go_sem] max2_int min2_int max_two min_two max_three min_three max_four min_four
set_option linter.unusedVariables false
set_option linter.unusedSimpArgs false
def impl_before.f (k : Nat) (a0_0 : Int) (a0_1 : Int) (a1_0 : Int) (a1_1 : Int) : Option (Int) := (cmp_Compare_int.f a1_1 a0_1).bind fun t397 => ((cmp_Compare_int.f a0_0 a1_0).bind fun t398 => ((cmp_Or_int.f k (([t397, t398] : List Int))).bind fun t402 => (some t402)))
def impl_before.T1 : Bool × List (List Nat × List Nat) := (true, [([], []), ([0], [0]), ([], []), ([2], [2]), ([1, 3], [1, 3]), ([], []), ([5], [5]), ([], []), ([7], [7]), ([6, 8, 4], [6, 8]), ([4, 9], [4, 9]), ([10, 9], [10]), ([11, 11, 0, 1, 2, 3, 4, 5, 6, 7, 8, 9, 10, 11], [11])])
def impl_before.B1 : List Nat := [0, 1, 0, 4, 15, 0, 32, 0, 128, 511, 1023, 2047, 4095]
theorem impl_before.tab1 : rtab .any (opsOf Try.f144 1) = impl_before.T1 := by kernel_rfl
theorem impl_before.bits1 : waitsOk impl_before.T1.2 impl_before.B1 = true := by kernel_rfl
set_option maxHeartbeats 8000000 in
set_option maxRecDepth 100000 in
theorem impl_before.calls (k : Nat) (a0_0 : Int) (a0_1 : Int) (a1_0 : Int) (a1_1 : Int) (r : Int) (w : World) (h : impl_before.f k a0_0 a0_1 a1_0 a1_1 = some r) :
  Calls Try.prog 144 #[.agg #[.int .i64 a0_0, .int .i64 a0_1], .agg #[.int .i64 a1_0, .int .i64 a1_1]] w fun e w' => e = .returned (.int .i64 r) ∧ Below w.heap.size w w' := by
 have hu79 := Try.underlying79
 have HB := aM (Below.refl w.heap.size w)
 have H : ((cmp_Compare_int.f a1_1 a0_1).bind fun t397 => ((cmp_Compare_int.f a0_0 a1_0).bind fun t398 => ((cmp_Or_int.f k (([t397, t398] : List Int))).bind fun t402 => (some t402)))) = some r := h
 clear h
 replace H := Option.bind_eq_some_iff.mp H
 obtain ⟨t397, A30, H⟩ := H
 replace H : ((cmp_Compare_int.f a0_0 a1_0).bind fun t398 => ((cmp_Or_int.f k (([t397, t398] : List Int))).bind fun t402 => (some t402))) = some r := H
 have A3 := aM A30
 clear A30
 replace H := Option.bind_eq_some_iff.mp H
 obtain ⟨t398, A40, H⟩ := H
 replace H : ((cmp_Or_int.f k (([t397, t398] : List Int))).bind fun t402 => (some t402)) = some r := H
 have A4 := aM A40
 clear A40
 obtain ⟨y399, hy399⟩ : ∃ y_ : List Int, y_ = (([t397, t398] : List Int)) := ⟨_, rfl⟩
 replace H : ((cmp_Or_int.f k y399).bind fun t402 => (some t402)) = some r := by first | (rw [hy399]; with_reducible exact H) | (have H2_ := (Option.bind_some _ _).symm.trans H; rw [hy399]; with_reducible exact H2_) | (have H2_ := (Option.bind_some _ _).symm.trans H; with_reducible exact H2_) | with_reducible exact H | (rw [hy399]; exact H) | exact H
 have Ny399 := aM hy399
 clear hy399
 replace H := Option.bind_eq_some_iff.mp H
 obtain ⟨t402, A50, H⟩ := H
 replace H : (some t402) = some r := H
 have A5 := aM A50
 clear A50
 obtain rfl := Option.some.inj H
 go_enter Try.func144, Try.ntmps144
 try go_wp2_with (first | ((with_reducible refine gate_dst (N := 2) rfl ?_); refine box_event ?hg (N := 2) ?hd (cs := #[.int .i64 a0_0, .int .i64 a0_1]) (t := 79) ?hr ?_; (case hd => rfl); (case hg => rfl); (case hr => first | (go_simp; done) | (go_simp; rfl)); intro gb395 hg w6 hbox hb; have n0_ := aM (below_step (by repeat (first | (with_reducible first | exact HB.out | apply below_alloc | apply pw_below_drewN | apply below_drew1) | exact HB.out)) hb); have n1_ := aM (hbox); have n2_ := aM ((by rw [hg]; exact (below_size (by repeat (first | (with_reducible first | exact HB.out | apply below_alloc | apply pw_below_drewN | apply below_drew1) | exact HB.out))) : w.heap.size ≤ gb395)); have n3_ := aM ((by rw [hg]; exact (below_size (by repeat (first | (with_reducible first | exact HB.out | apply below_alloc | apply pw_below_drewN | apply below_drew1) | exact HB.out))) : w.heap.size ≤ gb395)); clear HB; have HB := n0_; have BK395 := n1_; have GW395 := n2_; have GE395 := n3_; clear n0_ n1_ n2_ n3_; clear hb hbox hg) | ((with_reducible refine gate_dst (N := 3) rfl ?_); refine box_event ?hg (N := 3) ?hd (cs := #[.int .i64 a1_0, .int .i64 a1_1]) (t := 79) ?hr ?_; (case hd => rfl); (case hg => rfl); (case hr => first | (go_simp; done) | (go_simp; rfl)); intro gb396 hg w7 hbox hb; have n0_ := aM (blk_below (g := gb395) (o := .cells #[.int .i64 a0_0, .int .i64 a0_1] 79 (0, 0)) (by (with_reducible repeat (first | refine blk_drewN ?_ _ | refine blk_drew ?_ | refine blk_alloc ?_ _)); exact BK395.out) hb); have n1_ := aM (below_step (by repeat (first | (with_reducible first | exact HB.out | apply below_alloc | apply pw_below_drewN | apply below_drew1 | refine below_set ?_ GE395.out) | exact HB.out)) hb); have n2_ := aM (hbox); have n3_ := aM ((by rw [hg]; exact (below_size (by repeat (first | (with_reducible first | exact HB.out | apply below_alloc | apply pw_below_drewN | apply below_drew1 | refine below_set ?_ GE395.out) | exact HB.out))) : w.heap.size ≤ gb396)); have n4_ := aM ((by rw [hg]; exact (below_size (by repeat (first | (with_reducible first | exact HB.out | apply below_alloc | apply pw_below_drewN | apply below_drew1 | refine below_set ?_ GE395.out) | exact HB.out))) : w.heap.size ≤ gb396)); have n5_ := aM ((by rw [hg]; exact Nat.ne_of_lt (blk_lt (g := gb395) (o := .cells #[.int .i64 a0_0, .int .i64 a0_1] 79 (0, 0)) (by (with_reducible repeat (first | refine blk_drewN ?_ _ | refine blk_drew ?_ | refine blk_alloc ?_ _)); exact BK395.out)) : gb395 ≠ gb396)); have n6_ := aM ((by rw [hg]; exact Nat.ne_of_gt (blk_lt (g := gb395) (o := .cells #[.int .i64 a0_0, .int .i64 a0_1] 79 (0, 0)) (by (with_reducible repeat (first | refine blk_drewN ?_ _ | refine blk_drew ?_ | refine blk_alloc ?_ _)); exact BK395.out)) : gb396 ≠ gb395)); clear BK395; clear HB; have BK395 := n0_; have HB := n1_; have BK396 := n2_; have GW396 := n3_; have GE396 := n4_; have NB395_396 := n5_; have NB396_395 := n6_; clear n0_ n1_ n2_ n3_ n4_ n5_ n6_; clear hb hbox hg))
 have n0_ := aM (blk_drew BK395.out)
 have n1_ := aM (blk_drew BK396.out)
 have n2_ := aM (below_drew1 HB.out)
 clear BK395
 clear BK396
 clear HB
 have BK395 := n0_
 have BK396 := n1_
 have HB := n2_
 clear n0_ n1_ n2_
 refine start_ (n := 13) (S := fun w' => w'.cell? ⟨gb396, 0, none⟩ = some (.int .i64 a1_0) ∧ w'.cell? ⟨gb396, 1, none⟩ = some (.int .i64 a1_1) ∧ w'.cell? ⟨gb395, 0, none⟩ = some (.int .i64 a0_0) ∧ w'.cell? ⟨gb395, 1, none⟩ = some (.int .i64 a0_1)) (ds := []) (bq 13 0) (by kernel_rfl) rfl (by kernel_rfl) ⟨(blk_cell BK396.out 0).trans rfl, (blk_cell BK396.out 1).trans rfl, (blk_cell BK395.out 0).trans rfl, (blk_cell BK395.out 1).trans rfl⟩ (fun hHeld => ?_); refine with_tabW impl_before.tab1 impl_before.bits1 (fun HT_ HW_ => ?_)
 generalize w7.drew = w8 at BK395 BK396 HB hHeld ⊢
 refine pZ 13 1 0 5 HT_ ?_
 refine pZ 13 5 2 7 HT_ ?_
 refine pZ 13 37 5 10 HT_ ?_
 refine pZ 13 165 7 12 HT_ ?_
 refine tZ4 13 167 1 6 HT_ HW_ hHeld ?_
 refine tZ4 13 175 3 8 HT_ HW_ hHeld ?_
 refine tZ4 13 239 6 11 HT_ HW_ hHeld ?_
 refine tZ4 13 495 8 13 HT_ HW_ hHeld ?_
 refine one_ (i := 4) (N := some 9) (bq 13 511) rfl rfl (one_of HT_.out (by kernel_rfl)) (by decide) (fun K hK => ?_)
 refine gA Try.func162 #[.int .i64 a1_1, .int .i64 a0_1] ?_
 with_reducible refine (cmp_Compare_int.calls a1_1 a0_1 t397 _ A3.out).mono ?_
 rintro e w' ⟨rfl, ⟨nd, rfl⟩⟩
 refine ⟨_, rfl, ?_⟩
 refine hK.out _ _ ⟨(blk_cell BK396.out 0).trans rfl, (blk_cell BK396.out 1).trans rfl, (blk_cell BK395.out 0).trans rfl, (blk_cell BK395.out 1).trans rfl⟩ (fun hHeld => ?_)
 clear hK K
 refine nM 9 ?_
 refine one_ (i := 9) (N := some 14) (bq 13 1023) rfl rfl (one_of HT_.out (by kernel_rfl)) (by decide) (fun K hK => ?_)
 refine gA Try.func162 #[.int .i64 a0_0, .int .i64 a1_0] ?_
 with_reducible refine (cmp_Compare_int.calls a0_0 a1_0 t398 _ A4.out).mono ?_
 rintro e w' ⟨rfl, ⟨nd, rfl⟩⟩
 refine ⟨_, rfl, ?_⟩
 refine hK.out _ _ ⟨(blk_cell BK396.out 0).trans rfl, (blk_cell BK396.out 1).trans rfl, (blk_cell BK395.out 0).trans rfl, (blk_cell BK395.out 1).trans rfl⟩ (fun hHeld => ?_)
 clear hK K
 refine nM 14 ?_
 refine one_ (i := 10) (N := some 15) (bq 13 2047) rfl rfl (one_of HT_.out (by kernel_rfl)) (by decide) (fun K hK => ?_)
 refine Kd.R_lit_step (Kd.int .i64) _ 3 ?hg (N := 15) ?hd (xs := ([t397, t398] : List Int)) (inner := [.int .i64 t397, .int .i64 t398]) (ok := fun _ => True) (okp := fun _ => True) ?hr ?hp (fun _ hk => hk) trivial (Below.refl _ _) (Nat.le_refl _) (by simp) ?_; (case hd => rfl); (case hg => rfl); (case hr => first | (go_simp; done) | (go_simp; rfl)); (case hp => exact (Reps.one (show Kd.M (Kd.int .i64) _ _ _ t397 [.int .i64 t397] from rfl) (Reps.one (show Kd.M (Kd.int .i64) _ _ _ t398 [.int .i64 t398] from rfl) (Reps.none _ _))))
 intro v400 w9 ho10 hb hg_ hnew_
 clear hg_ hnew_
 (first | rw [← Ny399.out] at ho10 | (simp only [Int.reduceToNat] at ho10; rw [← Ny399.out] at ho10))
 have n0_ := aM (Kd.R_lower ho10 (below_size (by repeat (first | (with_reducible first | exact HB.out | apply below_alloc | apply pw_below_drewN | apply below_drew1 | refine below_set ?_ GE395.out | refine below_set ?_ GE396.out) | exact HB.out))))
 have n1_ := aM (blk_below (g := gb395) (o := .cells #[.int .i64 a0_0, .int .i64 a0_1] 79 (0, 0)) (by (with_reducible repeat (first | refine blk_drewN ?_ _ | refine blk_drew ?_ | refine blk_alloc ?_ _)); exact BK395.out) hb)
 have n2_ := aM (blk_below (g := gb396) (o := .cells #[.int .i64 a1_0, .int .i64 a1_1] 79 (0, 0)) (by (with_reducible repeat (first | refine blk_drewN ?_ _ | refine blk_drew ?_ | refine blk_alloc ?_ _)); exact BK396.out) hb)
 have n3_ := aM (below_step (by repeat (first | (with_reducible first | exact HB.out | apply below_alloc | apply pw_below_drewN | apply below_drew1 | refine below_set ?_ GE395.out | refine below_set ?_ GE396.out) | exact HB.out)) hb)
 clear BK395
 clear BK396
 clear HB
 have HO401 := n0_
 have BK395 := n1_
 have BK396 := n2_
 have HB := n3_
 clear n0_ n1_ n2_ n3_
 clear hb ho10
 obtain ⟨Ao11, co11, eo11⟩ := Kd.R_slice HO401.out
 (first | subst eo11 | (injection eo11 with f1_ f2_ f3_; have f4_ := f1_.symm; have f5_ := f3_.symm; clear f1_ f2_ f3_; subst f4_; subst f5_))
 refine hK.out _ _ ⟨(blk_cell BK396.out 0).trans rfl, (blk_cell BK396.out 1).trans rfl, (blk_cell BK395.out 0).trans rfl, (blk_cell BK395.out 1).trans rfl⟩ (fun hHeld => ?_)
 clear hK K
 refine nM 15 ?_
 refine one_ (i := 11) (N := some 16) (bq 13 4095) rfl rfl (one_of HT_.out (by kernel_rfl)) (by decide) (fun K hK => ?_)
 refine gA Try.func161 #[.slice Ao11 y399.length co11] ?_
 with_reducible refine (cmp_Or_int.calls k _ _ y399 t402 _ ?side1 ?side2 A5.out).mono ?_
 (case side1 => repeat (first | exact (Kd.R_reads' HO401.out).2.2 | (with_reducible refine Kd.C_alloc ?_ _) | (with_reducible refine Kd.C_drewN ?_ _) | (with_reducible refine Kd.C_drew ?_)))
 (case side2 => exact (Kd.R_reads' HO401.out).2.1)
 rintro e w' ⟨rfl, ⟨nd, rfl⟩⟩
 refine ⟨_, rfl, ?_⟩
 refine hK.out _ _ ⟨(blk_cell BK396.out 0).trans rfl, (blk_cell BK396.out 1).trans rfl, (blk_cell BK395.out 0).trans rfl, (blk_cell BK395.out 1).trans rfl⟩ (fun hHeld => ?_)
 clear hK K
 refine nM 16 ?_
 refine pZ 13 8191 12 4 HT_ ?_
 refine done_ (done_of HT_.out (by kernel_rfl)) ?_
 try go_wp2
 go_ret
 exact ⟨eR, by repeat (first | (with_reducible first | exact HB.out | apply below_alloc | apply pw_below_drewN | apply below_drew1 | refine below_set ?_ GE395.out | refine below_set ?_ GE396.out) | exact HB.out)⟩

def spec_l11Less.f (a0_0 : Int) (a0_1 : Int) (a1_0 : Int) (a1_1 : Int) : Option (Bool) := if a0_1 > a1_1 then (some true) else (if a0_1 = a1_1 then (some (decide (a0_0 < a1_0))) else (some false))
set_option maxHeartbeats 8000000 in
set_option maxRecDepth 100000 in
theorem spec_l11Less.calls (a0_0 : Int) (a0_1 : Int) (a1_0 : Int) (a1_1 : Int) (r : Bool) (w : World) (h : spec_l11Less.f a0_0 a0_1 a1_0 a1_1 = some r) :
  Calls Try.prog 112 #[.agg #[.int .i64 a0_0, .int .i64 a0_1], .agg #[.int .i64 a1_0, .int .i64 a1_1]] w fun e w' => e = .returned (.bool r) ∧ Below w.heap.size w w' := by
 have hu79 := Try.underlying79
 have HB := aM (Below.refl w.heap.size w)
 have H : (if a0_1 > a1_1 then (some true) else (if a0_1 = a1_1 then (some (decide (a0_0 < a1_0))) else (some false))) = some r := h
 clear h
 by_cases c3 : a0_1 > a1_1
 ·rw [if_pos c3] at H
  have c3b0 : decide (a1_1 < a0_1) = true := decide_eq_true c3
  clear c3
  obtain rfl := Option.some.inj H
  go_enter Try.func112, Try.ntmps112
  go_wp2_with (first | ((with_reducible refine gate_dst (N := 2) rfl ?_); refine box_event ?hg (N := 2) ?hd (cs := #[.int .i64 a0_0, .int .i64 a0_1]) (t := 79) ?hr ?_; (case hd => rfl); (case hg => rfl); (case hr => first | (go_simp; done) | (go_simp; rfl)); intro gb105 hg w4 hbox hb; have n0_ := aM (below_step (by repeat (first | (with_reducible first | exact HB.out | apply below_alloc | apply pw_below_drewN | apply below_drew1) | exact HB.out)) hb); have n1_ := aM (hbox); have n2_ := aM ((by rw [hg]; exact (below_size (by repeat (first | (with_reducible first | exact HB.out | apply below_alloc | apply pw_below_drewN | apply below_drew1) | exact HB.out))) : w.heap.size ≤ gb105)); have n3_ := aM ((by rw [hg]; exact (below_size (by repeat (first | (with_reducible first | exact HB.out | apply below_alloc | apply pw_below_drewN | apply below_drew1) | exact HB.out))) : w.heap.size ≤ gb105)); clear HB; have HB := n0_; have BK105 := n1_; have GW105 := n2_; have GE105 := n3_; clear n0_ n1_ n2_ n3_; clear hb hbox hg) | ((with_reducible refine gate_dst (N := 3) rfl ?_); refine box_event ?hg (N := 3) ?hd (cs := #[.int .i64 a1_0, .int .i64 a1_1]) (t := 79) ?hr ?_; (case hd => rfl); (case hg => rfl); (case hr => first | (go_simp; done) | (go_simp; rfl)); intro gb106 hg w5 hbox hb; have n0_ := aM (blk_below (g := gb105) (o := .cells #[.int .i64 a0_0, .int .i64 a0_1] 79 (0, 0)) (by (with_reducible repeat (first | refine blk_drewN ?_ _ | refine blk_drew ?_ | refine blk_alloc ?_ _)); exact BK105.out) hb); have n1_ := aM (below_step (by repeat (first | (with_reducible first | exact HB.out | apply below_alloc | apply pw_below_drewN | apply below_drew1 | refine below_set ?_ GE105.out) | exact HB.out)) hb); have n2_ := aM (hbox); have n3_ := aM ((by rw [hg]; exact (below_size (by repeat (first | (with_reducible first | exact HB.out | apply below_alloc | apply pw_below_drewN | apply below_drew1 | refine below_set ?_ GE105.out) | exact HB.out))) : w.heap.size ≤ gb106)); have n4_ := aM ((by rw [hg]; exact (below_size (by repeat (first | (with_reducible first | exact HB.out | apply below_alloc | apply pw_below_drewN | apply below_drew1 | refine below_set ?_ GE105.out) | exact HB.out))) : w.heap.size ≤ gb106)); have n5_ := aM ((by rw [hg]; exact Nat.ne_of_lt (blk_lt (g := gb105) (o := .cells #[.int .i64 a0_0, .int .i64 a0_1] 79 (0, 0)) (by (with_reducible repeat (first | refine blk_drewN ?_ _ | refine blk_drew ?_ | refine blk_alloc ?_ _)); exact BK105.out)) : gb105 ≠ gb106)); have n6_ := aM ((by rw [hg]; exact Nat.ne_of_gt (blk_lt (g := gb105) (o := .cells #[.int .i64 a0_0, .int .i64 a0_1] 79 (0, 0)) (by (with_reducible repeat (first | refine blk_drewN ?_ _ | refine blk_drew ?_ | refine blk_alloc ?_ _)); exact BK105.out)) : gb106 ≠ gb105)); clear BK105; clear HB; have BK105 := n0_; have HB := n1_; have BK106 := n2_; have GW106 := n3_; have GE106 := n4_; have NB105_106 := n5_; have NB106_105 := n6_; clear n0_ n1_ n2_ n3_ n4_ n5_ n6_; clear hb hbox hg; have hnb6 := NB105_106.out; have hnc6 := NB106_105.out; have hcz7_0 : w5.cell? ⟨gb105, 0, none⟩ = some (.int .i64 a0_0) := (blk_cell BK105.out 0).trans rfl; have hcz7_1 : w5.cell? ⟨gb105, 1, none⟩ = some (.int .i64 a0_1) := (blk_cell BK105.out 1).trans rfl; have hfz7_0 := blk_frozen BK105.out 0; have hfz7_1 := blk_frozen BK105.out 1; have hcz8_0 : w5.cell? ⟨gb106, 0, none⟩ = some (.int .i64 a1_0) := (blk_cell BK106.out 0).trans rfl; have hcz8_1 : w5.cell? ⟨gb106, 1, none⟩ = some (.int .i64 a1_1) := (blk_cell BK106.out 1).trans rfl; have hfz8_0 := blk_frozen BK106.out 0; have hfz8_1 := blk_frozen BK106.out 1))
  go_ret
  exact ⟨eR, by repeat (first | (with_reducible first | exact HB.out | apply below_alloc | apply pw_below_drewN | apply below_drew1 | refine below_set ?_ GE105.out | refine below_set ?_ GE106.out) | exact HB.out)⟩
 ·rw [if_neg c3] at H
  have c3b0 : decide (a1_1 < a0_1) = false := decide_eq_false c3
  clear c3
  by_cases c9 : a0_1 = a1_1
  ·rw [if_pos c9] at H
   have c9b0 : (a0_1 == a1_1) = true := beq_iff_eq.mpr c9
   have c9b1 : (a0_1 != a1_1) = false := bne_eq_false_iff_eq.mpr c9
   clear c9
   obtain rfl := Option.some.inj H
   go_enter Try.func112, Try.ntmps112
   go_wp2_with (first | ((with_reducible refine gate_dst (N := 2) rfl ?_); refine box_event ?hg (N := 2) ?hd (cs := #[.int .i64 a0_0, .int .i64 a0_1]) (t := 79) ?hr ?_; (case hd => rfl); (case hg => rfl); (case hr => first | (go_simp; done) | (go_simp; rfl)); intro gb105 hg w10 hbox hb; have n0_ := aM (below_step (by repeat (first | (with_reducible first | exact HB.out | apply below_alloc | apply pw_below_drewN | apply below_drew1) | exact HB.out)) hb); have n1_ := aM (hbox); have n2_ := aM ((by rw [hg]; exact (below_size (by repeat (first | (with_reducible first | exact HB.out | apply below_alloc | apply pw_below_drewN | apply below_drew1) | exact HB.out))) : w.heap.size ≤ gb105)); have n3_ := aM ((by rw [hg]; exact (below_size (by repeat (first | (with_reducible first | exact HB.out | apply below_alloc | apply pw_below_drewN | apply below_drew1) | exact HB.out))) : w.heap.size ≤ gb105)); clear HB; have HB := n0_; have BK105 := n1_; have GW105 := n2_; have GE105 := n3_; clear n0_ n1_ n2_ n3_; clear hb hbox hg) | ((with_reducible refine gate_dst (N := 3) rfl ?_); refine box_event ?hg (N := 3) ?hd (cs := #[.int .i64 a1_0, .int .i64 a1_1]) (t := 79) ?hr ?_; (case hd => rfl); (case hg => rfl); (case hr => first | (go_simp; done) | (go_simp; rfl)); intro gb106 hg w11 hbox hb; have n0_ := aM (blk_below (g := gb105) (o := .cells #[.int .i64 a0_0, .int .i64 a0_1] 79 (0, 0)) (by (with_reducible repeat (first | refine blk_drewN ?_ _ | refine blk_drew ?_ | refine blk_alloc ?_ _)); exact BK105.out) hb); have n1_ := aM (below_step (by repeat (first | (with_reducible first | exact HB.out | apply below_alloc | apply pw_below_drewN | apply below_drew1 | refine below_set ?_ GE105.out) | exact HB.out)) hb); have n2_ := aM (hbox); have n3_ := aM ((by rw [hg]; exact (below_size (by repeat (first | (with_reducible first | exact HB.out | apply below_alloc | apply pw_below_drewN | apply below_drew1 | refine below_set ?_ GE105.out) | exact HB.out))) : w.heap.size ≤ gb106)); have n4_ := aM ((by rw [hg]; exact (below_size (by repeat (first | (with_reducible first | exact HB.out | apply below_alloc | apply pw_below_drewN | apply below_drew1 | refine below_set ?_ GE105.out) | exact HB.out))) : w.heap.size ≤ gb106)); have n5_ := aM ((by rw [hg]; exact Nat.ne_of_lt (blk_lt (g := gb105) (o := .cells #[.int .i64 a0_0, .int .i64 a0_1] 79 (0, 0)) (by (with_reducible repeat (first | refine blk_drewN ?_ _ | refine blk_drew ?_ | refine blk_alloc ?_ _)); exact BK105.out)) : gb105 ≠ gb106)); have n6_ := aM ((by rw [hg]; exact Nat.ne_of_gt (blk_lt (g := gb105) (o := .cells #[.int .i64 a0_0, .int .i64 a0_1] 79 (0, 0)) (by (with_reducible repeat (first | refine blk_drewN ?_ _ | refine blk_drew ?_ | refine blk_alloc ?_ _)); exact BK105.out)) : gb106 ≠ gb105)); clear BK105; clear HB; have BK105 := n0_; have HB := n1_; have BK106 := n2_; have GW106 := n3_; have GE106 := n4_; have NB105_106 := n5_; have NB106_105 := n6_; clear n0_ n1_ n2_ n3_ n4_ n5_ n6_; clear hb hbox hg; have hnb12 := NB105_106.out; have hnc12 := NB106_105.out; have hcz13_0 : w11.cell? ⟨gb105, 0, none⟩ = some (.int .i64 a0_0) := (blk_cell BK105.out 0).trans rfl; have hcz13_1 : w11.cell? ⟨gb105, 1, none⟩ = some (.int .i64 a0_1) := (blk_cell BK105.out 1).trans rfl; have hfz13_0 := blk_frozen BK105.out 0; have hfz13_1 := blk_frozen BK105.out 1; have hcz14_0 : w11.cell? ⟨gb106, 0, none⟩ = some (.int .i64 a1_0) := (blk_cell BK106.out 0).trans rfl; have hcz14_1 : w11.cell? ⟨gb106, 1, none⟩ = some (.int .i64 a1_1) := (blk_cell BK106.out 1).trans rfl; have hfz14_0 := blk_frozen BK106.out 0; have hfz14_1 := blk_frozen BK106.out 1))
   go_ret
   exact ⟨eR, by repeat (first | (with_reducible first | exact HB.out | apply below_alloc | apply pw_below_drewN | apply below_drew1 | refine below_set ?_ GE105.out | refine below_set ?_ GE106.out) | exact HB.out)⟩
  ·rw [if_neg c9] at H
   have c9b0 : (a0_1 == a1_1) = false := beq_eq_false_iff_ne.mpr c9
   have c9b1 : (a0_1 != a1_1) = true := bne_iff_ne.mpr c9
   obtain rfl := Option.some.inj H
   go_enter Try.func112, Try.ntmps112
   go_wp2_with (first | ((with_reducible refine gate_dst (N := 2) rfl ?_); refine box_event ?hg (N := 2) ?hd (cs := #[.int .i64 a0_0, .int .i64 a0_1]) (t := 79) ?hr ?_; (case hd => rfl); (case hg => rfl); (case hr => first | (go_simp; done) | (go_simp; rfl)); intro gb105 hg w15 hbox hb; have n0_ := aM (below_step (by repeat (first | (with_reducible first | exact HB.out | apply below_alloc | apply pw_below_drewN | apply below_drew1) | exact HB.out)) hb); have n1_ := aM (hbox); have n2_ := aM ((by rw [hg]; exact (below_size (by repeat (first | (with_reducible first | exact HB.out | apply below_alloc | apply pw_below_drewN | apply below_drew1) | exact HB.out))) : w.heap.size ≤ gb105)); have n3_ := aM ((by rw [hg]; exact (below_size (by repeat (first | (with_reducible first | exact HB.out | apply below_alloc | apply pw_below_drewN | apply below_drew1) | exact HB.out))) : w.heap.size ≤ gb105)); clear HB; have HB := n0_; have BK105 := n1_; have GW105 := n2_; have GE105 := n3_; clear n0_ n1_ n2_ n3_; clear hb hbox hg) | ((with_reducible refine gate_dst (N := 3) rfl ?_); refine box_event ?hg (N := 3) ?hd (cs := #[.int .i64 a1_0, .int .i64 a1_1]) (t := 79) ?hr ?_; (case hd => rfl); (case hg => rfl); (case hr => first | (go_simp; done) | (go_simp; rfl)); intro gb106 hg w16 hbox hb; have n0_ := aM (blk_below (g := gb105) (o := .cells #[.int .i64 a0_0, .int .i64 a0_1] 79 (0, 0)) (by (with_reducible repeat (first | refine blk_drewN ?_ _ | refine blk_drew ?_ | refine blk_alloc ?_ _)); exact BK105.out) hb); have n1_ := aM (below_step (by repeat (first | (with_reducible first | exact HB.out | apply below_alloc | apply pw_below_drewN | apply below_drew1 | refine below_set ?_ GE105.out) | exact HB.out)) hb); have n2_ := aM (hbox); have n3_ := aM ((by rw [hg]; exact (below_size (by repeat (first | (with_reducible first | exact HB.out | apply below_alloc | apply pw_below_drewN | apply below_drew1 | refine below_set ?_ GE105.out) | exact HB.out))) : w.heap.size ≤ gb106)); have n4_ := aM ((by rw [hg]; exact (below_size (by repeat (first | (with_reducible first | exact HB.out | apply below_alloc | apply pw_below_drewN | apply below_drew1 | refine below_set ?_ GE105.out) | exact HB.out))) : w.heap.size ≤ gb106)); have n5_ := aM ((by rw [hg]; exact Nat.ne_of_lt (blk_lt (g := gb105) (o := .cells #[.int .i64 a0_0, .int .i64 a0_1] 79 (0, 0)) (by (with_reducible repeat (first | refine blk_drewN ?_ _ | refine blk_drew ?_ | refine blk_alloc ?_ _)); exact BK105.out)) : gb105 ≠ gb106)); have n6_ := aM ((by rw [hg]; exact Nat.ne_of_gt (blk_lt (g := gb105) (o := .cells #[.int .i64 a0_0, .int .i64 a0_1] 79 (0, 0)) (by (with_reducible repeat (first | refine blk_drewN ?_ _ | refine blk_drew ?_ | refine blk_alloc ?_ _)); exact BK105.out)) : gb106 ≠ gb105)); clear BK105; clear HB; have BK105 := n0_; have HB := n1_; have BK106 := n2_; have GW106 := n3_; have GE106 := n4_; have NB105_106 := n5_; have NB106_105 := n6_; clear n0_ n1_ n2_ n3_ n4_ n5_ n6_; clear hb hbox hg; have hnb17 := NB105_106.out; have hnc17 := NB106_105.out; have hcz18_0 : w16.cell? ⟨gb105, 0, none⟩ = some (.int .i64 a0_0) := (blk_cell BK105.out 0).trans rfl; have hcz18_1 : w16.cell? ⟨gb105, 1, none⟩ = some (.int .i64 a0_1) := (blk_cell BK105.out 1).trans rfl; have hfz18_0 := blk_frozen BK105.out 0; have hfz18_1 := blk_frozen BK105.out 1; have hcz19_0 : w16.cell? ⟨gb106, 0, none⟩ = some (.int .i64 a1_0) := (blk_cell BK106.out 0).trans rfl; have hcz19_1 : w16.cell? ⟨gb106, 1, none⟩ = some (.int .i64 a1_1) := (blk_cell BK106.out 1).trans rfl; have hfz19_0 := blk_frozen BK106.out 0; have hfz19_1 := blk_frozen BK106.out 1))
   go_ret
   exact ⟨eR, by repeat (first | (with_reducible first | exact HB.out | apply below_alloc | apply pw_below_drewN | apply below_drew1 | refine below_set ?_ GE105.out | refine below_set ?_ GE106.out) | exact HB.out)⟩


mutual
def impl_sumOf.l0 : Nat → Int → Int → List (S77) → Int → Int → Option (Int)
 | 0, _, _, _, _, _ => none
 | k + 1, x1, x5, x10, x11, x12 => if x12 < x11 then (if 0 ≤ x12 then (if x12 < (x10.length : Int) then (impl_sumOf.l1 k x1 x5 x10 x11 x12 ((rd_T77 x10 x12).f0) (((rd_T77 x10 x12).f0).length : Int) 0) else (none)) else (none)) else (some x5)
def impl_sumOf.l1 : Nat → Int → Int → List (S77) → Int → Int → List (S79) → Int → Int → Option (Int)
 | 0, _, _, _, _, _, _, _, _ => none
 | k + 1, x1, x5, x10, x11, x12, x17, x18, x19 => if x19 < x18 then (if 0 ≤ x19 then (if x19 < (x17.length : Int) then (if ((rd_T79 x17 x19).f0) = x1 then (impl_sumOf.l1 k x1 (wrap64 (x5 + ((rd_T79 x17 x19).f1))) x10 x11 x12 x17 x18 (wrap64 (x19 + 1))) else (impl_sumOf.l1 k x1 x5 x10 x11 x12 x17 x18 (wrap64 (x19 + 1)))) else (none)) else (none)) else (impl_sumOf.l0 k x1 x5 x10 x11 (wrap64 (x12 + 1)))
end
def impl_sumOf.f (k : Nat) (l0 : List (S77)) (a1 : Int) : Option (Int) := impl_sumOf.l0 k a1 0 l0 (l0.length : Int) 0
set_option maxHeartbeats 8000000 in
set_option maxRecDepth 100000 in
theorem impl_sumOf.calls (k : Nat) (A0 : Option Addr) (c0 : Nat) (l0 : List (S77)) (a1 : Int) (r : Int) (w : World) (hr0 : Kd.C k77 w A0 l0.length l0) (hc0 : l0.length ≤ c0) (h : impl_sumOf.f k l0 a1 = some r) :
  Calls Try.prog 113 #[.slice A0 l0.length c0, .int .i64 a1] w fun e w' => e = .returned (.int .i64 r) ∧ Below w.heap.size w w' := by
 have hu77 := Try.underlying77
 have hu79 := Try.underlying79
 have HR0 := aM hr0
 have HC0 := aM hc0
 clear hr0 hc0
 have HB := aM (Below.refl w.heap.size w)
 have H : (impl_sumOf.l0 k a1 0 l0 (l0.length : Int) 0) = some r := h
 clear h
 have H' := aM H
 clear H
 go_enter Try.func113, Try.ntmps113
 go_wp2
 go_loopg [5, 12] k (fun kq v5 v12 w' => ∃ (x5_1 : Int) (x12_1 : Int), v5 = .int .i64 x5_1 ∧ v12 = .int .i64 x12_1 ∧ Aside0 (impl_sumOf.l0 kq a1 x5_1 l0 (l0.length : Int) x12_1 = some r) ∧ Aside0 (kq ≤ k) ∧ Aside0 (Below w.heap.size w w'))
 case atStart => exact ⟨(0), (0), (by first | rfl | (simp; done) | (simp [*]; done)), (by first | rfl | (simp; done) | (simp [*]; done)), H', ⟨Nat.le_refl _⟩, ⟨by repeat (first | (with_reducible first | exact HB.out | apply below_alloc | apply pw_below_drewN | apply below_drew1) | exact HB.out)⟩⟩
 case round =>
  clear H'
  try clear c1
  try clear p2
  obtain ⟨x5_1, x12_1, rfl, rfl, HA, HK1, HB⟩ := hrel
  cases gk with
  | zero => exact absurd HA.out (by simp [impl_sumOf.l0])
  | succ k1 =>
   have H := HA.out
   clear HA
   simp only [impl_sumOf.l0] at H
   by_cases c3 : x12_1 < (l0.length : Int)
   ·rw [if_pos c3] at H
    have c3b0 : decide (x12_1 < (l0.length : Int)) = true := decide_eq_true c3
    clear c3
    by_cases c4 : 0 ≤ x12_1
    ·rw [if_pos c4] at H
     have c4b0 : decide (0 ≤ x12_1) = true := decide_eq_true c4
     clear c4
     by_cases c5 : x12_1 < (l0.length : Int)
     ·rw [if_pos c5] at H
      have c5b0 : decide (x12_1 < (l0.length : Int)) = true := decide_eq_true c5
      clear c5
      have H' := aM H
      clear H
      have p101 : 0 ≤ (x12_1 : Int) := dT
      have q101 : x12_1 < (l0.length : Int) := dT
      obtain ⟨ad101, A101_0, c101_0, e101, hx101_0, hl101_0, hi101_0⟩ := at_T77 HR0.out x12_1 p101 q101
      cases e101
      try have hz_hx101_0 := aM hx101_0
      replace hx101_0 := (HB.out.cell (World.block_lt_of_cell? w _ hx101_0)).trans hx101_0
      have HR101_0 := aM hi101_0
      have HC101_0 := aM hl101_0
      clear hi101_0 hl101_0
      replace p101 := eq_true p101
      replace q101 := eq_true q101
      go_wp2_with (((with_reducible refine gate_dst (N := 7) rfl ?_); refine box_event ?hg (N := 7) ?hd (cs := #[.slice none 0 0]) (t := 77) ?hr ?_; (case hd => rfl); (case hg => rfl); (case hr => first | (go_simp; done) | (go_simp; rfl)); intro gb102 hg w6 hbox hb; have n0_ := aM (below_step (gB HB.out) hb); have n1_ := aM (hbox); have n2_ := aM ((by rw [hg]; exact (below_size (gB HB.out)) : w.heap.size ≤ gb102)); have n3_ := aM ((by rw [hg]; exact (below_size (gB HB.out)) : w.heap.size ≤ gb102)); clear HB; have HB := n0_; have BK102 := n1_; have GW102 := n2_; have GE102 := n3_; clear n0_ n1_ n2_ n3_; clear hb hbox hg; have hcz7_0 : w6.cell? ⟨gb102, 0, none⟩ = some (.slice none 0 0) := (blk_cell BK102.out 0).trans rfl; have hfz7_0 := blk_frozen BK102.out 0))
      go_loopg [5, 19] k1 (fun kq v5 v19 w' => ∃ (x5_2 : Int) (x19_2 : Int), v5 = .int .i64 x5_2 ∧ v19 = .int .i64 x19_2 ∧ Aside0 (impl_sumOf.l1 kq a1 x5_2 l0 (l0.length : Int) x12_1 ((rd_T77 l0 x12_1).f0) (((rd_T77 l0 x12_1).f0).length : Int) x19_2 = some r) ∧ Aside0 (kq ≤ k1) ∧ Aside0 (w'.heap[gb102]? = some (.cells #[(.slice A101_0 ((rd_T77 l0 x12_1).f0).length c101_0)] 77 (0, 0))) ∧ Aside0 (Below w.heap.size w w'))
      case atStart => exact ⟨(x5_1), (0), (by first | rfl | (simp; done) | (simp [*]; done)), (by first | rfl | (simp; done) | (simp [*]; done)), H', ⟨Nat.le_refl _⟩, ⟨by (with_reducible repeat (first | refine blk_drewN ?_ _ | refine blk_drew ?_ | refine blk_alloc ?_ _)); refine blk_put (cs := #[.slice none 0 0]) ?_ 0 _ rfl; (with_reducible repeat (first | refine blk_drewN ?_ _ | refine blk_drew ?_ | refine blk_alloc ?_ _)); exact BK102.out⟩, ⟨by repeat (first | (with_reducible first | exact HB.out | apply below_alloc | apply pw_below_drewN | apply below_drew1 | refine below_set ?_ GE102.out) | exact HB.out)⟩⟩
      case round =>
       clear H'
       try clear c1
       try clear p1
       try clear q1
       try clear hx1
       try clear p2
       try clear c3
       try clear c3b0
       try clear c4
       try clear c4b0
       try clear c5
       try clear c5b0
       try clear hcz7_0
       try clear hfz7_0
       try clear hx101_0
       try clear p101
       try clear p2
       try clear q101
       obtain ⟨x5_2, x19_2, rfl, rfl, HA, HK2, BK102, HB⟩ := hrel
       cases gk with
       | zero => exact absurd HA.out (by simp [impl_sumOf.l1])
       | succ k2 =>
        have H := HA.out
        clear HA
        simp only [impl_sumOf.l1] at H
        by_cases c8 : x19_2 < (((rd_T77 l0 x12_1).f0).length : Int)
        ·rw [if_pos c8] at H
         have c8b0 : decide (x19_2 < (((rd_T77 l0 x12_1).f0).length : Int)) = true := decide_eq_true c8
         clear c8
         by_cases c9 : 0 ≤ x19_2
         ·rw [if_pos c9] at H
          have c9b0 : decide (0 ≤ x19_2) = true := decide_eq_true c9
          clear c9
          by_cases c10 : x19_2 < (((rd_T77 l0 x12_1).f0).length : Int)
          ·rw [if_pos c10] at H
           have c10b0 : decide (x19_2 < (((rd_T77 l0 x12_1).f0).length : Int)) = true := decide_eq_true c10
           clear c10
           by_cases c11 : ((rd_T79 ((rd_T77 l0 x12_1).f0) x19_2).f0) = a1
           ·rw [if_pos c11] at H
            have c11b0 : (((rd_T79 ((rd_T77 l0 x12_1).f0) x19_2).f0) == a1) = true := beq_iff_eq.mpr c11
            have c11b1 : (((rd_T79 ((rd_T77 l0 x12_1).f0) x19_2).f0) != a1) = false := bne_eq_false_iff_eq.mpr c11
            clear c11
            have H' := aM H
            clear H
            have p103 : 0 ≤ (x19_2 : Int) := dT
            have q103 : x19_2 < (((rd_T77 l0 x12_1).f0).length : Int) := dT
            obtain ⟨ad103, e103, hx103_0, hx103_1⟩ := at_T79 HR101_0.out x19_2 p103 q103
            cases e103
            try have hz_hx103_0 := aM hx103_0
            try have hz_hx103_1 := aM hx103_1
            replace hx103_0 := (HB.out.cell (World.block_lt_of_cell? w _ hx103_0)).trans hx103_0
            replace hx103_1 := (HB.out.cell (World.block_lt_of_cell? w _ hx103_1)).trans hx103_1
            replace p103 := eq_true p103
            replace q103 := eq_true q103
            go_wp2_with (((with_reducible refine gate_dst (N := 9) rfl ?_); refine box_event ?hg (N := 9) ?hd (cs := #[.int .i64 0, .int .i64 0]) (t := 79) ?hr ?_; (case hd => rfl); (case hg => rfl); (case hr => first | (go_simp; done) | (go_simp; rfl)); intro gb104 hg w12 hbox hb; have n0_ := aM (blk_below (g := gb102) (o := .cells #[.slice (some ad103) ((rd_T77 l0 x12_1).f0).length c101_0] 77 (0, 0)) (gK BK102.out) hb); have n1_ := aM (below_step (gB HB.out) hb); have n2_ := aM (hbox); have n3_ := aM ((by rw [hg]; exact (below_size (gB HB.out)) : w.heap.size ≤ gb104)); have n4_ := aM ((by rw [hg]; exact (below_size (gB HB.out)) : w.heap.size ≤ gb104)); have n5_ := aM ((by rw [hg]; exact Nat.ne_of_lt (blk_lt (g := gb102) (o := .cells #[.slice (some ad103) ((rd_T77 l0 x12_1).f0).length c101_0] 77 (0, 0)) (gK BK102.out)) : gb102 ≠ gb104)); have n6_ := aM ((by rw [hg]; exact Nat.ne_of_gt (blk_lt (g := gb102) (o := .cells #[.slice (some ad103) ((rd_T77 l0 x12_1).f0).length c101_0] 77 (0, 0)) (gK BK102.out)) : gb104 ≠ gb102)); clear BK102; clear HB; have BK102 := n0_; have HB := n1_; have BK104 := n2_; have GW104 := n3_; have GE104 := n4_; have NB102_104 := n5_; have NB104_102 := n6_; clear n0_ n1_ n2_ n3_ n4_ n5_ n6_; clear hb hbox hg; have hnb13 := NB104_102.out; have hnc13 := NB102_104.out; have hcz14_0 : w12.cell? ⟨gb104, 0, none⟩ = some (.int .i64 0) := (blk_cell BK104.out 0).trans rfl; have hcz14_1 : w12.cell? ⟨gb104, 1, none⟩ = some (.int .i64 0) := (blk_cell BK104.out 1).trans rfl; have hfz14_0 := blk_frozen BK104.out 0; have hfz14_1 := blk_frozen BK104.out 1))
            go_roundg k2
            case measure => have := HK1.out; have := HK2.out; omega
            case rel => exact ⟨(wrap64 (x5_2 + ((rd_T79 ((rd_T77 l0 x12_1).f0) x19_2).f1))), (wrap64 (x19_2 + 1)), (by first | rfl | (simp; done) | (simp [*]; done)), (by first | rfl | (simp; done) | (simp [*]; done)), H', ⟨by have := HK1.out; have := HK2.out; omega⟩, ⟨by (with_reducible repeat (first | refine blk_drewN ?_ _ | refine blk_drew ?_ | refine blk_alloc ?_ _)); refine blk_far ?_ NB102_104.out _; (with_reducible repeat (first | refine blk_drewN ?_ _ | refine blk_drew ?_ | refine blk_alloc ?_ _)); refine blk_far ?_ NB102_104.out _; (with_reducible repeat (first | refine blk_drewN ?_ _ | refine blk_drew ?_ | refine blk_alloc ?_ _)); exact BK102.out⟩, ⟨by repeat (first | (with_reducible first | exact HB.out | apply below_alloc | apply pw_below_drewN | apply below_drew1 | refine below_set ?_ GE102.out | refine below_set ?_ GE104.out) | exact HB.out)⟩⟩
           ·rw [if_neg c11] at H
            have c11b0 : (((rd_T79 ((rd_T77 l0 x12_1).f0) x19_2).f0) == a1) = false := beq_eq_false_iff_ne.mpr c11
            have c11b1 : (((rd_T79 ((rd_T77 l0 x12_1).f0) x19_2).f0) != a1) = true := bne_iff_ne.mpr c11
            have H' := aM H
            clear H
            have p103 : 0 ≤ (x19_2 : Int) := dT
            have q103 : x19_2 < (((rd_T77 l0 x12_1).f0).length : Int) := dT
            obtain ⟨ad103, e103, hx103_0, hx103_1⟩ := at_T79 HR101_0.out x19_2 p103 q103
            cases e103
            try have hz_hx103_0 := aM hx103_0
            try have hz_hx103_1 := aM hx103_1
            replace hx103_0 := (HB.out.cell (World.block_lt_of_cell? w _ hx103_0)).trans hx103_0
            replace hx103_1 := (HB.out.cell (World.block_lt_of_cell? w _ hx103_1)).trans hx103_1
            replace p103 := eq_true p103
            replace q103 := eq_true q103
            go_wp2_with (((with_reducible refine gate_dst (N := 9) rfl ?_); refine box_event ?hg (N := 9) ?hd (cs := #[.int .i64 0, .int .i64 0]) (t := 79) ?hr ?_; (case hd => rfl); (case hg => rfl); (case hr => first | (go_simp; done) | (go_simp; rfl)); intro gb104 hg w15 hbox hb; have n0_ := aM (blk_below (g := gb102) (o := .cells #[.slice (some ad103) ((rd_T77 l0 x12_1).f0).length c101_0] 77 (0, 0)) (gK BK102.out) hb); have n1_ := aM (below_step (gB HB.out) hb); have n2_ := aM (hbox); have n3_ := aM ((by rw [hg]; exact (below_size (gB HB.out)) : w.heap.size ≤ gb104)); have n4_ := aM ((by rw [hg]; exact (below_size (gB HB.out)) : w.heap.size ≤ gb104)); have n5_ := aM ((by rw [hg]; exact Nat.ne_of_lt (blk_lt (g := gb102) (o := .cells #[.slice (some ad103) ((rd_T77 l0 x12_1).f0).length c101_0] 77 (0, 0)) (gK BK102.out)) : gb102 ≠ gb104)); have n6_ := aM ((by rw [hg]; exact Nat.ne_of_gt (blk_lt (g := gb102) (o := .cells #[.slice (some ad103) ((rd_T77 l0 x12_1).f0).length c101_0] 77 (0, 0)) (gK BK102.out)) : gb104 ≠ gb102)); clear BK102; clear HB; have BK102 := n0_; have HB := n1_; have BK104 := n2_; have GW104 := n3_; have GE104 := n4_; have NB102_104 := n5_; have NB104_102 := n6_; clear n0_ n1_ n2_ n3_ n4_ n5_ n6_; clear hb hbox hg; have hnb16 := NB104_102.out; have hnc16 := NB102_104.out; have hcz17_0 : w15.cell? ⟨gb104, 0, none⟩ = some (.int .i64 0) := (blk_cell BK104.out 0).trans rfl; have hcz17_1 : w15.cell? ⟨gb104, 1, none⟩ = some (.int .i64 0) := (blk_cell BK104.out 1).trans rfl; have hfz17_0 := blk_frozen BK104.out 0; have hfz17_1 := blk_frozen BK104.out 1))
            go_roundg k2
            case measure => have := HK1.out; have := HK2.out; omega
            case rel => exact ⟨(x5_2), (wrap64 (x19_2 + 1)), (by first | rfl | (simp; done) | (simp [*]; done)), (by first | rfl | (simp; done) | (simp [*]; done)), H', ⟨by have := HK1.out; have := HK2.out; omega⟩, ⟨by (with_reducible repeat (first | refine blk_drewN ?_ _ | refine blk_drew ?_ | refine blk_alloc ?_ _)); refine blk_far ?_ NB102_104.out _; (with_reducible repeat (first | refine blk_drewN ?_ _ | refine blk_drew ?_ | refine blk_alloc ?_ _)); refine blk_far ?_ NB102_104.out _; (with_reducible repeat (first | refine blk_drewN ?_ _ | refine blk_drew ?_ | refine blk_alloc ?_ _)); exact BK102.out⟩, ⟨by repeat (first | (with_reducible first | exact HB.out | apply below_alloc | apply pw_below_drewN | apply below_drew1 | refine below_set ?_ GE102.out | refine below_set ?_ GE104.out) | exact HB.out)⟩⟩
          ·rw [if_neg c10] at H
           exact absurd H (by simp)
         ·rw [if_neg c9] at H
          exact absurd H (by simp)
        ·rw [if_neg c8] at H
         have c8b0 : decide (x19_2 < (((rd_T77 l0 x12_1).f0).length : Int)) = false := decide_eq_false c8
         clear c8
         have H' := aM H
         clear H
         go_wp2
         go_roundg k2
         case measure => have := HK1.out; have := HK2.out; omega
         case rel => exact ⟨(x5_2), (wrap64 (x12_1 + 1)), (by first | rfl | (simp; done) | (simp [*]; done)), (by first | rfl | (simp; done) | (simp [*]; done)), H', ⟨by have := HK1.out; have := HK2.out; omega⟩, ⟨by repeat (first | (with_reducible first | exact HB.out | apply below_alloc | apply pw_below_drewN | apply below_drew1 | refine below_set ?_ GE102.out) | exact HB.out)⟩⟩
     ·rw [if_neg c5] at H
      exact absurd H (by simp)
    ·rw [if_neg c4] at H
     exact absurd H (by simp)
   ·rw [if_neg c3] at H
    have c3b0 : decide (x12_1 < (l0.length : Int)) = false := decide_eq_false c3
    clear c3
    obtain rfl := Option.some.inj H
    go_wp2
    go_ret
    exact ⟨eR, by repeat (first | (with_reducible first | exact HB.out | apply below_alloc | apply pw_below_drewN | apply below_drew1) | exact HB.out)⟩

mutual
def spec_l11Sum.l0 : Nat → Int → Int → List (S77) → Int → Int → Option (Int)
 | 0, _, _, _, _, _ => none
 | k + 1, x1, x5, x10, x11, x12 => if x12 < x11 then (if 0 ≤ x12 then (if x12 < (x10.length : Int) then (spec_l11Sum.l1 k x1 x5 x10 x11 x12 ((rd_T77 x10 x12).f0) (((rd_T77 x10 x12).f0).length : Int) 0) else (none)) else (none)) else (some x5)
def spec_l11Sum.l1 : Nat → Int → Int → List (S77) → Int → Int → List (S79) → Int → Int → Option (Int)
 | 0, _, _, _, _, _, _, _, _ => none
 | k + 1, x1, x5, x10, x11, x12, x17, x18, x19 => if x19 < x18 then (if 0 ≤ x19 then (if x19 < (x17.length : Int) then (if ((rd_T79 x17 x19).f0) = x1 then (spec_l11Sum.l1 k x1 (wrap64 (x5 + ((rd_T79 x17 x19).f1))) x10 x11 x12 x17 x18 (wrap64 (x19 + 1))) else (spec_l11Sum.l1 k x1 x5 x10 x11 x12 x17 x18 (wrap64 (x19 + 1)))) else (none)) else (none)) else (spec_l11Sum.l0 k x1 x5 x10 x11 (wrap64 (x12 + 1)))
end
def spec_l11Sum.f (k : Nat) (l0 : List (S77)) (a1 : Int) : Option (Int) := spec_l11Sum.l0 k a1 0 l0 (l0.length : Int) 0
set_option maxHeartbeats 8000000 in
set_option maxRecDepth 100000 in
theorem spec_l11Sum.calls (k : Nat) (A0 : Option Addr) (c0 : Nat) (l0 : List (S77)) (a1 : Int) (r : Int) (w : World) (hr0 : Kd.C k77 w A0 l0.length l0) (hc0 : l0.length ≤ c0) (h : spec_l11Sum.f k l0 a1 = some r) :
  Calls Try.prog 105 #[.slice A0 l0.length c0, .int .i64 a1] w fun e w' => e = .returned (.int .i64 r) ∧ Below w.heap.size w w' := by
 have hu77 := Try.underlying77
 have hu79 := Try.underlying79
 have HR0 := aM hr0
 have HC0 := aM hc0
 clear hr0 hc0
 have HB := aM (Below.refl w.heap.size w)
 have H : (spec_l11Sum.l0 k a1 0 l0 (l0.length : Int) 0) = some r := h
 clear h
 have H' := aM H
 clear H
 go_enter Try.func105, Try.ntmps105
 go_wp2
 go_loopg [5, 12] k (fun kq v5 v12 w' => ∃ (x5_1 : Int) (x12_1 : Int), v5 = .int .i64 x5_1 ∧ v12 = .int .i64 x12_1 ∧ Aside0 (spec_l11Sum.l0 kq a1 x5_1 l0 (l0.length : Int) x12_1 = some r) ∧ Aside0 (kq ≤ k) ∧ Aside0 (Below w.heap.size w w'))
 case atStart => exact ⟨(0), (0), (by first | rfl | (simp; done) | (simp [*]; done)), (by first | rfl | (simp; done) | (simp [*]; done)), H', ⟨Nat.le_refl _⟩, ⟨by repeat (first | (with_reducible first | exact HB.out | apply below_alloc | apply pw_below_drewN | apply below_drew1) | exact HB.out)⟩⟩
 case round =>
  clear H'
  try clear c1
  try clear p2
  obtain ⟨x5_1, x12_1, rfl, rfl, HA, HK1, HB⟩ := hrel
  cases gk with
  | zero => exact absurd HA.out (by simp [spec_l11Sum.l0])
  | succ k1 =>
   have H := HA.out
   clear HA
   simp only [spec_l11Sum.l0] at H
   by_cases c3 : x12_1 < (l0.length : Int)
   ·rw [if_pos c3] at H
    have c3b0 : decide (x12_1 < (l0.length : Int)) = true := decide_eq_true c3
    clear c3
    by_cases c4 : 0 ≤ x12_1
    ·rw [if_pos c4] at H
     have c4b0 : decide (0 ≤ x12_1) = true := decide_eq_true c4
     clear c4
     by_cases c5 : x12_1 < (l0.length : Int)
     ·rw [if_pos c5] at H
      have c5b0 : decide (x12_1 < (l0.length : Int)) = true := decide_eq_true c5
      clear c5
      have H' := aM H
      clear H
      have p160 : 0 ≤ (x12_1 : Int) := dT
      have q160 : x12_1 < (l0.length : Int) := dT
      obtain ⟨ad160, A160_0, c160_0, e160, hx160_0, hl160_0, hi160_0⟩ := at_T77 HR0.out x12_1 p160 q160
      cases e160
      try have hz_hx160_0 := aM hx160_0
      replace hx160_0 := (HB.out.cell (World.block_lt_of_cell? w _ hx160_0)).trans hx160_0
      have HR160_0 := aM hi160_0
      have HC160_0 := aM hl160_0
      clear hi160_0 hl160_0
      replace p160 := eq_true p160
      replace q160 := eq_true q160
      go_wp2_with (((with_reducible refine gate_dst (N := 7) rfl ?_); refine box_event ?hg (N := 7) ?hd (cs := #[.slice none 0 0]) (t := 77) ?hr ?_; (case hd => rfl); (case hg => rfl); (case hr => first | (go_simp; done) | (go_simp; rfl)); intro gb161 hg w6 hbox hb; have n0_ := aM (below_step (gB HB.out) hb); have n1_ := aM (hbox); have n2_ := aM ((by rw [hg]; exact (below_size (gB HB.out)) : w.heap.size ≤ gb161)); have n3_ := aM ((by rw [hg]; exact (below_size (gB HB.out)) : w.heap.size ≤ gb161)); clear HB; have HB := n0_; have BK161 := n1_; have GW161 := n2_; have GE161 := n3_; clear n0_ n1_ n2_ n3_; clear hb hbox hg; have hcz7_0 : w6.cell? ⟨gb161, 0, none⟩ = some (.slice none 0 0) := (blk_cell BK161.out 0).trans rfl; have hfz7_0 := blk_frozen BK161.out 0))
      go_loopg [5, 19] k1 (fun kq v5 v19 w' => ∃ (x5_2 : Int) (x19_2 : Int), v5 = .int .i64 x5_2 ∧ v19 = .int .i64 x19_2 ∧ Aside0 (spec_l11Sum.l1 kq a1 x5_2 l0 (l0.length : Int) x12_1 ((rd_T77 l0 x12_1).f0) (((rd_T77 l0 x12_1).f0).length : Int) x19_2 = some r) ∧ Aside0 (kq ≤ k1) ∧ Aside0 (w'.heap[gb161]? = some (.cells #[(.slice A160_0 ((rd_T77 l0 x12_1).f0).length c160_0)] 77 (0, 0))) ∧ Aside0 (Below w.heap.size w w'))
      case atStart => exact ⟨(x5_1), (0), (by first | rfl | (simp; done) | (simp [*]; done)), (by first | rfl | (simp; done) | (simp [*]; done)), H', ⟨Nat.le_refl _⟩, ⟨by (with_reducible repeat (first | refine blk_drewN ?_ _ | refine blk_drew ?_ | refine blk_alloc ?_ _)); refine blk_put (cs := #[.slice none 0 0]) ?_ 0 _ rfl; (with_reducible repeat (first | refine blk_drewN ?_ _ | refine blk_drew ?_ | refine blk_alloc ?_ _)); exact BK161.out⟩, ⟨by repeat (first | (with_reducible first | exact HB.out | apply below_alloc | apply pw_below_drewN | apply below_drew1 | refine below_set ?_ GE161.out) | exact HB.out)⟩⟩
      case round =>
       clear H'
       try clear c1
       try clear p1
       try clear q1
       try clear hx1
       try clear p2
       try clear c3
       try clear c3b0
       try clear c4
       try clear c4b0
       try clear c5
       try clear c5b0
       try clear hcz7_0
       try clear hfz7_0
       try clear hx160_0
       try clear p160
       try clear p2
       try clear q160
       obtain ⟨x5_2, x19_2, rfl, rfl, HA, HK2, BK161, HB⟩ := hrel
       cases gk with
       | zero => exact absurd HA.out (by simp [spec_l11Sum.l1])
       | succ k2 =>
        have H := HA.out
        clear HA
        simp only [spec_l11Sum.l1] at H
        by_cases c8 : x19_2 < (((rd_T77 l0 x12_1).f0).length : Int)
        ·rw [if_pos c8] at H
         have c8b0 : decide (x19_2 < (((rd_T77 l0 x12_1).f0).length : Int)) = true := decide_eq_true c8
         clear c8
         by_cases c9 : 0 ≤ x19_2
         ·rw [if_pos c9] at H
          have c9b0 : decide (0 ≤ x19_2) = true := decide_eq_true c9
          clear c9
          by_cases c10 : x19_2 < (((rd_T77 l0 x12_1).f0).length : Int)
          ·rw [if_pos c10] at H
           have c10b0 : decide (x19_2 < (((rd_T77 l0 x12_1).f0).length : Int)) = true := decide_eq_true c10
           clear c10
           by_cases c11 : ((rd_T79 ((rd_T77 l0 x12_1).f0) x19_2).f0) = a1
           ·rw [if_pos c11] at H
            have c11b0 : (((rd_T79 ((rd_T77 l0 x12_1).f0) x19_2).f0) == a1) = true := beq_iff_eq.mpr c11
            have c11b1 : (((rd_T79 ((rd_T77 l0 x12_1).f0) x19_2).f0) != a1) = false := bne_eq_false_iff_eq.mpr c11
            clear c11
            have H' := aM H
            clear H
            have p162 : 0 ≤ (x19_2 : Int) := dT
            have q162 : x19_2 < (((rd_T77 l0 x12_1).f0).length : Int) := dT
            obtain ⟨ad162, e162, hx162_0, hx162_1⟩ := at_T79 HR160_0.out x19_2 p162 q162
            cases e162
            try have hz_hx162_0 := aM hx162_0
            try have hz_hx162_1 := aM hx162_1
            replace hx162_0 := (HB.out.cell (World.block_lt_of_cell? w _ hx162_0)).trans hx162_0
            replace hx162_1 := (HB.out.cell (World.block_lt_of_cell? w _ hx162_1)).trans hx162_1
            replace p162 := eq_true p162
            replace q162 := eq_true q162
            go_wp2_with (((with_reducible refine gate_dst (N := 9) rfl ?_); refine box_event ?hg (N := 9) ?hd (cs := #[.int .i64 0, .int .i64 0]) (t := 79) ?hr ?_; (case hd => rfl); (case hg => rfl); (case hr => first | (go_simp; done) | (go_simp; rfl)); intro gb163 hg w12 hbox hb; have n0_ := aM (blk_below (g := gb161) (o := .cells #[.slice (some ad162) ((rd_T77 l0 x12_1).f0).length c160_0] 77 (0, 0)) (gK BK161.out) hb); have n1_ := aM (below_step (gB HB.out) hb); have n2_ := aM (hbox); have n3_ := aM ((by rw [hg]; exact (below_size (gB HB.out)) : w.heap.size ≤ gb163)); have n4_ := aM ((by rw [hg]; exact (below_size (gB HB.out)) : w.heap.size ≤ gb163)); have n5_ := aM ((by rw [hg]; exact Nat.ne_of_lt (blk_lt (g := gb161) (o := .cells #[.slice (some ad162) ((rd_T77 l0 x12_1).f0).length c160_0] 77 (0, 0)) (gK BK161.out)) : gb161 ≠ gb163)); have n6_ := aM ((by rw [hg]; exact Nat.ne_of_gt (blk_lt (g := gb161) (o := .cells #[.slice (some ad162) ((rd_T77 l0 x12_1).f0).length c160_0] 77 (0, 0)) (gK BK161.out)) : gb163 ≠ gb161)); clear BK161; clear HB; have BK161 := n0_; have HB := n1_; have BK163 := n2_; have GW163 := n3_; have GE163 := n4_; have NB161_163 := n5_; have NB163_161 := n6_; clear n0_ n1_ n2_ n3_ n4_ n5_ n6_; clear hb hbox hg; have hnb13 := NB163_161.out; have hnc13 := NB161_163.out; have hcz14_0 : w12.cell? ⟨gb163, 0, none⟩ = some (.int .i64 0) := (blk_cell BK163.out 0).trans rfl; have hcz14_1 : w12.cell? ⟨gb163, 1, none⟩ = some (.int .i64 0) := (blk_cell BK163.out 1).trans rfl; have hfz14_0 := blk_frozen BK163.out 0; have hfz14_1 := blk_frozen BK163.out 1))
            go_roundg k2
            case measure => have := HK1.out; have := HK2.out; omega
            case rel => exact ⟨(wrap64 (x5_2 + ((rd_T79 ((rd_T77 l0 x12_1).f0) x19_2).f1))), (wrap64 (x19_2 + 1)), (by first | rfl | (simp; done) | (simp [*]; done)), (by first | rfl | (simp; done) | (simp [*]; done)), H', ⟨by have := HK1.out; have := HK2.out; omega⟩, ⟨by (with_reducible repeat (first | refine blk_drewN ?_ _ | refine blk_drew ?_ | refine blk_alloc ?_ _)); refine blk_far ?_ NB161_163.out _; (with_reducible repeat (first | refine blk_drewN ?_ _ | refine blk_drew ?_ | refine blk_alloc ?_ _)); refine blk_far ?_ NB161_163.out _; (with_reducible repeat (first | refine blk_drewN ?_ _ | refine blk_drew ?_ | refine blk_alloc ?_ _)); exact BK161.out⟩, ⟨by repeat (first | (with_reducible first | exact HB.out | apply below_alloc | apply pw_below_drewN | apply below_drew1 | refine below_set ?_ GE161.out | refine below_set ?_ GE163.out) | exact HB.out)⟩⟩
           ·rw [if_neg c11] at H
            have c11b0 : (((rd_T79 ((rd_T77 l0 x12_1).f0) x19_2).f0) == a1) = false := beq_eq_false_iff_ne.mpr c11
            have c11b1 : (((rd_T79 ((rd_T77 l0 x12_1).f0) x19_2).f0) != a1) = true := bne_iff_ne.mpr c11
            have H' := aM H
            clear H
            have p162 : 0 ≤ (x19_2 : Int) := dT
            have q162 : x19_2 < (((rd_T77 l0 x12_1).f0).length : Int) := dT
            obtain ⟨ad162, e162, hx162_0, hx162_1⟩ := at_T79 HR160_0.out x19_2 p162 q162
            cases e162
            try have hz_hx162_0 := aM hx162_0
            try have hz_hx162_1 := aM hx162_1
            replace hx162_0 := (HB.out.cell (World.block_lt_of_cell? w _ hx162_0)).trans hx162_0
            replace hx162_1 := (HB.out.cell (World.block_lt_of_cell? w _ hx162_1)).trans hx162_1
            replace p162 := eq_true p162
            replace q162 := eq_true q162
            go_wp2_with (((with_reducible refine gate_dst (N := 9) rfl ?_); refine box_event ?hg (N := 9) ?hd (cs := #[.int .i64 0, .int .i64 0]) (t := 79) ?hr ?_; (case hd => rfl); (case hg => rfl); (case hr => first | (go_simp; done) | (go_simp; rfl)); intro gb163 hg w15 hbox hb; have n0_ := aM (blk_below (g := gb161) (o := .cells #[.slice (some ad162) ((rd_T77 l0 x12_1).f0).length c160_0] 77 (0, 0)) (gK BK161.out) hb); have n1_ := aM (below_step (gB HB.out) hb); have n2_ := aM (hbox); have n3_ := aM ((by rw [hg]; exact (below_size (gB HB.out)) : w.heap.size ≤ gb163)); have n4_ := aM ((by rw [hg]; exact (below_size (gB HB.out)) : w.heap.size ≤ gb163)); have n5_ := aM ((by rw [hg]; exact Nat.ne_of_lt (blk_lt (g := gb161) (o := .cells #[.slice (some ad162) ((rd_T77 l0 x12_1).f0).length c160_0] 77 (0, 0)) (gK BK161.out)) : gb161 ≠ gb163)); have n6_ := aM ((by rw [hg]; exact Nat.ne_of_gt (blk_lt (g := gb161) (o := .cells #[.slice (some ad162) ((rd_T77 l0 x12_1).f0).length c160_0] 77 (0, 0)) (gK BK161.out)) : gb163 ≠ gb161)); clear BK161; clear HB; have BK161 := n0_; have HB := n1_; have BK163 := n2_; have GW163 := n3_; have GE163 := n4_; have NB161_163 := n5_; have NB163_161 := n6_; clear n0_ n1_ n2_ n3_ n4_ n5_ n6_; clear hb hbox hg; have hnb16 := NB163_161.out; have hnc16 := NB161_163.out; have hcz17_0 : w15.cell? ⟨gb163, 0, none⟩ = some (.int .i64 0) := (blk_cell BK163.out 0).trans rfl; have hcz17_1 : w15.cell? ⟨gb163, 1, none⟩ = some (.int .i64 0) := (blk_cell BK163.out 1).trans rfl; have hfz17_0 := blk_frozen BK163.out 0; have hfz17_1 := blk_frozen BK163.out 1))
            go_roundg k2
            case measure => have := HK1.out; have := HK2.out; omega
            case rel => exact ⟨(x5_2), (wrap64 (x19_2 + 1)), (by first | rfl | (simp; done) | (simp [*]; done)), (by first | rfl | (simp; done) | (simp [*]; done)), H', ⟨by have := HK1.out; have := HK2.out; omega⟩, ⟨by (with_reducible repeat (first | refine blk_drewN ?_ _ | refine blk_drew ?_ | refine blk_alloc ?_ _)); refine blk_far ?_ NB161_163.out _; (with_reducible repeat (first | refine blk_drewN ?_ _ | refine blk_drew ?_ | refine blk_alloc ?_ _)); refine blk_far ?_ NB161_163.out _; (with_reducible repeat (first | refine blk_drewN ?_ _ | refine blk_drew ?_ | refine blk_alloc ?_ _)); exact BK161.out⟩, ⟨by repeat (first | (with_reducible first | exact HB.out | apply below_alloc | apply pw_below_drewN | apply below_drew1 | refine below_set ?_ GE161.out | refine below_set ?_ GE163.out) | exact HB.out)⟩⟩
          ·rw [if_neg c10] at H
           exact absurd H (by simp)
         ·rw [if_neg c9] at H
          exact absurd H (by simp)
        ·rw [if_neg c8] at H
         have c8b0 : decide (x19_2 < (((rd_T77 l0 x12_1).f0).length : Int)) = false := decide_eq_false c8
         clear c8
         have H' := aM H
         clear H
         go_wp2
         go_roundg k2
         case measure => have := HK1.out; have := HK2.out; omega
         case rel => exact ⟨(x5_2), (wrap64 (x12_1 + 1)), (by first | rfl | (simp; done) | (simp [*]; done)), (by first | rfl | (simp; done) | (simp [*]; done)), H', ⟨by have := HK1.out; have := HK2.out; omega⟩, ⟨by repeat (first | (with_reducible first | exact HB.out | apply below_alloc | apply pw_below_drewN | apply below_drew1 | refine below_set ?_ GE161.out) | exact HB.out)⟩⟩
     ·rw [if_neg c5] at H
      exact absurd H (by simp)
    ·rw [if_neg c4] at H
     exact absurd H (by simp)
   ·rw [if_neg c3] at H
    have c3b0 : decide (x12_1 < (l0.length : Int)) = false := decide_eq_false c3
    clear c3
    obtain rfl := Option.some.inj H
    go_wp2
    go_ret
    exact ⟨eR, by repeat (first | (with_reducible first | exact HB.out | apply below_alloc | apply pw_below_drewN | apply below_drew1) | exact HB.out)⟩

mutual
def spec_l11Put.l0 : Nat → List (S79) → List (S79) → Int → Int → Int → Int → Option ((List (S79)))
 | 0, _, _, _, _, _, _ => none
 | k + 1, x0, x9, x10, x11, x122000, x122001 => if x11 < x10 then (if 0 ≤ x11 then (if x11 < (x9.length : Int) then (if ((rd_T79 x9 x11).f0) = x122000 then (some x0) else (spec_l11Put.l0 k x0 x9 x10 (wrap64 (x11 + 1)) x122000 x122001)) else (none)) else (none)) else (spec_l11Put.l1 k x0 0 x122000 x122001)
def spec_l11Put.l1 : Nat → List (S79) → Int → Int → Int → Option ((List (S79)))
 | 0, _, _, _, _ => none
 | k + 1, x0, x7, x122000, x122001 => if x7 < (x0.length : Int) then (if 0 ≤ x7 then ((spec_l11Less.f ((rd_T79 x0 x7).f0) ((rd_T79 x0 x7).f1) x122000 x122001).bind fun t125 => (if t125 = true then (spec_l11Put.l1 k x0 (wrap64 (x7 + 1)) x122000 x122001) else (if x7 ≤ (x0.length : Int) then ((some (x0.take (x7 : Int).toNat : List (S79))).bind fun y126 => (if ([] : List (S79)).length + y126.length < 8796093022208 then ((some (([] : List (S79)) ++ y126 : List (S79))).bind fun y130 => (if y130.length < 8796093022208 then ((some (y130 ++ [(⟨x122000, x122001⟩ : S79)] : List (S79))).bind fun y133 => ((some (x0.drop (x7 : Int).toNat : List (S79))).bind fun y136 => (if y133.length + y136.length < 8796093022208 then (some (y133 ++ y136)) else (none)))) else (none))) else (none))) else (none)))) else (none)) else (if 0 ≤ x7 then (if x7 ≤ (x0.length : Int) then ((some (x0.take (x7 : Int).toNat : List (S79))).bind fun y143 => (if ([] : List (S79)).length + y143.length < 8796093022208 then ((some (([] : List (S79)) ++ y143 : List (S79))).bind fun y147 => (if y147.length < 8796093022208 then ((some (y147 ++ [(⟨x122000, x122001⟩ : S79)] : List (S79))).bind fun y150 => ((some (x0.drop (x7 : Int).toNat : List (S79))).bind fun y153 => (if y150.length + y153.length < 8796093022208 then (some (y150 ++ y153)) else (none)))) else (none))) else (none))) else (none)) else (none))
end
def spec_l11Put.f (k : Nat) (l0 : List (S79)) (a1_0 : Int) (a1_1 : Int) : Option ((List (S79))) := spec_l11Put.l0 k l0 l0 (l0.length : Int) 0 a1_0 a1_1
def spec_l11Put.T8 : Bool × List (List Nat × List Nat) := (true, [([], []), ([], []), ([1], [1]), ([0, 2], [0, 2]), ([3], [3]), ([4], [4]), ([4], [4]), ([5, 6, 4], [4, 5, 6]), ([7, 4], [4, 7]), ([4], [4]), ([8, 9, 4, 4], [4, 8, 9]), ([4, 10], [4, 10])])
def spec_l11Put.B8 : List Nat := [0, 0, 2, 7, 15, 31, 31, 127, 255, 31, 1023, 2047]
theorem spec_l11Put.tab8 : rtab .any (opsOf Try.f104 8) = spec_l11Put.T8 := by kernel_rfl
theorem spec_l11Put.bits8 : waitsOk spec_l11Put.T8.2 spec_l11Put.B8 = true := by kernel_rfl
set_option maxHeartbeats 8000000 in
set_option maxRecDepth 100000 in
theorem spec_l11Put.calls (k : Nat) (P0_ : Nat → Prop) (u9000_ : Value) (l0 : List (S79)) (a1_0 : Int) (a1_1 : Int) (r : List (S79)) (w0 w : World) (hB : Below w0.heap.size w0 w) (ho0 : Kd.R k79 79 w w0.heap.size P0_ u9000_ l0) (h : spec_l11Put.f k l0 a1_0 a1_1 = some r) :
  Calls Try.prog 104 #[u9000_, .agg #[.int .i64 a1_0, .int .i64 a1_1]] w fun e w' => ∃ v0_ : Value, e = .returned (v0_) ∧ Kd.R k79 79 w' w0.heap.size (fun k_ => (P0_ k_ ∨ w.heap.size ≤ k_)) v0_ r ∧ Below w0.heap.size w0 w' ∧ Kept w w' (fun k_ => P0_ k_) := by
 have hu79 := Try.underlying79
 have HO0 := aM (show Kd.R k79 79 w w0.heap.size (fun k_ => (P0_ k_ ∨ w.heap.size ≤ k_)) u9000_ l0 from Kd.R_mono ho0 (fun k_ hk => (.inl hk)))
 have HK := aM (Kept.refl w (fun k_ => P0_ k_))
 have HW0 := aM hB.size
 have HB := aM hB
 clear hB
 have H : (spec_l11Put.l0 k l0 l0 (l0.length : Int) 0 a1_0 a1_1) = some r := h
 clear h
 have H' := aM H
 clear H
 go_enter Try.func104, Try.ntmps104
 go_wp2_with (((with_reducible refine gate_dst (N := 3) rfl ?_); refine box_event ?hg (N := 3) ?hd (cs := #[.int .i64 a1_0, .int .i64 a1_1]) (t := 79) ?hr ?_; (case hd => rfl); (case hg => rfl); (case hr => first | (go_simp; done) | (go_simp; rfl)); intro gb121 hg w3 hbox hb; have n0_ := aM (Kd.R_below (Kd.R_elderB (gR HO0.out) gb121 (Nat.le_of_eq hg.symm)) hb); have n1_ := aM (Kept.below (S := (fun k_ => P0_ k_)) (by repeat (first | (with_reducible first | exact HK.out | apply Kept.alloc | apply Kept.drewN | apply Kept.drew) | exact HK.out)) hb); have n2_ := aM (below_step (gB HB.out) hb); have n3_ := aM (hbox); have n4_ := aM ((by rw [hg]; exact (by first | exact HK.out.1 | exact (show Kept w _ (fun k_ => P0_ k_) from by repeat (first | (with_reducible first | exact HK.out | apply Kept.alloc | apply Kept.drewN | apply Kept.drew) | exact HK.out)).1) : w.heap.size ≤ gb121)); have n5_ := aM ((by rw [hg]; exact (below_size (gB HB.out)) : w0.heap.size ≤ gb121)); clear HO0; clear HK; clear HB; have HO0 := n0_; have HK := n1_; have HB := n2_; have BK121 := n3_; have GW121 := n4_; have GE121 := n5_; clear n0_ n1_ n2_ n3_ n4_ n5_; clear hb hbox hg; obtain ⟨Ao4, co4, eo4⟩ := Kd.R_slice HO0.out; subst eo4))
 go_loopg [11] k (fun kq v11 w' => ∃ (x11_1 : Int), v11 = .int .i64 x11_1 ∧ Aside0 (spec_l11Put.l0 kq l0 l0 (l0.length : Int) x11_1 a1_0 a1_1 = some r) ∧ Aside0 (kq ≤ k) ∧ Aside0 (Kd.R k79 79 w' w0.heap.size (fun k_ => (P0_ k_ ∨ w.heap.size ≤ k_) ∧ k_ ≠ gb121) (.slice Ao4 l0.length co4) l0) ∧ Aside0 (Kd.R k79 79 w' w0.heap.size (fun k_ => (P0_ k_ ∨ w.heap.size ≤ k_) ∧ k_ ≠ gb121) (.slice Ao4 l0.length co4) l0) ∧ Aside0 (w'.heap[gb121]? = some (.cells #[.int .i64 a1_0, .int .i64 a1_1] 79 (0, 0))) ∧ Aside0 (Kept w w' (fun k_ => P0_ k_)) ∧ Aside0 (Below w0.heap.size w0 w'))
 case atStart => exact ⟨(0), (by first | rfl | (simp; done) | (simp [*]; done)), H', ⟨Nat.le_refl _⟩, ⟨gR HO0.out⟩, ⟨gR HO0.out⟩, ⟨gK BK121.out⟩, ⟨by repeat (first | (with_reducible first | exact HK.out | apply Kept.alloc | apply Kept.drewN | apply Kept.drew | refine Kept.setCell ?_ (.inr GW121.out) _) | exact HK.out)⟩, ⟨by repeat (first | (with_reducible first | exact HB.out | apply below_alloc | apply pw_below_drewN | apply below_drew1 | refine below_set ?_ GE121.out) | exact HB.out)⟩⟩
 case round =>
  clear H'
  try clear c1
  try clear p2
  obtain ⟨x11_1, rfl, HA, HK1, HO_0, HO_9, BK121, HK, HB⟩ := hrel
  cases gk with
  | zero => exact absurd HA.out (by simp [spec_l11Put.l0])
  | succ k1 =>
   have H := HA.out
   clear HA
   simp only [spec_l11Put.l0] at H
   by_cases c5 : x11_1 < (l0.length : Int)
   ·rw [if_pos c5] at H
    have c5b0 : decide (x11_1 < (l0.length : Int)) = true := decide_eq_true c5
    clear c5
    by_cases c6 : 0 ≤ x11_1
    ·rw [if_pos c6] at H
     have c6b0 : decide (0 ≤ x11_1) = true := decide_eq_true c6
     clear c6
     by_cases c7 : x11_1 < (l0.length : Int)
     ·rw [if_pos c7] at H
      have c7b0 : decide (x11_1 < (l0.length : Int)) = true := decide_eq_true c7
      clear c7
      by_cases c8 : ((rd_T79 l0 x11_1).f0) = a1_0
      ·rw [if_pos c8] at H
       have c8b0 : (((rd_T79 l0 x11_1).f0) == a1_0) = true := beq_iff_eq.mpr c8
       have c8b1 : (((rd_T79 l0 x11_1).f0) != a1_0) = false := bne_eq_false_iff_eq.mpr c8
       clear c8
       obtain rfl := Option.some.inj H
       have p122 : 0 ≤ (x11_1 : Int) := dT
       have q122 : x11_1 < (l0.length : Int) := dT
       obtain ⟨ad122, e122, hx122_0, hx122_1⟩ := at_T79 (Kd.R_reads' HO_9.out).2.2 x11_1 p122 q122
       cases e122
       try have hz_hx122_0 := aM hx122_0
       try have hz_hx122_1 := aM hx122_1
       replace p122 := eq_true p122
       replace q122 := eq_true q122
       go_wp2_with (((with_reducible refine gate_dst (N := 6) rfl ?_); refine box_event ?hg (N := 6) ?hd (cs := #[.int .i64 0, .int .i64 0]) (t := 79) ?hr ?_; (case hd => rfl); (case hg => rfl); (case hr => first | (go_simp; done) | (go_simp; rfl)); intro gb123 hg w9 hbox hb; have n0_ := aM (Kd.R_below (Kd.R_elderB (gR HO_0.out) gb123 (Nat.le_of_eq hg.symm)) hb); have n1_ := aM (Kd.R_below (Kd.R_elderB (gR HO_9.out) gb123 (Nat.le_of_eq hg.symm)) hb); have n2_ := aM (blk_below (g := gb121) (o := .cells #[.int .i64 a1_0, .int .i64 a1_1] 79 (0, 0)) (gK BK121.out) hb); have n3_ := aM (Kept.below (S := (fun k_ => P0_ k_)) (by repeat (first | (with_reducible first | exact HK.out | apply Kept.alloc | apply Kept.drewN | apply Kept.drew | refine Kept.setCell ?_ (.inr GW121.out) _) | exact HK.out)) hb); have n4_ := aM (below_step (gB HB.out) hb); have n5_ := aM (hbox); have n6_ := aM ((by rw [hg]; exact (by first | exact HK.out.1 | exact (show Kept w _ (fun k_ => P0_ k_) from by repeat (first | (with_reducible first | exact HK.out | apply Kept.alloc | apply Kept.drewN | apply Kept.drew | refine Kept.setCell ?_ (.inr GW121.out) _) | exact HK.out)).1) : w.heap.size ≤ gb123)); have n7_ := aM ((by rw [hg]; exact (below_size (gB HB.out)) : w0.heap.size ≤ gb123)); have n8_ := aM ((by rw [hg]; exact Nat.ne_of_lt (blk_lt (g := gb121) (o := .cells #[.int .i64 a1_0, .int .i64 a1_1] 79 (0, 0)) (gK BK121.out)) : gb121 ≠ gb123)); have n9_ := aM ((by rw [hg]; exact Nat.ne_of_gt (blk_lt (g := gb121) (o := .cells #[.int .i64 a1_0, .int .i64 a1_1] 79 (0, 0)) (gK BK121.out)) : gb123 ≠ gb121)); clear HO_0; clear HO_9; clear BK121; clear HK; clear HB; have HO_0 := n0_; have HO_9 := n1_; have BK121 := n2_; have HK := n3_; have HB := n4_; have BK123 := n5_; have GW123 := n6_; have GE123 := n7_; have NB121_123 := n8_; have NB123_121 := n9_; clear n0_ n1_ n2_ n3_ n4_ n5_ n6_ n7_ n8_ n9_; clear hb hbox hg; have hnb10 := NB123_121.out; have hnc10 := NB121_123.out; have hcz11_0 : w9.cell? ⟨gb123, 0, none⟩ = some (.int .i64 0) := (blk_cell BK123.out 0).trans rfl; have hcz11_1 : w9.cell? ⟨gb123, 1, none⟩ = some (.int .i64 0) := (blk_cell BK123.out 1).trans rfl; have hfz11_0 := blk_frozen BK123.out 0; have hfz11_1 := blk_frozen BK123.out 1; have hcz12_0 : w9.cell? ⟨gb121, 0, none⟩ = some (.int .i64 a1_0) := (blk_cell BK121.out 0).trans rfl; have hcz12_1 : w9.cell? ⟨gb121, 1, none⟩ = some (.int .i64 a1_1) := (blk_cell BK121.out 1).trans rfl; have hfz12_0 := blk_frozen BK121.out 0; have hfz12_1 := blk_frozen BK121.out 1))
       go_ret
       exact ⟨_, eR, by (with_reducible repeat (first | apply Kd.R_alloc | apply Kd.R_drewN | apply Kd.R_drew)); exact Kd.R_mono (Kd.R_far (p := ⟨gb123, 1, none⟩) (Kd.R_far (p := ⟨gb123, 0, none⟩) (Kd.R_mono HO_0.out (fun k_ hk => (⟨hk, hk.2⟩ : _ ∧ k_ ≠ gb123))) (fun _ hk => hk.2) (.int .i64 ((rd_T79 l0 x11_1).f0))) (fun _ hk => hk.2) (.int .i64 ((rd_T79 l0 x11_1).f1))) (fun _ hk => hk.1.1.1), by repeat (first | (with_reducible first | exact HB.out | apply below_alloc | apply pw_below_drewN | apply below_drew1 | refine below_set ?_ GE121.out | refine below_set ?_ GE123.out) | exact HB.out), by repeat (first | (with_reducible first | exact HK.out | apply Kept.alloc | apply Kept.drewN | apply Kept.drew | refine Kept.setCell ?_ (.inr GW121.out) _ | refine Kept.setCell ?_ (.inr GW123.out) _) | exact HK.out)⟩
      ·rw [if_neg c8] at H
       have c8b0 : (((rd_T79 l0 x11_1).f0) == a1_0) = false := beq_eq_false_iff_ne.mpr c8
       have c8b1 : (((rd_T79 l0 x11_1).f0) != a1_0) = true := bne_iff_ne.mpr c8
       have H' := aM H
       clear H
       have p122 : 0 ≤ (x11_1 : Int) := dT
       have q122 : x11_1 < (l0.length : Int) := dT
       obtain ⟨ad122, e122, hx122_0, hx122_1⟩ := at_T79 (Kd.R_reads' HO_9.out).2.2 x11_1 p122 q122
       cases e122
       try have hz_hx122_0 := aM hx122_0
       try have hz_hx122_1 := aM hx122_1
       replace p122 := eq_true p122
       replace q122 := eq_true q122
       go_wp2_with (((with_reducible refine gate_dst (N := 6) rfl ?_); refine box_event ?hg (N := 6) ?hd (cs := #[.int .i64 0, .int .i64 0]) (t := 79) ?hr ?_; (case hd => rfl); (case hg => rfl); (case hr => first | (go_simp; done) | (go_simp; rfl)); intro gb123 hg w13 hbox hb; have n0_ := aM (Kd.R_below (Kd.R_elderB (gR HO_0.out) gb123 (Nat.le_of_eq hg.symm)) hb); have n1_ := aM (Kd.R_below (Kd.R_elderB (gR HO_9.out) gb123 (Nat.le_of_eq hg.symm)) hb); have n2_ := aM (blk_below (g := gb121) (o := .cells #[.int .i64 a1_0, .int .i64 a1_1] 79 (0, 0)) (gK BK121.out) hb); have n3_ := aM (Kept.below (S := (fun k_ => P0_ k_)) (by repeat (first | (with_reducible first | exact HK.out | apply Kept.alloc | apply Kept.drewN | apply Kept.drew | refine Kept.setCell ?_ (.inr GW121.out) _) | exact HK.out)) hb); have n4_ := aM (below_step (gB HB.out) hb); have n5_ := aM (hbox); have n6_ := aM ((by rw [hg]; exact (by first | exact HK.out.1 | exact (show Kept w _ (fun k_ => P0_ k_) from by repeat (first | (with_reducible first | exact HK.out | apply Kept.alloc | apply Kept.drewN | apply Kept.drew | refine Kept.setCell ?_ (.inr GW121.out) _) | exact HK.out)).1) : w.heap.size ≤ gb123)); have n7_ := aM ((by rw [hg]; exact (below_size (gB HB.out)) : w0.heap.size ≤ gb123)); have n8_ := aM ((by rw [hg]; exact Nat.ne_of_lt (blk_lt (g := gb121) (o := .cells #[.int .i64 a1_0, .int .i64 a1_1] 79 (0, 0)) (gK BK121.out)) : gb121 ≠ gb123)); have n9_ := aM ((by rw [hg]; exact Nat.ne_of_gt (blk_lt (g := gb121) (o := .cells #[.int .i64 a1_0, .int .i64 a1_1] 79 (0, 0)) (gK BK121.out)) : gb123 ≠ gb121)); clear HO_0; clear HO_9; clear BK121; clear HK; clear HB; have HO_0 := n0_; have HO_9 := n1_; have BK121 := n2_; have HK := n3_; have HB := n4_; have BK123 := n5_; have GW123 := n6_; have GE123 := n7_; have NB121_123 := n8_; have NB123_121 := n9_; clear n0_ n1_ n2_ n3_ n4_ n5_ n6_ n7_ n8_ n9_; clear hb hbox hg; have hnb14 := NB123_121.out; have hnc14 := NB121_123.out; have hcz15_0 : w13.cell? ⟨gb123, 0, none⟩ = some (.int .i64 0) := (blk_cell BK123.out 0).trans rfl; have hcz15_1 : w13.cell? ⟨gb123, 1, none⟩ = some (.int .i64 0) := (blk_cell BK123.out 1).trans rfl; have hfz15_0 := blk_frozen BK123.out 0; have hfz15_1 := blk_frozen BK123.out 1; have hcz16_0 : w13.cell? ⟨gb121, 0, none⟩ = some (.int .i64 a1_0) := (blk_cell BK121.out 0).trans rfl; have hcz16_1 : w13.cell? ⟨gb121, 1, none⟩ = some (.int .i64 a1_1) := (blk_cell BK121.out 1).trans rfl; have hfz16_0 := blk_frozen BK121.out 0; have hfz16_1 := blk_frozen BK121.out 1))
       go_roundg k1
       case measure => have := HK1.out; omega
       case rel => exact ⟨(wrap64 (x11_1 + 1)), (by first | rfl | (simp; done) | (simp [*]; done)), H', ⟨by have := HK1.out; omega⟩, ⟨by (with_reducible repeat (first | apply Kd.R_alloc | apply Kd.R_drewN | apply Kd.R_drew)); exact Kd.R_mono (Kd.R_far (p := ⟨gb123, 1, none⟩) (Kd.R_far (p := ⟨gb123, 0, none⟩) (Kd.R_mono HO_0.out (fun k_ hk => (⟨hk, hk.2⟩ : _ ∧ k_ ≠ gb123))) (fun _ hk => hk.2) (.int .i64 ((rd_T79 l0 x11_1).f0))) (fun _ hk => hk.2) (.int .i64 ((rd_T79 l0 x11_1).f1))) (fun _ hk => ⟨hk.1.1.1, hk.1.1.2⟩)⟩, ⟨by (with_reducible repeat (first | apply Kd.R_alloc | apply Kd.R_drewN | apply Kd.R_drew)); exact Kd.R_mono (Kd.R_far (p := ⟨gb123, 1, none⟩) (Kd.R_far (p := ⟨gb123, 0, none⟩) (Kd.R_mono HO_9.out (fun k_ hk => (⟨hk, hk.2⟩ : _ ∧ k_ ≠ gb123))) (fun _ hk => hk.2) (.int .i64 ((rd_T79 l0 x11_1).f0))) (fun _ hk => hk.2) (.int .i64 ((rd_T79 l0 x11_1).f1))) (fun _ hk => ⟨hk.1.1.1, hk.1.1.2⟩)⟩, ⟨by (with_reducible repeat (first | refine blk_drewN ?_ _ | refine blk_drew ?_ | refine blk_alloc ?_ _)); refine blk_far ?_ NB121_123.out _; (with_reducible repeat (first | refine blk_drewN ?_ _ | refine blk_drew ?_ | refine blk_alloc ?_ _)); refine blk_far ?_ NB121_123.out _; (with_reducible repeat (first | refine blk_drewN ?_ _ | refine blk_drew ?_ | refine blk_alloc ?_ _)); exact BK121.out⟩, ⟨by repeat (first | (with_reducible first | exact HK.out | apply Kept.alloc | apply Kept.drewN | apply Kept.drew | refine Kept.setCell ?_ (.inr GW121.out) _ | refine Kept.setCell ?_ (.inr GW123.out) _) | exact HK.out)⟩, ⟨by repeat (first | (with_reducible first | exact HB.out | apply below_alloc | apply pw_below_drewN | apply below_drew1 | refine below_set ?_ GE121.out | refine below_set ?_ GE123.out) | exact HB.out)⟩⟩
     ·rw [if_neg c7] at H
      exact absurd H (by simp)
    ·rw [if_neg c6] at H
     exact absurd H (by simp)
   ·rw [if_neg c5] at H
    have c5b0 : decide (x11_1 < (l0.length : Int)) = false := decide_eq_false c5
    clear c5
    have H' := aM H
    clear H
    go_wp2
    go_loopg [7] k1 (fun kq v7 w' => ∃ (x7_2 : Int), v7 = .int .i64 x7_2 ∧ Aside0 (spec_l11Put.l1 kq l0 x7_2 a1_0 a1_1 = some r) ∧ Aside0 (kq ≤ k1) ∧ Aside0 (Kd.R k79 79 w' w0.heap.size (fun k_ => (P0_ k_ ∨ w.heap.size ≤ k_) ∧ k_ ≠ gb121) (.slice Ao4 l0.length co4) l0) ∧ Aside0 (w'.heap[gb121]? = some (.cells #[.int .i64 a1_0, .int .i64 a1_1] 79 (0, 0))) ∧ Aside0 (Kept w w' (fun k_ => P0_ k_)) ∧ Aside0 (Below w0.heap.size w0 w'))
    case atStart => exact ⟨(0), (by first | rfl | (simp; done) | (simp [*]; done)), H', ⟨Nat.le_refl _⟩, ⟨gR HO_0.out⟩, ⟨gK BK121.out⟩, ⟨by repeat (first | (with_reducible first | exact HK.out | apply Kept.alloc | apply Kept.drewN | apply Kept.drew | refine Kept.setCell ?_ (.inr GW121.out) _) | exact HK.out)⟩, ⟨by repeat (first | (with_reducible first | exact HB.out | apply below_alloc | apply pw_below_drewN | apply below_drew1 | refine below_set ?_ GE121.out) | exact HB.out)⟩⟩
    case round =>
     clear H'
     try clear c1
     try clear p1
     try clear q1
     try clear hx1
     try clear p2
     try clear c5
     try clear c5b0
     try clear c6
     try clear c6b0
     try clear p6
     try clear c7
     try clear c7b0
     try clear c8
     try clear c8b0
     try clear c8b1
     try clear c10
     try clear p12
     try clear q12
     try clear hx12
     try clear c14
     try clear hcz11_0
     try clear hcz11_1
     try clear hcz12_0
     try clear hcz12_1
     try clear hcz15_0
     try clear hcz15_1
     try clear hcz16_0
     try clear hcz16_1
     try clear hfz11_0
     try clear hfz11_1
     try clear hfz12_0
     try clear hfz12_1
     try clear hfz15_0
     try clear hfz15_1
     try clear hfz16_0
     try clear hfz16_1
     try clear hx122_0
     try clear hx122_1
     try clear p122
     try clear p2
     try clear q122
     obtain ⟨x7_2, rfl, HA, HK2, HO_0, BK121, HK, HB⟩ := hrel
     cases gk with
     | zero => exact absurd HA.out (by simp [spec_l11Put.l1])
     | succ k2 =>
      have H := HA.out
      clear HA
      simp only [spec_l11Put.l1] at H
      by_cases c17 : x7_2 < (l0.length : Int)
      ·rw [if_pos c17] at H
       have c17b0 : decide (x7_2 < (l0.length : Int)) = true := decide_eq_true c17
       clear c17
       by_cases c18 : 0 ≤ x7_2
       ·rw [if_pos c18] at H
        have c18b0 : decide (0 ≤ x7_2) = true := decide_eq_true c18
        clear c18
        replace H := Option.bind_eq_some_iff.mp H
        obtain ⟨t125, A190, H⟩ := H
        replace H : (if t125 = true then (spec_l11Put.l1 k2 l0 (wrap64 (x7_2 + 1)) a1_0 a1_1) else (if x7_2 ≤ (l0.length : Int) then ((some (l0.take (x7_2 : Int).toNat : List (S79))).bind fun y126 => (if ([] : List (S79)).length + y126.length < 8796093022208 then ((some (([] : List (S79)) ++ y126 : List (S79))).bind fun y130 => (if y130.length < 8796093022208 then ((some (y130 ++ [(⟨a1_0, a1_1⟩ : S79)] : List (S79))).bind fun y133 => ((some (l0.drop (x7_2 : Int).toNat : List (S79))).bind fun y136 => (if y133.length + y136.length < 8796093022208 then (some (y133 ++ y136)) else (none)))) else (none))) else (none))) else (none))) = some r := H
        have A19 := aM A190
        clear A190
        by_cases c20 : t125 = true
        ·subst c20
         have H1 : (spec_l11Put.l1 k2 l0 (wrap64 (x7_2 + 1)) a1_0 a1_1) = some r := by rw [if_pos rfl] at H; exact H
         clear H
         have H := H1
         clear H1
         have H' := aM H
         clear H
         try go_wp2
         have n0_ := aM (Kd.R_drew HO_0.out)
         have n1_ := aM (blk_drew BK121.out)
         have n2_ := aM (Kept.drew HK.out)
         have n3_ := aM (below_drew1 HB.out)
         clear HO_0
         clear BK121
         clear HK
         clear HB
         have HO_0 := n0_
         have BK121 := n1_
         have HK := n2_
         have HB := n3_
         clear n0_ n1_ n2_ n3_
         have p124 : 0 ≤ (x7_2 : Int) := dT
         have q124 : x7_2 < (l0.length : Int) := dT
         obtain ⟨ad124, e124, hx124_0, hx124_1⟩ := at_T79 (Kd.R_reads' HO_0.out).2.2 x7_2 p124 q124
         cases e124
         try have hz_hx124_0 := aM hx124_0
         try have hz_hx124_1 := aM hx124_1
         replace p124 := eq_true p124
         replace q124 := eq_true q124
         refine start_ (n := 12) (S := fun w' => w'.cell? ⟨gb121, 0, none⟩ = some (.int .i64 a1_0) ∧ w'.cell? ⟨gb121, 1, none⟩ = some (.int .i64 a1_1) ∧ w'.cell? (ad124.add ((x7_2).toNat * 2)) = some (.int .i64 ((rd_T79 l0 x7_2).f0)) ∧ w'.cell? ⟨(ad124.add ((x7_2).toNat * 2)).block, (ad124.add ((x7_2).toNat * 2)).off + 1, none⟩ = some (.int .i64 ((rd_T79 l0 x7_2).f1))) (ds := []) (bq 12 0) (by kernel_rfl) rfl (by kernel_rfl) ⟨(blk_cell BK121.out 0).trans rfl, (blk_cell BK121.out 1).trans rfl, hx124_0, hx124_1⟩ (fun hHeld => ?_); refine with_tabW spec_l11Put.tab8 spec_l11Put.bits8 (fun HT_ HW_ => ?_)
         generalize wr.drew = w21 at HO_0 BK121 HK HB hx124_0 hx124_1 hHeld ⊢
         refine pZ 12 1 0 22 HT_ ?_
         refine pZ 12 3 1 23 HT_ ?_
         refine pZ 12 7 2 24 HT_ ?_
         refine pZ 12 15 3 25 HT_ ?_
         refine pZ 12 31 4 26 HT_ ?_
         refine pZ 12 63 5 27 HT_ ?_
         refine pZ 12 127 6 28 HT_ ?_
         refine pZ 12 255 7 29 HT_ ?_
         refine tZ4 12 511 8 30 HT_ HW_ hHeld ?_
         refine tZ4 12 1023 9 31 HT_ HW_ hHeld ?_
         refine one_ (i := 10) (N := some 32) (bq 12 2047) rfl rfl (one_of HT_.out (by kernel_rfl)) (by decide) (fun K hK => ?_)
         refine gA Try.func112 #[.agg #[.int .i64 ((rd_T79 l0 x7_2).f0), .int .i64 ((rd_T79 l0 x7_2).f1)], .agg #[.int .i64 a1_0, .int .i64 a1_1]] ?_
         with_reducible refine (spec_l11Less.calls ((rd_T79 l0 x7_2).f0) ((rd_T79 l0 x7_2).f1) a1_0 a1_1 true _ A19.out).mono ?_
         rintro e w22 ⟨rfl, hb⟩
         have HS2_ := (hb.cell (World.block_lt_of_cell? _ _ (hHeld.2.2.1))).trans (hHeld.2.2.1)
         have HS3_ := (hb.cell (World.block_lt_of_cell? _ _ (hHeld.2.2.2))).trans (hHeld.2.2.2)
         refine ⟨_, rfl, ?_⟩
         have n0_ := aM (Kd.R_below (gR HO_0.out) hb)
         have n1_ := aM (blk_below (g := gb121) (o := .cells #[.int .i64 a1_0, .int .i64 a1_1] 79 (0, 0)) (gK BK121.out) hb)
         have n2_ := aM (Kept.below (S := (fun k_ => P0_ k_)) (by repeat (first | (with_reducible first | exact HK.out | apply Kept.alloc | apply Kept.drewN | apply Kept.drew | refine Kept.setCell ?_ (.inr GW121.out) _) | exact HK.out)) hb)
         have n3_ := aM (below_step (gB HB.out) hb)
         clear HO_0
         clear BK121
         clear HK
         clear HB
         have HO_0 := n0_
         have BK121 := n1_
         have HK := n2_
         have HB := n3_
         clear n0_ n1_ n2_ n3_
         (try clear hb)
         (try clear hb2)
         (try clear hk)
         (try clear hi)
         refine hK.out _ _ ⟨(blk_cell BK121.out 0).trans rfl, (blk_cell BK121.out 1).trans rfl, HS2_, HS3_⟩ (fun hHeld => ?_)
         clear hK K
         refine nM 32 ?_
         refine pZ 12 4095 11 33 HT_ ?_
         refine done_ (done_of HT_.out (by kernel_rfl)) ?_
         try go_wp2
         go_roundg k2
         case measure => have := HK1.out; have := HK2.out; omega
         case rel => exact ⟨(wrap64 (x7_2 + 1)), (by first | rfl | (simp; done) | (simp [*]; done)), H', ⟨by have := HK1.out; have := HK2.out; omega⟩, ⟨gR HO_0.out⟩, ⟨gK BK121.out⟩, ⟨by repeat (first | (with_reducible first | exact HK.out | apply Kept.alloc | apply Kept.drewN | apply Kept.drew | refine Kept.setCell ?_ (.inr GW121.out) _) | exact HK.out)⟩, ⟨by repeat (first | (with_reducible first | exact HB.out | apply below_alloc | apply pw_below_drewN | apply below_drew1 | refine below_set ?_ GE121.out) | exact HB.out)⟩⟩
        ·replace c20 := Bool.eq_false_iff.mpr c20
         subst c20
         have H1 : (if x7_2 ≤ (l0.length : Int) then ((some (l0.take (x7_2 : Int).toNat : List (S79))).bind fun y126 => (if ([] : List (S79)).length + y126.length < 8796093022208 then ((some (([] : List (S79)) ++ y126 : List (S79))).bind fun y130 => (if y130.length < 8796093022208 then ((some (y130 ++ [(⟨a1_0, a1_1⟩ : S79)] : List (S79))).bind fun y133 => ((some (l0.drop (x7_2 : Int).toNat : List (S79))).bind fun y136 => (if y133.length + y136.length < 8796093022208 then (some (y133 ++ y136)) else (none)))) else (none))) else (none))) else (none)) = some r := by rw [if_neg (show ¬ (false = true) by decide)] at H; exact H
         clear H
         have H := H1
         clear H1
         have c23b0 := eq_true (of_decide_eq_true (by first | (with_reducible assumption) | assumption) : 0 ≤ x7_2)
         by_cases c24 : x7_2 ≤ (l0.length : Int)
         ·rw [if_pos c24] at H
          have c24b0 := eq_true c24
          have c24b1 : decide (x7_2 ≤ (l0.length : Int)) = true := decide_eq_true c24
          clear c24
          obtain ⟨y126, hy126⟩ : ∃ y_ : List (S79), y_ = (l0.take (x7_2 : Int).toNat) := ⟨_, rfl⟩
          replace H : (if ([] : List (S79)).length + y126.length < 8796093022208 then ((some (([] : List (S79)) ++ y126 : List (S79))).bind fun y130 => (if y130.length < 8796093022208 then ((some (y130 ++ [(⟨a1_0, a1_1⟩ : S79)] : List (S79))).bind fun y133 => ((some (l0.drop (x7_2 : Int).toNat : List (S79))).bind fun y136 => (if y133.length + y136.length < 8796093022208 then (some (y133 ++ y136)) else (none)))) else (none))) else (none)) = some r := by first | (rw [hy126]; with_reducible exact H) | (have H2_ := (Option.bind_some _ _).symm.trans H; rw [hy126]; with_reducible exact H2_) | (have H2_ := (Option.bind_some _ _).symm.trans H; with_reducible exact H2_) | with_reducible exact H | (rw [hy126]; exact H) | exact H
          have Ny126 := aM hy126
          clear hy126
          by_cases c25 : ([] : List (S79)).length + y126.length < 8796093022208
          ·rw [if_pos c25] at H
           have LMc25 := aM c25
           clear c25
           obtain ⟨y130, hy130⟩ : ∃ y_ : List (S79), y_ = (([] : List (S79)) ++ y126) := ⟨_, rfl⟩
           replace H : (if y130.length < 8796093022208 then ((some (y130 ++ [(⟨a1_0, a1_1⟩ : S79)] : List (S79))).bind fun y133 => ((some (l0.drop (x7_2 : Int).toNat : List (S79))).bind fun y136 => (if y133.length + y136.length < 8796093022208 then (some (y133 ++ y136)) else (none)))) else (none)) = some r := by first | (rw [hy130]; with_reducible exact H) | (have H2_ := (Option.bind_some _ _).symm.trans H; rw [hy130]; with_reducible exact H2_) | (have H2_ := (Option.bind_some _ _).symm.trans H; with_reducible exact H2_) | with_reducible exact H | (rw [hy130]; exact H) | exact H
           have Ny130 := aM hy130
           clear hy130
           by_cases c26 : y130.length < 8796093022208
           ·rw [if_pos c26] at H
            have LMc26 := aM c26
            clear c26
            obtain ⟨y133, hy133⟩ : ∃ y_ : List (S79), y_ = (y130 ++ [(⟨a1_0, a1_1⟩ : S79)]) := ⟨_, rfl⟩
            replace H : ((some (l0.drop (x7_2 : Int).toNat : List (S79))).bind fun y136 => (if y133.length + y136.length < 8796093022208 then (some (y133 ++ y136)) else (none))) = some r := by first | (rw [hy133]; with_reducible exact H) | (have H2_ := (Option.bind_some _ _).symm.trans H; rw [hy133]; with_reducible exact H2_) | (have H2_ := (Option.bind_some _ _).symm.trans H; with_reducible exact H2_) | with_reducible exact H | (rw [hy133]; exact H) | exact H
            have Ny133 := aM hy133
            clear hy133
            have c27b0 := eq_true (of_decide_eq_true (by first | (with_reducible assumption) | assumption) : 0 ≤ x7_2)
            have c28b0 := eq_true (of_decide_eq_true (by first | (with_reducible assumption) | assumption) : x7_2 ≤ (l0.length : Int))
            obtain ⟨y136, hy136⟩ : ∃ y_ : List (S79), y_ = (l0.drop (x7_2 : Int).toNat) := ⟨_, rfl⟩
            replace H : (if y133.length + y136.length < 8796093022208 then (some (y133 ++ y136)) else (none)) = some r := by first | (rw [hy136]; with_reducible exact H) | (have H2_ := (Option.bind_some _ _).symm.trans H; rw [hy136]; with_reducible exact H2_) | (have H2_ := (Option.bind_some _ _).symm.trans H; with_reducible exact H2_) | with_reducible exact H | (rw [hy136]; exact H) | exact H
            have Ny136 := aM hy136
            clear hy136
            by_cases c29 : y133.length + y136.length < 8796093022208
            ·rw [if_pos c29] at H
             have LMc29 := aM c29
             clear c29
             obtain ⟨y140, hy140⟩ : ∃ y_ : List (S79), y_ = (y133 ++ y136) := ⟨_, rfl⟩
             replace H : (some y140) = some r := by first | (rw [hy140]; with_reducible exact H) | (have H2_ := (Option.bind_some _ _).symm.trans H; rw [hy140]; with_reducible exact H2_) | (have H2_ := (Option.bind_some _ _).symm.trans H; with_reducible exact H2_) | with_reducible exact H | (rw [hy140]; exact H) | exact H
             have Ny140 := aM hy140
             clear hy140
             obtain rfl := Option.some.inj H
             try go_wp2
             have n0_ := aM (Kd.R_drew HO_0.out)
             have n1_ := aM (blk_drew BK121.out)
             have n2_ := aM (Kept.drew HK.out)
             have n3_ := aM (below_drew1 HB.out)
             clear HO_0
             clear BK121
             clear HK
             clear HB
             have HO_0 := n0_
             have BK121 := n1_
             have HK := n2_
             have HB := n3_
             clear n0_ n1_ n2_ n3_
             have p124 : 0 ≤ (x7_2 : Int) := dT
             have q124 : x7_2 < (l0.length : Int) := dT
             obtain ⟨ad124, e124, hx124_0, hx124_1⟩ := at_T79 (Kd.R_reads' HO_0.out).2.2 x7_2 p124 q124
             cases e124
             try have hz_hx124_0 := aM hx124_0
             try have hz_hx124_1 := aM hx124_1
             replace p124 := eq_true p124
             replace q124 := eq_true q124
             refine start_ (n := 12) (S := fun w' => w'.cell? ⟨gb121, 0, none⟩ = some (.int .i64 a1_0) ∧ w'.cell? ⟨gb121, 1, none⟩ = some (.int .i64 a1_1) ∧ w'.cell? (ad124.add ((x7_2).toNat * 2)) = some (.int .i64 ((rd_T79 l0 x7_2).f0)) ∧ w'.cell? ⟨(ad124.add ((x7_2).toNat * 2)).block, (ad124.add ((x7_2).toNat * 2)).off + 1, none⟩ = some (.int .i64 ((rd_T79 l0 x7_2).f1))) (ds := []) (bq 12 0) (by kernel_rfl) rfl (by kernel_rfl) ⟨(blk_cell BK121.out 0).trans rfl, (blk_cell BK121.out 1).trans rfl, hx124_0, hx124_1⟩ (fun hHeld => ?_); refine with_tabW spec_l11Put.tab8 spec_l11Put.bits8 (fun HT_ HW_ => ?_)
             generalize wr.drew = w30 at HO_0 BK121 HK HB hx124_0 hx124_1 hHeld ⊢
             refine pZ 12 1 0 22 HT_ ?_
             refine pZ 12 3 1 23 HT_ ?_
             refine pZ 12 7 2 24 HT_ ?_
             refine pZ 12 15 3 25 HT_ ?_
             refine pZ 12 31 4 26 HT_ ?_
             refine pZ 12 63 5 27 HT_ ?_
             refine pZ 12 127 6 28 HT_ ?_
             refine pZ 12 255 7 29 HT_ ?_
             refine tZ4 12 511 8 30 HT_ HW_ hHeld ?_
             refine tZ4 12 1023 9 31 HT_ HW_ hHeld ?_
             refine one_ (i := 10) (N := some 32) (bq 12 2047) rfl rfl (one_of HT_.out (by kernel_rfl)) (by decide) (fun K hK => ?_)
             refine gA Try.func112 #[.agg #[.int .i64 ((rd_T79 l0 x7_2).f0), .int .i64 ((rd_T79 l0 x7_2).f1)], .agg #[.int .i64 a1_0, .int .i64 a1_1]] ?_
             with_reducible refine (spec_l11Less.calls ((rd_T79 l0 x7_2).f0) ((rd_T79 l0 x7_2).f1) a1_0 a1_1 false _ A19.out).mono ?_
             rintro e w31 ⟨rfl, hb⟩
             have HS2_ := (hb.cell (World.block_lt_of_cell? _ _ (hHeld.2.2.1))).trans (hHeld.2.2.1)
             have HS3_ := (hb.cell (World.block_lt_of_cell? _ _ (hHeld.2.2.2))).trans (hHeld.2.2.2)
             refine ⟨_, rfl, ?_⟩
             have n0_ := aM (Kd.R_below (gR HO_0.out) hb)
             have n1_ := aM (blk_below (g := gb121) (o := .cells #[.int .i64 a1_0, .int .i64 a1_1] 79 (0, 0)) (gK BK121.out) hb)
             have n2_ := aM (Kept.below (S := (fun k_ => P0_ k_)) (by repeat (first | (with_reducible first | exact HK.out | apply Kept.alloc | apply Kept.drewN | apply Kept.drew | refine Kept.setCell ?_ (.inr GW121.out) _) | exact HK.out)) hb)
             have n3_ := aM (below_step (gB HB.out) hb)
             clear HO_0
             clear BK121
             clear HK
             clear HB
             have HO_0 := n0_
             have BK121 := n1_
             have HK := n2_
             have HB := n3_
             clear n0_ n1_ n2_ n3_
             (try clear hb)
             (try clear hb2)
             (try clear hk)
             (try clear hi)
             refine hK.out _ _ ⟨(blk_cell BK121.out 0).trans rfl, (blk_cell BK121.out 1).trans rfl, HS2_, HS3_⟩ (fun hHeld => ?_)
             clear hK K
             refine nM 32 ?_
             refine pZ 12 4095 11 33 HT_ ?_
             refine done_ (done_of HT_.out (by kernel_rfl)) ?_
             have q32 : (x7_2 : Int) ≤ ((l0.length : Int) : Int) := dT
             obtain ⟨i032, hi032, _, hsz32, _⟩ := info_parts info79
             have hroom32 : l0.length ≤ co4 := (Kd.R_reads' HO_0.out).2.1
             have hC32 : Kd.C k79 _ (some ad124) l0.length l0 := (Kd.R_reads' HO_0.out).2.2
             have hcut32 := cut_to (P := Try.prog) 61 79 .i64 Try.underlying61 hi032 (some ad124) l0.length co4 x7_2 (of_decide_eq_true (by first | (with_reducible assumption) | assumption)) q32 hroom32
             have hr32 := Kd.C_take (m := (x7_2 : Int).toNat) hC32 (by omega)
             have hy32 : y126.length = (x7_2 : Int).toNat := (by rw [Ny126.out, List.length_take]; omega)
             rw [← Ny126.out] at hr32
             rw [← hy32] at hcut32
             have HR129 := aM hr32
             have HC129 := aM (show y126.length ≤ co4 from by omega)
             clear hr32 hC32 hroom32 hi032 hsz32
             have KY32 := aM hy32
             clear hy32
             have KL32 := aM (show (x7_2 : Int).toNat ≤ l0.length from by omega)
             replace q32 := eq_true q32
             try go_wp2_with (first | ((with_reducible refine gate_builtin (b := .append) (xs := #[.tmp 36, .tmp 39]) rfl ?_); at_builtin; refine Kd.R_append_rows k79 (w0 := w0) w0.heap.size rfl (.tmp 36) (.tmp 39) 61 79 (.agg #[(.int .i64 0), (.int .i64 0)]) 16 rfl Try.underlying61 info79 rfl (by decide) (by omega) (.slice none 0 0) ([] : List (S79)) y126 _ _ _ (fun k_ => (P0_ k_ ∨ w.heap.size ≤ k_) ∧ some k_ ≠ (.slice (some ad124) l0.length co4 : Value).ownBlock ∧ k_ ≠ gb121) (fun _ => False) rfl rfl ?aO ?aR (fun _ _ h => h) (fun _ h => h.elim) ?aF ?aB ?aS ?aL ?_; (case aR => repeat (first | exact (by repeat (first | (with_reducible exact HR129.out) | (with_reducible refine Kd.C_alloc ?_ _) | (with_reducible refine Kd.C_drewN ?_ _) | (with_reducible refine Kd.C_drew ?_) | exact HR129.out)) | (with_reducible refine Kd.C_alloc ?_ _) | (with_reducible refine Kd.C_drewN ?_ _) | (with_reducible refine Kd.C_drew ?_))); (case aB => exact (gB HB.out)); (case aF => exact (fun k_ hk => ⟨(.inr (Nat.le_trans (by first | exact HK.out.1 | exact (show Kept w _ (fun k_ => P0_ k_) from by repeat (first | (with_reducible first | exact HK.out | apply Kept.alloc | apply Kept.drewN | apply Kept.drew | refine Kept.setCell ?_ (.inr GW121.out) _) | exact HK.out)).1) hk)), Kd.fresh' (Kd.R_lt (gR HO_0.out)) k_ hk, Kd.freshB (g := gb121) (o := .cells #[.int .i64 a1_0, .int .i64 a1_1] 79 (0, 0)) (gK BK121.out) k_ hk⟩)); (case aO => exact ((Kd.R_nil _ _ _ _ (fun k_ => (P0_ k_ ∨ w.heap.size ≤ k_) ∧ some k_ ≠ (.slice (some ad124) l0.length co4 : Value).ownBlock ∧ k_ ≠ gb121)))); (case aS => exact (below_size (gB HB.out))); (case aL => have := LMc25.out; omega); intro v131 w33 ho hb hg hat; rw [← Ny130.out] at ho; have n0_ := aM (Kd.R_after (Kd.R_apart_nil (gR HO_0.out)) hg hat); have n1_ := aM (blk_grown (g := gb121) (o := .cells #[.int .i64 a1_0, .int .i64 a1_1] 79 (0, 0)) (gK BK121.out) hg (by simp [Value.ownBlock])); have n2_ := aM (hb); have n3_ := aM (Kept.of_grown (S := (fun k_ => P0_ k_)) hg (by repeat (first | (with_reducible first | exact HK.out | apply Kept.alloc | apply Kept.drewN | apply Kept.drew | refine Kept.setCell ?_ (.inr GW121.out) _) | exact HK.out)) (fun k_ e_ => by simp [Value.ownBlock] at e_)); have n4_ := aM ((show Kd.C k79 w33 (some ad124) y126.length y126 from by rw [Ny126.out]; exact Kd.C_take (m := (x7_2 : Int).toNat) ((Kd.R_reads' (Kd.R_after (Kd.R_apart_nil (gR HO_0.out)) hg hat)).2.2) KL32.out)); have n5_ := aM (ho); clear HO_0; clear BK121; clear HB; clear HK; clear HR129; have HO_0 := n0_; have BK121 := n1_; have HB := n2_; have HK := n3_; have HR129 := n4_; have HO132 := n5_; clear n0_ n1_ n2_ n3_ n4_ n5_; clear ho hb hg hat; have hcz34_0 : w33.cell? ⟨gb121, 0, none⟩ = some (.int .i64 a1_0) := (blk_cell BK121.out 0).trans rfl; have hcz34_1 : w33.cell? ⟨gb121, 1, none⟩ = some (.int .i64 a1_1) := (blk_cell BK121.out 1).trans rfl; have hfz34_0 := blk_frozen BK121.out 0; have hfz34_1 := blk_frozen BK121.out 1) | ((with_reducible refine gate_builtin (b := .append) (xs := #[.tmp 41, .tmp 43]) rfl ?_); at_builtin; refine Kd.R_append k79 (w0 := w0) w0.heap.size rfl (.tmp 41) (.tmp 43) 61 79 (.agg #[(.int .i64 0), (.int .i64 0)]) 16 rfl Try.underlying61 info79 rfl (by decide) (by omega) v131 y130 (⟨a1_0, a1_1⟩ : S79) [.int .i64 a1_0, .int .i64 a1_1] (fun k_ => (P0_ k_ ∨ w.heap.size ≤ k_) ∧ some k_ ≠ (.slice (some ad124) l0.length co4 : Value).ownBlock ∧ k_ ≠ gb121) (fun _ => False) rfl rfl ?aP (fun _ hk => hk.elim) ?aF ?aO ?aB ?aS ?aL ?_; (case aP => exact k79_mkM _ _ _ (⟨a1_0, a1_1⟩ : S79)); (case aB => exact (gB HB.out)); (case aF => exact (fun k_ hk => ⟨(.inr (Nat.le_trans (by first | exact HK.out.1 | exact (show Kept w _ (fun k_ => P0_ k_) from by repeat (first | (with_reducible first | exact HK.out | apply Kept.alloc | apply Kept.drewN | apply Kept.drew | refine Kept.setCell ?_ (.inr GW121.out) _) | exact HK.out)).1) hk)), Kd.fresh' (Kd.R_lt (gR HO_0.out)) k_ hk, Kd.freshB (g := gb121) (o := .cells #[.int .i64 a1_0, .int .i64 a1_1] 79 (0, 0)) (gK BK121.out) k_ hk⟩)); (case aO => exact (gR HO132.out)); (case aS => exact (below_size (gB HB.out))); (case aL => have := LMc26.out; omega); intro v134 w35 ho hb hg hat; rw [← Ny133.out] at ho; have n0_ := aM (Kd.R_after (ok := (fun k_ => (P0_ k_ ∨ w.heap.size ≤ k_) ∧ k_ ≠ gb121)) (gR HO_0.out) hg hat); have n1_ := aM (blk_grown (g := gb121) (o := .cells #[.int .i64 a1_0, .int .i64 a1_1] 79 (0, 0)) (gK BK121.out) hg (Kd.R_away HO132.out (fun _ hk => hk.2.2))); have n2_ := aM (hb); have n3_ := aM (Kept.of_grown (S := (fun k_ => P0_ k_)) hg (by repeat (first | (with_reducible first | exact HK.out | apply Kept.alloc | apply Kept.drewN | apply Kept.drew | refine Kept.setCell ?_ (.inr GW121.out) _) | exact HK.out)) (fun k_ e_ => (HO132.out.1 k_ e_).1)); have n4_ := aM ((show Kd.C k79 w35 (some ad124) y126.length y126 from by rw [Ny126.out]; exact Kd.C_take (m := (x7_2 : Int).toNat) ((Kd.R_reads' (Kd.R_after (ok := (fun k_ => (P0_ k_ ∨ w.heap.size ≤ k_) ∧ k_ ≠ gb121)) (gR HO_0.out) hg hat)).2.2) KL32.out)); have n5_ := aM (ho); clear HO_0; clear BK121; clear HB; clear HK; clear HR129; clear HO132; have HO_0 := n0_; have BK121 := n1_; have HB := n2_; have HK := n3_; have HR129 := n4_; have HO135 := n5_; clear n0_ n1_ n2_ n3_ n4_ n5_; clear ho hb hg hat; have q36 : (x7_2 : Int) ≤ ((l0.length : Int) : Int) := of_decide_eq_true (by first | (with_reducible assumption) | assumption); obtain ⟨i036, hi036, _, hsz36, _⟩ := info_parts info79; have hroom36 : l0.length ≤ co4 := (Kd.R_reads' HO_0.out).2.1; have hC36 : Kd.C k79 _ (some ad124) l0.length l0 := (Kd.R_reads' HO_0.out).2.2; have q036 : (0 : Int) ≤ (x7_2 : Int) := of_decide_eq_true (by first | (with_reducible assumption) | assumption); have hcut36 := cut_from (P := Try.prog) 61 79 .i64 Try.underlying61 hi036 2 hsz36 (some ad124) l0.length co4 x7_2 q036 q36; have hr36 := Kd.C_drop (m := (x7_2 : Int).toNat) (c := co4) hC36 (by omega) hroom36; obtain ⟨A36, hA36⟩ : ∃ A1, A1 = (if co4 = (x7_2 : Int).toNat then (some ad124) else ((some ad124) : Option Addr).map (·.add ((x7_2 : Int).toNat * 2))) := ⟨_, rfl⟩; obtain ⟨c36, hc36⟩ : ∃ c1, c1 = co4 - (x7_2 : Int).toNat := ⟨_, rfl⟩; have hy36 : y136.length = l0.length - (x7_2 : Int).toNat := (by rw [Ny136.out, List.length_drop] <;> omega); rw [show (l0).drop (x7_2 : Int).toNat = y136 from Ny136.out.symm] at hr36; replace hr36 : Kd.C k79 _ A36 y136.length y136 := (by rw [hA36]; exact hr36); rw [← hy36, ← hA36, ← hc36] at hcut36; have HR139 := aM hr36; have HC139 := aM (show y136.length ≤ c36 from by rw [hy36, hc36]; exact Nat.sub_le_sub_right hroom36 _); clear hr36 hC36 hroom36 hi036 hsz36 hc36; have KY36 := aM hy36; have KA36 := aM hA36; clear hy36 hA36; have KL36 := aM (show (x7_2 : Int).toNat ≤ l0.length from by omega); replace q36 := eq_true q36) | ((with_reducible refine gate_builtin (b := .append) (xs := #[.tmp 45, .tmp 48]) rfl ?_); at_builtin; refine Kd.R_append_rows k79 (w0 := w0) w0.heap.size rfl (.tmp 45) (.tmp 48) 61 79 (.agg #[(.int .i64 0), (.int .i64 0)]) 16 rfl Try.underlying61 info79 rfl (by decide) (by omega) v134 y133 y136 _ _ _ (fun k_ => (P0_ k_ ∨ w.heap.size ≤ k_) ∧ some k_ ≠ (.slice (some ad124) l0.length co4 : Value).ownBlock ∧ k_ ≠ gb121) (fun _ => False) rfl rfl ?aO ?aR (fun _ _ h => h) (fun _ h => h.elim) ?aF ?aB ?aS ?aL ?_; (case aR => repeat (first | exact (by repeat (first | (with_reducible exact HR139.out) | (with_reducible refine Kd.C_alloc ?_ _) | (with_reducible refine Kd.C_drewN ?_ _) | (with_reducible refine Kd.C_drew ?_) | exact HR139.out)) | (with_reducible refine Kd.C_alloc ?_ _) | (with_reducible refine Kd.C_drewN ?_ _) | (with_reducible refine Kd.C_drew ?_))); (case aB => exact (gB HB.out)); (case aF => exact (fun k_ hk => ⟨(.inr (Nat.le_trans (by first | exact HK.out.1 | exact (show Kept w _ (fun k_ => P0_ k_) from by repeat (first | (with_reducible first | exact HK.out | apply Kept.alloc | apply Kept.drewN | apply Kept.drew | refine Kept.setCell ?_ (.inr GW121.out) _) | exact HK.out)).1) hk)), Kd.fresh' (Kd.R_lt (gR HO_0.out)) k_ hk, Kd.freshB (g := gb121) (o := .cells #[.int .i64 a1_0, .int .i64 a1_1] 79 (0, 0)) (gK BK121.out) k_ hk⟩)); (case aO => exact (gR HO135.out)); (case aS => exact (below_size (gB HB.out))); (case aL => have := LMc29.out; omega); intro v141 w37 ho hb hg hat; rw [← Ny140.out] at ho; have n0_ := aM (Kd.R_after (ok := (fun k_ => (P0_ k_ ∨ w.heap.size ≤ k_) ∧ k_ ≠ gb121)) (gR HO_0.out) hg hat); have n1_ := aM (blk_grown (g := gb121) (o := .cells #[.int .i64 a1_0, .int .i64 a1_1] 79 (0, 0)) (gK BK121.out) hg (Kd.R_away HO135.out (fun _ hk => hk.2.2))); have n2_ := aM (hb); have n3_ := aM (Kept.of_grown (S := (fun k_ => P0_ k_)) hg (by repeat (first | (with_reducible first | exact HK.out | apply Kept.alloc | apply Kept.drewN | apply Kept.drew | refine Kept.setCell ?_ (.inr GW121.out) _) | exact HK.out)) (fun k_ e_ => (HO135.out.1 k_ e_).1)); have n4_ := aM ((show Kd.C k79 w37 (some ad124) y126.length y126 from by rw [Ny126.out]; exact Kd.C_take (m := (x7_2 : Int).toNat) ((Kd.R_reads' (Kd.R_after (ok := (fun k_ => (P0_ k_ ∨ w.heap.size ≤ k_) ∧ k_ ≠ gb121)) (gR HO_0.out) hg hat)).2.2) KL32.out)); have n5_ := aM ((show Kd.C k79 w37 A36 y136.length y136 from by rw [Ny136.out, KA36.out]; exact Kd.C_drop (m := (x7_2 : Int).toNat) (c := co4) ((Kd.R_reads' (Kd.R_after (ok := (fun k_ => (P0_ k_ ∨ w.heap.size ≤ k_) ∧ k_ ≠ gb121)) (gR HO_0.out) hg hat)).2.2) KL36.out ((Kd.R_reads' (Kd.R_after (ok := (fun k_ => (P0_ k_ ∨ w.heap.size ≤ k_) ∧ k_ ≠ gb121)) (gR HO_0.out) hg hat)).2.1))); have n6_ := aM (ho); clear HO_0; clear BK121; clear HB; clear HK; clear HR129; clear HR139; clear HO135; have HO_0 := n0_; have BK121 := n1_; have HB := n2_; have HK := n3_; have HR129 := n4_; have HR139 := n5_; have HO142 := n6_; clear n0_ n1_ n2_ n3_ n4_ n5_ n6_; clear ho hb hg hat))
             go_ret
             exact ⟨_, eR, by (with_reducible repeat (first | apply Kd.R_alloc | apply Kd.R_drewN | apply Kd.R_drew)); exact Kd.R_mono HO142.out (fun _ hk => hk.1), by repeat (first | (with_reducible first | exact HB.out | apply below_alloc | apply pw_below_drewN | apply below_drew1 | refine below_set ?_ GE121.out) | exact HB.out), by repeat (first | (with_reducible first | exact HK.out | apply Kept.alloc | apply Kept.drewN | apply Kept.drew | refine Kept.setCell ?_ (.inr GW121.out) _) | exact HK.out)⟩
            ·rw [if_neg c29] at H
             exact absurd H (by simp)
           ·rw [if_neg c26] at H
            exact absurd H (by simp)
          ·rw [if_neg c25] at H
           exact absurd H (by simp)
         ·rw [if_neg c24] at H
          exact absurd H (by simp)
       ·rw [if_neg c18] at H
        exact absurd H (by simp)
      ·rw [if_neg c17] at H
       have c17b0 : decide (x7_2 < (l0.length : Int)) = false := decide_eq_false c17
       clear c17
       by_cases c38 : 0 ≤ x7_2
       ·rw [if_pos c38] at H
        have c38b0 := eq_true c38
        have c38b1 : decide (0 ≤ x7_2) = true := decide_eq_true c38
        clear c38
        by_cases c39 : x7_2 ≤ (l0.length : Int)
        ·rw [if_pos c39] at H
         have c39b0 := eq_true c39
         have c39b1 : decide (x7_2 ≤ (l0.length : Int)) = true := decide_eq_true c39
         clear c39
         obtain ⟨y143, hy143⟩ : ∃ y_ : List (S79), y_ = (l0.take (x7_2 : Int).toNat) := ⟨_, rfl⟩
         replace H : (if ([] : List (S79)).length + y143.length < 8796093022208 then ((some (([] : List (S79)) ++ y143 : List (S79))).bind fun y147 => (if y147.length < 8796093022208 then ((some (y147 ++ [(⟨a1_0, a1_1⟩ : S79)] : List (S79))).bind fun y150 => ((some (l0.drop (x7_2 : Int).toNat : List (S79))).bind fun y153 => (if y150.length + y153.length < 8796093022208 then (some (y150 ++ y153)) else (none)))) else (none))) else (none)) = some r := by first | (rw [hy143]; with_reducible exact H) | (have H2_ := (Option.bind_some _ _).symm.trans H; rw [hy143]; with_reducible exact H2_) | (have H2_ := (Option.bind_some _ _).symm.trans H; with_reducible exact H2_) | with_reducible exact H | (rw [hy143]; exact H) | exact H
         have Ny143 := aM hy143
         clear hy143
         by_cases c40 : ([] : List (S79)).length + y143.length < 8796093022208
         ·rw [if_pos c40] at H
          have LMc40 := aM c40
          clear c40
          obtain ⟨y147, hy147⟩ : ∃ y_ : List (S79), y_ = (([] : List (S79)) ++ y143) := ⟨_, rfl⟩
          replace H : (if y147.length < 8796093022208 then ((some (y147 ++ [(⟨a1_0, a1_1⟩ : S79)] : List (S79))).bind fun y150 => ((some (l0.drop (x7_2 : Int).toNat : List (S79))).bind fun y153 => (if y150.length + y153.length < 8796093022208 then (some (y150 ++ y153)) else (none)))) else (none)) = some r := by first | (rw [hy147]; with_reducible exact H) | (have H2_ := (Option.bind_some _ _).symm.trans H; rw [hy147]; with_reducible exact H2_) | (have H2_ := (Option.bind_some _ _).symm.trans H; with_reducible exact H2_) | with_reducible exact H | (rw [hy147]; exact H) | exact H
          have Ny147 := aM hy147
          clear hy147
          by_cases c41 : y147.length < 8796093022208
          ·rw [if_pos c41] at H
           have LMc41 := aM c41
           clear c41
           obtain ⟨y150, hy150⟩ : ∃ y_ : List (S79), y_ = (y147 ++ [(⟨a1_0, a1_1⟩ : S79)]) := ⟨_, rfl⟩
           replace H : ((some (l0.drop (x7_2 : Int).toNat : List (S79))).bind fun y153 => (if y150.length + y153.length < 8796093022208 then (some (y150 ++ y153)) else (none))) = some r := by first | (rw [hy150]; with_reducible exact H) | (have H2_ := (Option.bind_some _ _).symm.trans H; rw [hy150]; with_reducible exact H2_) | (have H2_ := (Option.bind_some _ _).symm.trans H; with_reducible exact H2_) | with_reducible exact H | (rw [hy150]; exact H) | exact H
           have Ny150 := aM hy150
           clear hy150
           have c42b0 := eq_true (of_decide_eq_true (by first | (with_reducible assumption) | assumption) : 0 ≤ x7_2)
           have c43b0 := eq_true (of_decide_eq_true (by first | (with_reducible assumption) | assumption) : x7_2 ≤ (l0.length : Int))
           obtain ⟨y153, hy153⟩ : ∃ y_ : List (S79), y_ = (l0.drop (x7_2 : Int).toNat) := ⟨_, rfl⟩
           replace H : (if y150.length + y153.length < 8796093022208 then (some (y150 ++ y153)) else (none)) = some r := by first | (rw [hy153]; with_reducible exact H) | (have H2_ := (Option.bind_some _ _).symm.trans H; rw [hy153]; with_reducible exact H2_) | (have H2_ := (Option.bind_some _ _).symm.trans H; with_reducible exact H2_) | with_reducible exact H | (rw [hy153]; exact H) | exact H
           have Ny153 := aM hy153
           clear hy153
           by_cases c44 : y150.length + y153.length < 8796093022208
           ·rw [if_pos c44] at H
            have LMc44 := aM c44
            clear c44
            obtain ⟨y157, hy157⟩ : ∃ y_ : List (S79), y_ = (y150 ++ y153) := ⟨_, rfl⟩
            replace H : (some y157) = some r := by first | (rw [hy157]; with_reducible exact H) | (have H2_ := (Option.bind_some _ _).symm.trans H; rw [hy157]; with_reducible exact H2_) | (have H2_ := (Option.bind_some _ _).symm.trans H; with_reducible exact H2_) | with_reducible exact H | (rw [hy157]; exact H) | exact H
            have Ny157 := aM hy157
            clear hy157
            obtain rfl := Option.some.inj H
            try go_wp2
            have n0_ := aM (Kd.R_drew HO_0.out)
            have n1_ := aM (blk_drew BK121.out)
            have n2_ := aM (Kept.drew HK.out)
            have n3_ := aM (below_drew1 HB.out)
            clear HO_0
            clear BK121
            clear HK
            clear HB
            have HO_0 := n0_
            have BK121 := n1_
            have HK := n2_
            have HB := n3_
            clear n0_ n1_ n2_ n3_
            refine start_ (n := 12) (S := fun w' => True) (ds := []) (bq 12 0) (by kernel_rfl) rfl (by kernel_rfl) trivial (fun hHeld => ?_); refine with_tabW spec_l11Put.tab8 spec_l11Put.bits8 (fun HT_ HW_ => ?_)
            generalize wr.drew = w45 at HO_0 BK121 HK HB hHeld ⊢
            refine pZ 12 1 0 22 HT_ ?_
            refine pZ 12 3 1 23 HT_ ?_
            refine pZ 12 7 2 24 HT_ ?_
            refine pZ 12 15 3 25 HT_ ?_
            refine pZ 12 31 4 26 HT_ ?_
            refine pY 12 63 5 27 HT_ ?_
            refine pY 12 127 6 28 HT_ ?_
            refine pY 12 255 7 29 HT_ ?_
            refine pY 12 511 8 30 HT_ ?_
            refine pY 12 1023 9 31 HT_ ?_
            refine pY 12 2047 10 32 HT_ ?_
            refine pZ 12 4095 11 33 HT_ ?_
            refine done_ (done_of HT_.out (by kernel_rfl)) ?_
            have q46 : (x7_2 : Int) ≤ ((l0.length : Int) : Int) := dT
            obtain ⟨i046, hi046, _, hsz46, _⟩ := info_parts info79
            have hroom46 : l0.length ≤ co4 := (Kd.R_reads' HO_0.out).2.1
            have hC46 : Kd.C k79 _ Ao4 l0.length l0 := (Kd.R_reads' HO_0.out).2.2
            have hcut46 := cut_to (P := Try.prog) 61 79 .i64 Try.underlying61 hi046 Ao4 l0.length co4 x7_2 (of_decide_eq_true (by first | (with_reducible assumption) | assumption)) q46 hroom46
            have hr46 := Kd.C_take (m := (x7_2 : Int).toNat) hC46 (by omega)
            have hy46 : y143.length = (x7_2 : Int).toNat := (by rw [Ny143.out, List.length_take]; omega)
            rw [← Ny143.out] at hr46
            rw [← hy46] at hcut46
            have HR146 := aM hr46
            have HC146 := aM (show y143.length ≤ co4 from by omega)
            clear hr46 hC46 hroom46 hi046 hsz46
            have KY46 := aM hy46
            clear hy46
            have KL46 := aM (show (x7_2 : Int).toNat ≤ l0.length from by omega)
            replace q46 := eq_true q46
            try go_wp2_with (first | ((with_reducible refine gate_builtin (b := .append) (xs := #[.tmp 36, .tmp 39]) rfl ?_); at_builtin; refine Kd.R_append_rows k79 (w0 := w0) w0.heap.size rfl (.tmp 36) (.tmp 39) 61 79 (.agg #[(.int .i64 0), (.int .i64 0)]) 16 rfl Try.underlying61 info79 rfl (by decide) (by omega) (.slice none 0 0) ([] : List (S79)) y143 _ _ _ (fun k_ => (P0_ k_ ∨ w.heap.size ≤ k_) ∧ some k_ ≠ (.slice Ao4 l0.length co4 : Value).ownBlock ∧ k_ ≠ gb121) (fun _ => False) rfl rfl ?aO ?aR (fun _ _ h => h) (fun _ h => h.elim) ?aF ?aB ?aS ?aL ?_; (case aR => repeat (first | exact (by repeat (first | (with_reducible exact HR146.out) | (with_reducible refine Kd.C_alloc ?_ _) | (with_reducible refine Kd.C_drewN ?_ _) | (with_reducible refine Kd.C_drew ?_) | exact HR146.out)) | (with_reducible refine Kd.C_alloc ?_ _) | (with_reducible refine Kd.C_drewN ?_ _) | (with_reducible refine Kd.C_drew ?_))); (case aB => exact (gB HB.out)); (case aF => exact (fun k_ hk => ⟨(.inr (Nat.le_trans (by first | exact HK.out.1 | exact (show Kept w _ (fun k_ => P0_ k_) from by repeat (first | (with_reducible first | exact HK.out | apply Kept.alloc | apply Kept.drewN | apply Kept.drew | refine Kept.setCell ?_ (.inr GW121.out) _) | exact HK.out)).1) hk)), Kd.fresh' (Kd.R_lt (gR HO_0.out)) k_ hk, Kd.freshB (g := gb121) (o := .cells #[.int .i64 a1_0, .int .i64 a1_1] 79 (0, 0)) (gK BK121.out) k_ hk⟩)); (case aO => exact ((Kd.R_nil _ _ _ _ (fun k_ => (P0_ k_ ∨ w.heap.size ≤ k_) ∧ some k_ ≠ (.slice Ao4 l0.length co4 : Value).ownBlock ∧ k_ ≠ gb121)))); (case aS => exact (below_size (gB HB.out))); (case aL => have := LMc40.out; omega); intro v148 w47 ho hb hg hat; rw [← Ny147.out] at ho; have n0_ := aM (Kd.R_after (Kd.R_apart_nil (gR HO_0.out)) hg hat); have n1_ := aM (blk_grown (g := gb121) (o := .cells #[.int .i64 a1_0, .int .i64 a1_1] 79 (0, 0)) (gK BK121.out) hg (by simp [Value.ownBlock])); have n2_ := aM (hb); have n3_ := aM (Kept.of_grown (S := (fun k_ => P0_ k_)) hg (by repeat (first | (with_reducible first | exact HK.out | apply Kept.alloc | apply Kept.drewN | apply Kept.drew | refine Kept.setCell ?_ (.inr GW121.out) _) | exact HK.out)) (fun k_ e_ => by simp [Value.ownBlock] at e_)); have n4_ := aM ((show Kd.C k79 w47 Ao4 y143.length y143 from by rw [Ny143.out]; exact Kd.C_take (m := (x7_2 : Int).toNat) ((Kd.R_reads' (Kd.R_after (Kd.R_apart_nil (gR HO_0.out)) hg hat)).2.2) KL46.out)); have n5_ := aM (ho); clear HO_0; clear BK121; clear HB; clear HK; clear HR146; have HO_0 := n0_; have BK121 := n1_; have HB := n2_; have HK := n3_; have HR146 := n4_; have HO149 := n5_; clear n0_ n1_ n2_ n3_ n4_ n5_; clear ho hb hg hat; have hcz48_0 : w47.cell? ⟨gb121, 0, none⟩ = some (.int .i64 a1_0) := (blk_cell BK121.out 0).trans rfl; have hcz48_1 : w47.cell? ⟨gb121, 1, none⟩ = some (.int .i64 a1_1) := (blk_cell BK121.out 1).trans rfl; have hfz48_0 := blk_frozen BK121.out 0; have hfz48_1 := blk_frozen BK121.out 1) | ((with_reducible refine gate_builtin (b := .append) (xs := #[.tmp 41, .tmp 43]) rfl ?_); at_builtin; refine Kd.R_append k79 (w0 := w0) w0.heap.size rfl (.tmp 41) (.tmp 43) 61 79 (.agg #[(.int .i64 0), (.int .i64 0)]) 16 rfl Try.underlying61 info79 rfl (by decide) (by omega) v148 y147 (⟨a1_0, a1_1⟩ : S79) [.int .i64 a1_0, .int .i64 a1_1] (fun k_ => (P0_ k_ ∨ w.heap.size ≤ k_) ∧ some k_ ≠ (.slice Ao4 l0.length co4 : Value).ownBlock ∧ k_ ≠ gb121) (fun _ => False) rfl rfl ?aP (fun _ hk => hk.elim) ?aF ?aO ?aB ?aS ?aL ?_; (case aP => exact k79_mkM _ _ _ (⟨a1_0, a1_1⟩ : S79)); (case aB => exact (gB HB.out)); (case aF => exact (fun k_ hk => ⟨(.inr (Nat.le_trans (by first | exact HK.out.1 | exact (show Kept w _ (fun k_ => P0_ k_) from by repeat (first | (with_reducible first | exact HK.out | apply Kept.alloc | apply Kept.drewN | apply Kept.drew | refine Kept.setCell ?_ (.inr GW121.out) _) | exact HK.out)).1) hk)), Kd.fresh' (Kd.R_lt (gR HO_0.out)) k_ hk, Kd.freshB (g := gb121) (o := .cells #[.int .i64 a1_0, .int .i64 a1_1] 79 (0, 0)) (gK BK121.out) k_ hk⟩)); (case aO => exact (gR HO149.out)); (case aS => exact (below_size (gB HB.out))); (case aL => have := LMc41.out; omega); intro v151 w49 ho hb hg hat; rw [← Ny150.out] at ho; have n0_ := aM (Kd.R_after (ok := (fun k_ => (P0_ k_ ∨ w.heap.size ≤ k_) ∧ k_ ≠ gb121)) (gR HO_0.out) hg hat); have n1_ := aM (blk_grown (g := gb121) (o := .cells #[.int .i64 a1_0, .int .i64 a1_1] 79 (0, 0)) (gK BK121.out) hg (Kd.R_away HO149.out (fun _ hk => hk.2.2))); have n2_ := aM (hb); have n3_ := aM (Kept.of_grown (S := (fun k_ => P0_ k_)) hg (by repeat (first | (with_reducible first | exact HK.out | apply Kept.alloc | apply Kept.drewN | apply Kept.drew | refine Kept.setCell ?_ (.inr GW121.out) _) | exact HK.out)) (fun k_ e_ => (HO149.out.1 k_ e_).1)); have n4_ := aM ((show Kd.C k79 w49 Ao4 y143.length y143 from by rw [Ny143.out]; exact Kd.C_take (m := (x7_2 : Int).toNat) ((Kd.R_reads' (Kd.R_after (ok := (fun k_ => (P0_ k_ ∨ w.heap.size ≤ k_) ∧ k_ ≠ gb121)) (gR HO_0.out) hg hat)).2.2) KL46.out)); have n5_ := aM (ho); clear HO_0; clear BK121; clear HB; clear HK; clear HR146; clear HO149; have HO_0 := n0_; have BK121 := n1_; have HB := n2_; have HK := n3_; have HR146 := n4_; have HO152 := n5_; clear n0_ n1_ n2_ n3_ n4_ n5_; clear ho hb hg hat; have q50 : (x7_2 : Int) ≤ ((l0.length : Int) : Int) := of_decide_eq_true (by first | (with_reducible assumption) | assumption); obtain ⟨i050, hi050, _, hsz50, _⟩ := info_parts info79; have hroom50 : l0.length ≤ co4 := (Kd.R_reads' HO_0.out).2.1; have hC50 : Kd.C k79 _ Ao4 l0.length l0 := (Kd.R_reads' HO_0.out).2.2; have q050 : (0 : Int) ≤ (x7_2 : Int) := of_decide_eq_true (by first | (with_reducible assumption) | assumption); have hcut50 := cut_from (P := Try.prog) 61 79 .i64 Try.underlying61 hi050 2 hsz50 Ao4 l0.length co4 x7_2 q050 q50; have hr50 := Kd.C_drop (m := (x7_2 : Int).toNat) (c := co4) hC50 (by omega) hroom50; obtain ⟨A50, hA50⟩ : ∃ A1, A1 = (if co4 = (x7_2 : Int).toNat then Ao4 else (Ao4 : Option Addr).map (·.add ((x7_2 : Int).toNat * 2))) := ⟨_, rfl⟩; obtain ⟨c50, hc50⟩ : ∃ c1, c1 = co4 - (x7_2 : Int).toNat := ⟨_, rfl⟩; have hy50 : y153.length = l0.length - (x7_2 : Int).toNat := (by rw [Ny153.out, List.length_drop] <;> omega); rw [show (l0).drop (x7_2 : Int).toNat = y153 from Ny153.out.symm] at hr50; replace hr50 : Kd.C k79 _ A50 y153.length y153 := (by rw [hA50]; exact hr50); rw [← hy50, ← hA50, ← hc50] at hcut50; have HR156 := aM hr50; have HC156 := aM (show y153.length ≤ c50 from by rw [hy50, hc50]; exact Nat.sub_le_sub_right hroom50 _); clear hr50 hC50 hroom50 hi050 hsz50 hc50; have KY50 := aM hy50; have KA50 := aM hA50; clear hy50 hA50; have KL50 := aM (show (x7_2 : Int).toNat ≤ l0.length from by omega); replace q50 := eq_true q50) | ((with_reducible refine gate_builtin (b := .append) (xs := #[.tmp 45, .tmp 48]) rfl ?_); at_builtin; refine Kd.R_append_rows k79 (w0 := w0) w0.heap.size rfl (.tmp 45) (.tmp 48) 61 79 (.agg #[(.int .i64 0), (.int .i64 0)]) 16 rfl Try.underlying61 info79 rfl (by decide) (by omega) v151 y150 y153 _ _ _ (fun k_ => (P0_ k_ ∨ w.heap.size ≤ k_) ∧ some k_ ≠ (.slice Ao4 l0.length co4 : Value).ownBlock ∧ k_ ≠ gb121) (fun _ => False) rfl rfl ?aO ?aR (fun _ _ h => h) (fun _ h => h.elim) ?aF ?aB ?aS ?aL ?_; (case aR => repeat (first | exact (by repeat (first | (with_reducible exact HR156.out) | (with_reducible refine Kd.C_alloc ?_ _) | (with_reducible refine Kd.C_drewN ?_ _) | (with_reducible refine Kd.C_drew ?_) | exact HR156.out)) | (with_reducible refine Kd.C_alloc ?_ _) | (with_reducible refine Kd.C_drewN ?_ _) | (with_reducible refine Kd.C_drew ?_))); (case aB => exact (gB HB.out)); (case aF => exact (fun k_ hk => ⟨(.inr (Nat.le_trans (by first | exact HK.out.1 | exact (show Kept w _ (fun k_ => P0_ k_) from by repeat (first | (with_reducible first | exact HK.out | apply Kept.alloc | apply Kept.drewN | apply Kept.drew | refine Kept.setCell ?_ (.inr GW121.out) _) | exact HK.out)).1) hk)), Kd.fresh' (Kd.R_lt (gR HO_0.out)) k_ hk, Kd.freshB (g := gb121) (o := .cells #[.int .i64 a1_0, .int .i64 a1_1] 79 (0, 0)) (gK BK121.out) k_ hk⟩)); (case aO => exact (gR HO152.out)); (case aS => exact (below_size (gB HB.out))); (case aL => have := LMc44.out; omega); intro v158 w51 ho hb hg hat; rw [← Ny157.out] at ho; have n0_ := aM (Kd.R_after (ok := (fun k_ => (P0_ k_ ∨ w.heap.size ≤ k_) ∧ k_ ≠ gb121)) (gR HO_0.out) hg hat); have n1_ := aM (blk_grown (g := gb121) (o := .cells #[.int .i64 a1_0, .int .i64 a1_1] 79 (0, 0)) (gK BK121.out) hg (Kd.R_away HO152.out (fun _ hk => hk.2.2))); have n2_ := aM (hb); have n3_ := aM (Kept.of_grown (S := (fun k_ => P0_ k_)) hg (by repeat (first | (with_reducible first | exact HK.out | apply Kept.alloc | apply Kept.drewN | apply Kept.drew | refine Kept.setCell ?_ (.inr GW121.out) _) | exact HK.out)) (fun k_ e_ => (HO152.out.1 k_ e_).1)); have n4_ := aM ((show Kd.C k79 w51 Ao4 y143.length y143 from by rw [Ny143.out]; exact Kd.C_take (m := (x7_2 : Int).toNat) ((Kd.R_reads' (Kd.R_after (ok := (fun k_ => (P0_ k_ ∨ w.heap.size ≤ k_) ∧ k_ ≠ gb121)) (gR HO_0.out) hg hat)).2.2) KL46.out)); have n5_ := aM ((show Kd.C k79 w51 A50 y153.length y153 from by rw [Ny153.out, KA50.out]; exact Kd.C_drop (m := (x7_2 : Int).toNat) (c := co4) ((Kd.R_reads' (Kd.R_after (ok := (fun k_ => (P0_ k_ ∨ w.heap.size ≤ k_) ∧ k_ ≠ gb121)) (gR HO_0.out) hg hat)).2.2) KL50.out ((Kd.R_reads' (Kd.R_after (ok := (fun k_ => (P0_ k_ ∨ w.heap.size ≤ k_) ∧ k_ ≠ gb121)) (gR HO_0.out) hg hat)).2.1))); have n6_ := aM (ho); clear HO_0; clear BK121; clear HB; clear HK; clear HR146; clear HR156; clear HO152; have HO_0 := n0_; have BK121 := n1_; have HB := n2_; have HK := n3_; have HR146 := n4_; have HR156 := n5_; have HO159 := n6_; clear n0_ n1_ n2_ n3_ n4_ n5_ n6_; clear ho hb hg hat))
            go_ret
            exact ⟨_, eR, by (with_reducible repeat (first | apply Kd.R_alloc | apply Kd.R_drewN | apply Kd.R_drew)); exact Kd.R_mono HO159.out (fun _ hk => hk.1), by repeat (first | (with_reducible first | exact HB.out | apply below_alloc | apply pw_below_drewN | apply below_drew1 | refine below_set ?_ GE121.out) | exact HB.out), by repeat (first | (with_reducible first | exact HK.out | apply Kept.alloc | apply Kept.drewN | apply Kept.drew | refine Kept.setCell ?_ (.inr GW121.out) _) | exact HK.out)⟩
           ·rw [if_neg c44] at H
            exact absurd H (by simp)
          ·rw [if_neg c41] at H
           exact absurd H (by simp)
         ·rw [if_neg c40] at H
          exact absurd H (by simp)
        ·rw [if_neg c39] at H
         exact absurd H (by simp)
       ·rw [if_neg c38] at H
        exact absurd H (by simp)

def spec_l11First.f (l0 : List (S79)) (a1 : Int) : Option ((List (S79))) := if (l0.length : Int) > a1 then (if 0 ≤ a1 then (if a1 ≤ (l0.length : Int) then ((some (l0.take (a1 : Int).toNat : List (S79))).bind fun y164 => ((some (([] : List (S79)) : List (S79))).bind fun y168 => (if y168.length + y164.length < 8796093022208 then (some (y168 ++ y164)) else (none)))) else (none)) else (none)) else ((some (([] : List (S79)) : List (S79))).bind fun y174 => (if y174.length + l0.length < 8796093022208 then (some (y174 ++ l0)) else (none)))
set_option maxHeartbeats 8000000 in
set_option maxRecDepth 100000 in
theorem spec_l11First.calls (A0 : Option Addr) (c0 : Nat) (l0 : List (S79)) (a1 : Int) (r : List (S79)) (w : World) (hr0 : Kd.C k79 w A0 l0.length l0) (hc0 : l0.length ≤ c0) (h : spec_l11First.f l0 a1 = some r) :
  Calls Try.prog 106 #[.slice A0 l0.length c0, .int .i64 a1] w fun e w' => ∃ v0_ : Value, e = .returned (v0_) ∧ Kd.R k79 79 w' w.heap.size (fun _ => True) v0_ r ∧ Below w.heap.size w w' := by
 have HR0 := aM hr0
 have HC0 := aM hc0
 clear hr0 hc0
 have HB := aM (Below.refl w.heap.size w)
 have H : (if (l0.length : Int) > a1 then (if 0 ≤ a1 then (if a1 ≤ (l0.length : Int) then ((some (l0.take (a1 : Int).toNat : List (S79))).bind fun y164 => ((some (([] : List (S79)) : List (S79))).bind fun y168 => (if y168.length + y164.length < 8796093022208 then (some (y168 ++ y164)) else (none)))) else (none)) else (none)) else ((some (([] : List (S79)) : List (S79))).bind fun y174 => (if y174.length + l0.length < 8796093022208 then (some (y174 ++ l0)) else (none)))) = some r := h
 clear h
 by_cases c3 : (l0.length : Int) > a1
 ·rw [if_pos c3] at H
  have c3b0 : decide (a1 < (l0.length : Int)) = true := decide_eq_true c3
  clear c3
  by_cases c4 : 0 ≤ a1
  ·rw [if_pos c4] at H
   have c4b0 := eq_true c4
   have c4b1 : decide (0 ≤ a1) = true := decide_eq_true c4
   clear c4
   by_cases c5 : a1 ≤ (l0.length : Int)
   ·rw [if_pos c5] at H
    have c5b0 := eq_true c5
    have c5b1 : decide (a1 ≤ (l0.length : Int)) = true := decide_eq_true c5
    clear c5
    obtain ⟨y164, hy164⟩ : ∃ y_ : List (S79), y_ = (l0.take (a1 : Int).toNat) := ⟨_, rfl⟩
    replace H : ((some (([] : List (S79)) : List (S79))).bind fun y168 => (if y168.length + y164.length < 8796093022208 then (some (y168 ++ y164)) else (none))) = some r := by first | (rw [hy164]; with_reducible exact H) | (have H2_ := (Option.bind_some _ _).symm.trans H; rw [hy164]; with_reducible exact H2_) | (have H2_ := (Option.bind_some _ _).symm.trans H; with_reducible exact H2_) | with_reducible exact H | (rw [hy164]; exact H) | exact H
    have Ny164 := aM hy164
    clear hy164
    obtain ⟨y168, hy168⟩ : ∃ y_ : List (S79), y_ = (([] : List (S79))) := ⟨_, rfl⟩
    replace H : (if y168.length + y164.length < 8796093022208 then (some (y168 ++ y164)) else (none)) = some r := by first | (rw [hy168]; with_reducible exact H) | (have H2_ := (Option.bind_some _ _).symm.trans H; rw [hy168]; with_reducible exact H2_) | (have H2_ := (Option.bind_some _ _).symm.trans H; with_reducible exact H2_) | with_reducible exact H | (rw [hy168]; exact H) | exact H
    have Ny168 := aM hy168
    clear hy168
    by_cases c6 : y168.length + y164.length < 8796093022208
    ·rw [if_pos c6] at H
     have LMc6 := aM c6
     clear c6
     obtain ⟨y171, hy171⟩ : ∃ y_ : List (S79), y_ = (y168 ++ y164) := ⟨_, rfl⟩
     replace H : (some y171) = some r := by first | (rw [hy171]; with_reducible exact H) | (have H2_ := (Option.bind_some _ _).symm.trans H; rw [hy171]; with_reducible exact H2_) | (have H2_ := (Option.bind_some _ _).symm.trans H; with_reducible exact H2_) | with_reducible exact H | (rw [hy171]; exact H) | exact H
     have Ny171 := aM hy171
     clear hy171
     obtain rfl := Option.some.inj H
     have q7 : (a1 : Int) ≤ ((l0.length : Int) : Int) := dT
     obtain ⟨i07, hi07, _, hsz7, _⟩ := info_parts info79
     have hroom7 : l0.length ≤ c0 := HC0.out
     have hC7 : Kd.C k79 _ A0 l0.length l0 := HR0.out
     have hcut7 := cut_to (P := Try.prog) 61 79 .i64 Try.underlying61 hi07 A0 l0.length c0 a1 (of_decide_eq_true (by first | (with_reducible assumption) | assumption)) q7 hroom7
     have hr7 := Kd.C_take (m := (a1 : Int).toNat) hC7 (by omega)
     have hy7 : y164.length = (a1 : Int).toNat := (by rw [Ny164.out, List.length_take]; omega)
     rw [← Ny164.out] at hr7
     rw [← hy7] at hcut7
     have HR167 := aM hr7
     have HC167 := aM (show y164.length ≤ c0 from by omega)
     clear hr7 hC7 hroom7 hi07 hsz7
     have KY7 := aM hy7
     clear hy7
     replace q7 := eq_true q7
     go_enter Try.func106, Try.ntmps106
     go_wp2_with (first | ((with_reducible refine gate_dst (N := 12) rfl ?_); refine Kd.R_lit k79 _ 79 ?hg (N := 12) ?hd (xs := ([] : List (S79))) (inner := []) (ok := fun _ => True) (okp := fun _ => True) ?hr ?hp (fun _ hk => hk) trivial (Below.refl _ _) (Nat.le_refl _) (by simp) ?_; (case hd => rfl); (case hg => rfl); (case hr => first | (go_simp; done) | (go_simp; rfl)); (case hp => exact (Reps.none _ _)); intro v169 w8 ho9 hb hg_ hnew_; clear hg_ hnew_; (first | rw [← Ny168.out] at ho9 | (simp only [Int.reduceToNat] at ho9; rw [← Ny168.out] at ho9)); have n0_ := aM (Kd.R_lower ho9 (below_size (gB HB.out))); have n1_ := aM (below_step (gB HB.out) hb); clear HB; have HO170 := n0_; have HB := n1_; clear n0_ n1_; clear hb ho9) | ((with_reducible refine gate_builtin (b := .append) (xs := #[.tmp 12, .tmp 13]) rfl ?_); at_builtin; refine Kd.R_append_rows k79 (w0 := w) w.heap.size rfl (.tmp 12) (.tmp 13) 61 79 (.agg #[(.int .i64 0), (.int .i64 0)]) 16 rfl Try.underlying61 info79 rfl (by decide) (by omega) v169 y168 y164 _ _ _ (fun _ => True) (fun _ => False) rfl rfl ?aO ?aR (fun _ _ h => h) (fun _ h => h.elim) ?aF ?aB ?aS ?aL ?_; (case aR => repeat (first | exact (Kd.C_below HR167.out HB.out) | (with_reducible refine Kd.C_alloc ?_ _) | (with_reducible refine Kd.C_drewN ?_ _) | (with_reducible refine Kd.C_drew ?_))); (case aB => exact (gB HB.out)); (case aF => exact (fun _ _ => trivial)); (case aO => exact (gR HO170.out)); (case aS => exact (below_size (gB HB.out))); (case aL => have := LMc6.out; omega); intro v172 w10 ho hb hg hat; rw [← Ny171.out] at ho; have n0_ := aM (hb); have n1_ := aM (ho); clear HB; clear HO170; have HB := n0_; have HO173 := n1_; clear n0_ n1_; clear ho hb hg hat))
     go_ret
     exact ⟨_, eR, by (with_reducible repeat (first | apply Kd.R_alloc | apply Kd.R_drewN | apply Kd.R_drew)); exact HO173.out, by repeat (first | (with_reducible first | exact HB.out | apply below_alloc | apply pw_below_drewN | apply below_drew1) | exact HB.out)⟩
    ·rw [if_neg c6] at H
     exact absurd H (by simp)
   ·rw [if_neg c5] at H
    exact absurd H (by simp)
  ·rw [if_neg c4] at H
   exact absurd H (by simp)
 ·rw [if_neg c3] at H
  have c3b0 : decide (a1 < (l0.length : Int)) = false := decide_eq_false c3
  clear c3
  obtain ⟨y174, hy174⟩ : ∃ y_ : List (S79), y_ = (([] : List (S79))) := ⟨_, rfl⟩
  replace H : (if y174.length + l0.length < 8796093022208 then (some (y174 ++ l0)) else (none)) = some r := by first | (rw [hy174]; with_reducible exact H) | (have H2_ := (Option.bind_some _ _).symm.trans H; rw [hy174]; with_reducible exact H2_) | (have H2_ := (Option.bind_some _ _).symm.trans H; with_reducible exact H2_) | with_reducible exact H | (rw [hy174]; exact H) | exact H
  have Ny174 := aM hy174
  clear hy174
  by_cases c11 : y174.length + l0.length < 8796093022208
  ·rw [if_pos c11] at H
   have LMc11 := aM c11
   clear c11
   obtain ⟨y177, hy177⟩ : ∃ y_ : List (S79), y_ = (y174 ++ l0) := ⟨_, rfl⟩
   replace H : (some y177) = some r := by first | (rw [hy177]; with_reducible exact H) | (have H2_ := (Option.bind_some _ _).symm.trans H; rw [hy177]; with_reducible exact H2_) | (have H2_ := (Option.bind_some _ _).symm.trans H; with_reducible exact H2_) | with_reducible exact H | (rw [hy177]; exact H) | exact H
   have Ny177 := aM hy177
   clear hy177
   obtain rfl := Option.some.inj H
   go_enter Try.func106, Try.ntmps106
   go_wp2_with (first | ((with_reducible refine gate_dst (N := 12) rfl ?_); refine Kd.R_lit k79 _ 79 ?hg (N := 12) ?hd (xs := ([] : List (S79))) (inner := []) (ok := fun _ => True) (okp := fun _ => True) ?hr ?hp (fun _ hk => hk) trivial (Below.refl _ _) (Nat.le_refl _) (by simp) ?_; (case hd => rfl); (case hg => rfl); (case hr => first | (go_simp; done) | (go_simp; rfl)); (case hp => exact (Reps.none _ _)); intro v175 w12 ho13 hb hg_ hnew_; clear hg_ hnew_; (first | rw [← Ny174.out] at ho13 | (simp only [Int.reduceToNat] at ho13; rw [← Ny174.out] at ho13)); have n0_ := aM (Kd.R_lower ho13 (below_size (gB HB.out))); have n1_ := aM (below_step (gB HB.out) hb); clear HB; have HO176 := n0_; have HB := n1_; clear n0_ n1_; clear hb ho13) | ((with_reducible refine gate_builtin (b := .append) (xs := #[.tmp 12, .tmp 13]) rfl ?_); at_builtin; refine Kd.R_append_rows k79 (w0 := w) w.heap.size rfl (.tmp 12) (.tmp 13) 61 79 (.agg #[(.int .i64 0), (.int .i64 0)]) 16 rfl Try.underlying61 info79 rfl (by decide) (by omega) v175 y174 l0 _ _ _ (fun _ => True) (fun _ => False) rfl rfl ?aO ?aR (fun _ _ h => h) (fun _ h => h.elim) ?aF ?aB ?aS ?aL ?_; (case aR => repeat (first | exact (Kd.C_below HR0.out HB.out) | (with_reducible refine Kd.C_alloc ?_ _) | (with_reducible refine Kd.C_drewN ?_ _) | (with_reducible refine Kd.C_drew ?_))); (case aB => exact (gB HB.out)); (case aF => exact (fun _ _ => trivial)); (case aO => exact (gR HO176.out)); (case aS => exact (below_size (gB HB.out))); (case aL => have := LMc11.out; omega); intro v178 w14 ho hb hg hat; rw [← Ny177.out] at ho; have n0_ := aM (hb); have n1_ := aM (ho); clear HB; clear HO176; have HB := n0_; have HO179 := n1_; clear n0_ n1_; clear ho hb hg hat))
   go_ret
   exact ⟨_, eR, by (with_reducible repeat (first | apply Kd.R_alloc | apply Kd.R_drewN | apply Kd.R_drew)); exact HO179.out, by repeat (first | (with_reducible first | exact HB.out | apply below_alloc | apply pw_below_drewN | apply below_drew1) | exact HB.out)⟩
  ·rw [if_neg c11] at H
   exact absurd H (by simp)

mutual
def spec_l11All.l0 : Nat → List (S77) → Int → List (S79) → List (S77) → Int → Int → Option ((List (S79)))
 | 0, _, _, _, _, _, _ => none
 | k + 1, x0, x1, x5, x10, x11, x12 => if x12 < x11 then (if 0 ≤ x12 then (if x12 < (x10.length : Int) then (spec_l11All.l1 k x0 x1 x5 x10 x11 x12 ((rd_T77 x10 x12).f0) (((rd_T77 x10 x12).f0).length : Int) 0) else (none)) else (none)) else ((spec_l11First.f x5 x1).bind fun t180 => (some t180))
def spec_l11All.l1 : Nat → List (S77) → Int → List (S79) → List (S77) → Int → Int → List (S79) → Int → Int → Option ((List (S79)))
 | 0, _, _, _, _, _, _, _, _, _ => none
 | k + 1, x0, x1, x5, x10, x11, x12, x17, x18, x19 => if x19 < x18 then (if 0 ≤ x19 then (if x19 < (x17.length : Int) then ((spec_l11Sum.f k x0 ((rd_T79 x17 x19).f0)).bind fun t187 => ((spec_l11Put.f k x5 ((rd_T79 x17 x19).f0) t187).bind fun t188 => (spec_l11All.l1 k x0 x1 t188 x10 x11 x12 x17 x18 (wrap64 (x19 + 1))))) else (none)) else (none)) else (spec_l11All.l0 k x0 x1 x5 x10 x11 (wrap64 (x12 + 1)))
end
def spec_l11All.f (k : Nat) (l0 : List (S77)) (a1 : Int) : Option ((List (S79))) := spec_l11All.l0 k l0 a1 ([] : List (S79)) l0 (l0.length : Int) 0
def spec_l11All.T8 : Bool × List (List Nat × List Nat) := (true, [([], []), ([], []), ([1], [1]), ([], []), ([], []), ([4], [4]), ([3, 5], [3, 5]), ([2, 6], [2, 6]), ([0, 7, 6], [0, 7]), ([8, 8, 0, 1, 2, 3, 4, 5, 6, 7, 8], [0, 8])])
def spec_l11All.B8 : List Nat := [0, 0, 2, 0, 0, 16, 56, 126, 255, 511]
theorem spec_l11All.tab8 : rtab .any (opsOf Try.f98 8) = spec_l11All.T8 := by kernel_rfl
theorem spec_l11All.bits8 : waitsOk spec_l11All.T8.2 spec_l11All.B8 = true := by kernel_rfl
set_option maxHeartbeats 8000000 in
set_option maxRecDepth 100000 in
theorem spec_l11All.calls (k : Nat) (A0 : Option Addr) (c0 : Nat) (l0 : List (S77)) (a1 : Int) (r : List (S79)) (w : World) (hr0 : Kd.C k77 w A0 l0.length l0) (hc0 : l0.length ≤ c0) (h : spec_l11All.f k l0 a1 = some r) :
  Calls Try.prog 98 #[.slice A0 l0.length c0, .int .i64 a1] w fun e w' => ∃ v0_ : Value, e = .returned (v0_) ∧ Kd.R k79 79 w' w.heap.size (fun _ => True) v0_ r ∧ Below w.heap.size w w' := by
 have hu77 := Try.underlying77
 have hu79 := Try.underlying79
 have HR0 := aM hr0
 have HC0 := aM hc0
 clear hr0 hc0
 have HB := aM (Below.refl w.heap.size w)
 have H : (spec_l11All.l0 k l0 a1 ([] : List (S79)) l0 (l0.length : Int) 0) = some r := h
 clear h
 have H' := aM H
 clear H
 go_enter Try.func98, Try.ntmps98
 go_wp2
 go_loopg [5, 12] k (fun kq v5 v12 w' => ∃ (x5_1 : List (S79)) (x12_1 : Int), v12 = .int .i64 x12_1 ∧ Aside0 (spec_l11All.l0 kq l0 a1 x5_1 l0 (l0.length : Int) x12_1 = some r) ∧ Aside0 (kq ≤ k) ∧ Aside0 (Kd.R k79 79 w' w.heap.size (fun _ => True) v5 x5_1) ∧ Aside0 (Below w.heap.size w w'))
 case atStart => exact ⟨(([] : List (S79))), (0), (by first | rfl | (simp; done) | (simp [*]; done)), H', ⟨Nat.le_refl _⟩, ⟨by first | exact Kd.R_nil _ _ _ _ _ | exact Kd.N_nil _ _ _ _ _ | exact Kd.V_nil _ _ _ _ _ | exact Kd.Q_nil _ _ _ _ _ | exact Kd.S_nil _ _ _ _ _⟩, ⟨by repeat (first | (with_reducible first | exact HB.out | apply below_alloc | apply pw_below_drewN | apply below_drew1) | exact HB.out)⟩⟩
 case round =>
  clear H'
  try clear p2
  obtain ⟨x5_1, x12_1, rfl, HA, HK1, HO_5, HB⟩ := hrel
  cases gk with
  | zero => exact absurd HA.out (by simp [spec_l11All.l0])
  | succ k1 =>
   have H := HA.out
   clear HA
   simp only [spec_l11All.l0] at H
   by_cases c3 : x12_1 < (l0.length : Int)
   ·rw [if_pos c3] at H
    have c3b0 : decide (x12_1 < (l0.length : Int)) = true := decide_eq_true c3
    clear c3
    by_cases c4 : 0 ≤ x12_1
    ·rw [if_pos c4] at H
     have c4b0 : decide (0 ≤ x12_1) = true := decide_eq_true c4
     clear c4
     by_cases c5 : x12_1 < (l0.length : Int)
     ·rw [if_pos c5] at H
      have c5b0 : decide (x12_1 < (l0.length : Int)) = true := decide_eq_true c5
      clear c5
      have H' := aM H
      clear H
      have p183 : 0 ≤ (x12_1 : Int) := dT
      have q183 : x12_1 < (l0.length : Int) := dT
      obtain ⟨ad183, A183_0, c183_0, e183, hx183_0, hl183_0, hi183_0⟩ := at_T77 HR0.out x12_1 p183 q183
      cases e183
      try have hz_hx183_0 := aM hx183_0
      replace hx183_0 := (HB.out.cell (World.block_lt_of_cell? w _ hx183_0)).trans hx183_0
      have HR183_0 := aM hi183_0
      have HC183_0 := aM hl183_0
      clear hi183_0 hl183_0
      replace p183 := eq_true p183
      replace q183 := eq_true q183
      go_wp2_with (((with_reducible refine gate_dst (N := 7) rfl ?_); refine box_event ?hg (N := 7) ?hd (cs := #[.slice none 0 0]) (t := 77) ?hr ?_; (case hd => rfl); (case hg => rfl); (case hr => first | (go_simp; done) | (go_simp; rfl)); intro gb184 hg w6 hbox hb; have n0_ := aM (Kd.R_below (gR HO_5.out) hb); have n1_ := aM (below_step (gB HB.out) hb); have n2_ := aM (hbox); have n3_ := aM ((by rw [hg]; exact (below_size (gB HB.out)) : w.heap.size ≤ gb184)); have n4_ := aM ((by rw [hg]; exact (below_size (gB HB.out)) : w.heap.size ≤ gb184)); clear HO_5; clear HB; have HO_5 := n0_; have HB := n1_; have BK184 := n2_; have GW184 := n3_; have GE184 := n4_; clear n0_ n1_ n2_ n3_ n4_; clear hb hbox hg; have hcz7_0 : w6.cell? ⟨gb184, 0, none⟩ = some (.slice none 0 0) := (blk_cell BK184.out 0).trans rfl; have hfz7_0 := blk_frozen BK184.out 0))
      go_loopg [5, 19] k1 (fun kq v5 v19 w' => ∃ (x5_2 : List (S79)) (x19_2 : Int), v19 = .int .i64 x19_2 ∧ Aside0 (spec_l11All.l1 kq l0 a1 x5_2 l0 (l0.length : Int) x12_1 ((rd_T77 l0 x12_1).f0) (((rd_T77 l0 x12_1).f0).length : Int) x19_2 = some r) ∧ Aside0 (kq ≤ k1) ∧ Aside0 (Kd.R k79 79 w' w.heap.size (fun _ => True) v5 x5_2) ∧ Aside0 (w'.heap[gb184]? = some (.cells #[(.slice A183_0 ((rd_T77 l0 x12_1).f0).length c183_0)] 77 (0, 0))) ∧ Aside0 (Below w.heap.size w w'))
      case atStart => exact ⟨(x5_1), (0), (by first | rfl | (simp; done) | (simp [*]; done)), H', ⟨Nat.le_refl _⟩, ⟨by (with_reducible repeat (first | apply Kd.R_alloc | apply Kd.R_drewN | apply Kd.R_drew)); exact Kd.R_mono (Kd.R_far (p := ⟨gb184, 0, none⟩) (Kd.R_types HO_5.out BK184.out (by decide)) (fun _ hk => hk.2) (.slice A183_0 ((rd_T77 l0 x12_1).f0).length c183_0)) (fun _ hk => trivial)⟩, ⟨by (with_reducible repeat (first | refine blk_drewN ?_ _ | refine blk_drew ?_ | refine blk_alloc ?_ _)); refine blk_put (cs := #[.slice none 0 0]) ?_ 0 _ rfl; (with_reducible repeat (first | refine blk_drewN ?_ _ | refine blk_drew ?_ | refine blk_alloc ?_ _)); exact BK184.out⟩, ⟨by repeat (first | (with_reducible first | exact HB.out | apply below_alloc | apply pw_below_drewN | apply below_drew1 | refine below_set ?_ GE184.out) | exact HB.out)⟩⟩
      case round =>
       clear H'
       try clear c1
       try clear p1
       try clear q1
       try clear hx1
       try clear p2
       try clear c3
       try clear c3b0
       try clear c4
       try clear c4b0
       try clear c5
       try clear c5b0
       try clear hcz7_0
       try clear hfz7_0
       try clear hx183_0
       try clear p183
       try clear p2
       try clear q183
       obtain ⟨x5_2, x19_2, rfl, HA, HK2, HO_5, BK184, HB⟩ := hrel
       cases gk with
       | zero => exact absurd HA.out (by simp [spec_l11All.l1])
       | succ k2 =>
        have H := HA.out
        clear HA
        simp only [spec_l11All.l1] at H
        by_cases c8 : x19_2 < (((rd_T77 l0 x12_1).f0).length : Int)
        ·rw [if_pos c8] at H
         have c8b0 : decide (x19_2 < (((rd_T77 l0 x12_1).f0).length : Int)) = true := decide_eq_true c8
         clear c8
         by_cases c9 : 0 ≤ x19_2
         ·rw [if_pos c9] at H
          have c9b0 : decide (0 ≤ x19_2) = true := decide_eq_true c9
          clear c9
          by_cases c10 : x19_2 < (((rd_T77 l0 x12_1).f0).length : Int)
          ·rw [if_pos c10] at H
           have c10b0 : decide (x19_2 < (((rd_T77 l0 x12_1).f0).length : Int)) = true := decide_eq_true c10
           clear c10
           replace H := Option.bind_eq_some_iff.mp H
           obtain ⟨t187, A110, H⟩ := H
           replace H : ((spec_l11Put.f k2 x5_2 ((rd_T79 ((rd_T77 l0 x12_1).f0) x19_2).f0) t187).bind fun t188 => (spec_l11All.l1 k2 l0 a1 t188 l0 (l0.length : Int) x12_1 ((rd_T77 l0 x12_1).f0) (((rd_T77 l0 x12_1).f0).length : Int) (wrap64 (x19_2 + 1)))) = some r := H
           have A11 := aM A110
           clear A110
           replace H := Option.bind_eq_some_iff.mp H
           obtain ⟨t188, A120, H⟩ := H
           replace H : (spec_l11All.l1 k2 l0 a1 t188 l0 (l0.length : Int) x12_1 ((rd_T77 l0 x12_1).f0) (((rd_T77 l0 x12_1).f0).length : Int) (wrap64 (x19_2 + 1))) = some r := H
           have A12 := aM A120
           clear A120
           have H' := aM H
           clear H
           have p185 : 0 ≤ (x19_2 : Int) := dT
           have q185 : x19_2 < (((rd_T77 l0 x12_1).f0).length : Int) := dT
           obtain ⟨ad185, e185, hx185_0, hx185_1⟩ := at_T79 HR183_0.out x19_2 p185 q185
           cases e185
           try have hz_hx185_0 := aM hx185_0
           try have hz_hx185_1 := aM hx185_1
           replace hx185_0 := (HB.out.cell (World.block_lt_of_cell? w _ hx185_0)).trans hx185_0
           replace hx185_1 := (HB.out.cell (World.block_lt_of_cell? w _ hx185_1)).trans hx185_1
           replace p185 := eq_true p185
           replace q185 := eq_true q185
           try go_wp2_with (((with_reducible refine gate_dst (N := 9) rfl ?_); refine box_event ?hg (N := 9) ?hd (cs := #[.int .i64 0, .int .i64 0]) (t := 79) ?hr ?_; (case hd => rfl); (case hg => rfl); (case hr => first | (go_simp; done) | (go_simp; rfl)); intro gb186 hg w13 hbox hb; have n0_ := aM (Kd.R_below (Kd.R_elderB (gR HO_5.out) gb186 (Nat.le_of_eq hg.symm)) hb); have n1_ := aM (blk_below (g := gb184) (o := .cells #[.slice (some ad185) ((rd_T77 l0 x12_1).f0).length c183_0] 77 (0, 0)) (gK BK184.out) hb); have n2_ := aM (below_step (by repeat (first | (with_reducible first | exact HB.out | apply below_alloc | apply pw_below_drewN | apply below_drew1 | refine below_set ?_ GE184.out) | exact HB.out)) hb); have n3_ := aM (hbox); have n4_ := aM ((by rw [hg]; exact (below_size (by repeat (first | (with_reducible first | exact HB.out | apply below_alloc | apply pw_below_drewN | apply below_drew1 | refine below_set ?_ GE184.out) | exact HB.out))) : w.heap.size ≤ gb186)); have n5_ := aM ((by rw [hg]; exact (below_size (by repeat (first | (with_reducible first | exact HB.out | apply below_alloc | apply pw_below_drewN | apply below_drew1 | refine below_set ?_ GE184.out) | exact HB.out))) : w.heap.size ≤ gb186)); have n6_ := aM ((by rw [hg]; exact Nat.ne_of_lt (blk_lt (g := gb184) (o := .cells #[.slice (some ad185) ((rd_T77 l0 x12_1).f0).length c183_0] 77 (0, 0)) (gK BK184.out)) : gb184 ≠ gb186)); have n7_ := aM ((by rw [hg]; exact Nat.ne_of_gt (blk_lt (g := gb184) (o := .cells #[.slice (some ad185) ((rd_T77 l0 x12_1).f0).length c183_0] 77 (0, 0)) (gK BK184.out)) : gb186 ≠ gb184)); clear HO_5; clear BK184; clear HB; have HO_5 := n0_; have BK184 := n1_; have HB := n2_; have BK186 := n3_; have GW186 := n4_; have GE186 := n5_; have NB184_186 := n6_; have NB186_184 := n7_; clear n0_ n1_ n2_ n3_ n4_ n5_ n6_ n7_; clear hb hbox hg; have hnb14 := NB186_184.out; have hnc14 := NB184_186.out; have hcz15_0 : w13.cell? ⟨gb186, 0, none⟩ = some (.int .i64 0) := (blk_cell BK186.out 0).trans rfl; have hcz15_1 : w13.cell? ⟨gb186, 1, none⟩ = some (.int .i64 0) := (blk_cell BK186.out 1).trans rfl; have hfz15_0 := blk_frozen BK186.out 0; have hfz15_1 := blk_frozen BK186.out 1))
           have n0_ : Aside0 (Kd.R k79 79 ((w13.setCell ⟨gb186, 0, none⟩ (.int .i64 ((rd_T79 ((rd_T77 l0 x12_1).f0) x19_2).f0))).setCell ⟨gb186, 1, none⟩ (.int .i64 ((rd_T79 ((rd_T77 l0 x12_1).f0) x19_2).f1))) w.heap.size (fun k_ => k_ ≠ gb186) u5 x5_2) := ⟨by (with_reducible repeat (first | apply Kd.R_alloc | apply Kd.R_drewN | apply Kd.R_drew)); exact Kd.R_mono (Kd.R_far (p := ⟨gb186, 1, none⟩) (Kd.R_far (p := ⟨gb186, 0, none⟩) (Kd.R_mono HO_5.out (fun k_ hk => (⟨hk, hk.2⟩ : _ ∧ k_ ≠ gb186))) (fun _ hk => hk.2) (.int .i64 ((rd_T79 ((rd_T77 l0 x12_1).f0) x19_2).f0))) (fun _ hk => hk.2) (.int .i64 ((rd_T79 ((rd_T77 l0 x12_1).f0) x19_2).f1))) (fun _ hk => hk.1.2)⟩
           have n1_ : Aside0 (((w13.setCell ⟨gb186, 0, none⟩ (.int .i64 ((rd_T79 ((rd_T77 l0 x12_1).f0) x19_2).f0))).setCell ⟨gb186, 1, none⟩ (.int .i64 ((rd_T79 ((rd_T77 l0 x12_1).f0) x19_2).f1))).heap[gb184]? = some (.cells #[.slice (some ad185) ((rd_T77 l0 x12_1).f0).length c183_0] 77 (0, 0))) := ⟨by (with_reducible repeat (first | refine blk_drewN ?_ _ | refine blk_drew ?_ | refine blk_alloc ?_ _)); refine blk_far ?_ NB184_186.out _; (with_reducible repeat (first | refine blk_drewN ?_ _ | refine blk_drew ?_ | refine blk_alloc ?_ _)); refine blk_far ?_ NB184_186.out _; (with_reducible repeat (first | refine blk_drewN ?_ _ | refine blk_drew ?_ | refine blk_alloc ?_ _)); exact BK184.out⟩
           have n2_ : Aside0 (((w13.setCell ⟨gb186, 0, none⟩ (.int .i64 ((rd_T79 ((rd_T77 l0 x12_1).f0) x19_2).f0))).setCell ⟨gb186, 1, none⟩ (.int .i64 ((rd_T79 ((rd_T77 l0 x12_1).f0) x19_2).f1))).heap[gb186]? = some (.cells #[.int .i64 ((rd_T79 ((rd_T77 l0 x12_1).f0) x19_2).f0), .int .i64 ((rd_T79 ((rd_T77 l0 x12_1).f0) x19_2).f1)] 79 (0, 0))) := ⟨by (with_reducible repeat (first | refine blk_drewN ?_ _ | refine blk_drew ?_ | refine blk_alloc ?_ _)); refine blk_put (cs := #[.int .i64 ((rd_T79 ((rd_T77 l0 x12_1).f0) x19_2).f0), .int .i64 0]) ?_ 1 _ rfl; (with_reducible repeat (first | refine blk_drewN ?_ _ | refine blk_drew ?_ | refine blk_alloc ?_ _)); refine blk_put (cs := #[.int .i64 0, .int .i64 0]) ?_ 0 _ rfl; (with_reducible repeat (first | refine blk_drewN ?_ _ | refine blk_drew ?_ | refine blk_alloc ?_ _)); exact BK186.out⟩
           have n3_ : Aside0 (Below w.heap.size w ((w13.setCell ⟨gb186, 0, none⟩ (.int .i64 ((rd_T79 ((rd_T77 l0 x12_1).f0) x19_2).f0))).setCell ⟨gb186, 1, none⟩ (.int .i64 ((rd_T79 ((rd_T77 l0 x12_1).f0) x19_2).f1)))) := ⟨by repeat (first | (with_reducible first | exact HB.out | apply below_alloc | apply pw_below_drewN | apply below_drew1 | refine below_set ?_ GE184.out | refine below_set ?_ GE186.out) | exact HB.out)⟩
           (try clear HO_5)
           (try clear BK184)
           (try clear BK186)
           (try clear HB)
           generalize ((w13.setCell ⟨gb186, 0, none⟩ (.int .i64 ((rd_T79 ((rd_T77 l0 x12_1).f0) x19_2).f0))).setCell ⟨gb186, 1, none⟩ (.int .i64 ((rd_T79 ((rd_T77 l0 x12_1).f0) x19_2).f1))) = w16 at n0_ n1_ n2_ n3_ ⊢
           have HO_5 := n0_
           have BK184 := n1_
           have BK186 := n2_
           have HB := n3_
           clear n0_ n1_ n2_ n3_
           have n0_ := aM (Kd.R_drew HO_5.out)
           have n1_ := aM (blk_drew BK184.out)
           have n2_ := aM (blk_drew BK186.out)
           have n3_ := aM (below_drew1 HB.out)
           clear HO_5
           clear BK184
           clear BK186
           clear HB
           have HO_5 := n0_
           have BK184 := n1_
           have BK186 := n2_
           have HB := n3_
           clear n0_ n1_ n2_ n3_
           refine start_ (n := 10) (S := fun w' => w'.cell? ⟨gb186, 0, none⟩ = some (.int .i64 ((rd_T79 ((rd_T77 l0 x12_1).f0) x19_2).f0)) ∧ w'.cell? ⟨gb186, 1, none⟩ = some (.int .i64 ((rd_T79 ((rd_T77 l0 x12_1).f0) x19_2).f1))) (ds := []) (bq 10 0) (by kernel_rfl) rfl (by kernel_rfl) ⟨(blk_cell BK186.out 0).trans rfl, (blk_cell BK186.out 1).trans rfl⟩ (fun hHeld => ?_); refine with_tabW spec_l11All.tab8 spec_l11All.bits8 (fun HT_ HW_ => ?_)
           generalize w16.drew = w17 at HO_5 BK184 BK186 HB hHeld ⊢
           refine pZ 10 1 0 23 HT_ ?_
           refine pZ 10 3 1 24 HT_ ?_
           refine pZ 10 11 3 26 HT_ ?_
           refine pZ 10 27 4 27 HT_ ?_
           refine tZ2 10 31 2 25 HT_ HW_ hHeld ?_
           refine tZ2 10 63 5 28 HT_ HW_ hHeld ?_
           refine one_ (i := 6) (N := some 29) (bq 10 127) rfl rfl (one_of HT_.out (by kernel_rfl)) (by decide) (fun K hK => ?_)
           refine gA Try.func105 #[.slice (some ad183) l0.length c0, .int .i64 ((rd_T79 ((rd_T77 l0 x12_1).f0) x19_2).f0)] ?_
           with_reducible refine (spec_l11Sum.calls k2 _ _ l0 ((rd_T79 ((rd_T77 l0 x12_1).f0) x19_2).f0) t187 _ ?side1 ?side2 A11.out).mono ?_
           (case side1 => repeat (first | exact (Kd.C_below HR0.out HB.out) | (with_reducible refine Kd.C_alloc ?_ _) | (with_reducible refine Kd.C_drewN ?_ _) | (with_reducible refine Kd.C_drew ?_)))
           (case side2 => exact HC0.out)
           rintro e w18 ⟨rfl, hb⟩
           refine ⟨_, rfl, ?_⟩
           have n0_ := aM (Kd.R_below (gR HO_5.out) hb)
           have n1_ := aM (blk_below (g := gb184) (o := .cells #[.slice (some ad185) ((rd_T77 l0 x12_1).f0).length c183_0] 77 (0, 0)) (gK BK184.out) hb)
           have n2_ := aM (blk_below (g := gb186) (o := .cells #[.int .i64 ((rd_T79 ((rd_T77 l0 x12_1).f0) x19_2).f0), .int .i64 ((rd_T79 ((rd_T77 l0 x12_1).f0) x19_2).f1)] 79 (0, 0)) (gK BK186.out) hb)
           have n3_ := aM (below_step (gB HB.out) hb)
           clear HO_5
           clear BK184
           clear BK186
           clear HB
           have HO_5 := n0_
           have BK184 := n1_
           have BK186 := n2_
           have HB := n3_
           clear n0_ n1_ n2_ n3_
           (try clear hb)
           (try clear hb2)
           (try clear hk)
           (try clear hi)
           obtain ⟨Ao19, co19, eo19⟩ := Kd.R_slice HO_5.out
           (first | subst eo19 | (injection eo19 with f1_ f2_ f3_; have f4_ := f1_.symm; have f5_ := f3_.symm; clear f1_ f2_ f3_; subst f4_; subst f5_))
           refine hK.out _ _ ⟨(blk_cell BK186.out 0).trans rfl, (blk_cell BK186.out 1).trans rfl⟩ (fun hHeld => ?_)
           clear hK K
           refine nM 29 ?_
           refine pZ 10 255 7 30 HT_ ?_
           refine one_ (i := 8) (N := some 31) (bq 10 511) rfl rfl (one_of HT_.out (by kernel_rfl)) (by decide) (fun K hK => ?_)
           refine gA Try.func104 #[.slice Ao19 x5_2.length co19, .agg #[.int .i64 ((rd_T79 ((rd_T77 l0 x12_1).f0) x19_2).f0), .int .i64 t187]] ?_
           with_reducible refine (spec_l11Put.calls k2 (fun k_ => some k_ = (.slice Ao19 x5_2.length co19 : Value).ownBlock) (.slice Ao19 x5_2.length co19) x5_2 ((rd_T79 ((rd_T77 l0 x12_1).f0) x19_2).f0) t187 t188 w _ ?side1 ?side2 A12.out).mono ?_
           (case side1 => repeat (first | (with_reducible first | exact HB.out | apply below_alloc | apply pw_below_drewN | apply below_drew1 | refine below_set ?_ GE184.out | refine below_set ?_ GE186.out) | exact HB.out))
           (case side2 => exact Kd.R_tight rfl HO_5.out)
           rintro e w20 ⟨v189, rfl, ho0, hb, hkp⟩
           refine ⟨_, rfl, ?_⟩
           have n0_ := aM (blk_kept (gK BK184.out) hkp (fun hs_ => (fun e_ => (Kd.R_ne HO_5.out BK184.out (by decide)) e_) hs_))
           have n1_ := aM (blk_kept (gK BK186.out) hkp (fun hs_ => (fun e_ => (Kd.R_away HO_5.out (fun _ hk => hk)) e_) hs_))
           have n2_ := aM (Kd.R_mono (ok' := fun k_ => k_ ≠ gb186) ho0 (fun k_ hk_ => Or.elim hk_ (fun hs_ => fun e_ => (Kd.R_away HO_5.out (fun _ hk => hk)) (by rw [← e_]; exact hs_)) (fun hn_ => (Kd.freshB (g := gb186) (o := .cells #[.int .i64 ((rd_T79 ((rd_T77 l0 x12_1).f0) x19_2).f0), .int .i64 ((rd_T79 ((rd_T77 l0 x12_1).f0) x19_2).f1)] 79 (0, 0)) (gK BK186.out) k_ hn_))))
           have n3_ := aM (hb)
           clear BK184
           clear BK186
           clear HB
           clear HO_5
           have BK184 := n0_
           have BK186 := n1_
           have HO190 := n2_
           have HB := n3_
           clear n0_ n1_ n2_ n3_
           (try clear hb)
           (try clear hkp)
           (try clear ho0)
           refine hK.out _ _ ⟨(blk_cell BK186.out 0).trans rfl, (blk_cell BK186.out 1).trans rfl⟩ (fun hHeld => ?_)
           clear hK K
           refine nM 31 ?_
           refine pZ 10 1023 9 5 HT_ ?_
           refine done_ (done_of HT_.out (by kernel_rfl)) ?_
           try go_wp2
           go_roundg k2
           case measure => have := HK1.out; have := HK2.out; omega
           case rel => exact ⟨(t188), (wrap64 (x19_2 + 1)), (by first | rfl | (simp; done) | (simp [*]; done)), H', ⟨by have := HK1.out; have := HK2.out; omega⟩, ⟨by (with_reducible repeat (first | apply Kd.R_alloc | apply Kd.R_drewN | apply Kd.R_drew)); exact Kd.R_mono HO190.out (fun _ hk => trivial)⟩, ⟨gK BK184.out⟩, ⟨by repeat (first | (with_reducible first | exact HB.out | apply below_alloc | apply pw_below_drewN | apply below_drew1 | refine below_set ?_ GE184.out | refine below_set ?_ GE186.out) | exact HB.out)⟩⟩
          ·rw [if_neg c10] at H
           exact absurd H (by simp)
         ·rw [if_neg c9] at H
          exact absurd H (by simp)
        ·rw [if_neg c8] at H
         have c8b0 : decide (x19_2 < (((rd_T77 l0 x12_1).f0).length : Int)) = false := decide_eq_false c8
         clear c8
         have H' := aM H
         clear H
         go_wp2
         go_roundg k2
         case measure => have := HK1.out; have := HK2.out; omega
         case rel => exact ⟨(x5_2), (wrap64 (x12_1 + 1)), (by first | rfl | (simp; done) | (simp [*]; done)), H', ⟨by have := HK1.out; have := HK2.out; omega⟩, ⟨gR HO_5.out⟩, ⟨by repeat (first | (with_reducible first | exact HB.out | apply below_alloc | apply pw_below_drewN | apply below_drew1 | refine below_set ?_ GE184.out) | exact HB.out)⟩⟩
     ·rw [if_neg c5] at H
      exact absurd H (by simp)
    ·rw [if_neg c4] at H
     exact absurd H (by simp)
   ·rw [if_neg c3] at H
    have c3b0 : decide (x12_1 < (l0.length : Int)) = false := decide_eq_false c3
    clear c3
    replace H := Option.bind_eq_some_iff.mp H
    obtain ⟨t180, A210, H⟩ := H
    replace H : (some t180) = some r := H
    have A21 := aM A210
    clear A210
    obtain rfl := Option.some.inj H
    obtain ⟨Ao22, co22, eo22⟩ := Kd.R_slice HO_5.out
    subst eo22
    go_wp2_with (((with_reducible refine gate_callee (f := 106) rfl ?_); refine gL 36 Try.func106 #[.slice Ao22 x5_1.length co22, .int .i64 a1] ?_; (with_reducible refine (spec_l11First.calls _ _ x5_1 a1 t180 _ ?side1 ?side2 A21.out).mono ?_); (case side1 => repeat (first | exact (Kd.R_reads' HO_5.out).2.2 | (with_reducible refine Kd.C_alloc ?_ _) | (with_reducible refine Kd.C_drewN ?_ _) | (with_reducible refine Kd.C_drew ?_))); (case side2 => exact (Kd.R_reads' HO_5.out).2.1); rintro e w23 ⟨v181, rfl, ho0, hb⟩; refine ⟨_, rfl, ?_⟩; have n0_ := aM (Kd.R_elder' (gR HO_5.out) (Kd.R_base ho0) hb); have n1_ := aM (Kd.R_lower (Kd.R_new' ho0 (Kd.R_lt (gR HO_5.out))) (below_size (gB HB.out))); have n2_ := aM (below_step (gB HB.out) hb); clear HO_5; clear HB; have HO_5 := n0_; have HO182 := n1_; have HB := n2_; clear n0_ n1_ n2_; (try clear hb); (try clear hb2); (try clear hk); (try clear hi); (try clear ho0)))
    go_ret
    exact ⟨_, eR, by (with_reducible repeat (first | apply Kd.R_alloc | apply Kd.R_drewN | apply Kd.R_drew)); exact Kd.R_mono HO182.out (fun _ hk => trivial), by repeat (first | (with_reducible first | exact HB.out | apply below_alloc | apply pw_below_drewN | apply below_drew1) | exact HB.out)⟩



def spec_l10Postings.l0 : Nat → ByteArray → List (S102) → Int → Int → Option ((List (S56)))
 | 0, _, _, _, _ => none
 | k + 1, x1, x8, x9, x10 => if x10 < x9 then (if 0 ≤ x10 then (if x10 < (x8.length : Int) then (if ((rd_T102 x8 x10).f0).toList = x1.toList then ((some (([] : List (S56)) : List (S56))).bind fun y425 => (if y425.length + ((rd_T102 x8 x10).f1).length < 8796093022208 then (some (y425 ++ ((rd_T102 x8 x10).f1))) else (none))) else (spec_l10Postings.l0 k x1 x8 x9 (wrap64 (x10 + 1)))) else (none)) else (none)) else (some ([] : List (S56)))
def spec_l10Postings.f (k : Nat) (a0_0 : Int) (l0_1 : List (S102)) (a1 : ByteArray) : Option ((List (S56))) := spec_l10Postings.l0 k a1 l0_1 (l0_1.length : Int) 0
set_option maxHeartbeats 8000000 in
set_option maxRecDepth 100000 in
theorem spec_l10Postings.calls (k : Nat) (a0_0 : Int) (A0_1 : Option Addr) (c0_1 : Nat) (l0_1 : List (S102)) (a1 : ByteArray) (r : List (S56)) (w : World) (hr0_1 : Kd.C k102 w A0_1 l0_1.length l0_1) (hc0_1 : l0_1.length ≤ c0_1) (h : spec_l10Postings.f k a0_0 l0_1 a1 = some r) :
  Calls Try.prog 120 #[.agg #[.int .i64 a0_0, .slice A0_1 l0_1.length c0_1], .string a1] w fun e w' => ∃ v0_ : Value, e = .returned (v0_) ∧ Kd.R k56 56 w' w.heap.size (fun _ => True) v0_ r ∧ Below w.heap.size w w' := by
 have hu33 := Try.underlying33
 have hu102 := Try.underlying102
 have HR0_1 := aM hr0_1
 have HC0_1 := aM hc0_1
 clear hr0_1 hc0_1
 have HB := aM (Below.refl w.heap.size w)
 have H : (spec_l10Postings.l0 k a1 l0_1 (l0_1.length : Int) 0) = some r := h
 clear h
 have H' := aM H
 clear H
 go_enter Try.func120, Try.ntmps120
 go_wp2_with (((with_reducible refine gate_dst (N := 2) rfl ?_); refine box_event ?hg (N := 2) ?hd (cs := #[.int .i64 a0_0, .slice A0_1 l0_1.length c0_1]) (t := 33) ?hr ?_; (case hd => rfl); (case hg => rfl); (case hr => first | (go_simp; done) | (go_simp; rfl)); intro gb422 hg w3 hbox hb; have n0_ := aM (below_step (gB HB.out) hb); have n1_ := aM (hbox); have n2_ := aM ((by rw [hg]; exact (below_size (gB HB.out)) : w.heap.size ≤ gb422)); have n3_ := aM ((by rw [hg]; exact (below_size (gB HB.out)) : w.heap.size ≤ gb422)); clear HB; have HB := n0_; have BK422 := n1_; have GW422 := n2_; have GE422 := n3_; clear n0_ n1_ n2_ n3_; clear hb hbox hg; have hcz4_0 : w3.cell? ⟨gb422, 0, none⟩ = some (.int .i64 a0_0) := (blk_cell BK422.out 0).trans rfl; have hcz4_1 : w3.cell? ⟨gb422, 1, none⟩ = some (.slice A0_1 l0_1.length c0_1) := (blk_cell BK422.out 1).trans rfl; have hfz4_0 := blk_frozen BK422.out 0; have hfz4_1 := blk_frozen BK422.out 1))
 go_loopg [10] k (fun kq v10 w' => ∃ (x10_1 : Int), v10 = .int .i64 x10_1 ∧ Aside0 (spec_l10Postings.l0 kq a1 l0_1 (l0_1.length : Int) x10_1 = some r) ∧ Aside0 (kq ≤ k) ∧ Aside0 (w'.heap[gb422]? = some (.cells #[.int .i64 a0_0, (.slice A0_1 l0_1.length c0_1)] 33 (0, 0))) ∧ Aside0 (Below w.heap.size w w'))
 case atStart => exact ⟨(0), (by first | rfl | (simp; done) | (simp [*]; done)), H', ⟨Nat.le_refl _⟩, ⟨gK BK422.out⟩, ⟨by repeat (first | (with_reducible first | exact HB.out | apply below_alloc | apply pw_below_drewN | apply below_drew1 | refine below_set ?_ GE422.out) | exact HB.out)⟩⟩
 case round =>
  clear H'
  try clear c1
  try clear p2
  try clear hcz4_0
  try clear hcz4_1
  try clear hfz4_0
  try clear hfz4_1
  obtain ⟨x10_1, rfl, HA, HK1, BK422, HB⟩ := hrel
  cases gk with
  | zero => exact absurd HA.out (by simp [spec_l10Postings.l0])
  | succ k1 =>
   have H := HA.out
   clear HA
   simp only [spec_l10Postings.l0] at H
   by_cases c5 : x10_1 < (l0_1.length : Int)
   ·rw [if_pos c5] at H
    have c5b0 : decide (x10_1 < (l0_1.length : Int)) = true := decide_eq_true c5
    clear c5
    by_cases c6 : 0 ≤ x10_1
    ·rw [if_pos c6] at H
     have c6b0 : decide (0 ≤ x10_1) = true := decide_eq_true c6
     clear c6
     by_cases c7 : x10_1 < (l0_1.length : Int)
     ·rw [if_pos c7] at H
      have c7b0 : decide (x10_1 < (l0_1.length : Int)) = true := decide_eq_true c7
      clear c7
      by_cases c8 : ((rd_T102 l0_1 x10_1).f0).toList = a1.toList
      ·rw [if_pos c8] at H
       have c8b0 : (((rd_T102 l0_1 x10_1).f0).toList == a1.toList) = true := beq_iff_eq.mpr c8
       have c8b1 : (((rd_T102 l0_1 x10_1).f0).toList != a1.toList) = false := bne_eq_false_iff_eq.mpr c8
       clear c8
       obtain ⟨y425, hy425⟩ : ∃ y_ : List (S56), y_ = (([] : List (S56))) := ⟨_, rfl⟩
       replace H : (if y425.length + ((rd_T102 l0_1 x10_1).f1).length < 8796093022208 then (some (y425 ++ ((rd_T102 l0_1 x10_1).f1))) else (none)) = some r := by first | (rw [hy425]; with_reducible exact H) | (have H2_ := (Option.bind_some _ _).symm.trans H; rw [hy425]; with_reducible exact H2_) | (have H2_ := (Option.bind_some _ _).symm.trans H; with_reducible exact H2_) | with_reducible exact H | (rw [hy425]; exact H) | exact H
       have Ny425 := aM hy425
       clear hy425
       by_cases c9 : y425.length + ((rd_T102 l0_1 x10_1).f1).length < 8796093022208
       ·rw [if_pos c9] at H
        have LMc9 := aM c9
        clear c9
        obtain ⟨y428, hy428⟩ : ∃ y_ : List (S56), y_ = (y425 ++ ((rd_T102 l0_1 x10_1).f1)) := ⟨_, rfl⟩
        replace H : (some y428) = some r := by first | (rw [hy428]; with_reducible exact H) | (have H2_ := (Option.bind_some _ _).symm.trans H; rw [hy428]; with_reducible exact H2_) | (have H2_ := (Option.bind_some _ _).symm.trans H; with_reducible exact H2_) | with_reducible exact H | (rw [hy428]; exact H) | exact H
        have Ny428 := aM hy428
        clear hy428
        obtain rfl := Option.some.inj H
        have p423 : 0 ≤ (x10_1 : Int) := dT
        have q423 : x10_1 < (l0_1.length : Int) := dT
        obtain ⟨ad423, A423_1, c423_1, e423, hx423_0, hx423_1, hl423_1, hi423_1⟩ := at_T102 HR0_1.out x10_1 p423 q423
        cases e423
        try have hz_hx423_0 := aM hx423_0
        try have hz_hx423_1 := aM hx423_1
        replace hx423_0 := (HB.out.cell (World.block_lt_of_cell? w _ hx423_0)).trans hx423_0
        replace hx423_1 := (HB.out.cell (World.block_lt_of_cell? w _ hx423_1)).trans hx423_1
        have HR423_1 := aM hi423_1
        have HC423_1 := aM hl423_1
        clear hi423_1 hl423_1
        replace p423 := eq_true p423
        replace q423 := eq_true q423
        go_wp2_with (first | ((with_reducible refine gate_dst (N := 6) rfl ?_); refine box_event ?hg (N := 6) ?hd (cs := #[.string (⟨#[]⟩ : ByteArray), .slice none 0 0]) (t := 102) ?hr ?_; (case hd => rfl); (case hg => rfl); (case hr => first | (go_simp; done) | (go_simp; rfl)); intro gb424 hg w10 hbox hb; have n0_ := aM (blk_below (g := gb422) (o := .cells #[.int .i64 a0_0, .slice (some ad423) l0_1.length c0_1] 33 (0, 0)) (gK BK422.out) hb); have n1_ := aM (below_step (by repeat (first | (with_reducible first | exact HB.out | apply below_alloc | apply pw_below_drewN | apply below_drew1 | refine below_set ?_ GE422.out) | exact HB.out)) hb); have n2_ := aM (hbox); have n3_ := aM ((by rw [hg]; exact (below_size (by repeat (first | (with_reducible first | exact HB.out | apply below_alloc | apply pw_below_drewN | apply below_drew1 | refine below_set ?_ GE422.out) | exact HB.out))) : w.heap.size ≤ gb424)); have n4_ := aM ((by rw [hg]; exact (below_size (by repeat (first | (with_reducible first | exact HB.out | apply below_alloc | apply pw_below_drewN | apply below_drew1 | refine below_set ?_ GE422.out) | exact HB.out))) : w.heap.size ≤ gb424)); have n5_ := aM ((by rw [hg]; exact Nat.ne_of_lt (blk_lt (g := gb422) (o := .cells #[.int .i64 a0_0, .slice (some ad423) l0_1.length c0_1] 33 (0, 0)) (gK BK422.out)) : gb422 ≠ gb424)); have n6_ := aM ((by rw [hg]; exact Nat.ne_of_gt (blk_lt (g := gb422) (o := .cells #[.int .i64 a0_0, .slice (some ad423) l0_1.length c0_1] 33 (0, 0)) (gK BK422.out)) : gb424 ≠ gb422)); clear BK422; clear HB; have BK422 := n0_; have HB := n1_; have BK424 := n2_; have GW424 := n3_; have GE424 := n4_; have NB422_424 := n5_; have NB424_422 := n6_; clear n0_ n1_ n2_ n3_ n4_ n5_ n6_; clear hb hbox hg; have hnb11 := NB424_422.out; have hnc11 := NB422_424.out; have hcz12_0 : w10.cell? ⟨gb424, 0, none⟩ = some (.string (⟨#[]⟩ : ByteArray)) := (blk_cell BK424.out 0).trans rfl; have hcz12_1 : w10.cell? ⟨gb424, 1, none⟩ = some (.slice none 0 0) := (blk_cell BK424.out 1).trans rfl; have hfz12_0 := blk_frozen BK424.out 0; have hfz12_1 := blk_frozen BK424.out 1) | ((with_reducible refine gate_dst (N := 18) rfl ?_); refine Kd.R_lit k56 _ 56 ?hg (N := 18) ?hd (xs := ([] : List (S56))) (inner := []) (ok := fun _ => True) (okp := fun _ => True) ?hr ?hp (fun _ hk => hk) trivial (Below.refl _ _) (Nat.le_refl _) (by simp) ?_; (case hd => rfl); (case hg => rfl); (case hr => first | (go_simp; done) | (go_simp; rfl)); (case hp => exact (Reps.none _ _)); intro v426 w13 ho14 hb hg_ hnew_; clear hg_ hnew_; (first | rw [← Ny425.out] at ho14 | (simp only [Int.reduceToNat] at ho14; rw [← Ny425.out] at ho14)); have n0_ := aM (Kd.R_lower ho14 (below_size (by repeat (first | (with_reducible first | exact HB.out | apply below_alloc | apply pw_below_drewN | apply below_drew1 | refine below_set ?_ GE422.out | refine below_set ?_ GE424.out) | exact HB.out)))); have n1_ := aM (blk_below (g := gb422) (o := .cells #[.int .i64 a0_0, .slice (some ad423) l0_1.length c0_1] 33 (0, 0)) (by (with_reducible repeat (first | refine blk_drewN ?_ _ | refine blk_drew ?_ | refine blk_alloc ?_ _)); refine blk_far ?_ NB422_424.out _; (with_reducible repeat (first | refine blk_drewN ?_ _ | refine blk_drew ?_ | refine blk_alloc ?_ _)); refine blk_far ?_ NB422_424.out _; (with_reducible repeat (first | refine blk_drewN ?_ _ | refine blk_drew ?_ | refine blk_alloc ?_ _)); exact BK422.out) hb); have n2_ := aM (blk_below (g := gb424) (o := .cells #[.string ((rd_T102 l0_1 x10_1).f0), .slice A423_1 ((rd_T102 l0_1 x10_1).f1).length c423_1] 102 (0, 0)) (by (with_reducible repeat (first | refine blk_drewN ?_ _ | refine blk_drew ?_ | refine blk_alloc ?_ _)); refine blk_put (cs := #[.string ((rd_T102 l0_1 x10_1).f0), .slice none 0 0]) ?_ 1 _ rfl; (with_reducible repeat (first | refine blk_drewN ?_ _ | refine blk_drew ?_ | refine blk_alloc ?_ _)); refine blk_put (cs := #[.string (⟨#[]⟩ : ByteArray), .slice none 0 0]) ?_ 0 _ rfl; (with_reducible repeat (first | refine blk_drewN ?_ _ | refine blk_drew ?_ | refine blk_alloc ?_ _)); exact BK424.out) hb); have n3_ := aM (below_step (by repeat (first | (with_reducible first | exact HB.out | apply below_alloc | apply pw_below_drewN | apply below_drew1 | refine below_set ?_ GE422.out | refine below_set ?_ GE424.out) | exact HB.out)) hb); clear BK422; clear BK424; clear HB; have HO427 := n0_; have BK422 := n1_; have BK424 := n2_; have HB := n3_; clear n0_ n1_ n2_ n3_; clear hb ho14; have hcz15_0 : w13.cell? ⟨gb424, 0, none⟩ = some (.string ((rd_T102 l0_1 x10_1).f0)) := (blk_cell BK424.out 0).trans rfl; have hcz15_1 : w13.cell? ⟨gb424, 1, none⟩ = some (.slice A423_1 ((rd_T102 l0_1 x10_1).f1).length c423_1) := (blk_cell BK424.out 1).trans rfl; have hfz15_0 := blk_frozen BK424.out 0; have hfz15_1 := blk_frozen BK424.out 1) | ((with_reducible refine gate_builtin (b := .append) (xs := #[.tmp 18, .tmp 20]) rfl ?_); at_builtin; refine Kd.R_append_rows k56 (w0 := w) w.heap.size rfl (.tmp 18) (.tmp 20) 52 56 (.agg #[(.int .i64 0), (.int .i64 0)]) 16 rfl Try.underlying52 info56 rfl (by decide) (by omega) v426 y425 ((rd_T102 l0_1 x10_1).f1) _ _ _ (fun _ => True) (fun _ => False) rfl rfl ?aO ?aR (fun _ _ h => h) (fun _ h => h.elim) ?aF ?aB ?aS ?aL ?_; (case aR => repeat (first | exact (Kd.C_below HR423_1.out HB.out) | (with_reducible refine Kd.C_alloc ?_ _) | (with_reducible refine Kd.C_drewN ?_ _) | (with_reducible refine Kd.C_drew ?_))); (case aB => exact (by repeat (first | (with_reducible first | exact HB.out | apply below_alloc | apply pw_below_drewN | apply below_drew1 | refine below_set ?_ GE422.out | refine below_set ?_ GE424.out) | exact HB.out))); (case aF => exact (fun _ _ => trivial)); (case aO => exact (gR HO427.out)); (case aS => exact (below_size (by repeat (first | (with_reducible first | exact HB.out | apply below_alloc | apply pw_below_drewN | apply below_drew1 | refine below_set ?_ GE422.out | refine below_set ?_ GE424.out) | exact HB.out)))); (case aL => have := LMc9.out; omega); intro v429 w16 ho hb hg hat; rw [← Ny428.out] at ho; have n0_ := aM (blk_grown (g := gb422) (o := .cells #[.int .i64 a0_0, .slice (some ad423) l0_1.length c0_1] 33 (0, 0)) (gK BK422.out) hg (Kd.R_ne HO427.out BK422.out (by decide))); have n1_ := aM (blk_grown (g := gb424) (o := .cells #[.string ((rd_T102 l0_1 x10_1).f0), .slice A423_1 ((rd_T102 l0_1 x10_1).f1).length c423_1] 102 (0, 0)) (gK BK424.out) hg (Kd.R_ne HO427.out BK424.out (by decide))); have n2_ := aM (hb); have n3_ := aM (ho); clear BK422; clear BK424; clear HB; clear HO427; have BK422 := n0_; have BK424 := n1_; have HB := n2_; have HO430 := n3_; clear n0_ n1_ n2_ n3_; clear ho hb hg hat))
        go_ret
        exact ⟨_, eR, by (with_reducible repeat (first | apply Kd.R_alloc | apply Kd.R_drewN | apply Kd.R_drew)); exact HO430.out, by repeat (first | (with_reducible first | exact HB.out | apply below_alloc | apply pw_below_drewN | apply below_drew1 | refine below_set ?_ GE422.out | refine below_set ?_ GE424.out) | exact HB.out)⟩
       ·rw [if_neg c9] at H
        exact absurd H (by simp)
      ·rw [if_neg c8] at H
       have c8b0 : (((rd_T102 l0_1 x10_1).f0).toList == a1.toList) = false := beq_eq_false_iff_ne.mpr c8
       have c8b1 : (((rd_T102 l0_1 x10_1).f0).toList != a1.toList) = true := bne_iff_ne.mpr c8
       have H' := aM H
       clear H
       have p423 : 0 ≤ (x10_1 : Int) := dT
       have q423 : x10_1 < (l0_1.length : Int) := dT
       obtain ⟨ad423, A423_1, c423_1, e423, hx423_0, hx423_1, hl423_1, hi423_1⟩ := at_T102 HR0_1.out x10_1 p423 q423
       cases e423
       try have hz_hx423_0 := aM hx423_0
       try have hz_hx423_1 := aM hx423_1
       replace hx423_0 := (HB.out.cell (World.block_lt_of_cell? w _ hx423_0)).trans hx423_0
       replace hx423_1 := (HB.out.cell (World.block_lt_of_cell? w _ hx423_1)).trans hx423_1
       have HR423_1 := aM hi423_1
       have HC423_1 := aM hl423_1
       clear hi423_1 hl423_1
       replace p423 := eq_true p423
       replace q423 := eq_true q423
       go_wp2_with (((with_reducible refine gate_dst (N := 6) rfl ?_); refine box_event ?hg (N := 6) ?hd (cs := #[.string (⟨#[]⟩ : ByteArray), .slice none 0 0]) (t := 102) ?hr ?_; (case hd => rfl); (case hg => rfl); (case hr => first | (go_simp; done) | (go_simp; rfl)); intro gb424 hg w17 hbox hb; have n0_ := aM (blk_below (g := gb422) (o := .cells #[.int .i64 a0_0, .slice (some ad423) l0_1.length c0_1] 33 (0, 0)) (gK BK422.out) hb); have n1_ := aM (below_step (gB HB.out) hb); have n2_ := aM (hbox); have n3_ := aM ((by rw [hg]; exact (below_size (gB HB.out)) : w.heap.size ≤ gb424)); have n4_ := aM ((by rw [hg]; exact (below_size (gB HB.out)) : w.heap.size ≤ gb424)); have n5_ := aM ((by rw [hg]; exact Nat.ne_of_lt (blk_lt (g := gb422) (o := .cells #[.int .i64 a0_0, .slice (some ad423) l0_1.length c0_1] 33 (0, 0)) (gK BK422.out)) : gb422 ≠ gb424)); have n6_ := aM ((by rw [hg]; exact Nat.ne_of_gt (blk_lt (g := gb422) (o := .cells #[.int .i64 a0_0, .slice (some ad423) l0_1.length c0_1] 33 (0, 0)) (gK BK422.out)) : gb424 ≠ gb422)); clear BK422; clear HB; have BK422 := n0_; have HB := n1_; have BK424 := n2_; have GW424 := n3_; have GE424 := n4_; have NB422_424 := n5_; have NB424_422 := n6_; clear n0_ n1_ n2_ n3_ n4_ n5_ n6_; clear hb hbox hg; have hnb18 := NB424_422.out; have hnc18 := NB422_424.out; have hcz19_0 : w17.cell? ⟨gb424, 0, none⟩ = some (.string (⟨#[]⟩ : ByteArray)) := (blk_cell BK424.out 0).trans rfl; have hcz19_1 : w17.cell? ⟨gb424, 1, none⟩ = some (.slice none 0 0) := (blk_cell BK424.out 1).trans rfl; have hfz19_0 := blk_frozen BK424.out 0; have hfz19_1 := blk_frozen BK424.out 1))
       go_roundg k1
       case measure => have := HK1.out; omega
       case rel => exact ⟨(wrap64 (x10_1 + 1)), (by first | rfl | (simp; done) | (simp [*]; done)), H', ⟨by have := HK1.out; omega⟩, ⟨by (with_reducible repeat (first | refine blk_drewN ?_ _ | refine blk_drew ?_ | refine blk_alloc ?_ _)); refine blk_far ?_ NB422_424.out _; (with_reducible repeat (first | refine blk_drewN ?_ _ | refine blk_drew ?_ | refine blk_alloc ?_ _)); refine blk_far ?_ NB422_424.out _; (with_reducible repeat (first | refine blk_drewN ?_ _ | refine blk_drew ?_ | refine blk_alloc ?_ _)); exact BK422.out⟩, ⟨by repeat (first | (with_reducible first | exact HB.out | apply below_alloc | apply pw_below_drewN | apply below_drew1 | refine below_set ?_ GE422.out | refine below_set ?_ GE424.out) | exact HB.out)⟩⟩
     ·rw [if_neg c7] at H
      exact absurd H (by simp)
    ·rw [if_neg c6] at H
     exact absurd H (by simp)
   ·rw [if_neg c5] at H
    have c5b0 : decide (x10_1 < (l0_1.length : Int)) = false := decide_eq_false c5
    clear c5
    obtain rfl := Option.some.inj H
    go_wp2
    go_ret
    exact ⟨_, eR, by first | exact Kd.R_nil _ _ _ _ _ | exact Kd.N_nil _ _ _ _ _ | exact Kd.V_nil _ _ _ _ _ | exact Kd.Q_nil _ _ _ _ _ | exact Kd.S_nil _ _ _ _ _, by repeat (first | (with_reducible first | exact HB.out | apply below_alloc | apply pw_below_drewN | apply below_drew1 | refine below_set ?_ GE422.out) | exact HB.out)⟩

def slices_Index_string_string.l0 : Nat → List ByteArray → ByteArray → Int → Int → Option (Int)
 | 0, _, _, _, _ => none
 | k + 1, x0, x1, x7, x8 => if x8 < x7 then (if 0 ≤ x8 then (if x8 < (x0.length : Int) then (if x1.toList = (rdOf ByteArray.empty x0 x8).toList then (some x8) else (slices_Index_string_string.l0 k x0 x1 x7 (wrap64 (x8 + 1)))) else (none)) else (none)) else (some (-1))
def slices_Index_string_string.f (k : Nat) (l0 : List ByteArray) (a1 : ByteArray) : Option (Int) := slices_Index_string_string.l0 k l0 a1 (l0.length : Int) 0
set_option maxHeartbeats 8000000 in
set_option maxRecDepth 100000 in
theorem slices_Index_string_string.calls (k : Nat) (A0 : Option Addr) (c0 : Nat) (l0 : List ByteArray) (a1 : ByteArray) (r : Int) (w : World) (hr0 : Kd.C Kd.string w A0 l0.length l0) (hc0 : l0.length ≤ c0) (h : slices_Index_string_string.f k l0 a1 = some r) :
  Calls Try.prog 163 #[.slice A0 l0.length c0, .string a1] w fun e w' => e = .returned (.int .i64 r) ∧ Drawn0 w w' := by
 have HR0 := aM hr0
 have HC0 := aM hc0
 clear hr0 hc0
 have H : (slices_Index_string_string.l0 k l0 a1 (l0.length : Int) 0) = some r := h
 clear h
 have H' := aM H
 clear H
 go_enter Try.func163, Try.ntmps163
 go_wp2
 go_loopg [8] k (fun kq v8 w' => ∃ (x8_1 : Int), v8 = .int .i64 x8_1 ∧ Aside0 (slices_Index_string_string.l0 kq l0 a1 (l0.length : Int) x8_1 = some r) ∧ Aside0 (kq ≤ k) ∧ Drawn0 w w')
 case atStart => exact ⟨(0), (by first | rfl | (simp; done) | (simp [*]; done)), H', ⟨Nat.le_refl _⟩, by repeat (first | exact Drawn0.refl _ | apply Drawn0.step)⟩
 case round =>
  clear H'
  try clear c1
  try clear p2
  obtain ⟨x8_1, rfl, HA, HK1, ⟨m1, rfl⟩⟩ := hrel
  cases gk with
  | zero => exact absurd HA.out (by simp [slices_Index_string_string.l0])
  | succ k1 =>
   have H := HA.out
   clear HA
   simp only [slices_Index_string_string.l0] at H
   by_cases c3 : x8_1 < (l0.length : Int)
   ·rw [if_pos c3] at H
    have c3b0 : decide (x8_1 < (l0.length : Int)) = true := decide_eq_true c3
    clear c3
    by_cases c4 : 0 ≤ x8_1
    ·rw [if_pos c4] at H
     have c4b0 : decide (0 ≤ x8_1) = true := decide_eq_true c4
     clear c4
     by_cases c5 : x8_1 < (l0.length : Int)
     ·rw [if_pos c5] at H
      have c5b0 : decide (x8_1 < (l0.length : Int)) = true := decide_eq_true c5
      clear c5
      by_cases c6 : a1.toList = (rdOf ByteArray.empty l0 x8_1).toList
      ·rw [if_pos c6] at H
       have c6b0 : (a1.toList == (rdOf ByteArray.empty l0 x8_1).toList) = true := beq_iff_eq.mpr c6
       have c6b1 : (a1.toList != (rdOf ByteArray.empty l0 x8_1).toList) = false := bne_eq_false_iff_eq.mpr c6
       clear c6
       obtain rfl := Option.some.inj H
       have p405 : 0 ≤ (x8_1 : Int) := dT
       have q405 : x8_1 < (l0.length : Int) := dT
       obtain ⟨ad405, e405, hx405_0⟩ := Kd.at_string HR0.out x8_1 p405 q405
       cases e405
       replace p405 := eq_true p405
       replace q405 := eq_true q405
       go_wp2
       go_ret
       exact ⟨by first | rfl | (simp; done) | (simp [*]; done), by repeat (first | exact Drawn0.refl _ | apply Drawn0.step)⟩
      ·rw [if_neg c6] at H
       have c6b0 : (a1.toList == (rdOf ByteArray.empty l0 x8_1).toList) = false := beq_eq_false_iff_ne.mpr c6
       have c6b1 : (a1.toList != (rdOf ByteArray.empty l0 x8_1).toList) = true := bne_iff_ne.mpr c6
       have H' := aM H
       clear H
       have p405 : 0 ≤ (x8_1 : Int) := dT
       have q405 : x8_1 < (l0.length : Int) := dT
       obtain ⟨ad405, e405, hx405_0⟩ := Kd.at_string HR0.out x8_1 p405 q405
       cases e405
       replace p405 := eq_true p405
       replace q405 := eq_true q405
       go_wp2
       go_roundg k1
       case measure => have := HK1.out; omega
       case rel => exact ⟨(wrap64 (x8_1 + 1)), (by first | rfl | (simp; done) | (simp [*]; done)), H', ⟨by have := HK1.out; omega⟩, by repeat (first | exact Drawn0.refl _ | apply Drawn0.step)⟩
     ·rw [if_neg c5] at H
      exact absurd H (by simp)
    ·rw [if_neg c4] at H
     exact absurd H (by simp)
   ·rw [if_neg c3] at H
    have c3b0 : decide (x8_1 < (l0.length : Int)) = false := decide_eq_false c3
    clear c3
    obtain rfl := Option.some.inj H
    go_wp2
    go_ret
    exact ⟨by first | rfl | (simp; done) | (simp [*]; done), by repeat (first | exact Drawn0.refl _ | apply Drawn0.step)⟩

def slices_Contains_string_string.f (k : Nat) (l0 : List ByteArray) (a1 : ByteArray) : Option (Bool) := (slices_Index_string_string.f k l0 a1).bind fun t406 => (some (decide (t406 ≥ 0)))
set_option maxHeartbeats 8000000 in
set_option maxRecDepth 100000 in
theorem slices_Contains_string_string.calls (k : Nat) (A0 : Option Addr) (c0 : Nat) (l0 : List ByteArray) (a1 : ByteArray) (r : Bool) (w : World) (hr0 : Kd.C Kd.string w A0 l0.length l0) (hc0 : l0.length ≤ c0) (h : slices_Contains_string_string.f k l0 a1 = some r) :
  Calls Try.prog 148 #[.slice A0 l0.length c0, .string a1] w fun e w' => e = .returned (.bool r) ∧ Drawn0 w w' := by
 have HR0 := aM hr0
 have HC0 := aM hc0
 clear hr0 hc0
 have H : ((slices_Index_string_string.f k l0 a1).bind fun t406 => (some (decide (t406 ≥ 0)))) = some r := h
 clear h
 replace H := Option.bind_eq_some_iff.mp H
 obtain ⟨t406, A30, H⟩ := H
 replace H : (some (decide (t406 ≥ 0))) = some r := H
 have A3 := aM A30
 clear A30
 obtain rfl := Option.some.inj H
 go_enter Try.func148, Try.ntmps148
 go_wp2_with (first | ((with_reducible refine gate_callee (f := 163) rfl ?_); refine gL 7 Try.func163 #[.slice A0 l0.length c0, .string a1] ?_; (with_reducible refine (slices_Index_string_string.calls k _ _ l0 a1 t406 _ ?side1 ?side2 A3.out).mono ?_); (case side1 => repeat (first | exact HR0.out | (with_reducible refine Kd.C_alloc ?_ _) | (with_reducible refine Kd.C_drewN ?_ _) | (with_reducible refine Kd.C_drew ?_))); (case side2 => exact HC0.out); rintro e w' ⟨rfl, ⟨nd, rfl⟩⟩; refine ⟨_, rfl, ?_⟩))
 go_ret
 exact ⟨by first | rfl | (simp; done) | (simp [*]; done), by repeat (first | exact Drawn0.refl _ | apply Drawn0.step)⟩

mutual
def spec_l11Distinct.l0 : Nat → List ByteArray → List ByteArray → Int → Int → Option (Bool)
 | 0, _, _, _, _ => none
 | k + 1, x0, x7, x8, x9 => if x9 < x8 then (if 0 ≤ x9 then (if x9 < (x7.length : Int) then ((spec_l10Word.f k (rdOf ByteArray.empty x7 x9)).bind fun t671 => (if t671 = true then (if x9 ≤ (x0.length : Int) then (spec_l11Distinct.l1 k x0 (rdOf ByteArray.empty x7 x9) x7 x8 x9 (x0.take (x9 : Int).toNat) ((x0.take (x9 : Int).toNat).length : Int) 0) else (none)) else (some false))) else (none)) else (none)) else (some (decide ((x0.length : Int) ≤ 5)))
def spec_l11Distinct.l1 : Nat → List ByteArray → ByteArray → List ByteArray → Int → Int → List ByteArray → Int → Int → Option (Bool)
 | 0, _, _, _, _, _, _, _, _ => none
 | k + 1, x0, x4, x7, x8, x9, x19, x20, x21 => if x21 < x20 then (if 0 ≤ x21 then (if x21 < (x19.length : Int) then (if (rdOf ByteArray.empty x19 x21).toList = x4.toList then (some false) else (spec_l11Distinct.l1 k x0 x4 x7 x8 x9 x19 x20 (wrap64 (x21 + 1)))) else (none)) else (none)) else (spec_l11Distinct.l0 k x0 x7 x8 (wrap64 (x9 + 1)))
end
def spec_l11Distinct.f (k : Nat) (l0 : List ByteArray) : Option (Bool) := spec_l11Distinct.l0 k l0 l0 (l0.length : Int) 0
set_option maxHeartbeats 8000000 in
set_option maxRecDepth 100000 in
theorem spec_l11Distinct.calls (k : Nat) (A0 : Option Addr) (c0 : Nat) (l0 : List ByteArray) (r : Bool) (w : World) (hr0 : Kd.C Kd.string w A0 l0.length l0) (hc0 : l0.length ≤ c0) (h : spec_l11Distinct.f k l0 = some r) :
  Calls Try.prog 114 #[.slice A0 l0.length c0] w fun e w' => e = .returned (.bool r) ∧ Below w.heap.size w w' := by
 have HR0 := aM hr0
 have HC0 := aM hc0
 clear hr0 hc0
 have HB := aM (Below.refl w.heap.size w)
 have H : (spec_l11Distinct.l0 k l0 l0 (l0.length : Int) 0) = some r := h
 clear h
 have H' := aM H
 clear H
 go_enter Try.func114, Try.ntmps114
 go_wp2
 go_loopg [9] k (fun kq v9 w' => ∃ (x9_1 : Int), v9 = .int .i64 x9_1 ∧ Aside0 (spec_l11Distinct.l0 kq l0 l0 (l0.length : Int) x9_1 = some r) ∧ Aside0 (kq ≤ k) ∧ Aside0 (Below w.heap.size w w'))
 case atStart => exact ⟨(0), (by first | rfl | (simp; done) | (simp [*]; done)), H', ⟨Nat.le_refl _⟩, ⟨by repeat (first | (with_reducible first | exact HB.out | apply below_alloc | apply pw_below_drewN | apply below_drew1) | exact HB.out)⟩⟩
 case round =>
  clear H'
  try clear c1
  obtain ⟨x9_1, rfl, HA, HK1, HB⟩ := hrel
  cases gk with
  | zero => exact absurd HA.out (by simp [spec_l11Distinct.l0])
  | succ k1 =>
   have H := HA.out
   clear HA
   simp only [spec_l11Distinct.l0] at H
   by_cases c2 : x9_1 < (l0.length : Int)
   ·rw [if_pos c2] at H
    have c2b0 : decide (x9_1 < (l0.length : Int)) = true := decide_eq_true c2
    clear c2
    by_cases c3 : 0 ≤ x9_1
    ·rw [if_pos c3] at H
     have c3b0 : decide (0 ≤ x9_1) = true := decide_eq_true c3
     clear c3
     by_cases c4 : x9_1 < (l0.length : Int)
     ·rw [if_pos c4] at H
      have c4b0 : decide (x9_1 < (l0.length : Int)) = true := decide_eq_true c4
      clear c4
      replace H := Option.bind_eq_some_iff.mp H
      obtain ⟨t671, A50, H⟩ := H
      replace H : (if t671 = true then (if x9_1 ≤ (l0.length : Int) then (spec_l11Distinct.l1 k1 l0 (rdOf ByteArray.empty l0 x9_1) l0 (l0.length : Int) x9_1 (l0.take (x9_1 : Int).toNat) ((l0.take (x9_1 : Int).toNat).length : Int) 0) else (none)) else (some false)) = some r := H
      have A5 := aM A50
      clear A50
      by_cases c6 : t671 = true
      ·subst c6
       have H1 : (if x9_1 ≤ (l0.length : Int) then (spec_l11Distinct.l1 k1 l0 (rdOf ByteArray.empty l0 x9_1) l0 (l0.length : Int) x9_1 (l0.take (x9_1 : Int).toNat) ((l0.take (x9_1 : Int).toNat).length : Int) 0) else (none)) = some r := by rw [if_pos rfl] at H; exact H
       clear H
       have H := H1
       clear H1
       have c7b0 := eq_true (of_decide_eq_true (by first | (with_reducible assumption) | assumption) : 0 ≤ x9_1)
       by_cases c8 : x9_1 ≤ (l0.length : Int)
       ·rw [if_pos c8] at H
        have c8b0 := eq_true c8
        have c8b1 : decide (x9_1 ≤ (l0.length : Int)) = true := decide_eq_true c8
        clear c8
        have H' := aM H
        clear H
        have p670 : 0 ≤ (x9_1 : Int) := dT
        have q670 : x9_1 < (l0.length : Int) := dT
        obtain ⟨ad670, e670, hx670_0⟩ := Kd.at_string HR0.out x9_1 p670 q670
        cases e670
        replace hx670_0 := (HB.out.cell (World.block_lt_of_cell? w _ hx670_0)).trans hx670_0
        replace p670 := eq_true p670
        replace q670 := eq_true q670
        go_wp2_with (first | ((with_reducible refine gate_callee (f := 94) rfl ?_); refine gL 15 Try.func94 #[.string (rdOf ByteArray.empty l0 x9_1)] ?_; (with_reducible refine (spec_l10Word.calls k1 (rdOf ByteArray.empty l0 x9_1) true _ A5.out).mono ?_); rintro e w9 ⟨rfl, hb⟩; refine ⟨_, rfl, ?_⟩; have n0_ := aM (below_step (by repeat (first | (with_reducible first | exact HB.out | apply below_alloc | apply pw_below_drewN | apply below_drew1) | exact HB.out)) hb); clear HB; have HB := n0_; clear n0_; (try clear hb); (try clear hb2); (try clear hk); (try clear hi); obtain ⟨i010, hi010, _, hsz10, _⟩ := info_parts info9; obtain ⟨hcut10, hA10, hC10⟩ := print_take_of (P := Try.prog) Value.string (⟨#[]⟩ : ByteArray) 25 9 .i64 Try.underlying25 hi010 hsz10 (some ad670) c0 l0 x9_1 (of_decide_eq_true (by first | (with_reducible assumption) | assumption)) (of_decide_eq_true (by first | (with_reducible assumption) | assumption)) HC0.out; have HR672 := aM (Kd.C_of_reads (h1 := fun _ => rfl) (hA10 _ (Kd.reads_of_C HR0.out))); have HC672 := aM hC10; clear hA10 hC10 hi010 hsz10; generalize hseg_ : (l0.take (x9_1 : Int).toNat) = seg at HR672 HC672 H' hcut10; clear hseg_))
        go_loopg [21] k1 (fun kq v21 w' => ∃ (x21_2 : Int), v21 = .int .i64 x21_2 ∧ Aside0 (spec_l11Distinct.l1 kq l0 (rdOf ByteArray.empty l0 x9_1) l0 (l0.length : Int) x9_1 seg (seg.length : Int) x21_2 = some r) ∧ Aside0 (kq ≤ k1) ∧ Aside0 (Below w.heap.size w w'))
        case atStart => exact ⟨(0), (by first | rfl | (simp; done) | (simp [*]; done)), H', ⟨Nat.le_refl _⟩, ⟨by repeat (first | (with_reducible first | exact HB.out | apply below_alloc | apply pw_below_drewN | apply below_drew1) | exact HB.out)⟩⟩
        case round =>
         clear H'
         try clear c1
         try clear c2
         try clear c2b0
         try clear p2
         try clear c3
         try clear c3b0
         try clear c4
         try clear c4b0
         try clear c6
         try clear p6
         try clear q6
         try clear hx6
         try clear c7
         try clear c7b0
         try clear c8
         try clear c8b0
         try clear c8b1
         try clear c9
         try clear hx670_0
         try clear p670
         try clear q670
         obtain ⟨x21_2, rfl, HA, HK2, HB⟩ := hrel
         cases gk with
         | zero => exact absurd HA.out (by simp [spec_l11Distinct.l1])
         | succ k2 =>
          have H := HA.out
          clear HA
          simp only [spec_l11Distinct.l1] at H
          by_cases c11 : x21_2 < (seg.length : Int)
          ·rw [if_pos c11] at H
           have c11b0 : decide (x21_2 < (seg.length : Int)) = true := decide_eq_true c11
           clear c11
           by_cases c12 : 0 ≤ x21_2
           ·rw [if_pos c12] at H
            have c12b0 : decide (0 ≤ x21_2) = true := decide_eq_true c12
            clear c12
            by_cases c13 : x21_2 < (seg.length : Int)
            ·rw [if_pos c13] at H
             have c13b0 : decide (x21_2 < (seg.length : Int)) = true := decide_eq_true c13
             clear c13
             by_cases c14 : (rdOf ByteArray.empty seg x21_2).toList = (rdOf ByteArray.empty l0 x9_1).toList
             ·rw [if_pos c14] at H
              have c14b0 : ((rdOf ByteArray.empty seg x21_2).toList == (rdOf ByteArray.empty l0 x9_1).toList) = true := beq_iff_eq.mpr c14
              have c14b1 : ((rdOf ByteArray.empty seg x21_2).toList != (rdOf ByteArray.empty l0 x9_1).toList) = false := bne_eq_false_iff_eq.mpr c14
              clear c14
              obtain rfl := Option.some.inj H
              have p673 : 0 ≤ (x21_2 : Int) := dT
              have q673 : x21_2 < (seg.length : Int) := dT
              obtain ⟨ad673, e673, hx673_0⟩ := Kd.at_string HR672.out x21_2 p673 q673
              obtain rfl : ad670 = ad673 := (by injection e673)
              replace hx673_0 := (HB.out.cell (World.block_lt_of_cell? w _ hx673_0)).trans hx673_0
              replace p673 := eq_true p673
              replace q673 := eq_true q673
              go_wp2
              go_ret
              exact ⟨eR, by repeat (first | (with_reducible first | exact HB.out | apply below_alloc | apply pw_below_drewN | apply below_drew1) | exact HB.out)⟩
             ·rw [if_neg c14] at H
              have c14b0 : ((rdOf ByteArray.empty seg x21_2).toList == (rdOf ByteArray.empty l0 x9_1).toList) = false := beq_eq_false_iff_ne.mpr c14
              have c14b1 : ((rdOf ByteArray.empty seg x21_2).toList != (rdOf ByteArray.empty l0 x9_1).toList) = true := bne_iff_ne.mpr c14
              have H' := aM H
              clear H
              have p673 : 0 ≤ (x21_2 : Int) := dT
              have q673 : x21_2 < (seg.length : Int) := dT
              obtain ⟨ad673, e673, hx673_0⟩ := Kd.at_string HR672.out x21_2 p673 q673
              obtain rfl : ad670 = ad673 := (by injection e673)
              replace hx673_0 := (HB.out.cell (World.block_lt_of_cell? w _ hx673_0)).trans hx673_0
              replace p673 := eq_true p673
              replace q673 := eq_true q673
              go_wp2
              go_roundg k2
              case measure => have := HK1.out; have := HK2.out; omega
              case rel => exact ⟨(wrap64 (x21_2 + 1)), (by first | rfl | (simp; done) | (simp [*]; done)), H', ⟨by have := HK1.out; have := HK2.out; omega⟩, ⟨by repeat (first | (with_reducible first | exact HB.out | apply below_alloc | apply pw_below_drewN | apply below_drew1) | exact HB.out)⟩⟩
            ·rw [if_neg c13] at H
             exact absurd H (by simp)
           ·rw [if_neg c12] at H
            exact absurd H (by simp)
          ·rw [if_neg c11] at H
           have c11b0 : decide (x21_2 < (seg.length : Int)) = false := decide_eq_false c11
           clear c11
           have H' := aM H
           clear H
           go_wp2
           go_roundg k2
           case measure => have := HK1.out; have := HK2.out; omega
           case rel => exact ⟨(wrap64 (x9_1 + 1)), (by first | rfl | (simp; done) | (simp [*]; done)), H', ⟨by have := HK1.out; have := HK2.out; omega⟩, ⟨by repeat (first | (with_reducible first | exact HB.out | apply below_alloc | apply pw_below_drewN | apply below_drew1) | exact HB.out)⟩⟩
       ·rw [if_neg c8] at H
        exact absurd H (by simp)
      ·replace c6 := Bool.eq_false_iff.mpr c6
       subst c6
       have H1 : (some false) = some r := by rw [if_neg (show ¬ (false = true) by decide)] at H; exact H
       clear H
       have H := H1
       clear H1
       obtain rfl := Option.some.inj H
       have p670 : 0 ≤ (x9_1 : Int) := dT
       have q670 : x9_1 < (l0.length : Int) := dT
       obtain ⟨ad670, e670, hx670_0⟩ := Kd.at_string HR0.out x9_1 p670 q670
       cases e670
       replace hx670_0 := (HB.out.cell (World.block_lt_of_cell? w _ hx670_0)).trans hx670_0
       replace p670 := eq_true p670
       replace q670 := eq_true q670
       go_wp2_with (first | ((with_reducible refine gate_callee (f := 94) rfl ?_); refine gL 15 Try.func94 #[.string (rdOf ByteArray.empty l0 x9_1)] ?_; (with_reducible refine (spec_l10Word.calls k1 (rdOf ByteArray.empty l0 x9_1) false _ A5.out).mono ?_); rintro e w15 ⟨rfl, hb⟩; refine ⟨_, rfl, ?_⟩; have n0_ := aM (below_step (by repeat (first | (with_reducible first | exact HB.out | apply below_alloc | apply pw_below_drewN | apply below_drew1) | exact HB.out)) hb); clear HB; have HB := n0_; clear n0_; (try clear hb); (try clear hb2); (try clear hk); (try clear hi)))
       go_ret
       exact ⟨eR, by repeat (first | (with_reducible first | exact HB.out | apply below_alloc | apply pw_below_drewN | apply below_drew1) | exact HB.out)⟩
     ·rw [if_neg c4] at H
      exact absurd H (by simp)
    ·rw [if_neg c3] at H
     exact absurd H (by simp)
   ·rw [if_neg c2] at H
    have c2b0 : decide (x9_1 < (l0.length : Int)) = false := decide_eq_false c2
    clear c2
    obtain rfl := Option.some.inj H
    go_wp2
    go_ret
    exact ⟨eR, by repeat (first | (with_reducible first | exact HB.out | apply below_alloc | apply pw_below_drewN | apply below_drew1) | exact HB.out)⟩

mutual
def spec_l11Rankings.l0 : Nat → List (S77) → List ByteArray → Int → Int → Int → List (S102) → Option ((List (S77)))
 | 0, _, _, _, _, _, _ => none
 | k + 1, x5, x12, x13, x14, x432000, x432001 => if x14 < x13 then (if 0 ≤ x14 then (if x14 < (x12.length : Int) then ((spec_l10Postings.f k x432000 x432001 (rdOf ByteArray.empty x12 x14)).bind fun t433 => (spec_l11Rankings.l1 k x5 t433 x12 x13 x14 t433 (t433.length : Int) 0 x432000 x432001 ([] : List (S79)))) else (none)) else (none)) else (some x5)
def spec_l11Rankings.l1 : Nat → List (S77) → List (S56) → List ByteArray → Int → Int → List (S56) → Int → Int → Int → List (S102) → List (S79) → Option ((List (S77)))
 | 0, _, _, _, _, _, _, _, _, _, _, _ => none
 | k + 1, x5, x8, x12, x13, x14, x22, x23, x24, x432000, x432001, x437000 => if x24 < x23 then (if 0 ≤ x24 then (if x24 < (x22.length : Int) then ((spec_l11Put.f k x437000 ((rd_T56 x22 x24).f0) (wrap64 (((rd_T56 x22 x24).f1) * (wrap64 ((wrap64 (x432000 - (x8.length : Int))) + 1))))).bind fun t439 => (spec_l11Rankings.l1 k x5 x8 x12 x13 x14 x22 x23 (wrap64 (x24 + 1)) x432000 x432001 t439)) else (none)) else (none)) else (if x5.length < 5864062014805 then (spec_l11Rankings.l0 k (x5 ++ [(⟨x437000⟩ : S77)]) x12 x13 (wrap64 (x14 + 1)) x432000 x432001) else (none))
end
def spec_l11Rankings.f (k : Nat) (a0_0 : Int) (l0_1 : List (S102)) (l1 : List ByteArray) : Option ((List (S77))) := spec_l11Rankings.l0 k ([] : List (S77)) l1 (l1.length : Int) 0 a0_0 l0_1
set_option maxHeartbeats 8000000 in
set_option maxRecDepth 100000 in
theorem spec_l11Rankings.calls (k : Nat) (a0_0 : Int) (A0_1 : Option Addr) (c0_1 : Nat) (l0_1 : List (S102)) (A1 : Option Addr) (c1 : Nat) (l1 : List ByteArray) (r : List (S77)) (w : World) (hr0_1 : Kd.C k102 w A0_1 l0_1.length l0_1) (hc0_1 : l0_1.length ≤ c0_1) (hr1 : Kd.C Kd.string w A1 l1.length l1) (hc1 : l1.length ≤ c1) (h : spec_l11Rankings.f k a0_0 l0_1 l1 = some r) :
  Calls Try.prog 115 #[.agg #[.int .i64 a0_0, .slice A0_1 l0_1.length c0_1], .slice A1 l1.length c1] w fun e w' => ∃ v0_ : Value, e = .returned (v0_) ∧ Kd.S k77 77 w' w.heap.size (fun _ => True) v0_ r ∧ Below w.heap.size w w' := by
 have hu33 := Try.underlying33
 have hu77 := Try.underlying77
 have hu56 := Try.underlying56
 have hu79 := Try.underlying79
 have HR0_1 := aM hr0_1
 have HC0_1 := aM hc0_1
 clear hr0_1 hc0_1
 have HR1 := aM hr1
 have HC1 := aM hc1
 clear hr1 hc1
 have HB := aM (Below.refl w.heap.size w)
 have H : (spec_l11Rankings.l0 k ([] : List (S77)) l1 (l1.length : Int) 0 a0_0 l0_1) = some r := h
 clear h
 have H' := aM H
 clear H
 go_enter Try.func115, Try.ntmps115
 go_wp2_with (((with_reducible refine gate_dst (N := 2) rfl ?_); refine box_event ?hg (N := 2) ?hd (cs := #[.int .i64 a0_0, .slice A0_1 l0_1.length c0_1]) (t := 33) ?hr ?_; (case hd => rfl); (case hg => rfl); (case hr => first | (go_simp; done) | (go_simp; rfl)); intro gb431 hg w3 hbox hb; have n0_ := aM (below_step (gB HB.out) hb); have n1_ := aM (hbox); have n2_ := aM ((by rw [hg]; exact (below_size (gB HB.out)) : w.heap.size ≤ gb431)); have n3_ := aM ((by rw [hg]; exact (below_size (gB HB.out)) : w.heap.size ≤ gb431)); clear HB; have HB := n0_; have BK431 := n1_; have GW431 := n2_; have GE431 := n3_; clear n0_ n1_ n2_ n3_; clear hb hbox hg))
 go_loopg [5, 14] k (fun kq v5 v14 w' => ∃ (x5_1 : List (S77)) (x14_1 : Int), v14 = .int .i64 x14_1 ∧ Aside0 (spec_l11Rankings.l0 kq x5_1 l1 (l1.length : Int) x14_1 a0_0 l0_1 = some r) ∧ Aside0 (kq ≤ k) ∧ Aside0 (Kd.S k77 77 w' w.heap.size (fun _ => True) v5 x5_1) ∧ Aside0 (w'.heap[gb431]? = some (.cells #[.int .i64 a0_0, (.slice A0_1 l0_1.length c0_1)] 33 (0, 0))) ∧ Aside0 (Below w.heap.size w w'))
 case atStart => exact ⟨(([] : List (S77))), (0), (by first | rfl | (simp; done) | (simp [*]; done)), H', ⟨Nat.le_refl _⟩, ⟨by first | exact Kd.S_nil _ _ _ _ _ | exact Kd.N_nil _ _ _ _ _ | exact Kd.V_nil _ _ _ _ _ | exact Kd.Q_nil _ _ _ _ _ | exact Kd.R_nil _ _ _ _ _⟩, ⟨gK BK431.out⟩, ⟨by repeat (first | (with_reducible first | exact HB.out | apply below_alloc | apply pw_below_drewN | apply below_drew1 | refine below_set ?_ GE431.out) | exact HB.out)⟩⟩
 case round =>
  clear H'
  try clear c1
  try clear p2
  obtain ⟨x5_1, x14_1, rfl, HA, HK1, HO_5, BK431, HB⟩ := hrel
  cases gk with
  | zero => exact absurd HA.out (by simp [spec_l11Rankings.l0])
  | succ k1 =>
   have H := HA.out
   clear HA
   simp only [spec_l11Rankings.l0] at H
   by_cases c4 : x14_1 < (l1.length : Int)
   ·rw [if_pos c4] at H
    have c4b0 : decide (x14_1 < (l1.length : Int)) = true := decide_eq_true c4
    clear c4
    by_cases c5 : 0 ≤ x14_1
    ·rw [if_pos c5] at H
     have c5b0 : decide (0 ≤ x14_1) = true := decide_eq_true c5
     clear c5
     by_cases c6 : x14_1 < (l1.length : Int)
     ·rw [if_pos c6] at H
      have c6b0 : decide (x14_1 < (l1.length : Int)) = true := decide_eq_true c6
      clear c6
      replace H := Option.bind_eq_some_iff.mp H
      obtain ⟨t433, A70, H⟩ := H
      replace H : (spec_l11Rankings.l1 k1 x5_1 t433 l1 (l1.length : Int) x14_1 t433 (t433.length : Int) 0 a0_0 l0_1 ([] : List (S79))) = some r := H
      have A7 := aM A70
      clear A70
      have H' := aM H
      clear H
      have p432 : 0 ≤ (x14_1 : Int) := dT
      have q432 : x14_1 < (l1.length : Int) := dT
      obtain ⟨ad432, e432, hx432_0⟩ := Kd.at_string HR1.out x14_1 p432 q432
      cases e432
      replace hx432_0 := (HB.out.cell (World.block_lt_of_cell? w _ hx432_0)).trans hx432_0
      replace p432 := eq_true p432
      replace q432 := eq_true q432
      have hcz8_0 : wr.cell? ⟨gb431, 0, none⟩ = some (.int .i64 a0_0) := (blk_cell BK431.out 0).trans rfl
      have hcz8_1 : wr.cell? ⟨gb431, 1, none⟩ = some (.slice A0_1 l0_1.length c0_1) := (blk_cell BK431.out 1).trans rfl
      have hfz8_0 := blk_frozen BK431.out 0
      have hfz8_1 := blk_frozen BK431.out 1
      go_wp2_with (first | ((with_reducible refine gate_callee (f := 120) rfl ?_); refine gL 20 Try.func120 #[.agg #[.int .i64 a0_0, .slice A0_1 l0_1.length c0_1], .string (rdOf ByteArray.empty l1 x14_1)] ?_; (with_reducible refine (spec_l10Postings.calls k1 a0_0 _ _ l0_1 (rdOf ByteArray.empty l1 x14_1) t433 _ ?side1 ?side2 A7.out).mono ?_); (case side1 => repeat (first | exact (Kd.C_below HR0_1.out HB.out) | (with_reducible refine Kd.C_alloc ?_ _) | (with_reducible refine Kd.C_drewN ?_ _) | (with_reducible refine Kd.C_drew ?_))); (case side2 => exact HC0_1.out); rintro e w9 ⟨v434, rfl, ho0, hb⟩; refine ⟨_, rfl, ?_⟩; have n0_ := aM (Kd.S_below (by (with_reducible repeat (first | apply Kd.S_alloc | apply Kd.S_drewN | apply Kd.S_drew)); exact HO_5.out) hb); have n1_ := aM (Kd.R_lower ho0 (below_size (gB HB.out))); have n2_ := aM (blk_below (g := gb431) (o := .cells #[.int .i64 a0_0, .slice A0_1 l0_1.length c0_1] 33 (0, 0)) (gK BK431.out) hb); have n3_ := aM (below_step (gB HB.out) hb); clear HO_5; clear BK431; clear HB; have HO_5 := n0_; have HO435 := n1_; have BK431 := n2_; have HB := n3_; clear n0_ n1_ n2_ n3_; (try clear hb); (try clear hb2); (try clear hk); (try clear hi); (try clear ho0)) | ((with_reducible refine gate_dst (N := 9) rfl ?_); refine box_event ?hg (N := 9) ?hd (cs := #[.slice none 0 0]) (t := 77) ?hr ?_; (case hd => rfl); (case hg => rfl); (case hr => first | (go_simp; done) | (go_simp; rfl)); intro gb436 hg w10 hbox hb; have n0_ := aM (Kd.S_below (Kd.S_elderB (by (with_reducible repeat (first | apply Kd.S_alloc | apply Kd.S_drewN | apply Kd.S_drew)); exact HO_5.out) gb436 (Nat.le_of_eq hg.symm)) hb); have n1_ := aM (Kd.R_below (gR HO435.out) hb); have n2_ := aM (blk_below (g := gb431) (o := .cells #[.int .i64 a0_0, .slice A0_1 l0_1.length c0_1] 33 (0, 0)) (gK BK431.out) hb); have n3_ := aM (below_step (gB HB.out) hb); have n4_ := aM (hbox); have n5_ := aM ((by rw [hg]; exact (below_size (gB HB.out)) : w.heap.size ≤ gb436)); have n6_ := aM ((by rw [hg]; exact (below_size (gB HB.out)) : w.heap.size ≤ gb436)); have n7_ := aM ((by rw [hg]; exact Nat.ne_of_lt (blk_lt (g := gb431) (o := .cells #[.int .i64 a0_0, .slice A0_1 l0_1.length c0_1] 33 (0, 0)) (gK BK431.out)) : gb431 ≠ gb436)); have n8_ := aM ((by rw [hg]; exact Nat.ne_of_gt (blk_lt (g := gb431) (o := .cells #[.int .i64 a0_0, .slice A0_1 l0_1.length c0_1] 33 (0, 0)) (gK BK431.out)) : gb436 ≠ gb431)); clear HO_5; clear HO435; clear BK431; clear HB; have HO_5 := n0_; have HO435 := n1_; have BK431 := n2_; have HB := n3_; have BK436 := n4_; have GW436 := n5_; have GE436 := n6_; have NB431_436 := n7_; have NB436_431 := n8_; clear n0_ n1_ n2_ n3_ n4_ n5_ n6_ n7_ n8_; clear hb hbox hg; have hnb11 := NB436_431.out; have hnc11 := NB431_436.out; have hcz12_0 : w10.cell? ⟨gb436, 0, none⟩ = some (.slice none 0 0) := (blk_cell BK436.out 0).trans rfl; have hfz12_0 := blk_frozen BK436.out 0; obtain ⟨Ao13, co13, eo13⟩ := Kd.R_slice HO435.out; subst eo13))
      go_loopg [24] k1 (fun kq v24 w' => ∃ (x24_2 : Int) (x437000_2 : List (S79)) (u437000 : Value), v24 = .int .i64 x24_2 ∧ Aside0 (spec_l11Rankings.l1 kq x5_1 t433 l1 (l1.length : Int) x14_1 t433 (t433.length : Int) x24_2 a0_0 l0_1 x437000_2 = some r) ∧ Aside0 (kq ≤ k1) ∧ Aside0 (Kd.S k77 77 w' w.heap.size (fun k_ => some k_ ≠ (u437000 : Value).ownBlock ∧ k_ ≠ gb436) u5 x5_1) ∧ Aside0 (Kd.R k56 56 w' w.heap.size (fun _ => True) (.slice Ao13 t433.length co13) t433) ∧ Aside0 (Kd.R k56 56 w' w.heap.size (fun _ => True) (.slice Ao13 t433.length co13) t433) ∧ Aside0 (Kd.R k79 79 w' w.heap.size (fun _ => True) u437000 x437000_2) ∧ Aside0 (w'.heap[gb431]? = some (.cells #[.int .i64 a0_0, (.slice A0_1 l0_1.length c0_1)] 33 (0, 0))) ∧ Aside0 (w'.heap[gb436]? = some (.cells #[u437000] 77 (0, 0))) ∧ Aside0 (Below w.heap.size w w'))
      case atStart => exact ⟨(0), (([] : List (S79))), (.slice none 0 0), (by first | rfl | (simp; done) | (simp [*]; done)), H', ⟨Nat.le_refl _⟩, ⟨by (with_reducible repeat (first | apply Kd.S_alloc | apply Kd.S_drewN | apply Kd.S_drew)); exact Kd.S_mono (Kd.S_far (p := ⟨gb436, 0, none⟩) (Kd.S_mono HO_5.out (fun k_ hk => (⟨hk, hk.2⟩ : _ ∧ k_ ≠ gb436))) (fun _ hk => hk.2) (.slice none 0 0)) (fun _ hk => ⟨(by simp [Value.ownBlock]), hk.1.2⟩)⟩, ⟨by (with_reducible repeat (first | apply Kd.R_alloc | apply Kd.R_drewN | apply Kd.R_drew)); exact Kd.R_mono (Kd.R_far (p := ⟨gb436, 0, none⟩) (Kd.R_types HO435.out BK436.out (by decide)) (fun _ hk => hk.2) (.slice none 0 0)) (fun _ hk => trivial)⟩, ⟨by (with_reducible repeat (first | apply Kd.R_alloc | apply Kd.R_drewN | apply Kd.R_drew)); exact Kd.R_mono (Kd.R_far (p := ⟨gb436, 0, none⟩) (Kd.R_types HO435.out BK436.out (by decide)) (fun _ hk => hk.2) (.slice none 0 0)) (fun _ hk => trivial)⟩, ⟨by first | exact Kd.R_nil _ _ _ _ _ | exact Kd.N_nil _ _ _ _ _ | exact Kd.V_nil _ _ _ _ _ | exact Kd.Q_nil _ _ _ _ _ | exact Kd.S_nil _ _ _ _ _⟩, ⟨by (with_reducible repeat (first | refine blk_drewN ?_ _ | refine blk_drew ?_ | refine blk_alloc ?_ _)); refine blk_far ?_ NB431_436.out _; (with_reducible repeat (first | refine blk_drewN ?_ _ | refine blk_drew ?_ | refine blk_alloc ?_ _)); exact BK431.out⟩, ⟨by (with_reducible repeat (first | refine blk_drewN ?_ _ | refine blk_drew ?_ | refine blk_alloc ?_ _)); refine blk_put (cs := #[.slice none 0 0]) ?_ 0 _ rfl; (with_reducible repeat (first | refine blk_drewN ?_ _ | refine blk_drew ?_ | refine blk_alloc ?_ _)); exact BK436.out⟩, ⟨by repeat (first | (with_reducible first | exact HB.out | apply below_alloc | apply pw_below_drewN | apply below_drew1 | refine below_set ?_ GE431.out | refine below_set ?_ GE436.out) | exact HB.out)⟩⟩
      case round =>
       clear H'
       try clear c1
       try clear p2
       try clear c4
       try clear c4b0
       try clear p4
       try clear q4
       try clear hx4
       try clear c5
       try clear c5b0
       try clear c6
       try clear c6b0
       try clear c11
       try clear c12
       try clear hcz12_0
       try clear hcz8_0
       try clear hcz8_1
       try clear hfz12_0
       try clear hfz8_0
       try clear hfz8_1
       try clear hx432_0
       try clear p2
       try clear p432
       try clear q432
       obtain ⟨x24_2, x437000_2, u437000, rfl, HA, HK2, HO_5, HO_8, HO_22, HO_437000, BK431, BK436, HB⟩ := hrel
       cases gk with
       | zero => exact absurd HA.out (by simp [spec_l11Rankings.l1])
       | succ k2 =>
        have H := HA.out
        clear HA
        simp only [spec_l11Rankings.l1] at H
        by_cases c14 : x24_2 < (t433.length : Int)
        ·rw [if_pos c14] at H
         have c14b0 : decide (x24_2 < (t433.length : Int)) = true := decide_eq_true c14
         clear c14
         by_cases c15 : 0 ≤ x24_2
         ·rw [if_pos c15] at H
          have c15b0 : decide (0 ≤ x24_2) = true := decide_eq_true c15
          clear c15
          by_cases c16 : x24_2 < (t433.length : Int)
          ·rw [if_pos c16] at H
           have c16b0 : decide (x24_2 < (t433.length : Int)) = true := decide_eq_true c16
           clear c16
           replace H := Option.bind_eq_some_iff.mp H
           obtain ⟨t439, A170, H⟩ := H
           replace H : (spec_l11Rankings.l1 k2 x5_1 t433 l1 (l1.length : Int) x14_1 t433 (t433.length : Int) (wrap64 (x24_2 + 1)) a0_0 l0_1 t439) = some r := H
           have A17 := aM A170
           clear A170
           have H' := aM H
           clear H
           have p437 : 0 ≤ (x24_2 : Int) := dT
           have q437 : x24_2 < (t433.length : Int) := dT
           obtain ⟨ad437, e437, hx437_0, hx437_1⟩ := at_T56 (Kd.R_reads' HO_22.out).2.2 x24_2 p437 q437
           cases e437
           try have hz_hx437_0 := aM hx437_0
           try have hz_hx437_1 := aM hx437_1
           replace p437 := eq_true p437
           replace q437 := eq_true q437
           go_wp2_with (first | ((with_reducible refine gate_dst (N := 11) rfl ?_); refine box_event ?hg (N := 11) ?hd (cs := #[.int .i64 0, .int .i64 0]) (t := 56) ?hr ?_; (case hd => rfl); (case hg => rfl); (case hr => first | (go_simp; done) | (go_simp; rfl)); intro gb438 hg w18 hbox hb; have n0_ := aM (Kd.S_below (by (with_reducible repeat (first | apply Kd.S_alloc | apply Kd.S_drewN | apply Kd.S_drew)); exact HO_5.out) hb); have n1_ := aM (Kd.R_below (Kd.R_elderB (gR HO_8.out) gb438 (Nat.le_of_eq hg.symm)) hb); have n2_ := aM (Kd.R_below (Kd.R_elderB (gR HO_22.out) gb438 (Nat.le_of_eq hg.symm)) hb); have n3_ := aM (Kd.R_below (gR HO_437000.out) hb); have n4_ := aM (blk_below (g := gb431) (o := .cells #[.int .i64 a0_0, .slice A0_1 l0_1.length c0_1] 33 (0, 0)) (gK BK431.out) hb); have n5_ := aM (blk_below (g := gb436) (o := .cells #[u437000] 77 (0, 0)) (gK BK436.out) hb); have n6_ := aM (below_step (by repeat (first | (with_reducible first | exact HB.out | apply below_alloc | apply pw_below_drewN | apply below_drew1 | refine below_set ?_ GE431.out | refine below_set ?_ GE436.out) | exact HB.out)) hb); have n7_ := aM (hbox); have n8_ := aM ((by rw [hg]; exact (below_size (by repeat (first | (with_reducible first | exact HB.out | apply below_alloc | apply pw_below_drewN | apply below_drew1 | refine below_set ?_ GE431.out | refine below_set ?_ GE436.out) | exact HB.out))) : w.heap.size ≤ gb438)); have n9_ := aM ((by rw [hg]; exact (below_size (by repeat (first | (with_reducible first | exact HB.out | apply below_alloc | apply pw_below_drewN | apply below_drew1 | refine below_set ?_ GE431.out | refine below_set ?_ GE436.out) | exact HB.out))) : w.heap.size ≤ gb438)); have n10_ := aM ((by rw [hg]; exact Nat.ne_of_lt (blk_lt (g := gb431) (o := .cells #[.int .i64 a0_0, .slice A0_1 l0_1.length c0_1] 33 (0, 0)) (gK BK431.out)) : gb431 ≠ gb438)); have n11_ := aM ((by rw [hg]; exact Nat.ne_of_gt (blk_lt (g := gb431) (o := .cells #[.int .i64 a0_0, .slice A0_1 l0_1.length c0_1] 33 (0, 0)) (gK BK431.out)) : gb438 ≠ gb431)); have n12_ := aM ((by rw [hg]; exact Nat.ne_of_lt (blk_lt (g := gb436) (o := .cells #[u437000] 77 (0, 0)) (gK BK436.out)) : gb436 ≠ gb438)); have n13_ := aM ((by rw [hg]; exact Nat.ne_of_gt (blk_lt (g := gb436) (o := .cells #[u437000] 77 (0, 0)) (gK BK436.out)) : gb438 ≠ gb436)); clear HO_5; clear HO_8; clear HO_22; clear HO_437000; clear BK431; clear BK436; clear HB; have HO_5 := n0_; have HO_8 := n1_; have HO_22 := n2_; have HO_437000 := n3_; have BK431 := n4_; have BK436 := n5_; have HB := n6_; have BK438 := n7_; have GW438 := n8_; have GE438 := n9_; have NB431_438 := n10_; have NB438_431 := n11_; have NB436_438 := n12_; have NB438_436 := n13_; clear n0_ n1_ n2_ n3_ n4_ n5_ n6_ n7_ n8_ n9_ n10_ n11_ n12_ n13_; clear hb hbox hg; have hnb19 := NB438_431.out; have hnc19 := NB431_438.out; have hnb20 := NB438_436.out; have hnc20 := NB436_438.out; have hcz21_0 : w18.cell? ⟨gb438, 0, none⟩ = some (.int .i64 0) := (blk_cell BK438.out 0).trans rfl; have hcz21_1 : w18.cell? ⟨gb438, 1, none⟩ = some (.int .i64 0) := (blk_cell BK438.out 1).trans rfl; have hfz21_0 := blk_frozen BK438.out 0; have hfz21_1 := blk_frozen BK438.out 1) | ((with_reducible refine gate_store (t := 56) (p := 11) rfl ?_); refine store_event (t := 56) (p := 11) (v := ?vo_w22) (w1 := ((w18.setCell ⟨gb438, 0, none⟩ (.int .i64 ((rd_T56 t433 x24_2).f0))).setCell ⟨gb438, 1, none⟩ (.int .i64 ((rd_T56 t433 x24_2).f1)))) ?hg ?ho ?hn ?hr ?_; (case ho => rfl); (case hg => rfl); (case hn => rfl); (case hr => first | (go_simp; done) | (go_simp; rfl)); intro w22 hw; have n0_ : Aside0 (Kd.S k77 77 w22 w.heap.size (fun k_ => some k_ ≠ (u437000 : Value).ownBlock ∧ k_ ≠ gb436) u5 x5_1) := ⟨(by rw [hw]; exact (by (with_reducible repeat (first | apply Kd.S_alloc | apply Kd.S_drewN | apply Kd.S_drew)); exact Kd.S_mono (Kd.S_far (p := ⟨gb438, 1, none⟩) (Kd.S_far (p := ⟨gb438, 0, none⟩) (Kd.S_types HO_5.out BK438.out (by decide)) (fun _ hk => hk.2) (.int .i64 ((rd_T56 t433 x24_2).f0))) (fun _ hk => hk.2) (.int .i64 ((rd_T56 t433 x24_2).f1))) (fun _ hk => ⟨hk.1.1, hk.1.2⟩)))⟩; have n1_ : Aside0 (Kd.R k56 56 w22 w.heap.size (fun k_ => k_ ≠ gb438) (.slice (some ad437) t433.length co13) t433) := ⟨(by rw [hw]; exact (by (with_reducible repeat (first | apply Kd.R_alloc | apply Kd.R_drewN | apply Kd.R_drew)); exact Kd.R_mono (Kd.R_far (p := ⟨gb438, 1, none⟩) (Kd.R_far (p := ⟨gb438, 0, none⟩) (Kd.R_mono HO_8.out (fun k_ hk => (⟨hk, hk.2⟩ : _ ∧ k_ ≠ gb438))) (fun _ hk => hk.2) (.int .i64 ((rd_T56 t433 x24_2).f0))) (fun _ hk => hk.2) (.int .i64 ((rd_T56 t433 x24_2).f1))) (fun _ hk => hk.1.2)))⟩; have n2_ : Aside0 (Kd.R k56 56 w22 w.heap.size (fun k_ => k_ ≠ gb438) (.slice (some ad437) t433.length co13) t433) := ⟨(by rw [hw]; exact (by (with_reducible repeat (first | apply Kd.R_alloc | apply Kd.R_drewN | apply Kd.R_drew)); exact Kd.R_mono (Kd.R_far (p := ⟨gb438, 1, none⟩) (Kd.R_far (p := ⟨gb438, 0, none⟩) (Kd.R_mono HO_22.out (fun k_ hk => (⟨hk, hk.2⟩ : _ ∧ k_ ≠ gb438))) (fun _ hk => hk.2) (.int .i64 ((rd_T56 t433 x24_2).f0))) (fun _ hk => hk.2) (.int .i64 ((rd_T56 t433 x24_2).f1))) (fun _ hk => hk.1.2)))⟩; have n3_ : Aside0 (Kd.R k79 79 w22 w.heap.size (fun _ => True) u437000 x437000_2) := ⟨(by rw [hw]; exact (by (with_reducible repeat (first | apply Kd.R_alloc | apply Kd.R_drewN | apply Kd.R_drew)); exact Kd.R_mono (Kd.R_far (p := ⟨gb438, 1, none⟩) (Kd.R_far (p := ⟨gb438, 0, none⟩) (Kd.R_types HO_437000.out BK438.out (by decide)) (fun _ hk => hk.2) (.int .i64 ((rd_T56 t433 x24_2).f0))) (fun _ hk => hk.2) (.int .i64 ((rd_T56 t433 x24_2).f1))) (fun _ hk => trivial)))⟩; have n4_ : Aside0 (w22.heap[gb431]? = some (.cells #[.int .i64 a0_0, .slice A0_1 l0_1.length c0_1] 33 (0, 0))) := ⟨(by rw [hw]; exact (by (with_reducible repeat (first | refine blk_drewN ?_ _ | refine blk_drew ?_ | refine blk_alloc ?_ _)); refine blk_far ?_ NB431_438.out _; (with_reducible repeat (first | refine blk_drewN ?_ _ | refine blk_drew ?_ | refine blk_alloc ?_ _)); refine blk_far ?_ NB431_438.out _; (with_reducible repeat (first | refine blk_drewN ?_ _ | refine blk_drew ?_ | refine blk_alloc ?_ _)); exact BK431.out))⟩; have n5_ : Aside0 (w22.heap[gb436]? = some (.cells #[u437000] 77 (0, 0))) := ⟨(by rw [hw]; exact (by (with_reducible repeat (first | refine blk_drewN ?_ _ | refine blk_drew ?_ | refine blk_alloc ?_ _)); refine blk_far ?_ NB436_438.out _; (with_reducible repeat (first | refine blk_drewN ?_ _ | refine blk_drew ?_ | refine blk_alloc ?_ _)); refine blk_far ?_ NB436_438.out _; (with_reducible repeat (first | refine blk_drewN ?_ _ | refine blk_drew ?_ | refine blk_alloc ?_ _)); exact BK436.out))⟩; have n6_ : Aside0 (w22.heap[gb438]? = some (.cells #[.int .i64 ((rd_T56 t433 x24_2).f0), .int .i64 ((rd_T56 t433 x24_2).f1)] 56 (0, 0))) := ⟨(by rw [hw]; exact (by (with_reducible repeat (first | refine blk_drewN ?_ _ | refine blk_drew ?_ | refine blk_alloc ?_ _)); refine blk_put (cs := #[.int .i64 ((rd_T56 t433 x24_2).f0), .int .i64 0]) ?_ 1 _ rfl; (with_reducible repeat (first | refine blk_drewN ?_ _ | refine blk_drew ?_ | refine blk_alloc ?_ _)); refine blk_put (cs := #[.int .i64 0, .int .i64 0]) ?_ 0 _ rfl; (with_reducible repeat (first | refine blk_drewN ?_ _ | refine blk_drew ?_ | refine blk_alloc ?_ _)); exact BK438.out))⟩; have n7_ : Aside0 (Below w.heap.size w w22) := ⟨(by rw [hw]; exact (by repeat (first | (with_reducible first | exact HB.out | apply below_alloc | apply pw_below_drewN | apply below_drew1 | refine below_set ?_ GE431.out | refine below_set ?_ GE436.out | refine below_set ?_ GE438.out) | exact HB.out)))⟩; clear hw; clear HO_5; clear HO_8; clear HO_22; clear HO_437000; clear BK431; clear BK436; clear BK438; clear HB; have HO_5 := n0_; have HO_8 := n1_; have HO_22 := n2_; have HO_437000 := n3_; have BK431 := n4_; have BK436 := n5_; have BK438 := n6_; have HB := n7_; clear n0_ n1_ n2_ n3_ n4_ n5_ n6_ n7_; have hnb23 := NB436_431.out; have hnc23 := NB431_436.out; have hcz24_0 : w22.cell? ⟨gb436, 0, none⟩ = some (u437000) := (blk_cell BK436.out 0).trans rfl; have hfz24_0 := blk_frozen BK436.out 0; have hcz25_0 : w22.cell? ⟨gb438, 0, none⟩ = some (.int .i64 ((rd_T56 t433 x24_2).f0)) := (blk_cell BK438.out 0).trans rfl; have hcz25_1 : w22.cell? ⟨gb438, 1, none⟩ = some (.int .i64 ((rd_T56 t433 x24_2).f1)) := (blk_cell BK438.out 1).trans rfl; have hfz25_0 := blk_frozen BK438.out 0; have hfz25_1 := blk_frozen BK438.out 1; have hcz26_0 : w22.cell? ⟨gb431, 0, none⟩ = some (.int .i64 a0_0) := (blk_cell BK431.out 0).trans rfl; have hcz26_1 : w22.cell? ⟨gb431, 1, none⟩ = some (.slice A0_1 l0_1.length c0_1) := (blk_cell BK431.out 1).trans rfl; have hfz26_0 := blk_frozen BK431.out 0; have hfz26_1 := blk_frozen BK431.out 1; obtain ⟨Ao27, co27, eo27⟩ := Kd.R_slice HO_437000.out; subst eo27) | ((with_reducible refine gate_callee (f := 104) rfl ?_); refine gL 42 Try.func104 #[.slice Ao27 x437000_2.length co27, .agg #[.int .i64 ((rd_T56 t433 x24_2).f0), .int .i64 (wrap64 (((rd_T56 t433 x24_2).f1) * (wrap64 ((wrap64 (a0_0 - (t433.length : Int))) + 1))))]] ?_; (with_reducible refine (spec_l11Put.calls k2 (fun k_ => some k_ = (.slice Ao27 x437000_2.length co27 : Value).ownBlock) (.slice Ao27 x437000_2.length co27) x437000_2 ((rd_T56 t433 x24_2).f0) (wrap64 (((rd_T56 t433 x24_2).f1) * (wrap64 ((wrap64 (a0_0 - (t433.length : Int))) + 1)))) t439 w _ ?side1 ?side2 A17.out).mono ?_); (case side1 => repeat (first | (with_reducible first | exact HB.out | apply below_alloc | apply pw_below_drewN | apply below_drew1 | refine below_set ?_ GE431.out | refine below_set ?_ GE436.out | refine below_set ?_ GE438.out) | exact HB.out)); (case side2 => exact Kd.R_tight rfl HO_437000.out); rintro e w28 ⟨v440, rfl, ho0, hb, hkp⟩; refine ⟨_, rfl, ?_⟩; have n0_ := aM (Kd.S_mono (ok' := fun k_ => k_ ≠ gb436 ∧ some k_ ≠ (v440 : Value).ownBlock) (Kd.S_keptB (HO_5.out) hkp (fun k_ hk_ hs_ => (hk_.1) hs_)) (fun k_ hk_ => ⟨hk_.1.2, fun e_ => Or.elim (ho0.1 k_ e_.symm) (fun hs_ => hk_.2.1 hs_) (fun hn_ => Nat.not_le.2 hk_.2.2 hn_)⟩)); have n1_ := aM (Kd.R_mono (ok' := fun k_ => k_ ≠ gb438) (Kd.R_keptB ((Kd.R_apart' HO_8.out (Kd.R_typed HO_437000.out) (by decide))) hkp (fun k_ hk_ hs_ => (hk_.2) hs_)) (fun k_ hk_ => hk_.1.1)); have n2_ := aM (Kd.R_mono (ok' := fun k_ => k_ ≠ gb438) (Kd.R_keptB ((Kd.R_apart' HO_22.out (Kd.R_typed HO_437000.out) (by decide))) hkp (fun k_ hk_ hs_ => (hk_.2) hs_)) (fun k_ hk_ => hk_.1.1)); have n3_ := aM (blk_kept (gK BK431.out) hkp (fun hs_ => (fun e_ => (Kd.R_ne HO_437000.out BK431.out (by decide)) e_) hs_)); have n4_ := aM (blk_kept (gK BK436.out) hkp (fun hs_ => (fun e_ => (Kd.R_ne HO_437000.out BK436.out (by decide)) e_) hs_)); have n5_ := aM (blk_kept (gK BK438.out) hkp (fun hs_ => (fun e_ => (Kd.R_ne HO_437000.out BK438.out (by decide)) e_) hs_)); have n6_ := aM (Kd.R_mono (ok' := fun k_ => True) ho0 (fun k_ hk_ => trivial)); have n7_ := aM (hb); clear HO_5; clear HO_8; clear HO_22; clear BK431; clear BK436; clear BK438; clear HB; clear HO_437000; have HO_5 := n0_; have HO_8 := n1_; have HO_22 := n2_; have BK431 := n3_; have BK436 := n4_; have BK438 := n5_; have HO441 := n6_; have HB := n7_; clear n0_ n1_ n2_ n3_ n4_ n5_ n6_ n7_; (try clear hb); (try clear hkp); (try clear ho0); obtain ⟨Ao29, co29, eo29⟩ := Kd.R_slice HO441.out; subst eo29; have hcz30_0 : w28.cell? ⟨gb436, 0, none⟩ = some (.slice Ao27 x437000_2.length co27) := (blk_cell BK436.out 0).trans rfl; have hfz30_0 := blk_frozen BK436.out 0))
           go_roundg k2
           case measure => have := HK1.out; have := HK2.out; omega
           case rel => exact ⟨(wrap64 (x24_2 + 1)), (t439), (.slice Ao29 t439.length co29), (by first | rfl | (simp; done) | (simp [*]; done)), H', ⟨by have := HK1.out; have := HK2.out; omega⟩, ⟨by (with_reducible repeat (first | apply Kd.S_alloc | apply Kd.S_drewN | apply Kd.S_drew)); exact Kd.S_mono (Kd.S_far (p := ⟨gb436, 0, none⟩) (Kd.S_mono HO_5.out (fun k_ hk => (⟨hk, hk.1⟩ : _ ∧ k_ ≠ gb436))) (fun _ hk => hk.2) (.slice Ao29 t439.length co29)) (fun _ hk => ⟨hk.1.2, hk.1.1⟩)⟩, ⟨by (with_reducible repeat (first | apply Kd.R_alloc | apply Kd.R_drewN | apply Kd.R_drew)); exact Kd.R_mono (Kd.R_far (p := ⟨gb436, 0, none⟩) (Kd.R_types HO_8.out BK436.out (by decide)) (fun _ hk => hk.2) (.slice Ao29 t439.length co29)) (fun _ hk => trivial)⟩, ⟨by (with_reducible repeat (first | apply Kd.R_alloc | apply Kd.R_drewN | apply Kd.R_drew)); exact Kd.R_mono (Kd.R_far (p := ⟨gb436, 0, none⟩) (Kd.R_types HO_22.out BK436.out (by decide)) (fun _ hk => hk.2) (.slice Ao29 t439.length co29)) (fun _ hk => trivial)⟩, ⟨by (with_reducible repeat (first | apply Kd.R_alloc | apply Kd.R_drewN | apply Kd.R_drew)); exact Kd.R_mono (Kd.R_far (p := ⟨gb436, 0, none⟩) (Kd.R_types HO441.out BK436.out (by decide)) (fun _ hk => hk.2) (.slice Ao29 t439.length co29)) (fun _ hk => trivial)⟩, ⟨by (with_reducible repeat (first | refine blk_drewN ?_ _ | refine blk_drew ?_ | refine blk_alloc ?_ _)); refine blk_far ?_ NB431_436.out _; (with_reducible repeat (first | refine blk_drewN ?_ _ | refine blk_drew ?_ | refine blk_alloc ?_ _)); exact BK431.out⟩, ⟨by (with_reducible repeat (first | refine blk_drewN ?_ _ | refine blk_drew ?_ | refine blk_alloc ?_ _)); refine blk_put (cs := #[.slice Ao27 x437000_2.length co27]) ?_ 0 _ rfl; (with_reducible repeat (first | refine blk_drewN ?_ _ | refine blk_drew ?_ | refine blk_alloc ?_ _)); exact BK436.out⟩, ⟨by repeat (first | (with_reducible first | exact HB.out | apply below_alloc | apply pw_below_drewN | apply below_drew1 | refine below_set ?_ GE431.out | refine below_set ?_ GE436.out | refine below_set ?_ GE438.out) | exact HB.out)⟩⟩
          ·rw [if_neg c16] at H
           exact absurd H (by simp)
         ·rw [if_neg c15] at H
          exact absurd H (by simp)
        ·rw [if_neg c14] at H
         have c14b0 : decide (x24_2 < (t433.length : Int)) = false := decide_eq_false c14
         clear c14
         by_cases c31 : x5_1.length < 5864062014805
         ·rw [if_pos c31] at H
          have LMc31 := aM c31
          clear c31
          obtain ⟨y442, hy442⟩ : ∃ y_ : List (S77), y_ = (x5_1 ++ [(⟨x437000_2⟩ : S77)]) := ⟨_, rfl⟩
          replace H : (spec_l11Rankings.l0 k2 y442 l1 (l1.length : Int) (wrap64 (x14_1 + 1)) a0_0 l0_1) = some r := by first | (rw [hy442]; with_reducible exact H) | (have H2_ := (Option.bind_some _ _).symm.trans H; rw [hy442]; with_reducible exact H2_) | (have H2_ := (Option.bind_some _ _).symm.trans H; with_reducible exact H2_) | with_reducible exact H | (rw [hy442]; exact H) | exact H
          have Ny442 := aM hy442
          clear hy442
          have H' := aM H
          clear H
          have hnb32 := NB436_431.out
          have hnc32 := NB431_436.out
          have hcz33_0 : wr.cell? ⟨gb436, 0, none⟩ = some (u437000) := (blk_cell BK436.out 0).trans rfl
          have hfz33_0 := blk_frozen BK436.out 0
          obtain ⟨Ao35, co35, eo35⟩ := Kd.R_slice HO_437000.out
          subst eo35
          go_wp2_with (((with_reducible refine gate_builtin (b := .append) (xs := #[.tmp 45, .tmp 47]) rfl ?_); at_builtin; refine Kd.S_append k77 (w0 := w) w.heap.size rfl (.tmp 45) (.tmp 47) 64 77 (.agg #[(.slice none 0 0)]) 24 rfl Try.underlying64 info77 rfl (by decide) (by omega) u5 x5_1 (⟨x437000_2⟩ : S77) [.slice Ao35 x437000_2.length co35] (fun k_ => k_ ≠ gb436) (fun k_ => some k_ = (.slice Ao35 x437000_2.length co35 : Value).ownBlock) rfl rfl ?aP (fun k_ hk_ => ((Kd.R_mono (ok' := fun k_ => ((fun k_ => k_ ≠ gb436)) k_ ∧ some k_ ≠ (u5 : Value).ownBlock) (Kd.R_types (Kd.R_apart' (HO_437000.out) (Kd.S_typed HO_5.out) (by decide)) BK436.out (by decide)) (fun k_ hk => ⟨hk.2, hk.1.2⟩))).1 k_ hk_.symm) ?aF ?aO ?aB ?aS ?aL ?_; (case aP => exact k77_mkM _ _ _ (⟨x437000_2⟩ : S77) (Kd.R_mono (Kd.R_tight rfl (Kd.R_mono (ok' := fun k_ => ((fun k_ => k_ ≠ gb436)) k_ ∧ some k_ ≠ (u5 : Value).ownBlock) (Kd.R_types (Kd.R_apart' (HO_437000.out) (Kd.S_typed HO_5.out) (by decide)) BK436.out (by decide)) (fun k_ hk => ⟨hk.2, hk.1.2⟩))) (fun _ h_ => h_))); (case aB => exact (gB HB.out)); (case aF => exact (fun k_ hk => Kd.freshB (g := gb436) (o := .cells #[.slice Ao35 x437000_2.length co35] 77 (0, 0)) (gK BK436.out) k_ hk)); (case aO => exact (by (with_reducible repeat (first | apply Kd.S_alloc | apply Kd.S_drewN | apply Kd.S_drew)); exact Kd.S_mono HO_5.out (fun k_ hk => ⟨hk.2, fun e_ => hk.1 e_⟩))); (case aS => exact (below_size (gB HB.out))); (case aL => have := LMc31.out; omega); intro v443 w34 ho hb hg hat; rw [← Ny442.out] at ho; have n0_ := aM (Kd.R_over' (gR HO_8.out) (Kd.S_typed (by (with_reducible repeat (first | apply Kd.S_alloc | apply Kd.S_drewN | apply Kd.S_drew)); exact HO_5.out)) (by decide) hg); have n1_ := aM (Kd.R_over' (gR HO_22.out) (Kd.S_typed (by (with_reducible repeat (first | apply Kd.S_alloc | apply Kd.S_drewN | apply Kd.S_drew)); exact HO_5.out)) (by decide) hg); have n2_ := aM (blk_grown (g := gb431) (o := .cells #[.int .i64 a0_0, .slice A0_1 l0_1.length c0_1] 33 (0, 0)) (gK BK431.out) hg (Kd.S_ne HO_5.out BK431.out (by decide))); have n3_ := aM (blk_grown (g := gb436) (o := .cells #[.slice Ao35 x437000_2.length co35] 77 (0, 0)) (gK BK436.out) hg (Kd.S_away HO_5.out (fun _ hk => hk.2))); have n4_ := aM (hb); have n5_ := aM (ho); clear HO_8; clear HO_22; clear BK431; clear BK436; clear HB; clear HO_5; clear HO_437000; have HO_8 := n0_; have HO_22 := n1_; have BK431 := n2_; have BK436 := n3_; have HB := n4_; have HO444 := n5_; clear n0_ n1_ n2_ n3_ n4_ n5_; clear ho hb hg hat))
          go_roundg k2
          case measure => have := HK1.out; have := HK2.out; omega
          case rel => exact ⟨(y442), (wrap64 (x14_1 + 1)), (by first | rfl | (simp; done) | (simp [*]; done)), H', ⟨by have := HK1.out; have := HK2.out; omega⟩, ⟨by (with_reducible repeat (first | apply Kd.S_alloc | apply Kd.S_drewN | apply Kd.S_drew)); exact Kd.S_mono HO444.out (fun _ hk => trivial)⟩, ⟨gK BK431.out⟩, ⟨by repeat (first | (with_reducible first | exact HB.out | apply below_alloc | apply pw_below_drewN | apply below_drew1 | refine below_set ?_ GE431.out | refine below_set ?_ GE436.out) | exact HB.out)⟩⟩
         ·rw [if_neg c31] at H
          exact absurd H (by simp)
     ·rw [if_neg c6] at H
      exact absurd H (by simp)
    ·rw [if_neg c5] at H
     exact absurd H (by simp)
   ·rw [if_neg c4] at H
    have c4b0 : decide (x14_1 < (l1.length : Int)) = false := decide_eq_false c4
    clear c4
    obtain rfl := Option.some.inj H
    go_wp2
    go_ret
    exact ⟨_, eR, by (with_reducible repeat (first | apply Kd.S_alloc | apply Kd.S_drewN | apply Kd.S_drew)); exact HO_5.out, by repeat (first | (with_reducible first | exact HB.out | apply below_alloc | apply pw_below_drewN | apply below_drew1 | refine below_set ?_ GE431.out) | exact HB.out)⟩

theorem eqA79 (d : Nat) (w : World) (x0 y0 : Int) (x1 y1 : Int) :
  (Op.equalIn (d + 2) 79 (.agg #[.int .i64 x0, .int .i64 x1]) (.agg #[.int .i64 y0, .int .i64 y1])).run Try.prog w = .ok (x0 == y0 && (x1 == y1)) w := by
 refine eqA_of Try.underlying79 (by kernel_rfl) ?_
 refine eqf_cons (by rfl) (by go_simp; rfl) (by go_simp; rfl) (by go_simp) ?_
 exact eqf_last (by rfl) (by go_simp; rfl) (by go_simp; rfl) (by go_simp)
end Go.Proofs.Ytaomjndfjmfelaa.PQ
end

section
namespace Go.Proofs.Ytaomjndfjmfelaa.PQ
open Go.RowKit Go.Proofs.YtaomjndfjmfelaaW.PrintWords Go.Proofs.YtaomjndfjmfelaaW.PrintLast Go.Proofs.YtaomjndfjmfelaaW.PrintMore
attribute [local go_sem] max2_int min2_int max_two min_two max_three min_three max_four min_four
set_option linter.unusedVariables false
set_option linter.unusedSimpArgs false
attribute [local go_sem high] eqA79
def laws_sameScored.l0 : Nat → List (S79) → List (S79) → Int → Int → Option (Bool)
 | 0, _, _, _, _ => none
 | k + 1, x0, x1, x12, x13 => if x13 < x12 then (if 0 ≤ x13 then (if x13 < (x0.length : Int) then (if x13 < (x1.length : Int) then (if (!(((rd_T79 x0 x13).f0) == ((rd_T79 x1 x13).f0)) || (!(((rd_T79 x0 x13).f1) == ((rd_T79 x1 x13).f1)))) = true then (some false) else (laws_sameScored.l0 k x0 x1 x12 (wrap64 (x13 + 1)))) else (none)) else (none)) else (none)) else (some true)
def laws_sameScored.f (k : Nat) (l0 : List (S79)) (l1 : List (S79)) : Option (Bool) := if (l0.length : Int) = (l1.length : Int) then (laws_sameScored.l0 k l0 l1 (l0.length : Int) 0) else (some false)
set_option maxHeartbeats 8000000 in
set_option maxRecDepth 100000 in
theorem laws_sameScored.calls (k : Nat) (A0 : Option Addr) (c0 : Nat) (l0 : List (S79)) (A1 : Option Addr) (c1 : Nat) (l1 : List (S79)) (r : Bool) (w : World) (hr0 : Kd.C k79 w A0 l0.length l0) (hc0 : l0.length ≤ c0) (hr1 : Kd.C k79 w A1 l1.length l1) (hc1 : l1.length ≤ c1) (h : laws_sameScored.f k l0 l1 = some r) :
  Calls Try.prog 57 #[.slice A0 l0.length c0, .slice A1 l1.length c1] w fun e w' => e = .returned (.bool r) ∧ Drawn0 w w' := by
 have hu79 := Try.underlying79
 have HR0 := aM hr0
 have HC0 := aM hc0
 clear hr0 hc0
 have HR1 := aM hr1
 have HC1 := aM hc1
 clear hr1 hc1
 have H : (if (l0.length : Int) = (l1.length : Int) then (laws_sameScored.l0 k l0 l1 (l0.length : Int) 0) else (some false)) = some r := h
 clear h
 by_cases c3 : (l0.length : Int) = (l1.length : Int)
 ·rw [if_pos c3] at H
  have c3b0 : ((l0.length : Int) == (l1.length : Int)) = true := beq_iff_eq.mpr c3
  have c3b1 : ((l0.length : Int) != (l1.length : Int)) = false := bne_eq_false_iff_eq.mpr c3
  have c3b2 : (l0.length == l1.length) = true := by first | simpa using c3 | (simp at c3 ⊢; omega)
  clear c3
  have H' := aM H
  clear H
  go_enter Try.func57, Try.ntmps57
  go_wp2
  repeat (go_quiet (fail); try go_wp2)
  go_loopg [13] k (fun kq v13 w' => ∃ (x13_1 : Int), v13 = .int .i64 x13_1 ∧ Aside0 (laws_sameScored.l0 kq l0 l1 (l0.length : Int) x13_1 = some r) ∧ Aside0 (kq ≤ k) ∧ Drawn0 w w')
  case atStart => exact ⟨(0), (by first | rfl | (simp; done) | (simp [*]; done)), H', ⟨Nat.le_refl _⟩, by repeat (first | exact Drawn0.refl _ | apply Drawn0.step)⟩
  case round =>
   clear H'
   try clear c1
   try clear p2
   try clear c3
   try clear c3b0
   try clear c3b1
   try clear c3b2
   obtain ⟨x13_1, rfl, HA, HK1, ⟨m1, rfl⟩⟩ := hrel
   cases gk with
   | zero => exact absurd HA.out (by simp [laws_sameScored.l0])
   | succ k1 =>
    have H := HA.out
    clear HA
    simp only [laws_sameScored.l0] at H
    by_cases c4 : x13_1 < (l0.length : Int)
    ·rw [if_pos c4] at H
     have c4b0 : decide (x13_1 < (l0.length : Int)) = true := decide_eq_true c4
     clear c4
     by_cases c5 : 0 ≤ x13_1
     ·rw [if_pos c5] at H
      have c5b0 : decide (0 ≤ x13_1) = true := decide_eq_true c5
      clear c5
      by_cases c6 : x13_1 < (l0.length : Int)
      ·rw [if_pos c6] at H
       have c6b0 : decide (x13_1 < (l0.length : Int)) = true := decide_eq_true c6
       clear c6
       by_cases c7 : x13_1 < (l1.length : Int)
       ·rw [if_pos c7] at H
        have c7b0 : decide (x13_1 < (l1.length : Int)) = true := decide_eq_true c7
        clear c7
        by_cases c8 : (!(((rd_T79 l0 x13_1).f0) == ((rd_T79 l1 x13_1).f0)) || (!(((rd_T79 l0 x13_1).f1) == ((rd_T79 l1 x13_1).f1)))) = true
        ·rw [if_pos c8] at H
         have c8b0 : (!(((rd_T79 l0 x13_1).f0) == ((rd_T79 l1 x13_1).f0)) || (!(((rd_T79 l0 x13_1).f1) == ((rd_T79 l1 x13_1).f1)))) = true := c8
         clear c8
         obtain rfl := Option.some.inj H
         have p481 : 0 ≤ (x13_1 : Int) := dT
         have q481 : x13_1 < (l0.length : Int) := dT
         obtain ⟨ad481, e481, hx481_0, hx481_1⟩ := at_T79 HR0.out x13_1 p481 q481
         cases e481
         try have hz_hx481_0 := aM hx481_0
         try have hz_hx481_1 := aM hx481_1
         replace p481 := eq_true p481
         replace q481 := eq_true q481
         have p482 : 0 ≤ (x13_1 : Int) := dT
         have q482 : x13_1 < (l1.length : Int) := dT
         obtain ⟨ad482, e482, hx482_0, hx482_1⟩ := at_T79 HR1.out x13_1 p482 q482
         cases e482
         try have hz_hx482_0 := aM hx482_0
         try have hz_hx482_1 := aM hx482_1
         replace p482 := eq_true p482
         replace q482 := eq_true q482
         go_wp2
         repeat (go_quiet (fail); try go_wp2)
         go_ret
         exact ⟨by first | rfl | (simp; done) | (simp [*]; done), by repeat (first | exact Drawn0.refl _ | apply Drawn0.step)⟩
        ·rw [if_neg c8] at H
         have c8b0 : (!(((rd_T79 l0 x13_1).f0) == ((rd_T79 l1 x13_1).f0)) || (!(((rd_T79 l0 x13_1).f1) == ((rd_T79 l1 x13_1).f1)))) = false := by simpa using c8
         clear c8
         have H' := aM H
         clear H
         have p481 : 0 ≤ (x13_1 : Int) := dT
         have q481 : x13_1 < (l0.length : Int) := dT
         obtain ⟨ad481, e481, hx481_0, hx481_1⟩ := at_T79 HR0.out x13_1 p481 q481
         cases e481
         try have hz_hx481_0 := aM hx481_0
         try have hz_hx481_1 := aM hx481_1
         replace p481 := eq_true p481
         replace q481 := eq_true q481
         have p482 : 0 ≤ (x13_1 : Int) := dT
         have q482 : x13_1 < (l1.length : Int) := dT
         obtain ⟨ad482, e482, hx482_0, hx482_1⟩ := at_T79 HR1.out x13_1 p482 q482
         cases e482
         try have hz_hx482_0 := aM hx482_0
         try have hz_hx482_1 := aM hx482_1
         replace p482 := eq_true p482
         replace q482 := eq_true q482
         go_wp2
         repeat (go_quiet (fail); try go_wp2)
         go_roundg k1
         case measure => have := HK1.out; omega
         case rel => exact ⟨(wrap64 (x13_1 + 1)), (by first | rfl | (simp; done) | (simp [*]; done)), H', ⟨by have := HK1.out; omega⟩, by repeat (first | exact Drawn0.refl _ | apply Drawn0.step)⟩
       ·rw [if_neg c7] at H
        exact absurd H (by simp)
      ·rw [if_neg c6] at H
       exact absurd H (by simp)
     ·rw [if_neg c5] at H
      exact absurd H (by simp)
    ·rw [if_neg c4] at H
     have c4b0 : decide (x13_1 < (l0.length : Int)) = false := decide_eq_false c4
     clear c4
     obtain rfl := Option.some.inj H
     go_wp2
     repeat (go_quiet (fail); try go_wp2)
     go_ret
     exact ⟨by first | rfl | (simp; done) | (simp [*]; done), by repeat (first | exact Drawn0.refl _ | apply Drawn0.step)⟩
 ·rw [if_neg c3] at H
  have c3b0 : ((l0.length : Int) == (l1.length : Int)) = false := beq_eq_false_iff_ne.mpr c3
  have c3b1 : ((l0.length : Int) != (l1.length : Int)) = true := bne_iff_ne.mpr c3
  have c3b2 : (l0.length == l1.length) = false := by first | simpa using c3 | (simp at c3 ⊢; omega)
  obtain rfl := Option.some.inj H
  go_enter Try.func57, Try.ntmps57
  go_wp2
  repeat (go_quiet (fail); try go_wp2)
  go_ret
  exact ⟨by first | rfl | (simp; done) | (simp [*]; done), by repeat (first | exact Drawn0.refl _ | apply Drawn0.step)⟩

end Go.Proofs.Ytaomjndfjmfelaa.PQ
end
