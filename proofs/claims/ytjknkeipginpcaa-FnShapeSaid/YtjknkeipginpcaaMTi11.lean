/- Several texts in one: what the claim's last text rests on. No conditions. -/
import Derived.Test.YtjknkeipginpcaaMTi5
import Derived.Test.YtjknkeipginpcaaMTi10
section
namespace Go.Proofs.Ytjknkeipginpcaa.PQ
open Go.RowKit Go.Proofs.YtjknkeipginpcaaW.PrintWords Go.Proofs.YtjknkeipginpcaaW.PrintLast Go.Proofs.YtjknkeipginpcaaW.PrintMore
attribute [local go_sem] max2_int min2_int max_two min_two max_three min_three max_four min_four
set_option linter.unusedVariables false
set_option linter.unusedSimpArgs false
mutual
def spec_l1Cur_treap.j0 : Nat → Int → List Int → Int → Int → Option ((List (S71)) × Int × Int)
 | 0, _, _, _, _ => none
 | k + 1, x4, x1000, x1001, x1002 => spec_l1Cur_treap.l0 k x4 x1000 x1001 x1002 ([] : List (S71))
def spec_l1Cur_treap.l0 : Nat → Int → List Int → Int → Int → List (S71) → Option ((List (S71)) × Int × Int)
 | 0, _, _, _, _, _ => none
 | k + 1, x4, x1000, x1001, x1002, x405000 => if x4 > 0 then ((spec_l1Cur_treapKey.f x1000 x1001 x1002).bind fun bt412 => (if x4 > 20 then ((spec_l1Cur_pick.f x1000 bt412.2.1 bt412.2.2 200).bind fun bt415 => ((spec_l1Num.f k bt415.1).bind fun t418 => (if 1 + t418.size ≤ 9223372036854775807 then (spec_l1Cur_treap.j2 k x4 ((⟨#[110]⟩ : ByteArray) ++ t418) x1000 bt415.2.1 bt415.2.2 x405000) else (none)))) else (spec_l1Cur_treap.j2 k x4 bt412.1 x1000 bt412.2.1 bt412.2.2 x405000))) else (if (x405000.length : Int) > 0 then ((spec_l1Cur_one.f x1000 x1001 x1002 20).bind fun bt436 => (spec_l1Cur_treap.j3 k bt436.1 x1000 bt436.2.1 bt436.2.2 x405000)) else (spec_l1Cur_treap.j3 k false x1000 x1001 x1002 x405000))
def spec_l1Cur_treap.j2 : Nat → Int → ByteArray → List Int → Int → Int → List (S71) → Option ((List (S71)) × Int × Int)
 | 0, _, _, _, _, _, _ => none
 | k + 1, x4, x7, x1000, x1001, x1002, x405000 => (spec_l1Cur_one.f x1000 x1001 x1002 5).bind fun bt419 => (if bt419.1 = true then ((spec_CutKey.f k x405000 x7).bind fun bt422 => (if bt422.2 = true then (spec_l1Cur_treap.l0 k (wrap64 (x4 - 1)) x1000 bt419.2.1 bt419.2.2 bt422.1) else (spec_l1Cur_treap.l0 k (wrap64 (x4 - 1)) x1000 bt419.2.1 bt419.2.2 x405000))) else ((spec_l1Cur_of.f x1000 bt419.2.1 bt419.2.2 (([(⟨#[]⟩ : ByteArray), (⟨#[118]⟩ : ByteArray), (⟨#[118, 97, 108, 117, 101]⟩ : ByteArray)] : List ByteArray))).bind fun bt429 => ((spec_PutKey.f k x405000 x7 bt429.1).bind fun bt432 => (if bt432.2 = true then (spec_l1Cur_treap.l0 k (wrap64 (x4 - 1)) x1000 bt429.2.1 bt429.2.2 bt432.1) else (spec_l1Cur_treap.l0 k (wrap64 (x4 - 1)) x1000 bt429.2.1 bt429.2.2 x405000)))))
def spec_l1Cur_treap.j3 : Nat → Bool → List Int → Int → Int → List (S71) → Option ((List (S71)) × Int × Int)
 | 0, _, _, _, _, _ => none
 | k + 1, x53, x1000, x1001, x1002, x405000 => if x53 = true then ((spec_l1Cur_pick.f x1000 x1001 x1002 (x405000.length : Int)).bind fun bt439 => ((spec_l1Cur_pick.f x1000 bt439.2.1 bt439.2.2 3).bind fun bt442 => (if bt442.1 = 0 then (if 0 ≤ bt439.1 then (if bt439.1 < (x405000.length : Int) then (if ((rd_T71 x405000 bt439.1).f0).size + 1 ≤ 9223372036854775807 then (some ((x405000.set (bt439.1 : Int).toNat (⟨((rd_T71 x405000 bt439.1).f0) ++ (⟨#[122]⟩ : ByteArray), (rd_T71 x405000 bt439.1).f1, (rd_T71 x405000 bt439.1).f2, (rd_T71 x405000 bt439.1).f3⟩ : S71)), bt442.2.1, bt442.2.2)) else (none)) else (none)) else (none)) else (if bt442.1 = 1 then ((spec_l1Cur_pick.f x1000 bt442.2.1 bt442.2.2 4).bind fun bt447 => (if 0 ≤ bt439.1 then (if bt439.1 < (x405000.length : Int) then (some ((x405000.set (bt439.1 : Int).toNat (⟨(rd_T71 x405000 bt439.1).f0, (rd_T71 x405000 bt439.1).f1, wrap64 (bt447.1 - 1), (rd_T71 x405000 bt439.1).f3⟩ : S71)), bt447.2.1, bt447.2.2)) else (none)) else (none))) else ((spec_l1Cur_pick.f x1000 bt442.2.1 bt442.2.2 4).bind fun bt451 => (if 0 ≤ bt439.1 then (if bt439.1 < (x405000.length : Int) then (some ((x405000.set (bt439.1 : Int).toNat (⟨(rd_T71 x405000 bt439.1).f0, (rd_T71 x405000 bt439.1).f1, (rd_T71 x405000 bt439.1).f2, wrap64 (bt451.1 - 1)⟩ : S71)), bt451.2.1, bt451.2.2)) else (none)) else (none))))))) else (some (x405000, x1001, x1002))
end
def spec_l1Cur_treap.f (k : Nat) (s0_0 : List Int) (s0_1 : Int) (s0_2 : Int) : Option ((List (S71)) × Int × Int) := (spec_l1Cur_pick.f s0_0 s0_1 s0_2 14).bind fun bt405 => ((spec_l1Cur_one.f s0_0 bt405.2.1 bt405.2.2 20).bind fun bt408 => (if bt408.1 = true then (spec_l1Cur_treap.j0 k 70 s0_0 bt408.2.1 bt408.2.2) else (spec_l1Cur_treap.j0 k bt405.1 s0_0 bt408.2.1 bt408.2.2)))
def spec_l1Cur_treap.T13 : Bool × List (List Nat × List Nat) := (true, [([], []), ([], []), ([], []), ([], []), ([2, 3], [2, 3]), ([0, 1, 4, 4], [0, 1, 4]), ([5], [5]), ([6], [6]), ([6], [6]), ([7, 5, 0, 1, 2, 3, 4, 5, 6, 7], [7]), ([8, 9, 0, 1, 2, 3, 4, 5, 6, 7, 8, 9], [8])])
def spec_l1Cur_treap.B13 : List Nat := [0, 0, 0, 0, 12, 31, 63, 127, 127, 255, 1023]
theorem spec_l1Cur_treap.tab13 : rtab .any (opsOf Try.f64 13) = spec_l1Cur_treap.T13 := by kernel_rfl
theorem spec_l1Cur_treap.bits13 : waitsOk spec_l1Cur_treap.T13.2 spec_l1Cur_treap.B13 = true := by kernel_rfl
def spec_l1Cur_treap.T19 : Bool × List (List Nat × List Nat) := (true, [([], []), ([0], [0]), ([], []), ([], []), ([3], [3]), ([4], [4]), ([1, 2, 0, 1, 2, 3, 4, 5], [1, 2]), ([6, 0, 1, 2, 3, 4, 5], [6]), ([7, 5, 4, 0, 1, 2, 3, 4, 5], [5, 7])])
def spec_l1Cur_treap.B19 : List Nat := [0, 1, 0, 0, 8, 24, 63, 127, 255]
theorem spec_l1Cur_treap.tab19 : rtab .any (opsOf Try.f64 19) = spec_l1Cur_treap.T19 := by kernel_rfl
theorem spec_l1Cur_treap.bits19 : waitsOk spec_l1Cur_treap.T19.2 spec_l1Cur_treap.B19 = true := by kernel_rfl
def spec_l1Cur_treap.T23 : Bool × List (List Nat × List Nat) := (true, [([], []), ([0], [0]), ([], []), ([], []), ([3], [3]), ([4], [4]), ([1, 2, 0, 1, 2, 3, 4, 5], [1, 2]), ([6, 0, 1, 2, 3, 4, 5], [6]), ([7, 5, 4, 0, 1, 2, 3, 4, 5], [5, 7])])
def spec_l1Cur_treap.B23 : List Nat := [0, 1, 0, 0, 8, 24, 63, 127, 255]
theorem spec_l1Cur_treap.tab23 : rtab .any (opsOf Try.f64 23) = spec_l1Cur_treap.T23 := by kernel_rfl
theorem spec_l1Cur_treap.bits23 : waitsOk spec_l1Cur_treap.T23.2 spec_l1Cur_treap.B23 = true := by kernel_rfl
set_option maxHeartbeats 8000000 in
set_option maxRecDepth 100000 in
theorem spec_l1Cur_treap.calls (k : Nat) (g : Nat) (s0_0 : List Int) (s0_1 : Int) (s0_2 : Int) (r1 : List (S71)) (r2 : Int) (r3 : Int) (w0 w : World) (hI : IsS89 w0 w g s0_0 s0_1 s0_2) (hB : Below w0.heap.size w0 w) (h : spec_l1Cur_treap.f k s0_0 s0_1 s0_2 = some (r1, r2, r3)) :
  Calls Try.prog 64 #[.pointer (some ⟨g, 0, none⟩)] w fun e w' => ∃ v0_ : Value, e = .returned (.agg #[v0_]) ∧ Kd.R k71 71 w' w.heap.size (fun _ => True) v0_ r1 ∧ IsS89 w0 w' g s0_0 r2 r3 ∧ Below w0.heap.size w0 w' ∧ KeepBut w w' g none := by
 have hu29 := Try.underlying29
 have HI0 := aM hI
 have HK := aM (KeepBut.refl w g none)
 have HL := aM hB.size
 clear hI
 have HW0 := aM hB.size
 have HB := aM hB
 clear hB
 have H : ((spec_l1Cur_pick.f s0_0 s0_1 s0_2 14).bind fun bt405 => ((spec_l1Cur_one.f s0_0 bt405.2.1 bt405.2.2 20).bind fun bt408 => (if bt408.1 = true then (spec_l1Cur_treap.j0 k 70 s0_0 bt408.2.1 bt408.2.2) else (spec_l1Cur_treap.j0 k bt405.1 s0_0 bt408.2.1 bt408.2.2)))) = some (r1, r2, r3) := h
 clear h
 replace H := Option.bind_eq_some_iff.mp H
 obtain ⟨⟨t405, t406, t407⟩, A20, H⟩ := H
 replace H : ((spec_l1Cur_one.f s0_0 t406 t407 20).bind fun bt408 => (if bt408.1 = true then (spec_l1Cur_treap.j0 k 70 s0_0 bt408.2.1 bt408.2.2) else (spec_l1Cur_treap.j0 k t405 s0_0 bt408.2.1 bt408.2.2))) = some (r1, r2, r3) := H
 have A2 := aM A20
 clear A20
 replace H := Option.bind_eq_some_iff.mp H
 obtain ⟨⟨t408, t409, t410⟩, A30, H⟩ := H
 replace H : (if t408 = true then (spec_l1Cur_treap.j0 k 70 s0_0 t409 t410) else (spec_l1Cur_treap.j0 k t405 s0_0 t409 t410)) = some (r1, r2, r3) := H
 have A3 := aM A30
 clear A30
 have HC4 := aM H
 clear H
 go_enter Try.func64, Try.ntmps64
 go_upto_if 13 with (first | ((with_reducible refine gate_dst (N := 2) rfl ?_); refine box_event ?hg (N := 2) ?hd (cs := #[.slice none 0 0]) (t := 29) ?hr ?_; (case hd => rfl); (case hg => rfl); (case hr => first | (go_simp; done) | (go_simp; rfl)); intro gb403 hg w5 hbox hb; have n0_ := aM (IsS89.below (by repeat (first | (with_reducible first | exact HI0.out | apply IsS89.alloc | apply IsS89.drewN | apply IsS89.drew | apply IsS89.set_1 | apply IsS89.set_2) | exact HI0.out)) hb); have n1_ := aM (KeepBut.trans (by repeat (first | (with_reducible first | exact HK.out | apply KeepBut.set_ | apply keep_drewN | apply keep_drew | apply keep_alloc) | exact HK.out)) (KeepBut.of_below hb g none) (.inl rfl)); have n2_ := aM (below_step (gB HB.out) hb); have n3_ := aM (hbox); have n4_ := aM ((by rw [hg]; exact (keep_size (w := w) (g := g) (row := none) (by repeat (first | (with_reducible first | exact HK.out | apply KeepBut.set_ | apply keep_drewN | apply keep_drew | apply keep_alloc) | exact HK.out))) : w.heap.size ≤ gb403)); have n5_ := aM ((Nat.le_trans HW0.out (by rw [hg]; exact (keep_size (w := w) (g := g) (row := none) (by repeat (first | (with_reducible first | exact HK.out | apply KeepBut.set_ | apply keep_drewN | apply keep_drew | apply keep_alloc) | exact HK.out))) : w.heap.size ≤ gb403) : w0.heap.size ≤ gb403)); have n6_ := aM ((by rw [hg]; exact Nat.ne_of_lt (IsS89.lt (show IsS89 w0 _ g s0_0 s0_1 s0_2 from by repeat (first | (with_reducible first | exact HI0.out | apply IsS89.alloc | apply IsS89.drewN | apply IsS89.drew | apply IsS89.set_1 | apply IsS89.set_2) | exact HI0.out))) : g ≠ gb403)); have n7_ := aM ((by rw [hg]; exact Nat.ne_of_gt (IsS89.lt (show IsS89 w0 _ g s0_0 s0_1 s0_2 from by repeat (first | (with_reducible first | exact HI0.out | apply IsS89.alloc | apply IsS89.drewN | apply IsS89.drew | apply IsS89.set_1 | apply IsS89.set_2) | exact HI0.out))) : gb403 ≠ g)); clear HI0; clear HK; clear HB; have HI0 := n0_; have HK := n1_; have HB := n2_; have BK403 := n3_; have GW403 := n4_; have GE403 := n5_; have NB0_403 := n6_; have NB403_0 := n7_; clear n0_ n1_ n2_ n3_ n4_ n5_ n6_ n7_; clear hb hbox hg) | ((with_reducible refine gate_dst (N := 3) rfl ?_); refine box_event ?hg (N := 3) ?hd (cs := #[.slice none 0 0]) (t := 29) ?hr ?_; (case hd => rfl); (case hg => rfl); (case hr => first | (go_simp; done) | (go_simp; rfl)); intro gb404 hg w6 hbox hb; have n0_ := aM (IsS89.below (by repeat (first | (with_reducible first | exact HI0.out | apply IsS89.alloc | apply IsS89.drewN | apply IsS89.drew | apply IsS89.set_1 | apply IsS89.set_2 | refine IsS89.far ?_ NB0_403.out _) | exact HI0.out)) hb); have n1_ := aM (blk_below (g := gb403) (o := .cells #[.slice none 0 0] 29 (0, 0)) (gK BK403.out) hb); have n2_ := aM (KeepBut.trans (by repeat (first | (with_reducible first | exact HK.out | apply KeepBut.set_ | apply keep_drewN | apply keep_drew | apply keep_alloc | refine keep_far ?_ GW403.out _) | exact HK.out)) (KeepBut.of_below hb g none) (.inl rfl)); have n3_ := aM (below_step (gB HB.out) hb); have n4_ := aM (hbox); have n5_ := aM ((by rw [hg]; exact (keep_size (w := w) (g := g) (row := none) (by repeat (first | (with_reducible first | exact HK.out | apply KeepBut.set_ | apply keep_drewN | apply keep_drew | apply keep_alloc | refine keep_far ?_ GW403.out _) | exact HK.out))) : w.heap.size ≤ gb404)); have n6_ := aM ((Nat.le_trans HW0.out (by rw [hg]; exact (keep_size (w := w) (g := g) (row := none) (by repeat (first | (with_reducible first | exact HK.out | apply KeepBut.set_ | apply keep_drewN | apply keep_drew | apply keep_alloc | refine keep_far ?_ GW403.out _) | exact HK.out))) : w.heap.size ≤ gb404) : w0.heap.size ≤ gb404)); have n7_ := aM ((by rw [hg]; exact Nat.ne_of_lt (blk_lt (g := gb403) (o := .cells #[.slice none 0 0] 29 (0, 0)) (gK BK403.out)) : gb403 ≠ gb404)); have n8_ := aM ((by rw [hg]; exact Nat.ne_of_gt (blk_lt (g := gb403) (o := .cells #[.slice none 0 0] 29 (0, 0)) (gK BK403.out)) : gb404 ≠ gb403)); have n9_ := aM ((by rw [hg]; exact Nat.ne_of_lt (IsS89.lt (show IsS89 w0 _ g s0_0 s0_1 s0_2 from by repeat (first | (with_reducible first | exact HI0.out | apply IsS89.alloc | apply IsS89.drewN | apply IsS89.drew | apply IsS89.set_1 | apply IsS89.set_2 | refine IsS89.far ?_ NB0_403.out _) | exact HI0.out))) : g ≠ gb404)); have n10_ := aM ((by rw [hg]; exact Nat.ne_of_gt (IsS89.lt (show IsS89 w0 _ g s0_0 s0_1 s0_2 from by repeat (first | (with_reducible first | exact HI0.out | apply IsS89.alloc | apply IsS89.drewN | apply IsS89.drew | apply IsS89.set_1 | apply IsS89.set_2 | refine IsS89.far ?_ NB0_403.out _) | exact HI0.out))) : gb404 ≠ g)); clear HI0; clear BK403; clear HK; clear HB; have HI0 := n0_; have BK403 := n1_; have HK := n2_; have HB := n3_; have BK404 := n4_; have GW404 := n5_; have GE404 := n6_; have NB403_404 := n7_; have NB404_403 := n8_; have NB0_404 := n9_; have NB404_0 := n10_; clear n0_ n1_ n2_ n3_ n4_ n5_ n6_ n7_ n8_ n9_ n10_; clear hb hbox hg; have hnb7 := NB404_403.out; have hnc7 := NB403_404.out; have hnb8 := NB404_0.out; have hnc8 := NB0_404.out; have hcz9_0 : w6.cell? ⟨gb404, 0, none⟩ = some (.slice none 0 0) := (blk_cell BK404.out 0).trans rfl; have hfz9_0 := blk_frozen BK404.out 0) | ((with_reducible refine gate_callee (f := 83) rfl ?_); refine goesL_ (some 11) rfl rfl Try.func83 (by kernel_rfl) rfl #[.pointer (some ⟨g, 0, none⟩), .int .i64 14] rfl (by (try simp only [List.map_toArray, List.map_cons, List.map_nil]); first | done | rfl | (simp only [List.length_drop, List.length_take]; rfl)) ?_; (with_reducible refine (spec_l1Cur_pick.calls g s0_0 s0_1 s0_2 14 t405 t406 t407 w0 _ ?side1 ?side2 A2.out).mono ?_); (case side1 => repeat (first | (with_reducible first | exact HI0.out | apply IsS89.alloc | apply IsS89.drewN | apply IsS89.drew | apply IsS89.set_1 | apply IsS89.set_2 | refine IsS89.far ?_ NB0_403.out _ | refine IsS89.far ?_ NB0_404.out _) | exact HI0.out)); (case side2 => repeat (first | (with_reducible first | exact HB.out | apply below_alloc | apply pw_below_drewN | apply below_drew1 | refine below_set ?_ (IsS89.ge HI0.out) | refine below_set ?_ GE403.out | refine below_set ?_ GE404.out) | exact HB.out)); rintro e w10 ⟨rfl, hi, hb, hk⟩; refine ⟨_, rfl, ?_⟩; have n0_ := aM (KeepBut.blk hk (g' := gb403) (o := .cells #[.slice none 0 0] 29 (0, 0)) (by (with_reducible repeat (first | refine blk_drewN ?_ _ | refine blk_drew ?_ | refine blk_alloc ?_ _)); refine blk_far ?_ NB403_404.out _; (with_reducible repeat (first | refine blk_drewN ?_ _ | refine blk_drew ?_ | refine blk_alloc ?_ _)); exact BK403.out) NB403_0.out (by simp)); have n1_ := aM (KeepBut.blk hk (g' := gb404) (o := .cells #[.slice none 0 0] 29 (0, 0)) (by (with_reducible repeat (first | refine blk_drewN ?_ _ | refine blk_drew ?_ | refine blk_alloc ?_ _)); refine blk_put (cs := #[.slice none 0 0]) ?_ 0 _ rfl; (with_reducible repeat (first | refine blk_drewN ?_ _ | refine blk_drew ?_ | refine blk_alloc ?_ _)); exact BK404.out) NB404_0.out (by simp)); have n2_ := aM (KeepBut.trans (by repeat (first | (with_reducible first | exact HK.out | apply KeepBut.set_ | apply keep_drewN | apply keep_drew | apply keep_alloc | refine keep_far ?_ GW403.out _ | refine keep_far ?_ GW404.out _) | exact HK.out)) hk (.inl rfl)); have n3_ := aM (hb); have n4_ := aM (hi); clear BK403; clear BK404; clear HK; clear HB; clear HI0; have BK403 := n0_; have BK404 := n1_; have HK := n2_; have HB := n3_; have HI0 := n4_; clear n0_ n1_ n2_ n3_ n4_; (try clear hb); (try clear hb2); (try clear hk); (try clear hi)) | ((with_reducible refine gate_callee (f := 66) rfl ?_); refine goesL_ (some 13) rfl rfl Try.func66 (by kernel_rfl) rfl #[.pointer (some ⟨g, 0, none⟩), .int .i64 20] rfl (by (try simp only [List.map_toArray, List.map_cons, List.map_nil]); first | done | rfl | (simp only [List.length_drop, List.length_take]; rfl)) ?_; (with_reducible refine (spec_l1Cur_one.calls g s0_0 t406 t407 20 t408 t409 t410 w0 _ ?side1 ?side2 A3.out).mono ?_); (case side1 => repeat (first | (with_reducible first | exact HI0.out | apply IsS89.alloc | apply IsS89.drewN | apply IsS89.drew | apply IsS89.set_1 | apply IsS89.set_2 | refine IsS89.far ?_ NB0_403.out _ | refine IsS89.far ?_ NB0_404.out _) | exact HI0.out)); (case side2 => repeat (first | (with_reducible first | exact HB.out | apply below_alloc | apply pw_below_drewN | apply below_drew1 | refine below_set ?_ (IsS89.ge HI0.out) | refine below_set ?_ GE403.out | refine below_set ?_ GE404.out) | exact HB.out)); rintro e w11 ⟨rfl, hi, hb, hk⟩; refine ⟨_, rfl, ?_⟩; have n0_ := aM (KeepBut.blk hk (g' := gb403) (o := .cells #[.slice none 0 0] 29 (0, 0)) (gK BK403.out) NB403_0.out (by simp)); have n1_ := aM (KeepBut.blk hk (g' := gb404) (o := .cells #[.slice none 0 0] 29 (0, 0)) (gK BK404.out) NB404_0.out (by simp)); have n2_ := aM (KeepBut.trans (by repeat (first | (with_reducible first | exact HK.out | apply KeepBut.set_ | apply keep_drewN | apply keep_drew | apply keep_alloc | refine keep_far ?_ GW403.out _ | refine keep_far ?_ GW404.out _) | exact HK.out)) hk (.inl rfl)); have n3_ := aM (hb); have n4_ := aM (hi); clear BK403; clear BK404; clear HK; clear HB; clear HI0; have BK403 := n0_; have BK404 := n1_; have HK := n2_; have HB := n3_; have HI0 := n4_; clear n0_ n1_ n2_ n3_ n4_; (try clear hb); (try clear hb2); (try clear hk); (try clear hi)))
 (try simp only [Act.put, zSA, zSB, zSC])
 go_cut [4] (fun v4 wc => ∃ (kq : Nat) (x4_3 : Int), v4 = .int .i64 x4_3 ∧ Aside0 (spec_l1Cur_treap.j0 kq x4_3 s0_0 t409 t410 = some (r1, r2, r3)) ∧ Aside0 (kq ≤ k) ∧ Aside0 (wc.heap[gb403]? = some (.cells #[(.slice none 0 0)] 29 (0, 0))) ∧ Aside0 (wc.heap[gb404]? = some (.cells #[(.slice none 0 0)] 29 (0, 0))) ∧ Aside0 (IsS89 w0 wc g s0_0 t409 t410) ∧ Aside0 (KeepBut w wc g none) ∧ Aside0 (Below w0.heap.size w0 wc))
 case first =>
  have H := HC4.out
  clear HC4
  by_cases c12 : t408 = true
  ·
   subst c12
   have H1 : (spec_l1Cur_treap.j0 k 70 s0_0 t409 t410) = some (r1, r2, r3) := by rw [if_pos rfl] at H; exact H
   clear H
   have H := H1
   clear H1
   have H' := aM H
   clear H
   go_wp2
   go_meet
   case rel => exact ⟨_, (70), (by first | rfl | (simp; done) | (simp [*]; done)), H', ⟨by first | omega | exact Nat.le_refl _⟩, ⟨gK BK403.out⟩, ⟨gK BK404.out⟩, ⟨by repeat (first | (with_reducible first | exact HI0.out | apply IsS89.alloc | apply IsS89.drewN | apply IsS89.drew | apply IsS89.set_1 | apply IsS89.set_2 | refine IsS89.far ?_ NB0_403.out _ | refine IsS89.far ?_ NB0_404.out _) | exact HI0.out)⟩, ⟨by repeat (first | (with_reducible first | exact HK.out | apply KeepBut.set_ | apply keep_drewN | apply keep_drew | apply keep_alloc | refine keep_far ?_ GW403.out _ | refine keep_far ?_ GW404.out _) | exact HK.out)⟩, ⟨by repeat (first | (with_reducible first | exact HB.out | apply below_alloc | apply pw_below_drewN | apply below_drew1 | refine below_set ?_ (IsS89.ge HI0.out) | refine below_set ?_ GE403.out | refine below_set ?_ GE404.out) | exact HB.out)⟩⟩
  ·
   replace c12 := Bool.eq_false_iff.mpr c12
   subst c12
   have H1 : (spec_l1Cur_treap.j0 k t405 s0_0 t409 t410) = some (r1, r2, r3) := by rw [if_neg (show ¬ (false = true) by decide)] at H; exact H
   clear H
   have H := H1
   clear H1
   have H' := aM H
   clear H
   go_wp2
   go_meet
   case rel => exact ⟨_, (t405), (by first | rfl | (simp; done) | (simp [*]; done)), H', ⟨by first | omega | exact Nat.le_refl _⟩, ⟨gK BK403.out⟩, ⟨gK BK404.out⟩, ⟨by repeat (first | (with_reducible first | exact HI0.out | apply IsS89.alloc | apply IsS89.drewN | apply IsS89.drew | apply IsS89.set_1 | apply IsS89.set_2 | refine IsS89.far ?_ NB0_403.out _ | refine IsS89.far ?_ NB0_404.out _) | exact HI0.out)⟩, ⟨by repeat (first | (with_reducible first | exact HK.out | apply KeepBut.set_ | apply keep_drewN | apply keep_drew | apply keep_alloc | refine keep_far ?_ GW403.out _ | refine keep_far ?_ GW404.out _) | exact HK.out)⟩, ⟨by repeat (first | (with_reducible first | exact HB.out | apply below_alloc | apply pw_below_drewN | apply below_drew1 | refine below_set ?_ (IsS89.ge HI0.out) | refine below_set ?_ GE403.out | refine below_set ?_ GE404.out) | exact HB.out)⟩⟩
 case rest =>
  clear HC4
  try clear c1
  try clear p2
  try clear c6
  try clear c7
  try clear c8
  try clear c12
  try clear hcz9_0
  try clear hfz9_0
  obtain ⟨kq, x4_3, rfl, HA, HJ3, BK403, BK404, HI0, HK, HB⟩ := hcut
  cases kq with
  | zero => exact absurd HA.out (by simp [spec_l1Cur_treap.j0])
  | succ kj3 =>
   have H := HA.out
   clear HA
   simp only [spec_l1Cur_treap.j0] at H
   have H' := aM H
   clear H
   go_wp2
   go_loopg [4] kj3 (fun kq v4 w' => ∃ (x4_2 : Int) (x1001_2 : Int) (x1002_2 : Int) (x405000_2 : List (S71)) (u405000 : Value), v4 = .int .i64 x4_2 ∧ Aside0 (spec_l1Cur_treap.l0 kq x4_2 s0_0 x1001_2 x1002_2 x405000_2 = some (r1, r2, r3)) ∧ Aside0 (kq ≤ kj3) ∧ Aside0 (Kd.R k71 71 w' w.heap.size (fun _ => True) u405000 x405000_2) ∧ Aside0 (w'.heap[gb403]? = some (.cells #[(.slice none 0 0)] 29 (0, 0))) ∧ Aside0 (w'.heap[gb404]? = some (.cells #[u405000] 29 (0, 0))) ∧ Aside0 (IsS89 w0 w' g s0_0 x1001_2 x1002_2) ∧ Aside0 (KeepBut w w' g none) ∧ Aside0 (Below w0.heap.size w0 w'))
   case atStart => exact ⟨(x4_3), (t409), (t410), (([] : List (S71))), (.slice none 0 0), (by first | rfl | (simp; done) | (simp [*]; done)), H', ⟨Nat.le_refl _⟩, ⟨by first | exact Kd.R_nil _ _ _ _ _ | exact Kd.N_nil _ _ _ _ _ | exact Kd.V_nil _ _ _ _ _ | exact Kd.Q_nil _ _ _ _ _ | exact Kd.S_nil _ _ _ _ _⟩, ⟨gK BK403.out⟩, ⟨gK BK404.out⟩, ⟨by repeat (first | (with_reducible first | exact HI0.out | apply IsS89.alloc | apply IsS89.drewN | apply IsS89.drew | apply IsS89.set_1 | apply IsS89.set_2 | refine IsS89.far ?_ NB0_403.out _ | refine IsS89.far ?_ NB0_404.out _) | exact HI0.out)⟩, ⟨by repeat (first | (with_reducible first | exact HK.out | apply KeepBut.set_ | apply keep_drewN | apply keep_drew | apply keep_alloc | refine keep_far ?_ GW403.out _ | refine keep_far ?_ GW404.out _) | exact HK.out)⟩, ⟨by repeat (first | (with_reducible first | exact HB.out | apply below_alloc | apply pw_below_drewN | apply below_drew1 | refine below_set ?_ (IsS89.ge HI0.out) | refine below_set ?_ GE403.out | refine below_set ?_ GE404.out) | exact HB.out)⟩⟩
   case round =>
    clear H'
    try clear c1
    try clear p2
    try clear c6
    try clear c7
    try clear c8
    try clear c12
    try clear hcz9_0
    try clear hfz9_0
    try clear p2
    obtain ⟨x4_2, x1001_2, x1002_2, x405000_2, u405000, rfl, HA, HK2, HO_405000, BK403, BK404, HI0, HK, HB⟩ := hrel
    cases gk with
    | zero => exact absurd HA.out (by simp [spec_l1Cur_treap.l0])
    | succ k2 =>
     have H := HA.out
     clear HA
     simp only [spec_l1Cur_treap.l0] at H
     by_cases c13 : x4_2 > 0
     ·
      rw [if_pos c13] at H
      have c13b0 : decide (0 < x4_2) = true := decide_eq_true c13
      clear c13
      replace H := Option.bind_eq_some_iff.mp H
      obtain ⟨⟨t412, t413, t414⟩, A140, H⟩ := H
      replace H : (if x4_2 > 20 then ((spec_l1Cur_pick.f s0_0 t413 t414 200).bind fun bt415 => ((spec_l1Num.f k2 bt415.1).bind fun t418 => (if 1 + t418.size ≤ 9223372036854775807 then (spec_l1Cur_treap.j2 k2 x4_2 ((⟨#[110]⟩ : ByteArray) ++ t418) s0_0 bt415.2.1 bt415.2.2 x405000_2) else (none)))) else (spec_l1Cur_treap.j2 k2 x4_2 t412 s0_0 t413 t414 x405000_2)) = some (r1, r2, r3) := H
      have A14 := aM A140
      clear A140
      have HC15 := aM H
      clear H
      have hnb16 := NB404_403.out
      have hnc16 := NB403_404.out
      have hnb17 := NB404_0.out
      have hnc17 := NB0_404.out
      have hcz18_0 : wr.cell? ⟨gb404, 0, none⟩ = some (u405000) := (blk_cell BK404.out 0).trans rfl
      have hfz18_0 := blk_frozen BK404.out 0
      go_upto_if 22 with (first | ((with_reducible refine gate_dst (N := 5) rfl ?_); refine box_event ?hg (N := 5) ?hd (cs := #[.slice none 0 0]) (t := 29) ?hr ?_; (case hd => rfl); (case hg => rfl); (case hr => first | (go_simp; done) | (go_simp; rfl)); intro gb411 hg w19 hbox hb; have n0_ := aM (Kd.R_below (gR HO_405000.out) hb); have n1_ := aM (blk_below (g := gb403) (o := .cells #[.slice none 0 0] 29 (0, 0)) (gK BK403.out) hb); have n2_ := aM (blk_below (g := gb404) (o := .cells #[u405000] 29 (0, 0)) (gK BK404.out) hb); have n3_ := aM (IsS89.below (by repeat (first | (with_reducible first | exact HI0.out | apply IsS89.alloc | apply IsS89.drewN | apply IsS89.drew | apply IsS89.set_1 | apply IsS89.set_2 | refine IsS89.far ?_ NB0_403.out _ | refine IsS89.far ?_ NB0_404.out _) | exact HI0.out)) hb); have n4_ := aM (KeepBut.trans (by repeat (first | (with_reducible first | exact HK.out | apply KeepBut.set_ | apply keep_drewN | apply keep_drew | apply keep_alloc | refine keep_far ?_ GW403.out _ | refine keep_far ?_ GW404.out _) | exact HK.out)) (KeepBut.of_below hb g none) (.inl rfl)); have n5_ := aM (below_step (gB HB.out) hb); have n6_ := aM (hbox); have n7_ := aM ((by rw [hg]; exact (keep_size (w := w) (g := g) (row := none) (by repeat (first | (with_reducible first | exact HK.out | apply KeepBut.set_ | apply keep_drewN | apply keep_drew | apply keep_alloc | refine keep_far ?_ GW403.out _ | refine keep_far ?_ GW404.out _) | exact HK.out))) : w.heap.size ≤ gb411)); have n8_ := aM ((Nat.le_trans HW0.out (by rw [hg]; exact (keep_size (w := w) (g := g) (row := none) (by repeat (first | (with_reducible first | exact HK.out | apply KeepBut.set_ | apply keep_drewN | apply keep_drew | apply keep_alloc | refine keep_far ?_ GW403.out _ | refine keep_far ?_ GW404.out _) | exact HK.out))) : w.heap.size ≤ gb411) : w0.heap.size ≤ gb411)); have n9_ := aM ((by rw [hg]; exact Nat.ne_of_lt (blk_lt (g := gb403) (o := .cells #[.slice none 0 0] 29 (0, 0)) (gK BK403.out)) : gb403 ≠ gb411)); have n10_ := aM ((by rw [hg]; exact Nat.ne_of_gt (blk_lt (g := gb403) (o := .cells #[.slice none 0 0] 29 (0, 0)) (gK BK403.out)) : gb411 ≠ gb403)); have n11_ := aM ((by rw [hg]; exact Nat.ne_of_lt (blk_lt (g := gb404) (o := .cells #[u405000] 29 (0, 0)) (gK BK404.out)) : gb404 ≠ gb411)); have n12_ := aM ((by rw [hg]; exact Nat.ne_of_gt (blk_lt (g := gb404) (o := .cells #[u405000] 29 (0, 0)) (gK BK404.out)) : gb411 ≠ gb404)); have n13_ := aM ((by rw [hg]; exact Nat.ne_of_lt (IsS89.lt (show IsS89 w0 _ g s0_0 x1001_2 x1002_2 from by repeat (first | (with_reducible first | exact HI0.out | apply IsS89.alloc | apply IsS89.drewN | apply IsS89.drew | apply IsS89.set_1 | apply IsS89.set_2 | refine IsS89.far ?_ NB0_403.out _ | refine IsS89.far ?_ NB0_404.out _) | exact HI0.out))) : g ≠ gb411)); have n14_ := aM ((by rw [hg]; exact Nat.ne_of_gt (IsS89.lt (show IsS89 w0 _ g s0_0 x1001_2 x1002_2 from by repeat (first | (with_reducible first | exact HI0.out | apply IsS89.alloc | apply IsS89.drewN | apply IsS89.drew | apply IsS89.set_1 | apply IsS89.set_2 | refine IsS89.far ?_ NB0_403.out _ | refine IsS89.far ?_ NB0_404.out _) | exact HI0.out))) : gb411 ≠ g)); clear HO_405000; clear BK403; clear BK404; clear HI0; clear HK; clear HB; have HO_405000 := n0_; have BK403 := n1_; have BK404 := n2_; have HI0 := n3_; have HK := n4_; have HB := n5_; have BK411 := n6_; have GW411 := n7_; have GE411 := n8_; have NB403_411 := n9_; have NB411_403 := n10_; have NB404_411 := n11_; have NB411_404 := n12_; have NB0_411 := n13_; have NB411_0 := n14_; clear n0_ n1_ n2_ n3_ n4_ n5_ n6_ n7_ n8_ n9_ n10_ n11_ n12_ n13_ n14_; clear hb hbox hg; obtain ⟨Ao20, co20, eo20⟩ := Kd.R_slice HO_405000.out; subst eo20; have hnb21 := NB411_403.out; have hnc21 := NB403_411.out; have hnb22 := NB411_404.out; have hnc22 := NB404_411.out; have hnb23 := NB411_0.out; have hnc23 := NB0_411.out; have hcz24_0 : w19.cell? ⟨gb411, 0, none⟩ = some (.slice none 0 0) := (blk_cell BK411.out 0).trans rfl; have hfz24_0 := blk_frozen BK411.out 0) | ((with_reducible refine gate_callee (f := 65) rfl ?_); refine goesL_ (some 20) rfl rfl Try.func65 (by kernel_rfl) rfl #[.pointer (some ⟨g, 0, none⟩)] rfl (by (try simp only [List.map_toArray, List.map_cons, List.map_nil]); first | done | rfl | (simp only [List.length_drop, List.length_take]; rfl)) ?_; (with_reducible refine (spec_l1Cur_treapKey.calls g s0_0 x1001_2 x1002_2 t412 t413 t414 w0 _ ?side1 ?side2 A14.out).mono ?_); (case side1 => repeat (first | (with_reducible first | exact HI0.out | apply IsS89.alloc | apply IsS89.drewN | apply IsS89.drew | apply IsS89.set_1 | apply IsS89.set_2 | refine IsS89.far ?_ NB0_403.out _ | refine IsS89.far ?_ NB0_404.out _ | refine IsS89.far ?_ NB0_411.out _) | exact HI0.out)); (case side2 => repeat (first | (with_reducible first | exact HB.out | apply below_alloc | apply pw_below_drewN | apply below_drew1 | refine below_set ?_ (IsS89.ge HI0.out) | refine below_set ?_ GE403.out | refine below_set ?_ GE404.out | refine below_set ?_ GE411.out) | exact HB.out)); rintro e w25 ⟨rfl, hi, hb, hk⟩; refine ⟨_, rfl, ?_⟩; have n0_ := aM (Kd.R_mono (Kd.R_keep (IsS89.apart (show IsS89 w0 _ g s0_0 x1001_2 x1002_2 from by repeat (first | (with_reducible first | exact HI0.out | apply IsS89.alloc | apply IsS89.drewN | apply IsS89.drew | apply IsS89.set_1 | apply IsS89.set_2 | refine IsS89.far ?_ NB0_403.out _ | refine IsS89.far ?_ NB0_404.out _ | refine IsS89.far ?_ NB0_411.out _) | exact HI0.out)) (by (with_reducible repeat (first | apply Kd.R_alloc | apply Kd.R_drewN | apply Kd.R_drew)); exact (Kd.R_mono (Kd.R_far (p := ⟨gb411, 0, none⟩) (Kd.R_types HO_405000.out BK411.out (by decide)) (fun _ hk => hk.2) (.slice Ao20 x405000_2.length co20)) (fun _ h_ => h_.1))) (by decide)) hk (fun _ h => h.2)) (fun _ h => h.1)); have n1_ := aM (KeepBut.blk hk (g' := gb403) (o := .cells #[.slice none 0 0] 29 (0, 0)) (by (with_reducible repeat (first | refine blk_drewN ?_ _ | refine blk_drew ?_ | refine blk_alloc ?_ _)); refine blk_far ?_ NB403_411.out _; (with_reducible repeat (first | refine blk_drewN ?_ _ | refine blk_drew ?_ | refine blk_alloc ?_ _)); exact BK403.out) NB403_0.out (by simp)); have n2_ := aM (KeepBut.blk hk (g' := gb404) (o := .cells #[.slice Ao20 x405000_2.length co20] 29 (0, 0)) (by (with_reducible repeat (first | refine blk_drewN ?_ _ | refine blk_drew ?_ | refine blk_alloc ?_ _)); refine blk_far ?_ NB404_411.out _; (with_reducible repeat (first | refine blk_drewN ?_ _ | refine blk_drew ?_ | refine blk_alloc ?_ _)); exact BK404.out) NB404_0.out (by simp)); have n3_ := aM (KeepBut.blk hk (g' := gb411) (o := .cells #[.slice Ao20 x405000_2.length co20] 29 (0, 0)) (by (with_reducible repeat (first | refine blk_drewN ?_ _ | refine blk_drew ?_ | refine blk_alloc ?_ _)); refine blk_put (cs := #[.slice none 0 0]) ?_ 0 _ rfl; (with_reducible repeat (first | refine blk_drewN ?_ _ | refine blk_drew ?_ | refine blk_alloc ?_ _)); exact BK411.out) NB411_0.out (by simp)); have n4_ := aM (KeepBut.trans (by repeat (first | (with_reducible first | exact HK.out | apply KeepBut.set_ | apply keep_drewN | apply keep_drew | apply keep_alloc | refine keep_far ?_ GW403.out _ | refine keep_far ?_ GW404.out _ | refine keep_far ?_ GW411.out _) | exact HK.out)) hk (.inl rfl)); have n5_ := aM (hb); have n6_ := aM (hi); clear HO_405000; clear BK403; clear BK404; clear BK411; clear HK; clear HB; clear HI0; have HO_405000 := n0_; have BK403 := n1_; have BK404 := n2_; have BK411 := n3_; have HK := n4_; have HB := n5_; have HI0 := n6_; clear n0_ n1_ n2_ n3_ n4_ n5_ n6_; (try clear hb); (try clear hb2); (try clear hk); (try clear hi)))
      (try simp only [Act.put, zSA, zSB, zSC])
      go_cut [7] (fun v7 wc => ∃ (kq : Nat) (x7_14 : ByteArray) (x1001_14 : Int) (x1002_14 : Int), v7 = .string x7_14 ∧ Aside0 (spec_l1Cur_treap.j2 kq x4_2 x7_14 s0_0 x1001_14 x1002_14 x405000_2 = some (r1, r2, r3)) ∧ Aside0 (kq ≤ k2) ∧ Aside0 (Kd.R k71 71 wc w.heap.size (fun _ => True) (.slice Ao20 x405000_2.length co20) x405000_2) ∧ Aside0 (Kd.R k71 71 wc w.heap.size (fun _ => True) (.slice Ao20 x405000_2.length co20) x405000_2) ∧ Aside0 (wc.heap[gb403]? = some (.cells #[(.slice none 0 0)] 29 (0, 0))) ∧ Aside0 (wc.heap[gb404]? = some (.cells #[(.slice Ao20 x405000_2.length co20)] 29 (0, 0))) ∧ Aside0 (wc.heap[gb411]? = some (.cells #[(.slice Ao20 x405000_2.length co20)] 29 (0, 0))) ∧ Aside0 (IsS89 w0 wc g s0_0 x1001_14 x1002_14) ∧ Aside0 (KeepBut w wc g none) ∧ Aside0 (Below w0.heap.size w0 wc))
      case first =>
       have H := HC15.out
       clear HC15
       by_cases c26 : x4_2 > 20
       ·
        rw [if_pos c26] at H
        have c26b0 : decide (20 < x4_2) = true := decide_eq_true c26
        clear c26
        (first | rw [c26b0] | (simp only [i64_w, i32_w]; rw [c26b0]) | skip)
        replace H := Option.bind_eq_some_iff.mp H
        obtain ⟨⟨t415, t416, t417⟩, A270, H⟩ := H
        replace H : ((spec_l1Num.f k2 t415).bind fun t418 => (if 1 + t418.size ≤ 9223372036854775807 then (spec_l1Cur_treap.j2 k2 x4_2 ((⟨#[110]⟩ : ByteArray) ++ t418) s0_0 t416 t417 x405000_2) else (none))) = some (r1, r2, r3) := H
        have A27 := aM A270
        clear A270
        replace H := Option.bind_eq_some_iff.mp H
        obtain ⟨t418, A280, H⟩ := H
        replace H : (if 1 + t418.size ≤ 9223372036854775807 then (spec_l1Cur_treap.j2 k2 x4_2 ((⟨#[110]⟩ : ByteArray) ++ t418) s0_0 t416 t417 x405000_2) else (none)) = some (r1, r2, r3) := H
        have A28 := aM A280
        clear A280
        by_cases c29 : 1 + t418.size ≤ 9223372036854775807
        ·
         rw [if_pos c29] at H
         have c29b0 := eq_true c29
         have c29b1 : decide (1 + t418.size ≤ 9223372036854775807) = true := decide_eq_true c29
         try have c29b2 : (9223372036854775807 < 1 + t418.size) = False := eq_false (Nat.not_lt.2 c29)
         try have c29b3 := c29b2
         try simp only [ByteArray.size_append] at c29b3
         have H' := aM H
         clear H
         go_wp2_with (first | ((with_reducible refine gate_callee (f := 83) rfl ?_); refine goesL_ (some 24) rfl rfl Try.func83 (by kernel_rfl) rfl #[.pointer (some ⟨g, 0, none⟩), .int .i64 200] rfl (by (try simp only [List.map_toArray, List.map_cons, List.map_nil]); first | done | rfl | (simp only [List.length_drop, List.length_take]; rfl)) ?_; (with_reducible refine (spec_l1Cur_pick.calls g s0_0 t413 t414 200 t415 t416 t417 w0 _ ?side1 ?side2 A27.out).mono ?_); (case side1 => repeat (first | (with_reducible first | exact HI0.out | apply IsS89.alloc | apply IsS89.drewN | apply IsS89.drew | apply IsS89.set_1 | apply IsS89.set_2 | refine IsS89.far ?_ NB0_403.out _ | refine IsS89.far ?_ NB0_404.out _ | refine IsS89.far ?_ NB0_411.out _) | exact HI0.out)); (case side2 => repeat (first | (with_reducible first | exact HB.out | apply below_alloc | apply pw_below_drewN | apply below_drew1 | refine below_set ?_ (IsS89.ge HI0.out) | refine below_set ?_ GE403.out | refine below_set ?_ GE404.out | refine below_set ?_ GE411.out) | exact HB.out)); rintro e w30 ⟨rfl, hi, hb, hk⟩; refine ⟨_, rfl, ?_⟩; have n0_ := aM (Kd.R_mono (Kd.R_keep (IsS89.apart (show IsS89 w0 _ g s0_0 t413 t414 from by repeat (first | (with_reducible first | exact HI0.out | apply IsS89.alloc | apply IsS89.drewN | apply IsS89.drew | apply IsS89.set_1 | apply IsS89.set_2 | refine IsS89.far ?_ NB0_403.out _ | refine IsS89.far ?_ NB0_404.out _ | refine IsS89.far ?_ NB0_411.out _) | exact HI0.out)) (gR HO_405000.out) (by decide)) hk (fun _ h => h.2)) (fun _ h => h.1)); have n1_ := aM (KeepBut.blk hk (g' := gb403) (o := .cells #[.slice none 0 0] 29 (0, 0)) (gK BK403.out) NB403_0.out (by simp)); have n2_ := aM (KeepBut.blk hk (g' := gb404) (o := .cells #[.slice Ao20 x405000_2.length co20] 29 (0, 0)) (gK BK404.out) NB404_0.out (by simp)); have n3_ := aM (KeepBut.blk hk (g' := gb411) (o := .cells #[.slice Ao20 x405000_2.length co20] 29 (0, 0)) (gK BK411.out) NB411_0.out (by simp)); have n4_ := aM (KeepBut.trans (by repeat (first | (with_reducible first | exact HK.out | apply KeepBut.set_ | apply keep_drewN | apply keep_drew | apply keep_alloc | refine keep_far ?_ GW403.out _ | refine keep_far ?_ GW404.out _ | refine keep_far ?_ GW411.out _) | exact HK.out)) hk (.inl rfl)); have n5_ := aM (hb); have n6_ := aM (hi); clear HO_405000; clear BK403; clear BK404; clear BK411; clear HK; clear HB; clear HI0; have HO_405000 := n0_; have BK403 := n1_; have BK404 := n2_; have BK411 := n3_; have HK := n4_; have HB := n5_; have HI0 := n6_; clear n0_ n1_ n2_ n3_ n4_ n5_ n6_; (try clear hb); (try clear hb2); (try clear hk); (try clear hi)) | ((with_reducible refine gate_callee (f := 84) rfl ?_); refine goesL_ (some 25) rfl rfl Try.func84 (by kernel_rfl) rfl #[.int .i64 t415] rfl (by (try simp only [List.map_toArray, List.map_cons, List.map_nil]); first | done | rfl | (simp only [List.length_drop, List.length_take]; rfl)) ?_; (with_reducible refine (spec_l1Num.calls k2 t415 t418 _ A28.out).mono ?_); rintro e w31 ⟨rfl, hb⟩; refine ⟨_, rfl, ?_⟩; have n0_ := aM (Kd.R_below (gR HO_405000.out) hb); have n1_ := aM (blk_below (g := gb403) (o := .cells #[.slice none 0 0] 29 (0, 0)) (gK BK403.out) hb); have n2_ := aM (blk_below (g := gb404) (o := .cells #[.slice Ao20 x405000_2.length co20] 29 (0, 0)) (gK BK404.out) hb); have n3_ := aM (IsS89.below (by repeat (first | (with_reducible first | exact HI0.out | apply IsS89.alloc | apply IsS89.drewN | apply IsS89.drew | apply IsS89.set_1 | apply IsS89.set_2 | refine IsS89.far ?_ NB0_403.out _ | refine IsS89.far ?_ NB0_404.out _ | refine IsS89.far ?_ NB0_411.out _) | exact HI0.out)) hb); have n4_ := aM (blk_below (g := gb411) (o := .cells #[.slice Ao20 x405000_2.length co20] 29 (0, 0)) (gK BK411.out) hb); have n5_ := aM (KeepBut.trans (by repeat (first | (with_reducible first | exact HK.out | apply KeepBut.set_ | apply keep_drewN | apply keep_drew | apply keep_alloc | refine keep_far ?_ GW403.out _ | refine keep_far ?_ GW404.out _ | refine keep_far ?_ GW411.out _) | exact HK.out)) (KeepBut.of_below hb g none) (.inl rfl)); have n6_ := aM (below_step (gB HB.out) hb); clear HO_405000; clear BK403; clear BK404; clear HI0; clear BK411; clear HK; clear HB; have HO_405000 := n0_; have BK403 := n1_; have BK404 := n2_; have HI0 := n3_; have BK411 := n4_; have HK := n5_; have HB := n6_; clear n0_ n1_ n2_ n3_ n4_ n5_ n6_; (try clear hb); (try clear hb2); (try clear hk); (try clear hi)))
         go_meet
         case rel => exact ⟨_, ((⟨#[110]⟩ : ByteArray) ++ t418), (t416), (t417), (by first | rfl | (simp; done) | (simp [*]; done)), H', ⟨by have := HJ3.out; have := HK2.out; first | omega | exact Nat.le_refl _⟩, ⟨gR HO_405000.out⟩, ⟨gR HO_405000.out⟩, ⟨gK BK403.out⟩, ⟨gK BK404.out⟩, ⟨gK BK411.out⟩, ⟨by repeat (first | (with_reducible first | exact HI0.out | apply IsS89.alloc | apply IsS89.drewN | apply IsS89.drew | apply IsS89.set_1 | apply IsS89.set_2 | refine IsS89.far ?_ NB0_403.out _ | refine IsS89.far ?_ NB0_404.out _ | refine IsS89.far ?_ NB0_411.out _) | exact HI0.out)⟩, ⟨by repeat (first | (with_reducible first | exact HK.out | apply KeepBut.set_ | apply keep_drewN | apply keep_drew | apply keep_alloc | refine keep_far ?_ GW403.out _ | refine keep_far ?_ GW404.out _ | refine keep_far ?_ GW411.out _) | exact HK.out)⟩, ⟨by repeat (first | (with_reducible first | exact HB.out | apply below_alloc | apply pw_below_drewN | apply below_drew1 | refine below_set ?_ (IsS89.ge HI0.out) | refine below_set ?_ GE403.out | refine below_set ?_ GE404.out | refine below_set ?_ GE411.out) | exact HB.out)⟩⟩
        ·
         rw [if_neg c29] at H
         exact absurd H (by simp)
       ·
        rw [if_neg c26] at H
        have c26b0 : decide (20 < x4_2) = false := decide_eq_false c26
        clear c26
        (first | rw [c26b0] | (simp only [i64_w, i32_w]; rw [c26b0]) | skip)
        have H' := aM H
        clear H
        go_wp2
        go_meet
        case rel => exact ⟨_, (t412), (t413), (t414), (by first | rfl | (simp; done) | (simp [*]; done)), H', ⟨by have := HJ3.out; have := HK2.out; first | omega | exact Nat.le_refl _⟩, ⟨gR HO_405000.out⟩, ⟨gR HO_405000.out⟩, ⟨gK BK403.out⟩, ⟨gK BK404.out⟩, ⟨gK BK411.out⟩, ⟨by repeat (first | (with_reducible first | exact HI0.out | apply IsS89.alloc | apply IsS89.drewN | apply IsS89.drew | apply IsS89.set_1 | apply IsS89.set_2 | refine IsS89.far ?_ NB0_403.out _ | refine IsS89.far ?_ NB0_404.out _ | refine IsS89.far ?_ NB0_411.out _) | exact HI0.out)⟩, ⟨by repeat (first | (with_reducible first | exact HK.out | apply KeepBut.set_ | apply keep_drewN | apply keep_drew | apply keep_alloc | refine keep_far ?_ GW403.out _ | refine keep_far ?_ GW404.out _ | refine keep_far ?_ GW411.out _) | exact HK.out)⟩, ⟨by repeat (first | (with_reducible first | exact HB.out | apply below_alloc | apply pw_below_drewN | apply below_drew1 | refine below_set ?_ (IsS89.ge HI0.out) | refine below_set ?_ GE403.out | refine below_set ?_ GE404.out | refine below_set ?_ GE411.out) | exact HB.out)⟩⟩
      case rest =>
       clear HC15
       try clear c1
       try clear c2
       try clear p2
       try clear c6
       try clear c7
       try clear c8
       try clear c12
       try clear c13
       try clear c13b0
       try clear c16
       try clear c17
       try clear c21
       try clear c22
       try clear c23
       try clear c26
       try clear c26b0
       try clear c29
       try clear c29b0
       try clear c29b1
       try clear c29b2
       try clear hcz18_0
       try clear hcz24_0
       try clear hcz9_0
       try clear hfz18_0
       try clear hfz24_0
       try clear hfz9_0
       try clear p2
       obtain ⟨kq, x7_14, x1001_14, x1002_14, rfl, HA, HJ14, HO_405000, HO_412000, BK403, BK404, BK411, HI0, HK, HB⟩ := hcut
       cases kq with
       | zero => exact absurd HA.out (by simp [spec_l1Cur_treap.j2])
       | succ kj14 =>
        have H := HA.out
        clear HA
        simp only [spec_l1Cur_treap.j2] at H
        replace H := Option.bind_eq_some_iff.mp H
        obtain ⟨⟨t419, t420, t421⟩, A320, H⟩ := H
        replace H : (if t419 = true then ((spec_CutKey.f kj14 x405000_2 x7_14).bind fun bt422 => (if bt422.2 = true then (spec_l1Cur_treap.l0 kj14 (wrap64 (x4_2 - 1)) s0_0 t420 t421 bt422.1) else (spec_l1Cur_treap.l0 kj14 (wrap64 (x4_2 - 1)) s0_0 t420 t421 x405000_2))) else ((spec_l1Cur_of.f s0_0 t420 t421 (([(⟨#[]⟩ : ByteArray), (⟨#[118]⟩ : ByteArray), (⟨#[118, 97, 108, 117, 101]⟩ : ByteArray)] : List ByteArray))).bind fun bt429 => ((spec_PutKey.f kj14 x405000_2 x7_14 bt429.1).bind fun bt432 => (if bt432.2 = true then (spec_l1Cur_treap.l0 kj14 (wrap64 (x4_2 - 1)) s0_0 bt429.2.1 bt429.2.2 bt432.1) else (spec_l1Cur_treap.l0 kj14 (wrap64 (x4_2 - 1)) s0_0 bt429.2.1 bt429.2.2 x405000_2))))) = some (r1, r2, r3) := H
        have A32 := aM A320
        clear A320
        by_cases c33 : t419 = true
        ·
         subst c33
         have H1 : ((spec_CutKey.f kj14 x405000_2 x7_14).bind fun bt422 => (if bt422.2 = true then (spec_l1Cur_treap.l0 kj14 (wrap64 (x4_2 - 1)) s0_0 t420 t421 bt422.1) else (spec_l1Cur_treap.l0 kj14 (wrap64 (x4_2 - 1)) s0_0 t420 t421 x405000_2))) = some (r1, r2, r3) := by rw [if_pos rfl] at H; exact H
         clear H
         have H := H1
         clear H1
         replace H := Option.bind_eq_some_iff.mp H
         obtain ⟨⟨t422, t425⟩, A340, H⟩ := H
         replace H : (if t425 = true then (spec_l1Cur_treap.l0 kj14 (wrap64 (x4_2 - 1)) s0_0 t420 t421 t422) else (spec_l1Cur_treap.l0 kj14 (wrap64 (x4_2 - 1)) s0_0 t420 t421 x405000_2)) = some (r1, r2, r3) := H
         have A34 := aM A340
         clear A340
         by_cases c35 : t425 = true
         ·
          subst c35
          have H1 : (spec_l1Cur_treap.l0 kj14 (wrap64 (x4_2 - 1)) s0_0 t420 t421 t422) = some (r1, r2, r3) := by rw [if_pos rfl] at H; exact H
          clear H
          have H := H1
          clear H1
          have H' := aM H
          clear H
          go_wp2_with (first | ((with_reducible refine gate_callee (f := 66) rfl ?_); refine goesL_ (some 28) rfl rfl Try.func66 (by kernel_rfl) rfl #[.pointer (some ⟨g, 0, none⟩), .int .i64 5] rfl (by (try simp only [List.map_toArray, List.map_cons, List.map_nil]); first | done | rfl | (simp only [List.length_drop, List.length_take]; rfl)) ?_; (with_reducible refine (spec_l1Cur_one.calls g s0_0 x1001_14 x1002_14 5 true t420 t421 w0 _ ?side1 ?side2 A32.out).mono ?_); (case side1 => repeat (first | (with_reducible first | exact HI0.out | apply IsS89.alloc | apply IsS89.drewN | apply IsS89.drew | apply IsS89.set_1 | apply IsS89.set_2 | refine IsS89.far ?_ NB0_403.out _ | refine IsS89.far ?_ NB0_404.out _ | refine IsS89.far ?_ NB0_411.out _) | exact HI0.out)); (case side2 => repeat (first | (with_reducible first | exact HB.out | apply below_alloc | apply pw_below_drewN | apply below_drew1 | refine below_set ?_ (IsS89.ge HI0.out) | refine below_set ?_ GE403.out | refine below_set ?_ GE404.out | refine below_set ?_ GE411.out) | exact HB.out)); rintro e w36 ⟨rfl, hi, hb, hk⟩; refine ⟨_, rfl, ?_⟩; have n0_ := aM (Kd.R_mono (Kd.R_keep (IsS89.apart (show IsS89 w0 _ g s0_0 x1001_14 x1002_14 from by repeat (first | (with_reducible first | exact HI0.out | apply IsS89.alloc | apply IsS89.drewN | apply IsS89.drew | apply IsS89.set_1 | apply IsS89.set_2 | refine IsS89.far ?_ NB0_403.out _ | refine IsS89.far ?_ NB0_404.out _ | refine IsS89.far ?_ NB0_411.out _) | exact HI0.out)) (gR HO_405000.out) (by decide)) hk (fun _ h => h.2)) (fun _ h => h.1)); have n1_ := aM (Kd.R_mono (Kd.R_keep (IsS89.apart (show IsS89 w0 _ g s0_0 x1001_14 x1002_14 from by repeat (first | (with_reducible first | exact HI0.out | apply IsS89.alloc | apply IsS89.drewN | apply IsS89.drew | apply IsS89.set_1 | apply IsS89.set_2 | refine IsS89.far ?_ NB0_403.out _ | refine IsS89.far ?_ NB0_404.out _ | refine IsS89.far ?_ NB0_411.out _) | exact HI0.out)) (gR HO_412000.out) (by decide)) hk (fun _ h => h.2)) (fun _ h => h.1)); have n2_ := aM (KeepBut.blk hk (g' := gb403) (o := .cells #[.slice none 0 0] 29 (0, 0)) (gK BK403.out) NB403_0.out (by simp)); have n3_ := aM (KeepBut.blk hk (g' := gb404) (o := .cells #[.slice Ao20 x405000_2.length co20] 29 (0, 0)) (gK BK404.out) NB404_0.out (by simp)); have n4_ := aM (KeepBut.blk hk (g' := gb411) (o := .cells #[.slice Ao20 x405000_2.length co20] 29 (0, 0)) (gK BK411.out) NB411_0.out (by simp)); have n5_ := aM (KeepBut.trans (by repeat (first | (with_reducible first | exact HK.out | apply KeepBut.set_ | apply keep_drewN | apply keep_drew | apply keep_alloc | refine keep_far ?_ GW403.out _ | refine keep_far ?_ GW404.out _ | refine keep_far ?_ GW411.out _) | exact HK.out)) hk (.inl rfl)); have n6_ := aM (hb); have n7_ := aM (hi); clear HO_405000; clear HO_412000; clear BK403; clear BK404; clear BK411; clear HK; clear HB; clear HI0; have HO_405000 := n0_; have HO_412000 := n1_; have BK403 := n2_; have BK404 := n3_; have BK411 := n4_; have HK := n5_; have HB := n6_; have HI0 := n7_; clear n0_ n1_ n2_ n3_ n4_ n5_ n6_ n7_; (try clear hb); (try clear hb2); (try clear hk); (try clear hi); have hnb37 := NB404_403.out; have hnc37 := NB403_404.out; have hnb38 := NB404_411.out; have hnc38 := NB411_404.out; have hnb39 := NB404_0.out; have hnc39 := NB0_404.out; have hcz40_0 : w36.cell? ⟨gb404, 0, none⟩ = some (.slice Ao20 x405000_2.length co20) := (blk_cell BK404.out 0).trans rfl; have hfz40_0 := blk_frozen BK404.out 0) | ((with_reducible refine gate_callee (f := 33) rfl ?_); refine goesL_ (some 32) rfl rfl Try.func33 (by kernel_rfl) rfl #[.agg #[.slice Ao20 x405000_2.length co20], .string x7_14] rfl (by (try simp only [List.map_toArray, List.map_cons, List.map_nil]); first | done | rfl | (simp only [List.length_drop, List.length_take]; rfl)) ?_; (with_reducible refine (spec_CutKey.calls kj14 _ _ x405000_2 x7_14 t422 true _ ?side1 ?side2 A34.out).mono ?_); (case side1 => repeat (first | exact (Kd.R_reads' HO_405000.out).2.2 | (with_reducible refine Kd.C_alloc ?_ _) | (with_reducible refine Kd.C_drewN ?_ _) | (with_reducible refine Kd.C_drew ?_))); (case side2 => exact (Kd.R_reads' HO_405000.out).2.1); rintro e w41 ⟨v423, rfl, ho0, hb⟩; refine ⟨_, rfl, ?_⟩; have n0_ := aM (Kd.R_elder' (gR HO_405000.out) (Kd.R_base ho0) hb); have n1_ := aM (Kd.R_elder' (gR HO_412000.out) (Kd.R_base ho0) hb); have n2_ := aM (Kd.R_lower (Kd.R_new' (Kd.R_new' ho0 (Kd.R_lt (gR HO_405000.out))) (Kd.R_lt (gR HO_412000.out))) (keep_size (w := w) (g := g) (row := none) (by repeat (first | (with_reducible first | exact HK.out | apply KeepBut.set_ | apply keep_drewN | apply keep_drew | apply keep_alloc | refine keep_far ?_ GW403.out _ | refine keep_far ?_ GW404.out _ | refine keep_far ?_ GW411.out _) | exact HK.out)))); have n3_ := aM (blk_below (g := gb403) (o := .cells #[.slice none 0 0] 29 (0, 0)) (gK BK403.out) hb); have n4_ := aM (blk_below (g := gb404) (o := .cells #[.slice Ao20 x405000_2.length co20] 29 (0, 0)) (gK BK404.out) hb); have n5_ := aM (blk_below (g := gb411) (o := .cells #[.slice Ao20 x405000_2.length co20] 29 (0, 0)) (gK BK411.out) hb); have n6_ := aM (IsS89.below (by repeat (first | (with_reducible first | exact HI0.out | apply IsS89.alloc | apply IsS89.drewN | apply IsS89.drew | apply IsS89.set_1 | apply IsS89.set_2 | refine IsS89.far ?_ NB0_403.out _ | refine IsS89.far ?_ NB0_404.out _ | refine IsS89.far ?_ NB0_411.out _) | exact HI0.out)) hb); have n7_ := aM (KeepBut.trans (by repeat (first | (with_reducible first | exact HK.out | apply KeepBut.set_ | apply keep_drewN | apply keep_drew | apply keep_alloc | refine keep_far ?_ GW403.out _ | refine keep_far ?_ GW404.out _ | refine keep_far ?_ GW411.out _) | exact HK.out)) (KeepBut.of_below hb g none) (.inl rfl)); have n8_ := aM (below_step (gB HB.out) hb); clear HO_405000; clear HO_412000; clear BK403; clear BK404; clear BK411; clear HI0; clear HK; clear HB; have HO_405000 := n0_; have HO_412000 := n1_; have HO424 := n2_; have BK403 := n3_; have BK404 := n4_; have BK411 := n5_; have HI0 := n6_; have HK := n7_; have HB := n8_; clear n0_ n1_ n2_ n3_ n4_ n5_ n6_ n7_ n8_; (try clear hb); (try clear hb2); (try clear hk); (try clear hi); (try clear ho0); obtain ⟨Ao42, co42, eo42⟩ := Kd.R_slice HO424.out; subst eo42; have hnb43 := NB411_403.out; have hnc43 := NB403_411.out; have hnb44 := NB411_0.out; have hnc44 := NB0_411.out; have hcz45_0 : w41.cell? ⟨gb411, 0, none⟩ = some (.slice Ao20 x405000_2.length co20) := (blk_cell BK411.out 0).trans rfl; have hfz45_0 := blk_frozen BK411.out 0; have hcz46_0 : w41.cell? ⟨gb404, 0, none⟩ = some (.slice Ao20 x405000_2.length co20) := (blk_cell BK404.out 0).trans rfl; have hfz46_0 := blk_frozen BK404.out 0))
          go_roundg kj14
          case measure => have := HJ3.out; have := HK2.out; have := HJ14.out; omega
          case rel => exact ⟨(wrap64 (x4_2 - 1)), (t420), (t421), (t422), (.slice Ao42 t422.length co42), (by first | rfl | (simp; done) | (simp [*]; done)), H', ⟨by have := HJ3.out; have := HK2.out; have := HJ14.out; omega⟩, ⟨by (with_reducible repeat (first | apply Kd.R_alloc | apply Kd.R_drewN | apply Kd.R_drew)); exact Kd.R_mono (Kd.R_far (p := ⟨gb404, 0, none⟩) (Kd.R_far (p := ⟨gb411, 0, none⟩) (Kd.R_types (Kd.R_types HO424.out BK411.out (by decide)) BK404.out (by decide)) (fun _ hk => hk.1.2) (.slice Ao42 t422.length co42)) (fun _ hk => hk.2) (.slice Ao42 t422.length co42)) (fun _ hk => trivial)⟩, ⟨by (with_reducible repeat (first | refine blk_drewN ?_ _ | refine blk_drew ?_ | refine blk_alloc ?_ _)); refine blk_far ?_ NB403_404.out _; (with_reducible repeat (first | refine blk_drewN ?_ _ | refine blk_drew ?_ | refine blk_alloc ?_ _)); refine blk_far ?_ NB403_411.out _; (with_reducible repeat (first | refine blk_drewN ?_ _ | refine blk_drew ?_ | refine blk_alloc ?_ _)); exact BK403.out⟩, ⟨by (with_reducible repeat (first | refine blk_drewN ?_ _ | refine blk_drew ?_ | refine blk_alloc ?_ _)); refine blk_put (cs := #[.slice Ao20 x405000_2.length co20]) ?_ 0 _ rfl; (with_reducible repeat (first | refine blk_drewN ?_ _ | refine blk_drew ?_ | refine blk_alloc ?_ _)); refine blk_far ?_ NB404_411.out _; (with_reducible repeat (first | refine blk_drewN ?_ _ | refine blk_drew ?_ | refine blk_alloc ?_ _)); exact BK404.out⟩, ⟨by repeat (first | (with_reducible first | exact HI0.out | apply IsS89.alloc | apply IsS89.drewN | apply IsS89.drew | apply IsS89.set_1 | apply IsS89.set_2 | refine IsS89.far ?_ NB0_403.out _ | refine IsS89.far ?_ NB0_404.out _ | refine IsS89.far ?_ NB0_411.out _) | exact HI0.out)⟩, ⟨by repeat (first | (with_reducible first | exact HK.out | apply KeepBut.set_ | apply keep_drewN | apply keep_drew | apply keep_alloc | refine keep_far ?_ GW403.out _ | refine keep_far ?_ GW404.out _ | refine keep_far ?_ GW411.out _) | exact HK.out)⟩, ⟨by repeat (first | (with_reducible first | exact HB.out | apply below_alloc | apply pw_below_drewN | apply below_drew1 | refine below_set ?_ (IsS89.ge HI0.out) | refine below_set ?_ GE403.out | refine below_set ?_ GE404.out | refine below_set ?_ GE411.out) | exact HB.out)⟩⟩
         ·
          replace c35 := Bool.eq_false_iff.mpr c35
          subst c35
          have H1 : (spec_l1Cur_treap.l0 kj14 (wrap64 (x4_2 - 1)) s0_0 t420 t421 x405000_2) = some (r1, r2, r3) := by rw [if_neg (show ¬ (false = true) by decide)] at H; exact H
          clear H
          have H := H1
          clear H1
          have H' := aM H
          clear H
          go_wp2_with (first | ((with_reducible refine gate_callee (f := 66) rfl ?_); refine goesL_ (some 28) rfl rfl Try.func66 (by kernel_rfl) rfl #[.pointer (some ⟨g, 0, none⟩), .int .i64 5] rfl (by (try simp only [List.map_toArray, List.map_cons, List.map_nil]); first | done | rfl | (simp only [List.length_drop, List.length_take]; rfl)) ?_; (with_reducible refine (spec_l1Cur_one.calls g s0_0 x1001_14 x1002_14 5 true t420 t421 w0 _ ?side1 ?side2 A32.out).mono ?_); (case side1 => repeat (first | (with_reducible first | exact HI0.out | apply IsS89.alloc | apply IsS89.drewN | apply IsS89.drew | apply IsS89.set_1 | apply IsS89.set_2 | refine IsS89.far ?_ NB0_403.out _ | refine IsS89.far ?_ NB0_404.out _ | refine IsS89.far ?_ NB0_411.out _) | exact HI0.out)); (case side2 => repeat (first | (with_reducible first | exact HB.out | apply below_alloc | apply pw_below_drewN | apply below_drew1 | refine below_set ?_ (IsS89.ge HI0.out) | refine below_set ?_ GE403.out | refine below_set ?_ GE404.out | refine below_set ?_ GE411.out) | exact HB.out)); rintro e w47 ⟨rfl, hi, hb, hk⟩; refine ⟨_, rfl, ?_⟩; have n0_ := aM (Kd.R_mono (Kd.R_keep (IsS89.apart (show IsS89 w0 _ g s0_0 x1001_14 x1002_14 from by repeat (first | (with_reducible first | exact HI0.out | apply IsS89.alloc | apply IsS89.drewN | apply IsS89.drew | apply IsS89.set_1 | apply IsS89.set_2 | refine IsS89.far ?_ NB0_403.out _ | refine IsS89.far ?_ NB0_404.out _ | refine IsS89.far ?_ NB0_411.out _) | exact HI0.out)) (gR HO_405000.out) (by decide)) hk (fun _ h => h.2)) (fun _ h => h.1)); have n1_ := aM (Kd.R_mono (Kd.R_keep (IsS89.apart (show IsS89 w0 _ g s0_0 x1001_14 x1002_14 from by repeat (first | (with_reducible first | exact HI0.out | apply IsS89.alloc | apply IsS89.drewN | apply IsS89.drew | apply IsS89.set_1 | apply IsS89.set_2 | refine IsS89.far ?_ NB0_403.out _ | refine IsS89.far ?_ NB0_404.out _ | refine IsS89.far ?_ NB0_411.out _) | exact HI0.out)) (gR HO_412000.out) (by decide)) hk (fun _ h => h.2)) (fun _ h => h.1)); have n2_ := aM (KeepBut.blk hk (g' := gb403) (o := .cells #[.slice none 0 0] 29 (0, 0)) (gK BK403.out) NB403_0.out (by simp)); have n3_ := aM (KeepBut.blk hk (g' := gb404) (o := .cells #[.slice Ao20 x405000_2.length co20] 29 (0, 0)) (gK BK404.out) NB404_0.out (by simp)); have n4_ := aM (KeepBut.blk hk (g' := gb411) (o := .cells #[.slice Ao20 x405000_2.length co20] 29 (0, 0)) (gK BK411.out) NB411_0.out (by simp)); have n5_ := aM (KeepBut.trans (by repeat (first | (with_reducible first | exact HK.out | apply KeepBut.set_ | apply keep_drewN | apply keep_drew | apply keep_alloc | refine keep_far ?_ GW403.out _ | refine keep_far ?_ GW404.out _ | refine keep_far ?_ GW411.out _) | exact HK.out)) hk (.inl rfl)); have n6_ := aM (hb); have n7_ := aM (hi); clear HO_405000; clear HO_412000; clear BK403; clear BK404; clear BK411; clear HK; clear HB; clear HI0; have HO_405000 := n0_; have HO_412000 := n1_; have BK403 := n2_; have BK404 := n3_; have BK411 := n4_; have HK := n5_; have HB := n6_; have HI0 := n7_; clear n0_ n1_ n2_ n3_ n4_ n5_ n6_ n7_; (try clear hb); (try clear hb2); (try clear hk); (try clear hi); have hnb48 := NB404_403.out; have hnc48 := NB403_404.out; have hnb49 := NB404_411.out; have hnc49 := NB411_404.out; have hnb50 := NB404_0.out; have hnc50 := NB0_404.out; have hcz51_0 : w47.cell? ⟨gb404, 0, none⟩ = some (.slice Ao20 x405000_2.length co20) := (blk_cell BK404.out 0).trans rfl; have hfz51_0 := blk_frozen BK404.out 0) | ((with_reducible refine gate_callee (f := 33) rfl ?_); refine goesL_ (some 32) rfl rfl Try.func33 (by kernel_rfl) rfl #[.agg #[.slice Ao20 x405000_2.length co20], .string x7_14] rfl (by (try simp only [List.map_toArray, List.map_cons, List.map_nil]); first | done | rfl | (simp only [List.length_drop, List.length_take]; rfl)) ?_; (with_reducible refine (spec_CutKey.calls kj14 _ _ x405000_2 x7_14 t422 false _ ?side1 ?side2 A34.out).mono ?_); (case side1 => repeat (first | exact (Kd.R_reads' HO_405000.out).2.2 | (with_reducible refine Kd.C_alloc ?_ _) | (with_reducible refine Kd.C_drewN ?_ _) | (with_reducible refine Kd.C_drew ?_))); (case side2 => exact (Kd.R_reads' HO_405000.out).2.1); rintro e w52 ⟨v423, rfl, ho0, hb⟩; refine ⟨_, rfl, ?_⟩; have n0_ := aM (Kd.R_elder' (gR HO_405000.out) (Kd.R_base ho0) hb); have n1_ := aM (Kd.R_elder' (gR HO_412000.out) (Kd.R_base ho0) hb); have n2_ := aM (Kd.R_lower (Kd.R_new' (Kd.R_new' ho0 (Kd.R_lt (gR HO_405000.out))) (Kd.R_lt (gR HO_412000.out))) (keep_size (w := w) (g := g) (row := none) (by repeat (first | (with_reducible first | exact HK.out | apply KeepBut.set_ | apply keep_drewN | apply keep_drew | apply keep_alloc | refine keep_far ?_ GW403.out _ | refine keep_far ?_ GW404.out _ | refine keep_far ?_ GW411.out _) | exact HK.out)))); have n3_ := aM (blk_below (g := gb403) (o := .cells #[.slice none 0 0] 29 (0, 0)) (gK BK403.out) hb); have n4_ := aM (blk_below (g := gb404) (o := .cells #[.slice Ao20 x405000_2.length co20] 29 (0, 0)) (gK BK404.out) hb); have n5_ := aM (blk_below (g := gb411) (o := .cells #[.slice Ao20 x405000_2.length co20] 29 (0, 0)) (gK BK411.out) hb); have n6_ := aM (IsS89.below (by repeat (first | (with_reducible first | exact HI0.out | apply IsS89.alloc | apply IsS89.drewN | apply IsS89.drew | apply IsS89.set_1 | apply IsS89.set_2 | refine IsS89.far ?_ NB0_403.out _ | refine IsS89.far ?_ NB0_404.out _ | refine IsS89.far ?_ NB0_411.out _) | exact HI0.out)) hb); have n7_ := aM (KeepBut.trans (by repeat (first | (with_reducible first | exact HK.out | apply KeepBut.set_ | apply keep_drewN | apply keep_drew | apply keep_alloc | refine keep_far ?_ GW403.out _ | refine keep_far ?_ GW404.out _ | refine keep_far ?_ GW411.out _) | exact HK.out)) (KeepBut.of_below hb g none) (.inl rfl)); have n8_ := aM (below_step (gB HB.out) hb); clear HO_405000; clear HO_412000; clear BK403; clear BK404; clear BK411; clear HI0; clear HK; clear HB; have HO_405000 := n0_; have HO_412000 := n1_; have HO424 := n2_; have BK403 := n3_; have BK404 := n4_; have BK411 := n5_; have HI0 := n6_; have HK := n7_; have HB := n8_; clear n0_ n1_ n2_ n3_ n4_ n5_ n6_ n7_ n8_; (try clear hb); (try clear hb2); (try clear hk); (try clear hi); (try clear ho0); obtain ⟨Ao53, co53, eo53⟩ := Kd.R_slice HO424.out; subst eo53; have hnb54 := NB411_403.out; have hnc54 := NB403_411.out; have hnb55 := NB411_0.out; have hnc55 := NB0_411.out; have hcz56_0 : w52.cell? ⟨gb411, 0, none⟩ = some (.slice Ao20 x405000_2.length co20) := (blk_cell BK411.out 0).trans rfl; have hfz56_0 := blk_frozen BK411.out 0))
          go_roundg kj14
          case measure => have := HJ3.out; have := HK2.out; have := HJ14.out; omega
          case rel => exact ⟨(wrap64 (x4_2 - 1)), (t420), (t421), (x405000_2), (.slice Ao20 x405000_2.length co20), (by first | rfl | (simp; done) | (simp [*]; done)), H', ⟨by have := HJ3.out; have := HK2.out; have := HJ14.out; omega⟩, ⟨by (with_reducible repeat (first | apply Kd.R_alloc | apply Kd.R_drewN | apply Kd.R_drew)); exact Kd.R_mono (Kd.R_far (p := ⟨gb411, 0, none⟩) (Kd.R_types HO_405000.out BK411.out (by decide)) (fun _ hk => hk.2) (.slice Ao53 t422.length co53)) (fun _ hk => trivial)⟩, ⟨by (with_reducible repeat (first | refine blk_drewN ?_ _ | refine blk_drew ?_ | refine blk_alloc ?_ _)); refine blk_far ?_ NB403_411.out _; (with_reducible repeat (first | refine blk_drewN ?_ _ | refine blk_drew ?_ | refine blk_alloc ?_ _)); exact BK403.out⟩, ⟨by (with_reducible repeat (first | refine blk_drewN ?_ _ | refine blk_drew ?_ | refine blk_alloc ?_ _)); refine blk_far ?_ NB404_411.out _; (with_reducible repeat (first | refine blk_drewN ?_ _ | refine blk_drew ?_ | refine blk_alloc ?_ _)); exact BK404.out⟩, ⟨by repeat (first | (with_reducible first | exact HI0.out | apply IsS89.alloc | apply IsS89.drewN | apply IsS89.drew | apply IsS89.set_1 | apply IsS89.set_2 | refine IsS89.far ?_ NB0_403.out _ | refine IsS89.far ?_ NB0_404.out _ | refine IsS89.far ?_ NB0_411.out _) | exact HI0.out)⟩, ⟨by repeat (first | (with_reducible first | exact HK.out | apply KeepBut.set_ | apply keep_drewN | apply keep_drew | apply keep_alloc | refine keep_far ?_ GW403.out _ | refine keep_far ?_ GW404.out _ | refine keep_far ?_ GW411.out _) | exact HK.out)⟩, ⟨by repeat (first | (with_reducible first | exact HB.out | apply below_alloc | apply pw_below_drewN | apply below_drew1 | refine below_set ?_ (IsS89.ge HI0.out) | refine below_set ?_ GE403.out | refine below_set ?_ GE404.out | refine below_set ?_ GE411.out) | exact HB.out)⟩⟩
        ·
         replace c33 := Bool.eq_false_iff.mpr c33
         subst c33
         have H1 : ((spec_l1Cur_of.f s0_0 t420 t421 (([(⟨#[]⟩ : ByteArray), (⟨#[118]⟩ : ByteArray), (⟨#[118, 97, 108, 117, 101]⟩ : ByteArray)] : List ByteArray))).bind fun bt429 => ((spec_PutKey.f kj14 x405000_2 x7_14 bt429.1).bind fun bt432 => (if bt432.2 = true then (spec_l1Cur_treap.l0 kj14 (wrap64 (x4_2 - 1)) s0_0 bt429.2.1 bt429.2.2 bt432.1) else (spec_l1Cur_treap.l0 kj14 (wrap64 (x4_2 - 1)) s0_0 bt429.2.1 bt429.2.2 x405000_2)))) = some (r1, r2, r3) := by rw [if_neg (show ¬ (false = true) by decide)] at H; exact H
         clear H
         have H := H1
         clear H1
         obtain ⟨y426, hy426⟩ : ∃ y_ : List ByteArray, y_ = (([(⟨#[]⟩ : ByteArray), (⟨#[118]⟩ : ByteArray), (⟨#[118, 97, 108, 117, 101]⟩ : ByteArray)] : List ByteArray)) := ⟨_, rfl⟩
         replace H : ((spec_l1Cur_of.f s0_0 t420 t421 y426).bind fun bt429 => ((spec_PutKey.f kj14 x405000_2 x7_14 bt429.1).bind fun bt432 => (if bt432.2 = true then (spec_l1Cur_treap.l0 kj14 (wrap64 (x4_2 - 1)) s0_0 bt429.2.1 bt429.2.2 bt432.1) else (spec_l1Cur_treap.l0 kj14 (wrap64 (x4_2 - 1)) s0_0 bt429.2.1 bt429.2.2 x405000_2)))) = some (r1, r2, r3) := by first | (rw [hy426]; with_reducible exact H) | (have H2_ := (Option.bind_some _ _).symm.trans H; rw [hy426]; with_reducible exact H2_) | (have H2_ := (Option.bind_some _ _).symm.trans H; with_reducible exact H2_) | with_reducible exact H | (rw [hy426]; exact H) | exact H
         have Ny426 := aM hy426
         clear hy426
         replace H := Option.bind_eq_some_iff.mp H
         obtain ⟨⟨t429, t430, t431⟩, A570, H⟩ := H
         replace H : ((spec_PutKey.f kj14 x405000_2 x7_14 t429).bind fun bt432 => (if bt432.2 = true then (spec_l1Cur_treap.l0 kj14 (wrap64 (x4_2 - 1)) s0_0 t430 t431 bt432.1) else (spec_l1Cur_treap.l0 kj14 (wrap64 (x4_2 - 1)) s0_0 t430 t431 x405000_2))) = some (r1, r2, r3) := H
         have A57 := aM A570
         clear A570
         replace H := Option.bind_eq_some_iff.mp H
         obtain ⟨⟨t432, t435⟩, A580, H⟩ := H
         replace H : (if t435 = true then (spec_l1Cur_treap.l0 kj14 (wrap64 (x4_2 - 1)) s0_0 t430 t431 t432) else (spec_l1Cur_treap.l0 kj14 (wrap64 (x4_2 - 1)) s0_0 t430 t431 x405000_2)) = some (r1, r2, r3) := H
         have A58 := aM A580
         clear A580
         by_cases c59 : t435 = true
         ·
          subst c59
          have H1 : (spec_l1Cur_treap.l0 kj14 (wrap64 (x4_2 - 1)) s0_0 t430 t431 t432) = some (r1, r2, r3) := by rw [if_pos rfl] at H; exact H
          clear H
          have H := H1
          clear H1
          have H' := aM H
          clear H
          try go_wp2_with (((with_reducible refine gate_callee (f := 66) rfl ?_); refine goesL_ (some 28) rfl rfl Try.func66 (by kernel_rfl) rfl #[.pointer (some ⟨g, 0, none⟩), .int .i64 5] rfl (by (try simp only [List.map_toArray, List.map_cons, List.map_nil]); first | done | rfl | (simp only [List.length_drop, List.length_take]; rfl)) ?_; (with_reducible refine (spec_l1Cur_one.calls g s0_0 x1001_14 x1002_14 5 false t420 t421 w0 _ ?side1 ?side2 A32.out).mono ?_); (case side1 => repeat (first | (with_reducible first | exact HI0.out | apply IsS89.alloc | apply IsS89.drewN | apply IsS89.drew | apply IsS89.set_1 | apply IsS89.set_2 | refine IsS89.far ?_ NB0_403.out _ | refine IsS89.far ?_ NB0_404.out _ | refine IsS89.far ?_ NB0_411.out _) | exact HI0.out)); (case side2 => repeat (first | (with_reducible first | exact HB.out | apply below_alloc | apply pw_below_drewN | apply below_drew1 | refine below_set ?_ (IsS89.ge HI0.out) | refine below_set ?_ GE403.out | refine below_set ?_ GE404.out | refine below_set ?_ GE411.out) | exact HB.out)); rintro e w60 ⟨rfl, hi, hb, hk⟩; refine ⟨_, rfl, ?_⟩; have n0_ := aM (Kd.R_mono (Kd.R_keep (IsS89.apart (show IsS89 w0 _ g s0_0 x1001_14 x1002_14 from by repeat (first | (with_reducible first | exact HI0.out | apply IsS89.alloc | apply IsS89.drewN | apply IsS89.drew | apply IsS89.set_1 | apply IsS89.set_2 | refine IsS89.far ?_ NB0_403.out _ | refine IsS89.far ?_ NB0_404.out _ | refine IsS89.far ?_ NB0_411.out _) | exact HI0.out)) (gR HO_405000.out) (by decide)) hk (fun _ h => h.2)) (fun _ h => h.1)); have n1_ := aM (Kd.R_mono (Kd.R_keep (IsS89.apart (show IsS89 w0 _ g s0_0 x1001_14 x1002_14 from by repeat (first | (with_reducible first | exact HI0.out | apply IsS89.alloc | apply IsS89.drewN | apply IsS89.drew | apply IsS89.set_1 | apply IsS89.set_2 | refine IsS89.far ?_ NB0_403.out _ | refine IsS89.far ?_ NB0_404.out _ | refine IsS89.far ?_ NB0_411.out _) | exact HI0.out)) (gR HO_412000.out) (by decide)) hk (fun _ h => h.2)) (fun _ h => h.1)); have n2_ := aM (KeepBut.blk hk (g' := gb403) (o := .cells #[.slice none 0 0] 29 (0, 0)) (gK BK403.out) NB403_0.out (by simp)); have n3_ := aM (KeepBut.blk hk (g' := gb404) (o := .cells #[.slice Ao20 x405000_2.length co20] 29 (0, 0)) (gK BK404.out) NB404_0.out (by simp)); have n4_ := aM (KeepBut.blk hk (g' := gb411) (o := .cells #[.slice Ao20 x405000_2.length co20] 29 (0, 0)) (gK BK411.out) NB411_0.out (by simp)); have n5_ := aM (KeepBut.trans (by repeat (first | (with_reducible first | exact HK.out | apply KeepBut.set_ | apply keep_drewN | apply keep_drew | apply keep_alloc | refine keep_far ?_ GW403.out _ | refine keep_far ?_ GW404.out _ | refine keep_far ?_ GW411.out _) | exact HK.out)) hk (.inl rfl)); have n6_ := aM (hb); have n7_ := aM (hi); clear HO_405000; clear HO_412000; clear BK403; clear BK404; clear BK411; clear HK; clear HB; clear HI0; have HO_405000 := n0_; have HO_412000 := n1_; have BK403 := n2_; have BK404 := n3_; have BK411 := n4_; have HK := n5_; have HB := n6_; have HI0 := n7_; clear n0_ n1_ n2_ n3_ n4_ n5_ n6_ n7_; (try clear hb); (try clear hb2); (try clear hk); (try clear hi)))
          have n0_ := aM (Kd.R_drew HO_405000.out)
          have n1_ := aM (Kd.R_drew HO_412000.out)
          have n2_ := aM (blk_drew BK403.out)
          have n3_ := aM (blk_drew BK404.out)
          have n4_ := aM (blk_drew BK411.out)
          have n5_ := aM (IsS89.drew HI0.out)
          have n6_ := aM (keep_drew HK.out)
          have n7_ := aM (below_drew1 HB.out)
          clear HO_405000
          clear HO_412000
          clear BK403
          clear BK404
          clear BK411
          clear HI0
          clear HK
          clear HB
          have HO_405000 := n0_
          have HO_412000 := n1_
          have BK403 := n2_
          have BK404 := n3_
          have BK411 := n4_
          have HI0 := n5_
          have HK := n6_
          have HB := n7_
          clear n0_ n1_ n2_ n3_ n4_ n5_ n6_ n7_
          refine start_ (n := 11) (S := fun w' => w'.cell? ⟨gb404, 0, none⟩ = some (.slice Ao20 x405000_2.length co20)) (ds := []) #[false, false, false, false, false, false, false, false, false, false, false] (by kernel_rfl) rfl rfl ((blk_cell BK404.out 0).trans rfl) (fun hHeld => ?_); refine with_tabW spec_l1Cur_treap.tab13 spec_l1Cur_treap.bits13 (fun HT_ HW_ => ?_)
          generalize w60.drew = w61 at HO_405000 HO_412000 BK403 BK404 BK411 HI0 HK HB hHeld ⊢
          refine pure_ (i := 1) (N := some 37) (v := ?_) (a' := ?_) #[false, true, false, false, false, false, false, false, false, false, false] rfl rfl (any_of HT_.out (by kernel_rfl)) (fun _ _ _ h => h) (Or.inl ⟨by rfl, ?_⟩) ?_ ?_
          rotate_left
          ·
           intro w'
           go_simp
           with_reducible rfl
          rotate_left
          ·
           simp only [Act.put, zSA, zSB, zSC, i64_w, i32_w]
           rfl
          refine pure_ (i := 2) (N := some 38) (v := ?_) (a' := ?_) #[false, true, true, false, false, false, false, false, false, false, false] rfl rfl (any_of HT_.out (by kernel_rfl)) (fun _ _ _ h => h) (Or.inl ⟨by rfl, ?_⟩) ?_ ?_
          rotate_left
          ·
           intro w'
           go_simp
           with_reducible rfl
          rotate_left
          ·
           simp only [Act.put, zSA, zSB, zSC, i64_w, i32_w]
           rfl
          refine take_ (i := 0) (N := some 36) (v := ?_) (a' := ?_) #[true, true, true, false, false, false, false, false, false, false, false] rfl rfl (take_ofW HT_.out HW_.out (by kernel_rfl)) (fun _ _ _ h => h) (Or.inl ⟨by rfl, ?_⟩) hHeld ?_ ?_
          rotate_left
          ·
           intro w' s0
           go_simp
           with_reducible rfl
          rotate_left
          ·
           simp only [Act.put, zSA, zSB, zSC, i64_w, i32_w]
           rfl
          refine one_ (i := 3) (N := some 39) #[true, true, true, true, false, false, false, false, false, false, false] rfl rfl (one_of HT_.out (by kernel_rfl)) (by decide) (fun K hK => ?_)
          refine Kd.R_lit_step Kd.string _ 9 ?hg (N := 39) ?hd (xs := ([(⟨#[]⟩ : ByteArray), (⟨#[118]⟩ : ByteArray), (⟨#[118, 97, 108, 117, 101]⟩ : ByteArray)] : List ByteArray)) (inner := [.string (⟨#[]⟩ : ByteArray), .string (⟨#[118]⟩ : ByteArray), .string (⟨#[118, 97, 108, 117, 101]⟩ : ByteArray)]) (ok := fun _ => True) (okp := fun _ => True) ?hr ?hp (fun _ hk => hk) trivial (Below.refl _ _) (Nat.le_refl _) (by simp) ?_; (case hd => rfl); (case hg => rfl); (case hr => first | (go_simp; done) | (go_simp; rfl)); (case hp => exact (Reps.one (show Kd.M Kd.string _ _ _ (⟨#[]⟩ : ByteArray) [.string (⟨#[]⟩ : ByteArray)] from rfl) (Reps.one (show Kd.M Kd.string _ _ _ (⟨#[118]⟩ : ByteArray) [.string (⟨#[118]⟩ : ByteArray)] from rfl) (Reps.one (show Kd.M Kd.string _ _ _ (⟨#[118, 97, 108, 117, 101]⟩ : ByteArray) [.string (⟨#[118, 97, 108, 117, 101]⟩ : ByteArray)] from rfl) (Reps.none _ _)))))
          intro v427 w62 ho63 hb hg_ hnew_
          clear hg_ hnew_
          (first | rw [← Ny426.out] at ho63 | (simp only [Int.reduceToNat] at ho63; rw [← Ny426.out] at ho63))
          have n0_ := aM (Kd.R_below (gR HO_405000.out) hb)
          have n1_ := aM (Kd.R_below (gR HO_412000.out) hb)
          have n2_ := aM (Kd.R_lower ho63 (keep_size (w := w) (g := g) (row := none) (by repeat (first | (with_reducible first | exact HK.out | apply KeepBut.set_ | apply keep_drewN | apply keep_drew | apply keep_alloc | refine keep_far ?_ GW403.out _ | refine keep_far ?_ GW404.out _ | refine keep_far ?_ GW411.out _) | exact HK.out))))
          have n3_ := aM (blk_below (g := gb403) (o := .cells #[.slice none 0 0] 29 (0, 0)) (gK BK403.out) hb)
          have n4_ := aM (blk_below (g := gb404) (o := .cells #[.slice Ao20 x405000_2.length co20] 29 (0, 0)) (gK BK404.out) hb)
          have n5_ := aM (blk_below (g := gb411) (o := .cells #[.slice Ao20 x405000_2.length co20] 29 (0, 0)) (gK BK411.out) hb)
          have n6_ := aM (IsS89.below (by repeat (first | (with_reducible first | exact HI0.out | apply IsS89.alloc | apply IsS89.drewN | apply IsS89.drew | apply IsS89.set_1 | apply IsS89.set_2 | refine IsS89.far ?_ NB0_403.out _ | refine IsS89.far ?_ NB0_404.out _ | refine IsS89.far ?_ NB0_411.out _) | exact HI0.out)) hb)
          have n7_ := aM (KeepBut.trans (by repeat (first | (with_reducible first | exact HK.out | apply KeepBut.set_ | apply keep_drewN | apply keep_drew | apply keep_alloc | refine keep_far ?_ GW403.out _ | refine keep_far ?_ GW404.out _ | refine keep_far ?_ GW411.out _) | exact HK.out)) (KeepBut.of_below hb g none) (.inl rfl))
          have n8_ := aM (below_step (gB HB.out) hb)
          clear HO_405000
          clear HO_412000
          clear BK403
          clear BK404
          clear BK411
          clear HI0
          clear HK
          clear HB
          have HO_405000 := n0_
          have HO_412000 := n1_
          have HO428 := n2_
          have BK403 := n3_
          have BK404 := n4_
          have BK411 := n5_
          have HI0 := n6_
          have HK := n7_
          have HB := n8_
          clear n0_ n1_ n2_ n3_ n4_ n5_ n6_ n7_ n8_
          clear hb ho63
          obtain ⟨Ao64, co64, eo64⟩ := Kd.R_slice HO428.out
          (first | subst eo64 | (injection eo64 with f1_ f2_ f3_; have f4_ := f1_.symm; have f5_ := f3_.symm; clear f1_ f2_ f3_; subst f4_; subst f5_))
          refine hK.out _ _ ((blk_cell BK404.out 0).trans rfl) (fun hHeld => ?_)
          clear hK K
          refine norm_ (a' := ?_) ?_ ?_
          rotate_left
          ·
           show Act.put _ (some 39) _ = _
           simp only [Act.put, zSA, zSB, zSC, i64_w, i32_w]
           rfl
          refine one_ (i := 4) (N := some 40) #[true, true, true, true, true, false, false, false, false, false, false] rfl rfl (one_of HT_.out (by kernel_rfl)) (by decide) (fun K hK => ?_)
          refine goes_ Try.func67 (by kernel_rfl) rfl #[.pointer (some ⟨g, 0, none⟩), .slice Ao64 y426.length co64] (by rfl) rfl rfl (by (try simp only [List.map_toArray, List.map_cons, List.map_nil]); first | done | rfl | (simp only [List.length_drop, List.length_take]; rfl)) ?_
          with_reducible refine (spec_l1Cur_of.calls g s0_0 t420 t421 _ _ y426 t429 t430 t431 w0 _ ?side1 ?side2 ?side3 ?side4 ?side5 A57.out).mono ?_
          (case side1 => repeat (first | (with_reducible first | exact HI0.out | apply IsS89.alloc | apply IsS89.drewN | apply IsS89.drew | apply IsS89.set_1 | apply IsS89.set_2 | refine IsS89.far ?_ NB0_403.out _ | refine IsS89.far ?_ NB0_404.out _ | refine IsS89.far ?_ NB0_411.out _) | exact HI0.out))
          (case side2 => repeat (first | (with_reducible first | exact HB.out | apply below_alloc | apply pw_below_drewN | apply below_drew1 | refine below_set ?_ (IsS89.ge HI0.out) | refine below_set ?_ GE403.out | refine below_set ?_ GE404.out | refine below_set ?_ GE411.out) | exact HB.out))
          (case side3 => repeat (first | exact (Kd.R_reads' HO428.out).2.2 | (with_reducible refine Kd.C_alloc ?_ _) | (with_reducible refine Kd.C_drewN ?_ _) | (with_reducible refine Kd.C_drew ?_)))
          (case side4 => exact (Kd.R_reads' HO428.out).2.1)
          (case side5 => exact far_slice (IsS89.own_ne HI0.out HO428.out (by decide)))
          rintro e w65 ⟨rfl, hi, hb, hk⟩
          refine ⟨_, rfl, ?_⟩
          have n0_ := aM (Kd.R_mono (Kd.R_keep (IsS89.apart (show IsS89 w0 _ g s0_0 t420 t421 from by repeat (first | (with_reducible first | exact HI0.out | apply IsS89.alloc | apply IsS89.drewN | apply IsS89.drew | apply IsS89.set_1 | apply IsS89.set_2 | refine IsS89.far ?_ NB0_403.out _ | refine IsS89.far ?_ NB0_404.out _ | refine IsS89.far ?_ NB0_411.out _) | exact HI0.out)) (gR HO_405000.out) (by decide)) hk (fun _ h => h.2)) (fun _ h => h.1))
          have n1_ := aM (Kd.R_mono (Kd.R_keep (IsS89.apart (show IsS89 w0 _ g s0_0 t420 t421 from by repeat (first | (with_reducible first | exact HI0.out | apply IsS89.alloc | apply IsS89.drewN | apply IsS89.drew | apply IsS89.set_1 | apply IsS89.set_2 | refine IsS89.far ?_ NB0_403.out _ | refine IsS89.far ?_ NB0_404.out _ | refine IsS89.far ?_ NB0_411.out _) | exact HI0.out)) (gR HO_412000.out) (by decide)) hk (fun _ h => h.2)) (fun _ h => h.1))
          have n2_ := aM (KeepBut.blk hk (g' := gb403) (o := .cells #[.slice none 0 0] 29 (0, 0)) (gK BK403.out) NB403_0.out (by simp))
          have n3_ := aM (KeepBut.blk hk (g' := gb404) (o := .cells #[.slice Ao20 x405000_2.length co20] 29 (0, 0)) (gK BK404.out) NB404_0.out (by simp))
          have n4_ := aM (KeepBut.blk hk (g' := gb411) (o := .cells #[.slice Ao20 x405000_2.length co20] 29 (0, 0)) (gK BK411.out) NB411_0.out (by simp))
          have n5_ := aM (Kd.R_mono (Kd.R_keep (IsS89.apart (show IsS89 w0 _ g s0_0 t420 t421 from by repeat (first | (with_reducible first | exact HI0.out | apply IsS89.alloc | apply IsS89.drewN | apply IsS89.drew | apply IsS89.set_1 | apply IsS89.set_2 | refine IsS89.far ?_ NB0_403.out _ | refine IsS89.far ?_ NB0_404.out _ | refine IsS89.far ?_ NB0_411.out _) | exact HI0.out)) (gR HO428.out) (by decide)) hk (fun _ h => h.2)) (fun _ h => h.1))
          have n6_ := aM (KeepBut.trans (by repeat (first | (with_reducible first | exact HK.out | apply KeepBut.set_ | apply keep_drewN | apply keep_drew | apply keep_alloc | refine keep_far ?_ GW403.out _ | refine keep_far ?_ GW404.out _ | refine keep_far ?_ GW411.out _) | exact HK.out)) hk (.inl rfl))
          have n7_ := aM (hb)
          have n8_ := aM (hi)
          clear HO_405000
          clear HO_412000
          clear BK403
          clear BK404
          clear BK411
          clear HO428
          clear HK
          clear HB
          clear HI0
          have HO_405000 := n0_
          have HO_412000 := n1_
          have BK403 := n2_
          have BK404 := n3_
          have BK411 := n4_
          have HO428 := n5_
          have HK := n6_
          have HB := n7_
          have HI0 := n8_
          clear n0_ n1_ n2_ n3_ n4_ n5_ n6_ n7_ n8_
          (try clear hb)
          (try clear hb2)
          (try clear hk)
          (try clear hi)
          refine hK.out _ _ ((blk_cell BK404.out 0).trans rfl) (fun hHeld => ?_)
          clear hK K
          refine norm_ (a' := ?_) ?_ ?_
          rotate_left
          ·
           show Act.put _ (some 40) _ = _
           simp only [Act.put, zSA, zSB, zSC, i64_w, i32_w]
           rfl
          refine one_ (i := 5) (N := some 41) #[true, true, true, true, true, true, false, false, false, false, false] rfl rfl (one_of HT_.out (by kernel_rfl)) (by decide) (fun K hK => ?_)
          refine goes_ Try.func40 (by kernel_rfl) rfl #[.agg #[.slice Ao20 x405000_2.length co20], .string x7_14, .string t429] (by rfl) rfl rfl (by (try simp only [List.map_toArray, List.map_cons, List.map_nil]); first | done | rfl | (simp only [List.length_drop, List.length_take]; rfl)) ?_
          with_reducible refine (spec_PutKey.calls kj14 _ _ x405000_2 x7_14 t429 t432 true _ ?side1 ?side2 A58.out).mono ?_
          (case side1 => repeat (first | exact (Kd.R_reads' HO_405000.out).2.2 | (with_reducible refine Kd.C_alloc ?_ _) | (with_reducible refine Kd.C_drewN ?_ _) | (with_reducible refine Kd.C_drew ?_)))
          (case side2 => exact (Kd.R_reads' HO_405000.out).2.1)
          rintro e w66 ⟨v433, rfl, ho0, hb⟩
          refine ⟨_, rfl, ?_⟩
          have n0_ := aM (Kd.R_elder' (gR HO_405000.out) (Kd.R_base ho0) hb)
          have n1_ := aM (Kd.R_elder' (gR HO_412000.out) (Kd.R_base ho0) hb)
          have n2_ := aM (Kd.R_below (gR HO428.out) hb)
          have n3_ := aM (Kd.R_lower (Kd.R_new' (Kd.R_new' ho0 (Kd.R_lt (gR HO_405000.out))) (Kd.R_lt (gR HO_412000.out))) (keep_size (w := w) (g := g) (row := none) (by repeat (first | (with_reducible first | exact HK.out | apply KeepBut.set_ | apply keep_drewN | apply keep_drew | apply keep_alloc | refine keep_far ?_ GW403.out _ | refine keep_far ?_ GW404.out _ | refine keep_far ?_ GW411.out _) | exact HK.out))))
          have n4_ := aM (blk_below (g := gb403) (o := .cells #[.slice none 0 0] 29 (0, 0)) (gK BK403.out) hb)
          have n5_ := aM (blk_below (g := gb404) (o := .cells #[.slice Ao20 x405000_2.length co20] 29 (0, 0)) (gK BK404.out) hb)
          have n6_ := aM (blk_below (g := gb411) (o := .cells #[.slice Ao20 x405000_2.length co20] 29 (0, 0)) (gK BK411.out) hb)
          have n7_ := aM (IsS89.below (by repeat (first | (with_reducible first | exact HI0.out | apply IsS89.alloc | apply IsS89.drewN | apply IsS89.drew | apply IsS89.set_1 | apply IsS89.set_2 | refine IsS89.far ?_ NB0_403.out _ | refine IsS89.far ?_ NB0_404.out _ | refine IsS89.far ?_ NB0_411.out _) | exact HI0.out)) hb)
          have n8_ := aM (KeepBut.trans (by repeat (first | (with_reducible first | exact HK.out | apply KeepBut.set_ | apply keep_drewN | apply keep_drew | apply keep_alloc | refine keep_far ?_ GW403.out _ | refine keep_far ?_ GW404.out _ | refine keep_far ?_ GW411.out _) | exact HK.out)) (KeepBut.of_below hb g none) (.inl rfl))
          have n9_ := aM (below_step (gB HB.out) hb)
          clear HO_405000
          clear HO_412000
          clear HO428
          clear BK403
          clear BK404
          clear BK411
          clear HI0
          clear HK
          clear HB
          have HO_405000 := n0_
          have HO_412000 := n1_
          have HO428 := n2_
          have HO434 := n3_
          have BK403 := n4_
          have BK404 := n5_
          have BK411 := n6_
          have HI0 := n7_
          have HK := n8_
          have HB := n9_
          clear n0_ n1_ n2_ n3_ n4_ n5_ n6_ n7_ n8_ n9_
          (try clear hb)
          (try clear hb2)
          (try clear hk)
          (try clear hi)
          (try clear ho0)
          obtain ⟨Ao67, co67, eo67⟩ := Kd.R_slice HO434.out
          (first | subst eo67 | (injection eo67 with f1_ f2_ f3_; have f4_ := f1_.symm; have f5_ := f3_.symm; clear f1_ f2_ f3_; subst f4_; subst f5_))
          refine hK.out _ _ ((blk_cell BK404.out 0).trans rfl) (fun hHeld => ?_)
          clear hK K
          refine norm_ (a' := ?_) ?_ ?_
          rotate_left
          ·
           show Act.put _ (some 41) _ = _
           simp only [Act.put, zSA, zSB, zSC, i64_w, i32_w]
           rfl
          refine pure_ (i := 6) (N := some 35) (v := ?_) (a' := ?_) #[true, true, true, true, true, true, true, false, false, false, false] rfl rfl (any_of HT_.out (by kernel_rfl)) (fun _ _ _ h => h) (Or.inl ⟨by rfl, ?_⟩) ?_ ?_
          rotate_left
          ·
           intro w'
           go_simp
           with_reducible rfl
          rotate_left
          ·
           simp only [Act.put, zSA, zSB, zSC, i64_w, i32_w]
           rfl
          refine pure_ (i := 7) (N := some 42) (v := ?_) (a' := ?_) #[true, true, true, true, true, true, true, true, false, false, false] rfl rfl (any_of HT_.out (by kernel_rfl)) (fun _ _ _ h => h) (Or.inl ⟨by rfl, ?_⟩) ?_ ?_
          rotate_left
          ·
           intro w'
           go_simp
           with_reducible rfl
          rotate_left
          ·
           simp only [Act.put, zSA, zSB, zSC, i64_w, i32_w]
           rfl
          refine pure_ (i := 8) (N := some 43) (v := ?_) (a' := ?_) #[true, true, true, true, true, true, true, true, true, false, false] rfl rfl (any_of HT_.out (by kernel_rfl)) (fun _ _ _ h => h) (Or.inl ⟨by rfl, ?_⟩) ?_ ?_
          rotate_left
          ·
           intro w'
           go_simp
           with_reducible rfl
          rotate_left
          ·
           simp only [Act.put, zSA, zSB, zSC, i64_w, i32_w]
           rfl
          refine one_ (i := 9) (N := none) #[true, true, true, true, true, true, true, true, true, true, false] rfl rfl (one_of HT_.out (by kernel_rfl)) (by decide) (fun K hK => ?_)
          have hs68 : w66.cell? ⟨gb411, 0, none⟩ = some (.slice Ao20 x405000_2.length co20) := (blk_cell BK411.out 0).trans rfl
          have hfs68 := blk_frozen BK411.out 0
          have hns68_0 := NB403_411.out
          have hns68_1 := NB404_411.out
          have hms68_0 := NB411_403.out
          have hms68_1 := NB411_404.out
          refine skip_ (w1 := ?_) (by rfl) rfl ?_ ?_
          rotate_left
          ·
           go_simp
           rfl
          refine hK.out _ _ (((cell_far (p := ⟨gb411, _, none⟩) NB404_411.out _).trans (hHeld))) (fun hHeld => ?_)
          clear hK K
          refine pure_ (i := 10) (N := some 6) (v := ?_) (a' := ?_) #[true, true, true, true, true, true, true, true, true, true, true] rfl rfl (any_of HT_.out (by kernel_rfl)) (fun _ _ _ h => h) (Or.inl ⟨by rfl, ?_⟩) ?_ ?_
          rotate_left
          ·
           intro w'
           go_simp
           with_reducible rfl
          rotate_left
          ·
           simp only [Act.put, zSA, zSB, zSC, i64_w, i32_w]
           rfl
          refine done_ (done_of HT_.out (by kernel_rfl)) ?_
          have hnb69 := NB411_403.out
          have hnc69 := NB403_411.out
          have hnb70 := NB411_404.out
          have hnc70 := NB404_411.out
          have hnb71 := NB411_0.out
          have hnc71 := NB0_411.out
          have hcz72_0 : w66.cell? ⟨gb411, 0, none⟩ = some (.slice Ao20 x405000_2.length co20) := (blk_cell BK411.out 0).trans rfl
          have hfz72_0 := blk_frozen BK411.out 0
          have hnb73 := NB404_403.out
          have hnc73 := NB403_404.out
          have hnb74 := NB404_0.out
          have hnc74 := NB0_404.out
          have hcz75_0 : w66.cell? ⟨gb404, 0, none⟩ = some (.slice Ao20 x405000_2.length co20) := (blk_cell BK404.out 0).trans rfl
          have hfz75_0 := blk_frozen BK404.out 0
          try go_wp2
          go_roundg kj14
          case measure => have := HJ3.out; have := HK2.out; have := HJ14.out; omega
          case rel => exact ⟨(wrap64 (x4_2 - 1)), (t430), (t431), (t432), (.slice Ao67 t432.length co67), (by first | rfl | (simp; done) | (simp [*]; done)), H', ⟨by have := HJ3.out; have := HK2.out; have := HJ14.out; omega⟩, ⟨by (with_reducible repeat (first | apply Kd.R_alloc | apply Kd.R_drewN | apply Kd.R_drew)); exact Kd.R_mono (Kd.R_far (p := ⟨gb404, 0, none⟩) (Kd.R_far (p := ⟨gb411, 0, none⟩) (Kd.R_types (Kd.R_types HO434.out BK411.out (by decide)) BK404.out (by decide)) (fun _ hk => hk.1.2) (.slice Ao67 t432.length co67)) (fun _ hk => hk.2) (.slice Ao67 t432.length co67)) (fun _ hk => trivial)⟩, ⟨by (with_reducible repeat (first | refine blk_drewN ?_ _ | refine blk_drew ?_ | refine blk_alloc ?_ _)); refine blk_far ?_ NB403_404.out _; (with_reducible repeat (first | refine blk_drewN ?_ _ | refine blk_drew ?_ | refine blk_alloc ?_ _)); refine blk_far ?_ NB403_411.out _; (with_reducible repeat (first | refine blk_drewN ?_ _ | refine blk_drew ?_ | refine blk_alloc ?_ _)); exact BK403.out⟩, ⟨by (with_reducible repeat (first | refine blk_drewN ?_ _ | refine blk_drew ?_ | refine blk_alloc ?_ _)); refine blk_put (cs := #[.slice Ao20 x405000_2.length co20]) ?_ 0 _ rfl; (with_reducible repeat (first | refine blk_drewN ?_ _ | refine blk_drew ?_ | refine blk_alloc ?_ _)); refine blk_far ?_ NB404_411.out _; (with_reducible repeat (first | refine blk_drewN ?_ _ | refine blk_drew ?_ | refine blk_alloc ?_ _)); exact BK404.out⟩, ⟨by repeat (first | (with_reducible first | exact HI0.out | apply IsS89.alloc | apply IsS89.drewN | apply IsS89.drew | apply IsS89.set_1 | apply IsS89.set_2 | refine IsS89.far ?_ NB0_403.out _ | refine IsS89.far ?_ NB0_404.out _ | refine IsS89.far ?_ NB0_411.out _) | exact HI0.out)⟩, ⟨by repeat (first | (with_reducible first | exact HK.out | apply KeepBut.set_ | apply keep_drewN | apply keep_drew | apply keep_alloc | refine keep_far ?_ GW403.out _ | refine keep_far ?_ GW404.out _ | refine keep_far ?_ GW411.out _) | exact HK.out)⟩, ⟨by repeat (first | (with_reducible first | exact HB.out | apply below_alloc | apply pw_below_drewN | apply below_drew1 | refine below_set ?_ (IsS89.ge HI0.out) | refine below_set ?_ GE403.out | refine below_set ?_ GE404.out | refine below_set ?_ GE411.out) | exact HB.out)⟩⟩
         ·
          replace c59 := Bool.eq_false_iff.mpr c59
          subst c59
          have H1 : (spec_l1Cur_treap.l0 kj14 (wrap64 (x4_2 - 1)) s0_0 t430 t431 x405000_2) = some (r1, r2, r3) := by rw [if_neg (show ¬ (false = true) by decide)] at H; exact H
          clear H
          have H := H1
          clear H1
          have H' := aM H
          clear H
          try go_wp2_with (((with_reducible refine gate_callee (f := 66) rfl ?_); refine goesL_ (some 28) rfl rfl Try.func66 (by kernel_rfl) rfl #[.pointer (some ⟨g, 0, none⟩), .int .i64 5] rfl (by (try simp only [List.map_toArray, List.map_cons, List.map_nil]); first | done | rfl | (simp only [List.length_drop, List.length_take]; rfl)) ?_; (with_reducible refine (spec_l1Cur_one.calls g s0_0 x1001_14 x1002_14 5 false t420 t421 w0 _ ?side1 ?side2 A32.out).mono ?_); (case side1 => repeat (first | (with_reducible first | exact HI0.out | apply IsS89.alloc | apply IsS89.drewN | apply IsS89.drew | apply IsS89.set_1 | apply IsS89.set_2 | refine IsS89.far ?_ NB0_403.out _ | refine IsS89.far ?_ NB0_404.out _ | refine IsS89.far ?_ NB0_411.out _) | exact HI0.out)); (case side2 => repeat (first | (with_reducible first | exact HB.out | apply below_alloc | apply pw_below_drewN | apply below_drew1 | refine below_set ?_ (IsS89.ge HI0.out) | refine below_set ?_ GE403.out | refine below_set ?_ GE404.out | refine below_set ?_ GE411.out) | exact HB.out)); rintro e w76 ⟨rfl, hi, hb, hk⟩; refine ⟨_, rfl, ?_⟩; have n0_ := aM (Kd.R_mono (Kd.R_keep (IsS89.apart (show IsS89 w0 _ g s0_0 x1001_14 x1002_14 from by repeat (first | (with_reducible first | exact HI0.out | apply IsS89.alloc | apply IsS89.drewN | apply IsS89.drew | apply IsS89.set_1 | apply IsS89.set_2 | refine IsS89.far ?_ NB0_403.out _ | refine IsS89.far ?_ NB0_404.out _ | refine IsS89.far ?_ NB0_411.out _) | exact HI0.out)) (gR HO_405000.out) (by decide)) hk (fun _ h => h.2)) (fun _ h => h.1)); have n1_ := aM (Kd.R_mono (Kd.R_keep (IsS89.apart (show IsS89 w0 _ g s0_0 x1001_14 x1002_14 from by repeat (first | (with_reducible first | exact HI0.out | apply IsS89.alloc | apply IsS89.drewN | apply IsS89.drew | apply IsS89.set_1 | apply IsS89.set_2 | refine IsS89.far ?_ NB0_403.out _ | refine IsS89.far ?_ NB0_404.out _ | refine IsS89.far ?_ NB0_411.out _) | exact HI0.out)) (gR HO_412000.out) (by decide)) hk (fun _ h => h.2)) (fun _ h => h.1)); have n2_ := aM (KeepBut.blk hk (g' := gb403) (o := .cells #[.slice none 0 0] 29 (0, 0)) (gK BK403.out) NB403_0.out (by simp)); have n3_ := aM (KeepBut.blk hk (g' := gb404) (o := .cells #[.slice Ao20 x405000_2.length co20] 29 (0, 0)) (gK BK404.out) NB404_0.out (by simp)); have n4_ := aM (KeepBut.blk hk (g' := gb411) (o := .cells #[.slice Ao20 x405000_2.length co20] 29 (0, 0)) (gK BK411.out) NB411_0.out (by simp)); have n5_ := aM (KeepBut.trans (by repeat (first | (with_reducible first | exact HK.out | apply KeepBut.set_ | apply keep_drewN | apply keep_drew | apply keep_alloc | refine keep_far ?_ GW403.out _ | refine keep_far ?_ GW404.out _ | refine keep_far ?_ GW411.out _) | exact HK.out)) hk (.inl rfl)); have n6_ := aM (hb); have n7_ := aM (hi); clear HO_405000; clear HO_412000; clear BK403; clear BK404; clear BK411; clear HK; clear HB; clear HI0; have HO_405000 := n0_; have HO_412000 := n1_; have BK403 := n2_; have BK404 := n3_; have BK411 := n4_; have HK := n5_; have HB := n6_; have HI0 := n7_; clear n0_ n1_ n2_ n3_ n4_ n5_ n6_ n7_; (try clear hb); (try clear hb2); (try clear hk); (try clear hi)))
          have n0_ := aM (Kd.R_drew HO_405000.out)
          have n1_ := aM (Kd.R_drew HO_412000.out)
          have n2_ := aM (blk_drew BK403.out)
          have n3_ := aM (blk_drew BK404.out)
          have n4_ := aM (blk_drew BK411.out)
          have n5_ := aM (IsS89.drew HI0.out)
          have n6_ := aM (keep_drew HK.out)
          have n7_ := aM (below_drew1 HB.out)
          clear HO_405000
          clear HO_412000
          clear BK403
          clear BK404
          clear BK411
          clear HI0
          clear HK
          clear HB
          have HO_405000 := n0_
          have HO_412000 := n1_
          have BK403 := n2_
          have BK404 := n3_
          have BK411 := n4_
          have HI0 := n5_
          have HK := n6_
          have HB := n7_
          clear n0_ n1_ n2_ n3_ n4_ n5_ n6_ n7_
          refine start_ (n := 11) (S := fun w' => w'.cell? ⟨gb404, 0, none⟩ = some (.slice Ao20 x405000_2.length co20)) (ds := []) #[false, false, false, false, false, false, false, false, false, false, false] (by kernel_rfl) rfl rfl ((blk_cell BK404.out 0).trans rfl) (fun hHeld => ?_); refine with_tabW spec_l1Cur_treap.tab13 spec_l1Cur_treap.bits13 (fun HT_ HW_ => ?_)
          generalize w76.drew = w77 at HO_405000 HO_412000 BK403 BK404 BK411 HI0 HK HB hHeld ⊢
          refine pure_ (i := 1) (N := some 37) (v := ?_) (a' := ?_) #[false, true, false, false, false, false, false, false, false, false, false] rfl rfl (any_of HT_.out (by kernel_rfl)) (fun _ _ _ h => h) (Or.inl ⟨by rfl, ?_⟩) ?_ ?_
          rotate_left
          ·
           intro w'
           go_simp
           with_reducible rfl
          rotate_left
          ·
           simp only [Act.put, zSA, zSB, zSC, i64_w, i32_w]
           rfl
          refine pure_ (i := 2) (N := some 38) (v := ?_) (a' := ?_) #[false, true, true, false, false, false, false, false, false, false, false] rfl rfl (any_of HT_.out (by kernel_rfl)) (fun _ _ _ h => h) (Or.inl ⟨by rfl, ?_⟩) ?_ ?_
          rotate_left
          ·
           intro w'
           go_simp
           with_reducible rfl
          rotate_left
          ·
           simp only [Act.put, zSA, zSB, zSC, i64_w, i32_w]
           rfl
          refine take_ (i := 0) (N := some 36) (v := ?_) (a' := ?_) #[true, true, true, false, false, false, false, false, false, false, false] rfl rfl (take_ofW HT_.out HW_.out (by kernel_rfl)) (fun _ _ _ h => h) (Or.inl ⟨by rfl, ?_⟩) hHeld ?_ ?_
          rotate_left
          ·
           intro w' s0
           go_simp
           with_reducible rfl
          rotate_left
          ·
           simp only [Act.put, zSA, zSB, zSC, i64_w, i32_w]
           rfl
          refine one_ (i := 3) (N := some 39) #[true, true, true, true, false, false, false, false, false, false, false] rfl rfl (one_of HT_.out (by kernel_rfl)) (by decide) (fun K hK => ?_)
          refine Kd.R_lit_step Kd.string _ 9 ?hg (N := 39) ?hd (xs := ([(⟨#[]⟩ : ByteArray), (⟨#[118]⟩ : ByteArray), (⟨#[118, 97, 108, 117, 101]⟩ : ByteArray)] : List ByteArray)) (inner := [.string (⟨#[]⟩ : ByteArray), .string (⟨#[118]⟩ : ByteArray), .string (⟨#[118, 97, 108, 117, 101]⟩ : ByteArray)]) (ok := fun _ => True) (okp := fun _ => True) ?hr ?hp (fun _ hk => hk) trivial (Below.refl _ _) (Nat.le_refl _) (by simp) ?_; (case hd => rfl); (case hg => rfl); (case hr => first | (go_simp; done) | (go_simp; rfl)); (case hp => exact (Reps.one (show Kd.M Kd.string _ _ _ (⟨#[]⟩ : ByteArray) [.string (⟨#[]⟩ : ByteArray)] from rfl) (Reps.one (show Kd.M Kd.string _ _ _ (⟨#[118]⟩ : ByteArray) [.string (⟨#[118]⟩ : ByteArray)] from rfl) (Reps.one (show Kd.M Kd.string _ _ _ (⟨#[118, 97, 108, 117, 101]⟩ : ByteArray) [.string (⟨#[118, 97, 108, 117, 101]⟩ : ByteArray)] from rfl) (Reps.none _ _)))))
          intro v427 w78 ho79 hb hg_ hnew_
          clear hg_ hnew_
          (first | rw [← Ny426.out] at ho79 | (simp only [Int.reduceToNat] at ho79; rw [← Ny426.out] at ho79))
          have n0_ := aM (Kd.R_below (gR HO_405000.out) hb)
          have n1_ := aM (Kd.R_below (gR HO_412000.out) hb)
          have n2_ := aM (Kd.R_lower ho79 (keep_size (w := w) (g := g) (row := none) (by repeat (first | (with_reducible first | exact HK.out | apply KeepBut.set_ | apply keep_drewN | apply keep_drew | apply keep_alloc | refine keep_far ?_ GW403.out _ | refine keep_far ?_ GW404.out _ | refine keep_far ?_ GW411.out _) | exact HK.out))))
          have n3_ := aM (blk_below (g := gb403) (o := .cells #[.slice none 0 0] 29 (0, 0)) (gK BK403.out) hb)
          have n4_ := aM (blk_below (g := gb404) (o := .cells #[.slice Ao20 x405000_2.length co20] 29 (0, 0)) (gK BK404.out) hb)
          have n5_ := aM (blk_below (g := gb411) (o := .cells #[.slice Ao20 x405000_2.length co20] 29 (0, 0)) (gK BK411.out) hb)
          have n6_ := aM (IsS89.below (by repeat (first | (with_reducible first | exact HI0.out | apply IsS89.alloc | apply IsS89.drewN | apply IsS89.drew | apply IsS89.set_1 | apply IsS89.set_2 | refine IsS89.far ?_ NB0_403.out _ | refine IsS89.far ?_ NB0_404.out _ | refine IsS89.far ?_ NB0_411.out _) | exact HI0.out)) hb)
          have n7_ := aM (KeepBut.trans (by repeat (first | (with_reducible first | exact HK.out | apply KeepBut.set_ | apply keep_drewN | apply keep_drew | apply keep_alloc | refine keep_far ?_ GW403.out _ | refine keep_far ?_ GW404.out _ | refine keep_far ?_ GW411.out _) | exact HK.out)) (KeepBut.of_below hb g none) (.inl rfl))
          have n8_ := aM (below_step (gB HB.out) hb)
          clear HO_405000
          clear HO_412000
          clear BK403
          clear BK404
          clear BK411
          clear HI0
          clear HK
          clear HB
          have HO_405000 := n0_
          have HO_412000 := n1_
          have HO428 := n2_
          have BK403 := n3_
          have BK404 := n4_
          have BK411 := n5_
          have HI0 := n6_
          have HK := n7_
          have HB := n8_
          clear n0_ n1_ n2_ n3_ n4_ n5_ n6_ n7_ n8_
          clear hb ho79
          obtain ⟨Ao80, co80, eo80⟩ := Kd.R_slice HO428.out
          (first | subst eo80 | (injection eo80 with f1_ f2_ f3_; have f4_ := f1_.symm; have f5_ := f3_.symm; clear f1_ f2_ f3_; subst f4_; subst f5_))
          refine hK.out _ _ ((blk_cell BK404.out 0).trans rfl) (fun hHeld => ?_)
          clear hK K
          refine norm_ (a' := ?_) ?_ ?_
          rotate_left
          ·
           show Act.put _ (some 39) _ = _
           simp only [Act.put, zSA, zSB, zSC, i64_w, i32_w]
           rfl
          refine one_ (i := 4) (N := some 40) #[true, true, true, true, true, false, false, false, false, false, false] rfl rfl (one_of HT_.out (by kernel_rfl)) (by decide) (fun K hK => ?_)
          refine goes_ Try.func67 (by kernel_rfl) rfl #[.pointer (some ⟨g, 0, none⟩), .slice Ao80 y426.length co80] (by rfl) rfl rfl (by (try simp only [List.map_toArray, List.map_cons, List.map_nil]); first | done | rfl | (simp only [List.length_drop, List.length_take]; rfl)) ?_
          with_reducible refine (spec_l1Cur_of.calls g s0_0 t420 t421 _ _ y426 t429 t430 t431 w0 _ ?side1 ?side2 ?side3 ?side4 ?side5 A57.out).mono ?_
          (case side1 => repeat (first | (with_reducible first | exact HI0.out | apply IsS89.alloc | apply IsS89.drewN | apply IsS89.drew | apply IsS89.set_1 | apply IsS89.set_2 | refine IsS89.far ?_ NB0_403.out _ | refine IsS89.far ?_ NB0_404.out _ | refine IsS89.far ?_ NB0_411.out _) | exact HI0.out))
          (case side2 => repeat (first | (with_reducible first | exact HB.out | apply below_alloc | apply pw_below_drewN | apply below_drew1 | refine below_set ?_ (IsS89.ge HI0.out) | refine below_set ?_ GE403.out | refine below_set ?_ GE404.out | refine below_set ?_ GE411.out) | exact HB.out))
          (case side3 => repeat (first | exact (Kd.R_reads' HO428.out).2.2 | (with_reducible refine Kd.C_alloc ?_ _) | (with_reducible refine Kd.C_drewN ?_ _) | (with_reducible refine Kd.C_drew ?_)))
          (case side4 => exact (Kd.R_reads' HO428.out).2.1)
          (case side5 => exact far_slice (IsS89.own_ne HI0.out HO428.out (by decide)))
          rintro e w81 ⟨rfl, hi, hb, hk⟩
          refine ⟨_, rfl, ?_⟩
          have n0_ := aM (Kd.R_mono (Kd.R_keep (IsS89.apart (show IsS89 w0 _ g s0_0 t420 t421 from by repeat (first | (with_reducible first | exact HI0.out | apply IsS89.alloc | apply IsS89.drewN | apply IsS89.drew | apply IsS89.set_1 | apply IsS89.set_2 | refine IsS89.far ?_ NB0_403.out _ | refine IsS89.far ?_ NB0_404.out _ | refine IsS89.far ?_ NB0_411.out _) | exact HI0.out)) (gR HO_405000.out) (by decide)) hk (fun _ h => h.2)) (fun _ h => h.1))
          have n1_ := aM (Kd.R_mono (Kd.R_keep (IsS89.apart (show IsS89 w0 _ g s0_0 t420 t421 from by repeat (first | (with_reducible first | exact HI0.out | apply IsS89.alloc | apply IsS89.drewN | apply IsS89.drew | apply IsS89.set_1 | apply IsS89.set_2 | refine IsS89.far ?_ NB0_403.out _ | refine IsS89.far ?_ NB0_404.out _ | refine IsS89.far ?_ NB0_411.out _) | exact HI0.out)) (gR HO_412000.out) (by decide)) hk (fun _ h => h.2)) (fun _ h => h.1))
          have n2_ := aM (KeepBut.blk hk (g' := gb403) (o := .cells #[.slice none 0 0] 29 (0, 0)) (gK BK403.out) NB403_0.out (by simp))
          have n3_ := aM (KeepBut.blk hk (g' := gb404) (o := .cells #[.slice Ao20 x405000_2.length co20] 29 (0, 0)) (gK BK404.out) NB404_0.out (by simp))
          have n4_ := aM (KeepBut.blk hk (g' := gb411) (o := .cells #[.slice Ao20 x405000_2.length co20] 29 (0, 0)) (gK BK411.out) NB411_0.out (by simp))
          have n5_ := aM (Kd.R_mono (Kd.R_keep (IsS89.apart (show IsS89 w0 _ g s0_0 t420 t421 from by repeat (first | (with_reducible first | exact HI0.out | apply IsS89.alloc | apply IsS89.drewN | apply IsS89.drew | apply IsS89.set_1 | apply IsS89.set_2 | refine IsS89.far ?_ NB0_403.out _ | refine IsS89.far ?_ NB0_404.out _ | refine IsS89.far ?_ NB0_411.out _) | exact HI0.out)) (gR HO428.out) (by decide)) hk (fun _ h => h.2)) (fun _ h => h.1))
          have n6_ := aM (KeepBut.trans (by repeat (first | (with_reducible first | exact HK.out | apply KeepBut.set_ | apply keep_drewN | apply keep_drew | apply keep_alloc | refine keep_far ?_ GW403.out _ | refine keep_far ?_ GW404.out _ | refine keep_far ?_ GW411.out _) | exact HK.out)) hk (.inl rfl))
          have n7_ := aM (hb)
          have n8_ := aM (hi)
          clear HO_405000
          clear HO_412000
          clear BK403
          clear BK404
          clear BK411
          clear HO428
          clear HK
          clear HB
          clear HI0
          have HO_405000 := n0_
          have HO_412000 := n1_
          have BK403 := n2_
          have BK404 := n3_
          have BK411 := n4_
          have HO428 := n5_
          have HK := n6_
          have HB := n7_
          have HI0 := n8_
          clear n0_ n1_ n2_ n3_ n4_ n5_ n6_ n7_ n8_
          (try clear hb)
          (try clear hb2)
          (try clear hk)
          (try clear hi)
          refine hK.out _ _ ((blk_cell BK404.out 0).trans rfl) (fun hHeld => ?_)
          clear hK K
          refine norm_ (a' := ?_) ?_ ?_
          rotate_left
          ·
           show Act.put _ (some 40) _ = _
           simp only [Act.put, zSA, zSB, zSC, i64_w, i32_w]
           rfl
          refine one_ (i := 5) (N := some 41) #[true, true, true, true, true, true, false, false, false, false, false] rfl rfl (one_of HT_.out (by kernel_rfl)) (by decide) (fun K hK => ?_)
          refine goes_ Try.func40 (by kernel_rfl) rfl #[.agg #[.slice Ao20 x405000_2.length co20], .string x7_14, .string t429] (by rfl) rfl rfl (by (try simp only [List.map_toArray, List.map_cons, List.map_nil]); first | done | rfl | (simp only [List.length_drop, List.length_take]; rfl)) ?_
          with_reducible refine (spec_PutKey.calls kj14 _ _ x405000_2 x7_14 t429 t432 false _ ?side1 ?side2 A58.out).mono ?_
          (case side1 => repeat (first | exact (Kd.R_reads' HO_405000.out).2.2 | (with_reducible refine Kd.C_alloc ?_ _) | (with_reducible refine Kd.C_drewN ?_ _) | (with_reducible refine Kd.C_drew ?_)))
          (case side2 => exact (Kd.R_reads' HO_405000.out).2.1)
          rintro e w82 ⟨v433, rfl, ho0, hb⟩
          refine ⟨_, rfl, ?_⟩
          have n0_ := aM (Kd.R_elder' (gR HO_405000.out) (Kd.R_base ho0) hb)
          have n1_ := aM (Kd.R_elder' (gR HO_412000.out) (Kd.R_base ho0) hb)
          have n2_ := aM (Kd.R_below (gR HO428.out) hb)
          have n3_ := aM (Kd.R_lower (Kd.R_new' (Kd.R_new' ho0 (Kd.R_lt (gR HO_405000.out))) (Kd.R_lt (gR HO_412000.out))) (keep_size (w := w) (g := g) (row := none) (by repeat (first | (with_reducible first | exact HK.out | apply KeepBut.set_ | apply keep_drewN | apply keep_drew | apply keep_alloc | refine keep_far ?_ GW403.out _ | refine keep_far ?_ GW404.out _ | refine keep_far ?_ GW411.out _) | exact HK.out))))
          have n4_ := aM (blk_below (g := gb403) (o := .cells #[.slice none 0 0] 29 (0, 0)) (gK BK403.out) hb)
          have n5_ := aM (blk_below (g := gb404) (o := .cells #[.slice Ao20 x405000_2.length co20] 29 (0, 0)) (gK BK404.out) hb)
          have n6_ := aM (blk_below (g := gb411) (o := .cells #[.slice Ao20 x405000_2.length co20] 29 (0, 0)) (gK BK411.out) hb)
          have n7_ := aM (IsS89.below (by repeat (first | (with_reducible first | exact HI0.out | apply IsS89.alloc | apply IsS89.drewN | apply IsS89.drew | apply IsS89.set_1 | apply IsS89.set_2 | refine IsS89.far ?_ NB0_403.out _ | refine IsS89.far ?_ NB0_404.out _ | refine IsS89.far ?_ NB0_411.out _) | exact HI0.out)) hb)
          have n8_ := aM (KeepBut.trans (by repeat (first | (with_reducible first | exact HK.out | apply KeepBut.set_ | apply keep_drewN | apply keep_drew | apply keep_alloc | refine keep_far ?_ GW403.out _ | refine keep_far ?_ GW404.out _ | refine keep_far ?_ GW411.out _) | exact HK.out)) (KeepBut.of_below hb g none) (.inl rfl))
          have n9_ := aM (below_step (gB HB.out) hb)
          clear HO_405000
          clear HO_412000
          clear HO428
          clear BK403
          clear BK404
          clear BK411
          clear HI0
          clear HK
          clear HB
          have HO_405000 := n0_
          have HO_412000 := n1_
          have HO428 := n2_
          have HO434 := n3_
          have BK403 := n4_
          have BK404 := n5_
          have BK411 := n6_
          have HI0 := n7_
          have HK := n8_
          have HB := n9_
          clear n0_ n1_ n2_ n3_ n4_ n5_ n6_ n7_ n8_ n9_
          (try clear hb)
          (try clear hb2)
          (try clear hk)
          (try clear hi)
          (try clear ho0)
          obtain ⟨Ao83, co83, eo83⟩ := Kd.R_slice HO434.out
          (first | subst eo83 | (injection eo83 with f1_ f2_ f3_; have f4_ := f1_.symm; have f5_ := f3_.symm; clear f1_ f2_ f3_; subst f4_; subst f5_))
          refine hK.out _ _ ((blk_cell BK404.out 0).trans rfl) (fun hHeld => ?_)
          clear hK K
          refine norm_ (a' := ?_) ?_ ?_
          rotate_left
          ·
           show Act.put _ (some 41) _ = _
           simp only [Act.put, zSA, zSB, zSC, i64_w, i32_w]
           rfl
          refine pure_ (i := 6) (N := some 35) (v := ?_) (a' := ?_) #[true, true, true, true, true, true, true, false, false, false, false] rfl rfl (any_of HT_.out (by kernel_rfl)) (fun _ _ _ h => h) (Or.inl ⟨by rfl, ?_⟩) ?_ ?_
          rotate_left
          ·
           intro w'
           go_simp
           with_reducible rfl
          rotate_left
          ·
           simp only [Act.put, zSA, zSB, zSC, i64_w, i32_w]
           rfl
          refine pure_ (i := 7) (N := some 42) (v := ?_) (a' := ?_) #[true, true, true, true, true, true, true, true, false, false, false] rfl rfl (any_of HT_.out (by kernel_rfl)) (fun _ _ _ h => h) (Or.inl ⟨by rfl, ?_⟩) ?_ ?_
          rotate_left
          ·
           intro w'
           go_simp
           with_reducible rfl
          rotate_left
          ·
           simp only [Act.put, zSA, zSB, zSC, i64_w, i32_w]
           rfl
          refine pure_ (i := 8) (N := some 43) (v := ?_) (a' := ?_) #[true, true, true, true, true, true, true, true, true, false, false] rfl rfl (any_of HT_.out (by kernel_rfl)) (fun _ _ _ h => h) (Or.inl ⟨by rfl, ?_⟩) ?_ ?_
          rotate_left
          ·
           intro w'
           go_simp
           with_reducible rfl
          rotate_left
          ·
           simp only [Act.put, zSA, zSB, zSC, i64_w, i32_w]
           rfl
          refine one_ (i := 9) (N := none) #[true, true, true, true, true, true, true, true, true, true, false] rfl rfl (one_of HT_.out (by kernel_rfl)) (by decide) (fun K hK => ?_)
          have hs84 : w82.cell? ⟨gb411, 0, none⟩ = some (.slice Ao20 x405000_2.length co20) := (blk_cell BK411.out 0).trans rfl
          have hfs84 := blk_frozen BK411.out 0
          have hns84_0 := NB403_411.out
          have hns84_1 := NB404_411.out
          have hms84_0 := NB411_403.out
          have hms84_1 := NB411_404.out
          refine skip_ (w1 := ?_) (by rfl) rfl ?_ ?_
          rotate_left
          ·
           go_simp
           rfl
          refine hK.out _ _ (((cell_far (p := ⟨gb411, _, none⟩) NB404_411.out _).trans (hHeld))) (fun hHeld => ?_)
          clear hK K
          refine pure_ (i := 10) (N := some 6) (v := ?_) (a' := ?_) #[true, true, true, true, true, true, true, true, true, true, true] rfl rfl (any_of HT_.out (by kernel_rfl)) (fun _ _ _ h => h) (Or.inl ⟨by rfl, ?_⟩) ?_ ?_
          rotate_left
          ·
           intro w'
           go_simp
           with_reducible rfl
          rotate_left
          ·
           simp only [Act.put, zSA, zSB, zSC, i64_w, i32_w]
           rfl
          refine done_ (done_of HT_.out (by kernel_rfl)) ?_
          try go_wp2
          go_roundg kj14
          case measure => have := HJ3.out; have := HK2.out; have := HJ14.out; omega
          case rel => exact ⟨(wrap64 (x4_2 - 1)), (t430), (t431), (x405000_2), (.slice Ao20 x405000_2.length co20), (by first | rfl | (simp; done) | (simp [*]; done)), H', ⟨by have := HJ3.out; have := HK2.out; have := HJ14.out; omega⟩, ⟨by (with_reducible repeat (first | apply Kd.R_alloc | apply Kd.R_drewN | apply Kd.R_drew)); exact Kd.R_mono (Kd.R_far (p := ⟨gb411, 0, none⟩) (Kd.R_types HO_405000.out BK411.out (by decide)) (fun _ hk => hk.2) (.slice Ao83 t432.length co83)) (fun _ hk => trivial)⟩, ⟨by (with_reducible repeat (first | refine blk_drewN ?_ _ | refine blk_drew ?_ | refine blk_alloc ?_ _)); refine blk_far ?_ NB403_411.out _; (with_reducible repeat (first | refine blk_drewN ?_ _ | refine blk_drew ?_ | refine blk_alloc ?_ _)); exact BK403.out⟩, ⟨by (with_reducible repeat (first | refine blk_drewN ?_ _ | refine blk_drew ?_ | refine blk_alloc ?_ _)); refine blk_far ?_ NB404_411.out _; (with_reducible repeat (first | refine blk_drewN ?_ _ | refine blk_drew ?_ | refine blk_alloc ?_ _)); exact BK404.out⟩, ⟨by repeat (first | (with_reducible first | exact HI0.out | apply IsS89.alloc | apply IsS89.drewN | apply IsS89.drew | apply IsS89.set_1 | apply IsS89.set_2 | refine IsS89.far ?_ NB0_403.out _ | refine IsS89.far ?_ NB0_404.out _ | refine IsS89.far ?_ NB0_411.out _) | exact HI0.out)⟩, ⟨by repeat (first | (with_reducible first | exact HK.out | apply KeepBut.set_ | apply keep_drewN | apply keep_drew | apply keep_alloc | refine keep_far ?_ GW403.out _ | refine keep_far ?_ GW404.out _ | refine keep_far ?_ GW411.out _) | exact HK.out)⟩, ⟨by repeat (first | (with_reducible first | exact HB.out | apply below_alloc | apply pw_below_drewN | apply below_drew1 | refine below_set ?_ (IsS89.ge HI0.out) | refine below_set ?_ GE403.out | refine below_set ?_ GE404.out | refine below_set ?_ GE411.out) | exact HB.out)⟩⟩
     ·
      rw [if_neg c13] at H
      have c13b0 : decide (0 < x4_2) = false := decide_eq_false c13
      clear c13
      have HC85 := aM H
      clear H
      go_upto_region 16 with (fail)
      go_cut [53] (fun v53 wc => ∃ (kq : Nat) (x53_84 : Bool) (x1001_84 : Int) (x1002_84 : Int), v53 = .bool x53_84 ∧ Aside0 (spec_l1Cur_treap.j3 kq x53_84 s0_0 x1001_84 x1002_84 x405000_2 = some (r1, r2, r3)) ∧ Aside0 (kq ≤ k2) ∧ Aside0 (Kd.R k71 71 wc w.heap.size (fun _ => True) u405000 x405000_2) ∧ Aside0 (wc.heap[gb403]? = some (.cells #[(.slice none 0 0)] 29 (0, 0))) ∧ Aside0 (wc.heap[gb404]? = some (.cells #[u405000] 29 (0, 0))) ∧ Aside0 (IsS89 w0 wc g s0_0 x1001_84 x1002_84) ∧ Aside0 (KeepBut w wc g none) ∧ Aside0 (Below w0.heap.size w0 wc))
      case first =>
       have H := HC85.out
       clear HC85
       by_cases c86 : (x405000_2.length : Int) > 0
       ·
        rw [if_pos c86] at H
        have c86b0 : decide (0 < (x405000_2.length : Int)) = true := decide_eq_true c86
        have c86b1 : decide (0 < x405000_2.length) = true := decide_eq_true (by omega)
        clear c86
        (first | rw [c86b0] | (simp only [i64_w, i32_w]; rw [c86b0]) | skip)
        replace H := Option.bind_eq_some_iff.mp H
        obtain ⟨⟨t436, t437, t438⟩, A870, H⟩ := H
        replace H : (spec_l1Cur_treap.j3 k2 t436 s0_0 t437 t438 x405000_2) = some (r1, r2, r3) := H
        have A87 := aM A870
        clear A870
        have H' := aM H
        clear H
        have hnb88 := NB404_403.out
        have hnc88 := NB403_404.out
        have hnb89 := NB404_0.out
        have hnc89 := NB0_404.out
        have hcz90_0 : wr.cell? ⟨gb404, 0, none⟩ = some (u405000) := (blk_cell BK404.out 0).trans rfl
        have hfz90_0 := blk_frozen BK404.out 0
        obtain ⟨Ao91, co91, eo91⟩ := Kd.R_slice HO_405000.out
        subst eo91
        go_wp2_with ((go_at_call 66; (try simp only [i64_w]); (with_reducible refine (spec_l1Cur_one.calls g s0_0 x1001_2 x1002_2 20 t436 t437 t438 w0 _ ?side1 ?side2 A87.out).mono ?_); (case side1 => repeat (first | (with_reducible first | exact HI0.out | apply IsS89.alloc | apply IsS89.drewN | apply IsS89.drew | apply IsS89.set_1 | apply IsS89.set_2 | refine IsS89.far ?_ NB0_403.out _ | refine IsS89.far ?_ NB0_404.out _) | exact HI0.out)); (case side2 => repeat (first | (with_reducible first | exact HB.out | apply below_alloc | apply pw_below_drewN | apply below_drew1 | refine below_set ?_ (IsS89.ge HI0.out) | refine below_set ?_ GE403.out | refine below_set ?_ GE404.out) | exact HB.out)); rintro e w92 ⟨rfl, hi, hb, hk⟩; have n0_ := aM (Kd.R_mono (Kd.R_keep (IsS89.apart (show IsS89 w0 _ g s0_0 x1001_2 x1002_2 from by repeat (first | (with_reducible first | exact HI0.out | apply IsS89.alloc | apply IsS89.drewN | apply IsS89.drew | apply IsS89.set_1 | apply IsS89.set_2 | refine IsS89.far ?_ NB0_403.out _ | refine IsS89.far ?_ NB0_404.out _) | exact HI0.out)) (gR HO_405000.out) (by decide)) hk (fun _ h => h.2)) (fun _ h => h.1)); have n1_ := aM (KeepBut.blk hk (g' := gb403) (o := .cells #[.slice none 0 0] 29 (0, 0)) (gK BK403.out) NB403_0.out (by simp)); have n2_ := aM (KeepBut.blk hk (g' := gb404) (o := .cells #[.slice Ao91 x405000_2.length co91] 29 (0, 0)) (gK BK404.out) NB404_0.out (by simp)); have n3_ := aM (KeepBut.trans (by repeat (first | (with_reducible first | exact HK.out | apply KeepBut.set_ | apply keep_drewN | apply keep_drew | apply keep_alloc | refine keep_far ?_ GW403.out _ | refine keep_far ?_ GW404.out _) | exact HK.out)) hk (.inl rfl)); have n4_ := aM (hb); have n5_ := aM (hi); clear HO_405000; clear BK403; clear BK404; clear HK; clear HB; clear HI0; have HO_405000 := n0_; have BK403 := n1_; have BK404 := n2_; have HK := n3_; have HB := n4_; have HI0 := n5_; clear n0_ n1_ n2_ n3_ n4_ n5_; (try clear hb); (try clear hb2); (try clear hk); (try clear hi)))
        go_meet
        case rel => exact ⟨_, (t436), (t437), (t438), (by first | rfl | (simp; done) | (simp [*]; done)), H', ⟨by have := HJ3.out; have := HK2.out; first | omega | exact Nat.le_refl _⟩, ⟨gR HO_405000.out⟩, ⟨gK BK403.out⟩, ⟨gK BK404.out⟩, ⟨by repeat (first | (with_reducible first | exact HI0.out | apply IsS89.alloc | apply IsS89.drewN | apply IsS89.drew | apply IsS89.set_1 | apply IsS89.set_2 | refine IsS89.far ?_ NB0_403.out _ | refine IsS89.far ?_ NB0_404.out _) | exact HI0.out)⟩, ⟨by repeat (first | (with_reducible first | exact HK.out | apply KeepBut.set_ | apply keep_drewN | apply keep_drew | apply keep_alloc | refine keep_far ?_ GW403.out _ | refine keep_far ?_ GW404.out _) | exact HK.out)⟩, ⟨by repeat (first | (with_reducible first | exact HB.out | apply below_alloc | apply pw_below_drewN | apply below_drew1 | refine below_set ?_ (IsS89.ge HI0.out) | refine below_set ?_ GE403.out | refine below_set ?_ GE404.out) | exact HB.out)⟩⟩
       ·
        rw [if_neg c86] at H
        have c86b0 : decide (0 < (x405000_2.length : Int)) = false := decide_eq_false c86
        have c86b1 : decide (0 < x405000_2.length) = false := decide_eq_false (by omega)
        clear c86
        (first | rw [c86b0] | (simp only [i64_w, i32_w]; rw [c86b0]) | skip)
        have H' := aM H
        clear H
        have hnb93 := NB404_403.out
        have hnc93 := NB403_404.out
        have hnb94 := NB404_0.out
        have hnc94 := NB0_404.out
        have hcz95_0 : wr.cell? ⟨gb404, 0, none⟩ = some (u405000) := (blk_cell BK404.out 0).trans rfl
        have hfz95_0 := blk_frozen BK404.out 0
        obtain ⟨Ao96, co96, eo96⟩ := Kd.R_slice HO_405000.out
        subst eo96
        go_wp2
        go_meet
        case rel => exact ⟨_, (false), (x1001_2), (x1002_2), (by first | rfl | (simp; done) | (simp [*]; done)), H', ⟨by have := HJ3.out; have := HK2.out; first | omega | exact Nat.le_refl _⟩, ⟨gR HO_405000.out⟩, ⟨gK BK403.out⟩, ⟨gK BK404.out⟩, ⟨by repeat (first | (with_reducible first | exact HI0.out | apply IsS89.alloc | apply IsS89.drewN | apply IsS89.drew | apply IsS89.set_1 | apply IsS89.set_2 | refine IsS89.far ?_ NB0_403.out _ | refine IsS89.far ?_ NB0_404.out _) | exact HI0.out)⟩, ⟨by repeat (first | (with_reducible first | exact HK.out | apply KeepBut.set_ | apply keep_drewN | apply keep_drew | apply keep_alloc | refine keep_far ?_ GW403.out _ | refine keep_far ?_ GW404.out _) | exact HK.out)⟩, ⟨by repeat (first | (with_reducible first | exact HB.out | apply below_alloc | apply pw_below_drewN | apply below_drew1 | refine below_set ?_ (IsS89.ge HI0.out) | refine below_set ?_ GE403.out | refine below_set ?_ GE404.out) | exact HB.out)⟩⟩
      case rest =>
       clear HC85
       try clear c1
       try clear p2
       try clear c3
       try clear c4
       try clear c5
       try clear c6
       try clear p6
       try clear c7
       try clear c8
       try clear c9
       try clear c13
       try clear c13b0
       try clear c33
       try clear c40
       try clear c48
       try clear c49
       try clear c50
       try clear c54
       try clear c55
       try clear c59
       try clear p64
       try clear c66
       try clear c67
       try clear c69
       try clear c70
       try clear c71
       try clear c73
       try clear c74
       try clear c86
       try clear c86b0
       try clear c86b1
       try clear c88
       try clear c89
       try clear c93
       try clear c94
       try clear hcz51_0
       try clear hcz56_0
       try clear hcz72_0
       try clear hcz75_0
       try clear hcz90_0
       try clear hcz95_0
       try clear hfz51_0
       try clear hfz56_0
       try clear hfz72_0
       try clear hfz75_0
       try clear hfz90_0
       try clear hfz95_0
       obtain ⟨kq, x53_84, x1001_84, x1002_84, rfl, HA, HJ84, HO_405000, BK403, BK404, HI0, HK, HB⟩ := hcut
       cases kq with
       | zero => exact absurd HA.out (by simp [spec_l1Cur_treap.j3])
       | succ kj84 =>
        have H := HA.out
        clear HA
        simp only [spec_l1Cur_treap.j3] at H
        by_cases c97 : x53_84 = true
        ·
         subst c97
         have H1 : ((spec_l1Cur_pick.f s0_0 x1001_84 x1002_84 (x405000_2.length : Int)).bind fun bt439 => ((spec_l1Cur_pick.f s0_0 bt439.2.1 bt439.2.2 3).bind fun bt442 => (if bt442.1 = 0 then (if 0 ≤ bt439.1 then (if bt439.1 < (x405000_2.length : Int) then (if ((rd_T71 x405000_2 bt439.1).f0).size + 1 ≤ 9223372036854775807 then (some ((x405000_2.set (bt439.1 : Int).toNat (⟨((rd_T71 x405000_2 bt439.1).f0) ++ (⟨#[122]⟩ : ByteArray), (rd_T71 x405000_2 bt439.1).f1, (rd_T71 x405000_2 bt439.1).f2, (rd_T71 x405000_2 bt439.1).f3⟩ : S71)), bt442.2.1, bt442.2.2)) else (none)) else (none)) else (none)) else (if bt442.1 = 1 then ((spec_l1Cur_pick.f s0_0 bt442.2.1 bt442.2.2 4).bind fun bt447 => (if 0 ≤ bt439.1 then (if bt439.1 < (x405000_2.length : Int) then (some ((x405000_2.set (bt439.1 : Int).toNat (⟨(rd_T71 x405000_2 bt439.1).f0, (rd_T71 x405000_2 bt439.1).f1, wrap64 (bt447.1 - 1), (rd_T71 x405000_2 bt439.1).f3⟩ : S71)), bt447.2.1, bt447.2.2)) else (none)) else (none))) else ((spec_l1Cur_pick.f s0_0 bt442.2.1 bt442.2.2 4).bind fun bt451 => (if 0 ≤ bt439.1 then (if bt439.1 < (x405000_2.length : Int) then (some ((x405000_2.set (bt439.1 : Int).toNat (⟨(rd_T71 x405000_2 bt439.1).f0, (rd_T71 x405000_2 bt439.1).f1, (rd_T71 x405000_2 bt439.1).f2, wrap64 (bt451.1 - 1)⟩ : S71)), bt451.2.1, bt451.2.2)) else (none)) else (none))))))) = some (r1, r2, r3) := by rw [if_pos rfl] at H; exact H
         clear H
         have H := H1
         clear H1
         replace H := Option.bind_eq_some_iff.mp H
         obtain ⟨⟨t439, t440, t441⟩, A980, H⟩ := H
         replace H : ((spec_l1Cur_pick.f s0_0 t440 t441 3).bind fun bt442 => (if bt442.1 = 0 then (if 0 ≤ t439 then (if t439 < (x405000_2.length : Int) then (if ((rd_T71 x405000_2 t439).f0).size + 1 ≤ 9223372036854775807 then (some ((x405000_2.set (t439 : Int).toNat (⟨((rd_T71 x405000_2 t439).f0) ++ (⟨#[122]⟩ : ByteArray), (rd_T71 x405000_2 t439).f1, (rd_T71 x405000_2 t439).f2, (rd_T71 x405000_2 t439).f3⟩ : S71)), bt442.2.1, bt442.2.2)) else (none)) else (none)) else (none)) else (if bt442.1 = 1 then ((spec_l1Cur_pick.f s0_0 bt442.2.1 bt442.2.2 4).bind fun bt447 => (if 0 ≤ t439 then (if t439 < (x405000_2.length : Int) then (some ((x405000_2.set (t439 : Int).toNat (⟨(rd_T71 x405000_2 t439).f0, (rd_T71 x405000_2 t439).f1, wrap64 (bt447.1 - 1), (rd_T71 x405000_2 t439).f3⟩ : S71)), bt447.2.1, bt447.2.2)) else (none)) else (none))) else ((spec_l1Cur_pick.f s0_0 bt442.2.1 bt442.2.2 4).bind fun bt451 => (if 0 ≤ t439 then (if t439 < (x405000_2.length : Int) then (some ((x405000_2.set (t439 : Int).toNat (⟨(rd_T71 x405000_2 t439).f0, (rd_T71 x405000_2 t439).f1, (rd_T71 x405000_2 t439).f2, wrap64 (bt451.1 - 1)⟩ : S71)), bt451.2.1, bt451.2.2)) else (none)) else (none)))))) = some (r1, r2, r3) := H
         have A98 := aM A980
         clear A980
         replace H := Option.bind_eq_some_iff.mp H
         obtain ⟨⟨t442, t443, t444⟩, A990, H⟩ := H
         replace H : (if t442 = 0 then (if 0 ≤ t439 then (if t439 < (x405000_2.length : Int) then (if ((rd_T71 x405000_2 t439).f0).size + 1 ≤ 9223372036854775807 then (some ((x405000_2.set (t439 : Int).toNat (⟨((rd_T71 x405000_2 t439).f0) ++ (⟨#[122]⟩ : ByteArray), (rd_T71 x405000_2 t439).f1, (rd_T71 x405000_2 t439).f2, (rd_T71 x405000_2 t439).f3⟩ : S71)), t443, t444)) else (none)) else (none)) else (none)) else (if t442 = 1 then ((spec_l1Cur_pick.f s0_0 t443 t444 4).bind fun bt447 => (if 0 ≤ t439 then (if t439 < (x405000_2.length : Int) then (some ((x405000_2.set (t439 : Int).toNat (⟨(rd_T71 x405000_2 t439).f0, (rd_T71 x405000_2 t439).f1, wrap64 (bt447.1 - 1), (rd_T71 x405000_2 t439).f3⟩ : S71)), bt447.2.1, bt447.2.2)) else (none)) else (none))) else ((spec_l1Cur_pick.f s0_0 t443 t444 4).bind fun bt451 => (if 0 ≤ t439 then (if t439 < (x405000_2.length : Int) then (some ((x405000_2.set (t439 : Int).toNat (⟨(rd_T71 x405000_2 t439).f0, (rd_T71 x405000_2 t439).f1, (rd_T71 x405000_2 t439).f2, wrap64 (bt451.1 - 1)⟩ : S71)), bt451.2.1, bt451.2.2)) else (none)) else (none))))) = some (r1, r2, r3) := H
         have A99 := aM A990
         clear A990
         by_cases c100 : t442 = 0
         ·
          rw [if_pos c100] at H
          have c100b0 : (t442 == 0) = true := beq_iff_eq.mpr c100
          have c100b1 : (t442 != 0) = false := bne_eq_false_iff_eq.mpr c100
          clear c100
          by_cases c101 : 0 ≤ t439
          ·
           rw [if_pos c101] at H
           have c101b0 : decide (0 ≤ t439) = true := decide_eq_true c101
           clear c101
           by_cases c102 : t439 < (x405000_2.length : Int)
           ·
            rw [if_pos c102] at H
            have c102b0 : decide (t439 < (x405000_2.length : Int)) = true := decide_eq_true c102
            clear c102
            by_cases c103 : ((rd_T71 x405000_2 t439).f0).size + 1 ≤ 9223372036854775807
            ·
             rw [if_pos c103] at H
             have c103b0 := eq_true c103
             have c103b1 : decide (((rd_T71 x405000_2 t439).f0).size + 1 ≤ 9223372036854775807) = true := decide_eq_true c103
             try have c103b2 : (9223372036854775807 < ((rd_T71 x405000_2 t439).f0).size + 1) = False := eq_false (Nat.not_lt.2 c103)
             try have c103b3 := c103b2
             try simp only [ByteArray.size_append] at c103b3
             obtain ⟨y446, hy446⟩ : ∃ y_ : List (S71), y_ = (x405000_2.set (t439 : Int).toNat (⟨((rd_T71 x405000_2 t439).f0) ++ (⟨#[122]⟩ : ByteArray), (rd_T71 x405000_2 t439).f1, (rd_T71 x405000_2 t439).f2, (rd_T71 x405000_2 t439).f3⟩ : S71)) := ⟨_, rfl⟩
             replace H : (some (y446, t443, t444)) = some (r1, r2, r3) := by first | (rw [hy446]; with_reducible exact H) | (have H2_ := (Option.bind_some _ _).symm.trans H; rw [hy446]; with_reducible exact H2_) | (have H2_ := (Option.bind_some _ _).symm.trans H; with_reducible exact H2_) | with_reducible exact H | (rw [hy446]; exact H) | exact H
             have Ny446 := aM hy446
             clear hy446
             simp only [Option.some.injEq, Prod.mk.injEq] at H
             obtain ⟨rfl, rfl, rfl⟩ := H
             have hnb105 := NB404_403.out
             have hnc105 := NB403_404.out
             have hnb106 := NB404_0.out
             have hnc106 := NB0_404.out
             have hcz107_0 : wc.cell? ⟨gb404, 0, none⟩ = some (u405000) := (blk_cell BK404.out 0).trans rfl
             have hfz107_0 := blk_frozen BK404.out 0
             obtain ⟨Ao108, co108, eo108⟩ := Kd.R_slice HO_405000.out
             subst eo108
             go_wp2_with (first | ((with_reducible refine gate_callee (f := 83) rfl ?_); refine goesL_ (some 58) rfl rfl Try.func83 (by kernel_rfl) rfl #[.pointer (some ⟨g, 0, none⟩), .int .i64 (x405000_2.length : Int)] rfl (by (try simp only [List.map_toArray, List.map_cons, List.map_nil]); first | done | rfl | (simp only [List.length_drop, List.length_take]; rfl)) ?_; (with_reducible refine (spec_l1Cur_pick.calls g s0_0 x1001_84 x1002_84 (x405000_2.length : Int) t439 t440 t441 w0 _ ?side1 ?side2 A98.out).mono ?_); (case side1 => repeat (first | (with_reducible first | exact HI0.out | apply IsS89.alloc | apply IsS89.drewN | apply IsS89.drew | apply IsS89.set_1 | apply IsS89.set_2 | refine IsS89.far ?_ NB0_403.out _ | refine IsS89.far ?_ NB0_404.out _) | exact HI0.out)); (case side2 => repeat (first | (with_reducible first | exact HB.out | apply below_alloc | apply pw_below_drewN | apply below_drew1 | refine below_set ?_ (IsS89.ge HI0.out) | refine below_set ?_ GE403.out | refine below_set ?_ GE404.out) | exact HB.out)); rintro e w109 ⟨rfl, hi, hb, hk⟩; refine ⟨_, rfl, ?_⟩; have n0_ := aM (Kd.R_mono (Kd.R_keep (IsS89.apart (show IsS89 w0 _ g s0_0 x1001_84 x1002_84 from by repeat (first | (with_reducible first | exact HI0.out | apply IsS89.alloc | apply IsS89.drewN | apply IsS89.drew | apply IsS89.set_1 | apply IsS89.set_2 | refine IsS89.far ?_ NB0_403.out _ | refine IsS89.far ?_ NB0_404.out _) | exact HI0.out)) (gR HO_405000.out) (by decide)) hk (fun _ h => h.2)) (fun _ h => h.1)); have n1_ := aM (KeepBut.blk hk (g' := gb403) (o := .cells #[.slice none 0 0] 29 (0, 0)) (gK BK403.out) NB403_0.out (by simp)); have n2_ := aM (KeepBut.blk hk (g' := gb404) (o := .cells #[.slice Ao108 x405000_2.length co108] 29 (0, 0)) (gK BK404.out) NB404_0.out (by simp)); have n3_ := aM (KeepBut.trans (by repeat (first | (with_reducible first | exact HK.out | apply KeepBut.set_ | apply keep_drewN | apply keep_drew | apply keep_alloc | refine keep_far ?_ GW403.out _ | refine keep_far ?_ GW404.out _) | exact HK.out)) hk (.inl rfl)); have n4_ := aM (hb); have n5_ := aM (hi); clear HO_405000; clear BK403; clear BK404; clear HK; clear HB; clear HI0; have HO_405000 := n0_; have BK403 := n1_; have BK404 := n2_; have HK := n3_; have HB := n4_; have HI0 := n5_; clear n0_ n1_ n2_ n3_ n4_ n5_; (try clear hb); (try clear hb2); (try clear hk); (try clear hi)) | ((with_reducible refine gate_callee (f := 83) rfl ?_); refine goesL_ (some 60) rfl rfl Try.func83 (by kernel_rfl) rfl #[.pointer (some ⟨g, 0, none⟩), .int .i64 3] rfl (by (try simp only [List.map_toArray, List.map_cons, List.map_nil]); first | done | rfl | (simp only [List.length_drop, List.length_take]; rfl)) ?_; (with_reducible refine (spec_l1Cur_pick.calls g s0_0 t440 t441 3 t442 t443 t444 w0 _ ?side1 ?side2 A99.out).mono ?_); (case side1 => repeat (first | (with_reducible first | exact HI0.out | apply IsS89.alloc | apply IsS89.drewN | apply IsS89.drew | apply IsS89.set_1 | apply IsS89.set_2 | refine IsS89.far ?_ NB0_403.out _ | refine IsS89.far ?_ NB0_404.out _) | exact HI0.out)); (case side2 => repeat (first | (with_reducible first | exact HB.out | apply below_alloc | apply pw_below_drewN | apply below_drew1 | refine below_set ?_ (IsS89.ge HI0.out) | refine below_set ?_ GE403.out | refine below_set ?_ GE404.out) | exact HB.out)); rintro e w110 ⟨rfl, hi, hb, hk⟩; refine ⟨_, rfl, ?_⟩; have n0_ := aM (Kd.R_mono (Kd.R_keep (IsS89.apart (show IsS89 w0 _ g s0_0 t440 t441 from by repeat (first | (with_reducible first | exact HI0.out | apply IsS89.alloc | apply IsS89.drewN | apply IsS89.drew | apply IsS89.set_1 | apply IsS89.set_2 | refine IsS89.far ?_ NB0_403.out _ | refine IsS89.far ?_ NB0_404.out _) | exact HI0.out)) (gR HO_405000.out) (by decide)) hk (fun _ h => h.2)) (fun _ h => h.1)); have n1_ := aM (KeepBut.blk hk (g' := gb403) (o := .cells #[.slice none 0 0] 29 (0, 0)) (gK BK403.out) NB403_0.out (by simp)); have n2_ := aM (KeepBut.blk hk (g' := gb404) (o := .cells #[.slice Ao108 x405000_2.length co108] 29 (0, 0)) (gK BK404.out) NB404_0.out (by simp)); have n3_ := aM (KeepBut.trans (by repeat (first | (with_reducible first | exact HK.out | apply KeepBut.set_ | apply keep_drewN | apply keep_drew | apply keep_alloc | refine keep_far ?_ GW403.out _ | refine keep_far ?_ GW404.out _) | exact HK.out)) hk (.inl rfl)); have n4_ := aM (hb); have n5_ := aM (hi); clear HO_405000; clear BK403; clear BK404; clear HK; clear HB; clear HI0; have HO_405000 := n0_; have BK403 := n1_; have BK404 := n2_; have HK := n3_; have HB := n4_; have HI0 := n5_; clear n0_ n1_ n2_ n3_ n4_ n5_; (try clear hb); (try clear hb2); (try clear hk); (try clear hi); have hcz111_0 : w110.cell? ⟨gb404, 0, none⟩ = some (.slice Ao108 x405000_2.length co108) := (blk_cell BK404.out 0).trans rfl; have hfz111_0 := blk_frozen BK404.out 0; have p445 : 0 ≤ (t439 : Int) := of_decide_eq_true (by first | (with_reducible assumption) | assumption); have q445 : t439 < (x405000_2.length : Int) := of_decide_eq_true (by first | (with_reducible assumption) | assumption); obtain ⟨ad445, e445, hx445_0, hx445_1, hx445_2, hx445_3⟩ := at_T71 (Kd.R_reads' HO_405000.out).2.2 t439 p445 q445; cases e445; replace p445 := eq_true p445; replace q445 := eq_true q445; have p104 : 0 ≤ (t439 : Int) := of_decide_eq_true (by first | (with_reducible assumption) | assumption); have q104 : (t439 : Int) < ((x405000_2.length : Int) : Int) := of_decide_eq_true (by first | (with_reducible assumption) | assumption); obtain ⟨go104, co104, eo104, gb104, gl104, cl104, HG104⟩ := Kd.R_form HO_405000.out (by omega); (first | cases eo104 | (injection eo104 with ea_ en_ ec_; (first | subst ea_ | (injection ea_ with ea_; subst ea_)); subst ec_; clear en_)); have GB104 := aM gb104; have GG104 := aM HG104; clear gb104 gl104 HG104; (first | simp only [add_plain] at hx445_0 | skip); (first | simp only [add_plain] at hx445_1 | skip); (first | simp only [add_plain] at hx445_2 | skip); (first | simp only [add_plain] at hx445_3 | skip); obtain ⟨ce104, hcl104, hM104, hcc104, hfr104⟩ := Kd.R_elem HO_405000.out z71 (t439 : Int) p104 q104; obtain rfl := k71_openM hM104; have hx104_0 : w110.cell? ⟨go104, (t439 : Int).toNat * 4, none⟩ = some (.string ((rd_T71 x405000_2 t439).f0)) := hcc104 0 _ rfl; have hx104_1 : w110.cell? ⟨go104, (t439 : Int).toNat * 4 + 1, none⟩ = some (.string ((rd_T71 x405000_2 t439).f1)) := hcc104 1 _ rfl; have hx104_2 : w110.cell? ⟨go104, (t439 : Int).toNat * 4 + 2, none⟩ = some (.int .i64 ((rd_T71 x405000_2 t439).f2)) := hcc104 2 _ rfl; have hx104_3 : w110.cell? ⟨go104, (t439 : Int).toNat * 4 + 3, none⟩ = some (.int .i64 ((rd_T71 x405000_2 t439).f3)) := hcc104 3 _ rfl; have hf104_0 : w110.frozen? ⟨go104, (t439 : Int).toNat * 4, none⟩ = false := hfr104 0; have hf104_1 : w110.frozen? ⟨go104, (t439 : Int).toNat * 4 + 1, none⟩ = false := hfr104 1; have hf104_2 : w110.frozen? ⟨go104, (t439 : Int).toNat * 4 + 2, none⟩ = false := hfr104 2; have hf104_3 : w110.frozen? ⟨go104, (t439 : Int).toNat * 4 + 3, none⟩ = false := hfr104 3; clear hcl104 hcc104 hfr104 hM104; replace p104 := eq_true p104; replace q104 := eq_true q104; have HX112 := aM (show Kd.R k71 71 w110 w.heap.size (fun _ => True) (.slice (some ⟨go104, 0, none⟩) x405000_2.length co108) x405000_2 from (gR HO_405000.out)); obtain ⟨ce112, hcl112, hM112, hcc112, hfr112⟩ := Kd.R_elem HX112.out z71 (t439 : Int) (of_decide_eq_true (by first | (with_reducible assumption) | assumption)) (by have h_ : (t439 : Int) < ((x405000_2.length : Int) : Int) := of_decide_eq_true (by first | (with_reducible assumption) | assumption); first | exact h_ | (have e_ := (Kd.R_reads' HO_405000.out).1; omega) | simpa using h_); obtain rfl := k71_openM hM112; have HP112 := Kd.R_seg HX112.out (t439 : Int) (of_decide_eq_true (by first | (with_reducible assumption) | assumption)) (by have h_ : (t439 : Int) < ((x405000_2.length : Int) : Int) := of_decide_eq_true (by first | (with_reducible assumption) | assumption); first | exact h_ | (have e_ := (Kd.R_reads' HO_405000.out).1; omega) | simpa using h_) (seg := [.string (((rd_T71 x405000_2 t439).f0) ++ (⟨#[122]⟩ : ByteArray))]) (j := 0) hcl112 hcc112 (show 1 ≤ 4 from by decide) (x' := (⟨((rd_T71 x405000_2 t439).f0) ++ (⟨#[122]⟩ : ByteArray), (rd_T71 x405000_2 t439).f1, (rd_T71 x405000_2 t439).f2, (rd_T71 x405000_2 t439).f3⟩ : S71)) (k71_mkM _ _ _ (⟨((rd_T71 x405000_2 t439).f0) ++ (⟨#[122]⟩ : ByteArray), (rd_T71 x405000_2 t439).f1, (rd_T71 x405000_2 t439).f2, (rd_T71 x405000_2 t439).f3⟩ : S71) ) (fun _ hk => hk); have hx112_0 := hcc112 0 _ rfl; (try simp only [show (k71).sz = 4 from rfl, Nat.mul_one, Nat.add_zero] at hx112_0); have hf112_0 := hfr112 0; (try simp only [show (k71).sz = 4 from rfl, Nat.mul_one, Nat.add_zero] at hf112_0); clear hcl112 hcc112 hfr112 hM112) | ((with_reducible refine gate_store (t := 9) (p := 79) rfl ?_); refine store_event (t := 9) (p := 79) (v := ?vo_w113) (w1 := (w110.setCell ⟨go104, (t439 : Int).toNat * 4, none⟩ (.string (((rd_T71 x405000_2 t439).f0) ++ (⟨#[122]⟩ : ByteArray))))) ?hg ?ho ?hn ?hr ?_; (case ho => rfl); (case hg => rfl); (case hn => rfl); (case hr => first | (go_simp; done) | (go_simp; rfl)); intro w113 hw; have hg : w110.grownBy w113 (some go104) := (by rw [hw]; exact HP112.2); have hp_ : Kd.R k71 71 w113 w.heap.size (fun _ => True) (.slice (some ⟨go104, 0, none⟩) x405000_2.length co108) y446 := (by rw [hw, Ny446.out]; exact HP112.1); clear HP112; have n0_ := aM (hp_); have n1_ := aM (blk_grown (g := gb403) (o := .cells #[.slice none 0 0] 29 (0, 0)) (gK BK403.out) hg (Kd.R_ne HO_405000.out BK403.out (by decide))); have n2_ := aM (blk_grown (g := gb404) (o := .cells #[.slice (some ⟨go104, 0, none⟩) x405000_2.length co108] 29 (0, 0)) (gK BK404.out) hg (Kd.R_ne HO_405000.out BK404.out (by decide))); have n3_ := aM (IsS89.grown (by repeat (first | (with_reducible first | exact HI0.out | apply IsS89.alloc | apply IsS89.drewN | apply IsS89.drew | apply IsS89.set_1 | apply IsS89.set_2 | refine IsS89.far ?_ NB0_403.out _ | refine IsS89.far ?_ NB0_404.out _) | exact HI0.out)) hg (IsS89.own_ne HI0.out HO_405000.out (by decide))); have n4_ := aM ((by rw [hw]; exact below_set (HB.out) (Nat.le_trans HL.out GB104.out) : Below w0.heap.size w0 w113)); have n5_ := aM (KeepBut.trans (by repeat (first | (with_reducible first | exact HK.out | apply KeepBut.set_ | apply keep_drewN | apply keep_drew | apply keep_alloc | refine keep_far ?_ GW403.out _ | refine keep_far ?_ GW404.out _) | exact HK.out)) (KeepBut.of_grown hg g) (Kd.R_base2 HO_405000.out)); clear HO_405000; clear BK403; clear BK404; clear HI0; clear HB; clear HK; have HO_405000 := n0_; have BK403 := n1_; have BK404 := n2_; have HI0 := n3_; have HB := n4_; have HK := n5_; clear n0_ n1_ n2_ n3_ n4_ n5_; clear hg hw hp_; have hcz114_0 : w113.cell? ⟨gb404, 0, none⟩ = some (.slice (some ⟨go104, 0, none⟩) x405000_2.length co108) := (blk_cell BK404.out 0).trans rfl; have hfz114_0 := blk_frozen BK404.out 0; have hnb115 := NB403_0.out; have hnc115 := NB0_403.out; have hcz116_0 : w113.cell? ⟨gb403, 0, none⟩ = some (.slice none 0 0) := (blk_cell BK403.out 0).trans rfl; have hfz116_0 := blk_frozen BK403.out 0))
             refine bodyPost_ret (results_cell_row rfl _ _ gb403 29 #[.slice (some ⟨go104, 0, none⟩) x405000_2.length co108] (0, 0) _ rfl (by (with_reducible repeat (first | refine blk_drewN ?_ _ | refine blk_drew ?_ | refine blk_alloc ?_ _)); refine blk_put (cs := #[.slice none 0 0]) ?_ 0 _ rfl; (with_reducible repeat (first | refine blk_drewN ?_ _ | refine blk_drew ?_ | refine blk_alloc ?_ _)); exact BK403.out) Try.underlying29 rfl (by kernel_rfl)) rfl ?_
             exact ⟨_, by first | rfl | (simp [errW_none, errW_some] <;> rfl) | (simp [*, errW_none, errW_some] <;> rfl), by (with_reducible repeat (first | apply Kd.R_alloc | apply Kd.R_drewN | apply Kd.R_drew)); exact Kd.R_mono (Kd.R_far (p := ⟨gb403, 0, none⟩) (Kd.R_types HO_405000.out BK403.out (by decide)) (fun _ hk => hk.2) (.slice (some ⟨go104, 0, none⟩) x405000_2.length co108)) (fun _ hk => trivial), by repeat (first | (with_reducible first | exact HI0.out | apply IsS89.alloc | apply IsS89.drewN | apply IsS89.drew | apply IsS89.set_1 | apply IsS89.set_2 | refine IsS89.far ?_ NB0_403.out _ | refine IsS89.far ?_ NB0_404.out _) | exact HI0.out), by repeat (first | (with_reducible first | exact HB.out | apply below_alloc | apply pw_below_drewN | apply below_drew1 | refine below_set ?_ (IsS89.ge HI0.out) | refine below_set ?_ GE403.out | refine below_set ?_ GE404.out) | exact HB.out), by repeat (first | (with_reducible first | exact HK.out | apply KeepBut.set_ | apply keep_drewN | apply keep_drew | apply keep_alloc | refine keep_far ?_ GW403.out _ | refine keep_far ?_ GW404.out _) | exact HK.out)⟩
            ·
             rw [if_neg c103] at H
             exact absurd H (by simp)
           ·
            rw [if_neg c102] at H
            exact absurd H (by simp)
          ·
           rw [if_neg c101] at H
           exact absurd H (by simp)
         ·
          rw [if_neg c100] at H
          have c100b0 : (t442 == 0) = false := beq_eq_false_iff_ne.mpr c100
          have c100b1 : (t442 != 0) = true := bne_iff_ne.mpr c100
          by_cases c117 : t442 = 1
          ·
           rw [if_pos c117] at H
           have c117b0 : (t442 == 1) = true := beq_iff_eq.mpr c117
           have c117b1 : (t442 != 1) = false := bne_eq_false_iff_eq.mpr c117
           clear c117
           replace H := Option.bind_eq_some_iff.mp H
           obtain ⟨⟨t447, t448, t449⟩, A1180, H⟩ := H
           replace H : (if 0 ≤ t439 then (if t439 < (x405000_2.length : Int) then (some ((x405000_2.set (t439 : Int).toNat (⟨(rd_T71 x405000_2 t439).f0, (rd_T71 x405000_2 t439).f1, wrap64 (t447 - 1), (rd_T71 x405000_2 t439).f3⟩ : S71)), t448, t449)) else (none)) else (none)) = some (r1, r2, r3) := H
           have A118 := aM A1180
           clear A1180
           by_cases c119 : 0 ≤ t439
           ·
            rw [if_pos c119] at H
            have c119b0 : decide (0 ≤ t439) = true := decide_eq_true c119
            clear c119
            by_cases c120 : t439 < (x405000_2.length : Int)
            ·
             rw [if_pos c120] at H
             have c120b0 : decide (t439 < (x405000_2.length : Int)) = true := decide_eq_true c120
             clear c120
             obtain ⟨y450, hy450⟩ : ∃ y_ : List (S71), y_ = (x405000_2.set (t439 : Int).toNat (⟨(rd_T71 x405000_2 t439).f0, (rd_T71 x405000_2 t439).f1, wrap64 (t447 - 1), (rd_T71 x405000_2 t439).f3⟩ : S71)) := ⟨_, rfl⟩
             replace H : (some (y450, t448, t449)) = some (r1, r2, r3) := by first | (rw [hy450]; with_reducible exact H) | (have H2_ := (Option.bind_some _ _).symm.trans H; rw [hy450]; with_reducible exact H2_) | (have H2_ := (Option.bind_some _ _).symm.trans H; with_reducible exact H2_) | with_reducible exact H | (rw [hy450]; exact H) | exact H
             have Ny450 := aM hy450
             clear hy450
             simp only [Option.some.injEq, Prod.mk.injEq] at H
             obtain ⟨rfl, rfl, rfl⟩ := H
             have hnb122 := NB404_403.out
             have hnc122 := NB403_404.out
             have hnb123 := NB404_0.out
             have hnc123 := NB0_404.out
             have hcz124_0 : wc.cell? ⟨gb404, 0, none⟩ = some (u405000) := (blk_cell BK404.out 0).trans rfl
             have hfz124_0 := blk_frozen BK404.out 0
             obtain ⟨Ao125, co125, eo125⟩ := Kd.R_slice HO_405000.out
             subst eo125
             try go_wp2_with (first | ((with_reducible refine gate_callee (f := 83) rfl ?_); refine goesL_ (some 58) rfl rfl Try.func83 (by kernel_rfl) rfl #[.pointer (some ⟨g, 0, none⟩), .int .i64 (x405000_2.length : Int)] rfl (by (try simp only [List.map_toArray, List.map_cons, List.map_nil]); first | done | rfl | (simp only [List.length_drop, List.length_take]; rfl)) ?_; (with_reducible refine (spec_l1Cur_pick.calls g s0_0 x1001_84 x1002_84 (x405000_2.length : Int) t439 t440 t441 w0 _ ?side1 ?side2 A98.out).mono ?_); (case side1 => repeat (first | (with_reducible first | exact HI0.out | apply IsS89.alloc | apply IsS89.drewN | apply IsS89.drew | apply IsS89.set_1 | apply IsS89.set_2 | refine IsS89.far ?_ NB0_403.out _ | refine IsS89.far ?_ NB0_404.out _) | exact HI0.out)); (case side2 => repeat (first | (with_reducible first | exact HB.out | apply below_alloc | apply pw_below_drewN | apply below_drew1 | refine below_set ?_ (IsS89.ge HI0.out) | refine below_set ?_ GE403.out | refine below_set ?_ GE404.out) | exact HB.out)); rintro e w126 ⟨rfl, hi, hb, hk⟩; refine ⟨_, rfl, ?_⟩; have n0_ := aM (Kd.R_mono (Kd.R_keep (IsS89.apart (show IsS89 w0 _ g s0_0 x1001_84 x1002_84 from by repeat (first | (with_reducible first | exact HI0.out | apply IsS89.alloc | apply IsS89.drewN | apply IsS89.drew | apply IsS89.set_1 | apply IsS89.set_2 | refine IsS89.far ?_ NB0_403.out _ | refine IsS89.far ?_ NB0_404.out _) | exact HI0.out)) (gR HO_405000.out) (by decide)) hk (fun _ h => h.2)) (fun _ h => h.1)); have n1_ := aM (KeepBut.blk hk (g' := gb403) (o := .cells #[.slice none 0 0] 29 (0, 0)) (gK BK403.out) NB403_0.out (by simp)); have n2_ := aM (KeepBut.blk hk (g' := gb404) (o := .cells #[.slice Ao125 x405000_2.length co125] 29 (0, 0)) (gK BK404.out) NB404_0.out (by simp)); have n3_ := aM (KeepBut.trans (by repeat (first | (with_reducible first | exact HK.out | apply KeepBut.set_ | apply keep_drewN | apply keep_drew | apply keep_alloc | refine keep_far ?_ GW403.out _ | refine keep_far ?_ GW404.out _) | exact HK.out)) hk (.inl rfl)); have n4_ := aM (hb); have n5_ := aM (hi); clear HO_405000; clear BK403; clear BK404; clear HK; clear HB; clear HI0; have HO_405000 := n0_; have BK403 := n1_; have BK404 := n2_; have HK := n3_; have HB := n4_; have HI0 := n5_; clear n0_ n1_ n2_ n3_ n4_ n5_; (try clear hb); (try clear hb2); (try clear hk); (try clear hi)) | ((with_reducible refine gate_callee (f := 83) rfl ?_); refine goesL_ (some 60) rfl rfl Try.func83 (by kernel_rfl) rfl #[.pointer (some ⟨g, 0, none⟩), .int .i64 3] rfl (by (try simp only [List.map_toArray, List.map_cons, List.map_nil]); first | done | rfl | (simp only [List.length_drop, List.length_take]; rfl)) ?_; (with_reducible refine (spec_l1Cur_pick.calls g s0_0 t440 t441 3 t442 t443 t444 w0 _ ?side1 ?side2 A99.out).mono ?_); (case side1 => repeat (first | (with_reducible first | exact HI0.out | apply IsS89.alloc | apply IsS89.drewN | apply IsS89.drew | apply IsS89.set_1 | apply IsS89.set_2 | refine IsS89.far ?_ NB0_403.out _ | refine IsS89.far ?_ NB0_404.out _) | exact HI0.out)); (case side2 => repeat (first | (with_reducible first | exact HB.out | apply below_alloc | apply pw_below_drewN | apply below_drew1 | refine below_set ?_ (IsS89.ge HI0.out) | refine below_set ?_ GE403.out | refine below_set ?_ GE404.out) | exact HB.out)); rintro e w127 ⟨rfl, hi, hb, hk⟩; refine ⟨_, rfl, ?_⟩; have n0_ := aM (Kd.R_mono (Kd.R_keep (IsS89.apart (show IsS89 w0 _ g s0_0 t440 t441 from by repeat (first | (with_reducible first | exact HI0.out | apply IsS89.alloc | apply IsS89.drewN | apply IsS89.drew | apply IsS89.set_1 | apply IsS89.set_2 | refine IsS89.far ?_ NB0_403.out _ | refine IsS89.far ?_ NB0_404.out _) | exact HI0.out)) (gR HO_405000.out) (by decide)) hk (fun _ h => h.2)) (fun _ h => h.1)); have n1_ := aM (KeepBut.blk hk (g' := gb403) (o := .cells #[.slice none 0 0] 29 (0, 0)) (gK BK403.out) NB403_0.out (by simp)); have n2_ := aM (KeepBut.blk hk (g' := gb404) (o := .cells #[.slice Ao125 x405000_2.length co125] 29 (0, 0)) (gK BK404.out) NB404_0.out (by simp)); have n3_ := aM (KeepBut.trans (by repeat (first | (with_reducible first | exact HK.out | apply KeepBut.set_ | apply keep_drewN | apply keep_drew | apply keep_alloc | refine keep_far ?_ GW403.out _ | refine keep_far ?_ GW404.out _) | exact HK.out)) hk (.inl rfl)); have n4_ := aM (hb); have n5_ := aM (hi); clear HO_405000; clear BK403; clear BK404; clear HK; clear HB; clear HI0; have HO_405000 := n0_; have BK403 := n1_; have BK404 := n2_; have HK := n3_; have HB := n4_; have HI0 := n5_; clear n0_ n1_ n2_ n3_ n4_ n5_; (try clear hb); (try clear hb2); (try clear hk); (try clear hi)))
             have n0_ := aM (Kd.R_drew HO_405000.out)
             have n1_ := aM (blk_drew BK403.out)
             have n2_ := aM (blk_drew BK404.out)
             have n3_ := aM (IsS89.drew HI0.out)
             have n4_ := aM (keep_drew HK.out)
             have n5_ := aM (below_drew1 HB.out)
             clear HO_405000
             clear BK403
             clear BK404
             clear HI0
             clear HK
             clear HB
             have HO_405000 := n0_
             have BK403 := n1_
             have BK404 := n2_
             have HI0 := n3_
             have HK := n4_
             have HB := n5_
             clear n0_ n1_ n2_ n3_ n4_ n5_
             refine start_ (n := 9) (S := fun w' => w'.cell? ⟨gb404, 0, none⟩ = some (.slice Ao125 x405000_2.length co125)) (ds := [8]) #[false, false, false, false, false, false, false, false, false] (by kernel_rfl) rfl rfl ((blk_cell BK404.out 0).trans rfl) (fun hHeld => ?_); refine with_tabW spec_l1Cur_treap.tab23 spec_l1Cur_treap.bits23 (fun HT_ HW_ => ?_)
             generalize w127.drew = w128 at HO_405000 BK403 BK404 HI0 HK HB hHeld ⊢
             refine pure_ (i := 0) (N := some 82) (v := ?_) (a' := ?_) #[true, false, false, false, false, false, false, false, false] rfl rfl (any_of HT_.out (by kernel_rfl)) (fun _ _ _ h => h) (Or.inl ⟨by rfl, ?_⟩) ?_ ?_
             rotate_left
             ·
              intro w'
              go_simp
              with_reducible rfl
             rotate_left
             ·
              simp only [Act.put, zSA, zSB, zSC, i64_w, i32_w]
              rfl
             refine pure_ (i := 2) (N := some 84) (v := ?_) (a' := ?_) #[true, false, true, false, false, false, false, false, false] rfl rfl (any_of HT_.out (by kernel_rfl)) (fun _ _ _ h => h) (Or.inl ⟨by rfl, ?_⟩) ?_ ?_
             rotate_left
             ·
              intro w'
              go_simp
              with_reducible rfl
             rotate_left
             ·
              simp only [Act.put, zSA, zSB, zSC, i64_w, i32_w]
              rfl
             refine pure_ (i := 3) (N := some 85) (v := ?_) (a' := ?_) #[true, false, true, true, false, false, false, false, false] rfl rfl (any_of HT_.out (by kernel_rfl)) (fun _ _ _ h => h) (Or.inl ⟨by rfl, ?_⟩) ?_ ?_
             rotate_left
             ·
              intro w'
              go_simp
              with_reducible rfl
             rotate_left
             ·
              simp only [Act.put, zSA, zSB, zSC, i64_w, i32_w]
              rfl
             refine take_ (i := 1) (N := some 83) (v := ?_) (a' := ?_) #[true, true, true, true, false, false, false, false, false] rfl rfl (take_ofW HT_.out HW_.out (by kernel_rfl)) (fun _ _ _ h => h) (Or.inl ⟨by rfl, ?_⟩) hHeld ?_ ?_
             rotate_left
             ·
              intro w' s0
              go_simp
              with_reducible rfl
             rotate_left
             ·
              simp only [Act.put, zSA, zSB, zSC, i64_w, i32_w]
              rfl
             refine one_ (i := 4) (N := some 86) #[true, true, true, true, true, false, false, false, false] rfl rfl (one_of HT_.out (by kernel_rfl)) (by decide) (fun K hK => ?_)
             refine goes_ Try.func83 (by kernel_rfl) rfl #[.pointer (some ⟨g, 0, none⟩), .int .i64 4] (by rfl) rfl rfl (by (try simp only [List.map_toArray, List.map_cons, List.map_nil]); first | done | rfl | (simp only [List.length_drop, List.length_take]; rfl)) ?_
             with_reducible refine (spec_l1Cur_pick.calls g s0_0 t443 t444 4 t447 t448 t449 w0 _ ?side1 ?side2 A118.out).mono ?_
             (case side1 => repeat (first | (with_reducible first | exact HI0.out | apply IsS89.alloc | apply IsS89.drewN | apply IsS89.drew | apply IsS89.set_1 | apply IsS89.set_2 | refine IsS89.far ?_ NB0_403.out _ | refine IsS89.far ?_ NB0_404.out _) | exact HI0.out))
             (case side2 => repeat (first | (with_reducible first | exact HB.out | apply below_alloc | apply pw_below_drewN | apply below_drew1 | refine below_set ?_ (IsS89.ge HI0.out) | refine below_set ?_ GE403.out | refine below_set ?_ GE404.out) | exact HB.out))
             rintro e w129 ⟨rfl, hi, hb, hk⟩
             refine ⟨_, rfl, ?_⟩
             have n0_ := aM (Kd.R_mono (Kd.R_keep (IsS89.apart (show IsS89 w0 _ g s0_0 t443 t444 from by repeat (first | (with_reducible first | exact HI0.out | apply IsS89.alloc | apply IsS89.drewN | apply IsS89.drew | apply IsS89.set_1 | apply IsS89.set_2 | refine IsS89.far ?_ NB0_403.out _ | refine IsS89.far ?_ NB0_404.out _) | exact HI0.out)) (gR HO_405000.out) (by decide)) hk (fun _ h => h.2)) (fun _ h => h.1))
             have n1_ := aM (KeepBut.blk hk (g' := gb403) (o := .cells #[.slice none 0 0] 29 (0, 0)) (gK BK403.out) NB403_0.out (by simp))
             have n2_ := aM (KeepBut.blk hk (g' := gb404) (o := .cells #[.slice Ao125 x405000_2.length co125] 29 (0, 0)) (gK BK404.out) NB404_0.out (by simp))
             have n3_ := aM (KeepBut.trans (by repeat (first | (with_reducible first | exact HK.out | apply KeepBut.set_ | apply keep_drewN | apply keep_drew | apply keep_alloc | refine keep_far ?_ GW403.out _ | refine keep_far ?_ GW404.out _) | exact HK.out)) hk (.inl rfl))
             have n4_ := aM (hb)
             have n5_ := aM (hi)
             clear HO_405000
             clear BK403
             clear BK404
             clear HK
             clear HB
             clear HI0
             have HO_405000 := n0_
             have BK403 := n1_
             have BK404 := n2_
             have HK := n3_
             have HB := n4_
             have HI0 := n5_
             clear n0_ n1_ n2_ n3_ n4_ n5_
             (try clear hb)
             (try clear hb2)
             (try clear hk)
             (try clear hi)
             have p121 : 0 ≤ (t439 : Int) := of_decide_eq_true (by first | (with_reducible assumption) | assumption)
             have q121 : (t439 : Int) < ((x405000_2.length : Int) : Int) := of_decide_eq_true (by first | (with_reducible assumption) | assumption)
             obtain ⟨go121, co121, eo121, gb121, gl121, cl121, HG121⟩ := Kd.R_form HO_405000.out (by omega)
             (first | cases eo121 | (injection eo121 with ea_ en_ ec_; (first | subst ea_ | (injection ea_ with ea_; subst ea_)); subst ec_; clear en_))
             have GB121 := aM gb121
             have GG121 := aM HG121
             clear gb121 gl121 HG121
             obtain ⟨ce121, hcl121, hM121, hcc121, hfr121⟩ := Kd.R_elem HO_405000.out z71 (t439 : Int) p121 q121
             obtain rfl := k71_openM hM121
             have hx121_0 : World.cell? _ ⟨go121, (t439 : Int).toNat * 4, none⟩ = some (.string ((rd_T71 x405000_2 t439).f0)) := hcc121 0 _ rfl
             have hx121_1 : World.cell? _ ⟨go121, (t439 : Int).toNat * 4 + 1, none⟩ = some (.string ((rd_T71 x405000_2 t439).f1)) := hcc121 1 _ rfl
             have hx121_2 : World.cell? _ ⟨go121, (t439 : Int).toNat * 4 + 2, none⟩ = some (.int .i64 ((rd_T71 x405000_2 t439).f2)) := hcc121 2 _ rfl
             have hx121_3 : World.cell? _ ⟨go121, (t439 : Int).toNat * 4 + 3, none⟩ = some (.int .i64 ((rd_T71 x405000_2 t439).f3)) := hcc121 3 _ rfl
             have hf121_0 : World.frozen? _ ⟨go121, (t439 : Int).toNat * 4, none⟩ = false := hfr121 0
             have hf121_1 : World.frozen? _ ⟨go121, (t439 : Int).toNat * 4 + 1, none⟩ = false := hfr121 1
             have hf121_2 : World.frozen? _ ⟨go121, (t439 : Int).toNat * 4 + 2, none⟩ = false := hfr121 2
             have hf121_3 : World.frozen? _ ⟨go121, (t439 : Int).toNat * 4 + 3, none⟩ = false := hfr121 3
             clear hcl121 hcc121 hfr121 hM121
             replace p121 := eq_true p121
             replace q121 := eq_true q121
             have HN0_go121 := aM (show g ≠ go121 from by have h_ := IsS89.own_ne HI0.out HO_405000.out (by decide); intro e_; exact h_ (by rw [e_]; rfl))
             obtain ⟨ce130, hcl130, hM130, hcc130, hfr130⟩ := Kd.R_elem HO_405000.out z71 (t439 : Int) (of_decide_eq_true (by first | (with_reducible assumption) | assumption)) (by have h_ : (t439 : Int) < ((x405000_2.length : Int) : Int) := of_decide_eq_true (by first | (with_reducible assumption) | assumption); first | exact h_ | (have e_ := (Kd.R_reads' HO_405000.out).1; omega) | simpa using h_)
             obtain rfl := k71_openM hM130
             have HP130 := (Kd.R_seg HO_405000.out (t439 : Int) (of_decide_eq_true (by first | (with_reducible assumption) | assumption)) (by have h_ : (t439 : Int) < ((x405000_2.length : Int) : Int) := of_decide_eq_true (by first | (with_reducible assumption) | assumption); first | exact h_ | (have e_ := (Kd.R_reads' HO_405000.out).1; omega) | simpa using h_) (seg := [.int .i64 (wrap64 (t447 - 1))]) (j := 2) hcl130 hcc130 (show 3 ≤ 4 from by decide) (x' := (⟨(rd_T71 x405000_2 t439).f0, (rd_T71 x405000_2 t439).f1, wrap64 (t447 - 1), (rd_T71 x405000_2 t439).f3⟩ : S71)) (k71_mkM _ _ _ (⟨(rd_T71 x405000_2 t439).f0, (rd_T71 x405000_2 t439).f1, wrap64 (t447 - 1), (rd_T71 x405000_2 t439).f3⟩ : S71) ) (fun _ hk => hk)).1
             rw [← Ny450.out] at HP130
             have HQ130 := aM HP130
             clear hcl130 hcc130 hfr130 hM130 HP130
             refine hK.out _ _ ((blk_cell BK404.out 0).trans rfl) (fun hHeld => ?_)
             clear hK K
             refine norm_ (a' := ?_) ?_ ?_
             rotate_left
             ·
              show Act.put _ (some 86) _ = _
              simp only [Act.put, zSA, zSB, zSC, i64_w, i32_w]
              rfl
             refine pure_ (i := 5) (N := some 87) (v := ?_) (a' := ?_) #[true, true, true, true, true, true, false, false, false] rfl rfl (any_of HT_.out (by kernel_rfl)) (fun _ _ _ h => h) (Or.inl ⟨by rfl, ?_⟩) ?_ ?_
             rotate_left
             ·
              intro w'
              go_simp
              with_reducible rfl
             rotate_left
             ·
              simp only [Act.put, zSA, zSB, zSC, i64_w, i32_w]
              rfl
             refine pure_ (i := 6) (N := some 88) (v := ?_) (a' := ?_) #[true, true, true, true, true, true, true, false, false] rfl rfl (any_of HT_.out (by kernel_rfl)) (fun _ _ _ h => h) (Or.inl ⟨by rfl, ?_⟩) ?_ ?_
             rotate_left
             ·
              intro w'
              go_simp
              with_reducible rfl
             rotate_left
             ·
              simp only [Act.put, zSA, zSB, zSC, i64_w, i32_w]
              rfl
             refine pure_ (i := 7) (N := some 89) (v := ?_) (a' := ?_) #[true, true, true, true, true, true, true, true, false] rfl rfl (any_of HT_.out (by kernel_rfl)) (fun _ _ _ h => h) (Or.inl ⟨by rfl, ?_⟩) ?_ ?_
             rotate_left
             ·
              intro w'
              go_simp
              with_reducible rfl
             rotate_left
             ·
              simp only [Act.put, zSA, zSB, zSC, i64_w, i32_w]
              rfl
             refine last_ (i := 8) (N := none) #[true, true, true, true, true, true, true, true, true] rfl rfl (one_of HT_.out (by kernel_rfl)) (by decide) (fun K hK => ?_)
             refine skip_ (w1 := ?_) (by rfl) rfl ?_ ?_
             rotate_left
             ·
              go_simp
              rfl
             refine hK.out _ _ ?_
             clear hK K
             refine done_ (done_of HT_.out (by kernel_rfl)) ?_
             have n0_ : Aside0 (Kd.R k71 71 (w129.setCell ⟨go121, (t439 : Int).toNat * 4 + 2, none⟩ (.int .i64 (wrap64 (t447 - 1)))) w.heap.size (fun _ => True) (.slice (some ⟨go121, 0, none⟩) x405000_2.length co125) y450) := ⟨by (with_reducible repeat (first | apply Kd.R_alloc | apply Kd.R_drewN | apply Kd.R_drew)); exact HQ130.out⟩
             have n1_ : Aside0 ((w129.setCell ⟨go121, (t439 : Int).toNat * 4 + 2, none⟩ (.int .i64 (wrap64 (t447 - 1)))).heap[gb403]? = some (.cells #[.slice none 0 0] 29 (0, 0))) := ⟨by (with_reducible repeat (first | refine blk_drewN ?_ _ | refine blk_drew ?_ | refine blk_alloc ?_ _)); refine blk_far ?_ (by have h_ := Kd.R_ne HO_405000.out BK403.out (by decide); intro e_; exact h_ (by rw [e_]; rfl)) _; (with_reducible repeat (first | refine blk_drewN ?_ _ | refine blk_drew ?_ | refine blk_alloc ?_ _)); exact BK403.out⟩
             have n2_ : Aside0 ((w129.setCell ⟨go121, (t439 : Int).toNat * 4 + 2, none⟩ (.int .i64 (wrap64 (t447 - 1)))).heap[gb404]? = some (.cells #[.slice (some ⟨go121, 0, none⟩) x405000_2.length co125] 29 (0, 0))) := ⟨by (with_reducible repeat (first | refine blk_drewN ?_ _ | refine blk_drew ?_ | refine blk_alloc ?_ _)); refine blk_far ?_ (by have h_ := Kd.R_ne HO_405000.out BK404.out (by decide); intro e_; exact h_ (by rw [e_]; rfl)) _; (with_reducible repeat (first | refine blk_drewN ?_ _ | refine blk_drew ?_ | refine blk_alloc ?_ _)); exact BK404.out⟩
             have n3_ : Aside0 (IsS89 w0 (w129.setCell ⟨go121, (t439 : Int).toNat * 4 + 2, none⟩ (.int .i64 (wrap64 (t447 - 1)))) g s0_0 t448 t449) := ⟨by repeat (first | (with_reducible first | exact HI0.out | apply IsS89.alloc | apply IsS89.drewN | apply IsS89.drew | apply IsS89.set_1 | apply IsS89.set_2 | refine IsS89.far ?_ HN0_go121.out _ | refine IsS89.far ?_ NB0_403.out _ | refine IsS89.far ?_ NB0_404.out _) | exact HI0.out)⟩
             have n4_ : Aside0 (KeepBut w (w129.setCell ⟨go121, (t439 : Int).toNat * 4 + 2, none⟩ (.int .i64 (wrap64 (t447 - 1)))) g none) := ⟨by repeat (first | (with_reducible first | exact HK.out | apply KeepBut.set_ | apply keep_drewN | apply keep_drew | apply keep_alloc | refine keep_far ?_ GB121.out _ | refine keep_far ?_ GW403.out _ | refine keep_far ?_ GW404.out _) | exact HK.out)⟩
             have n5_ : Aside0 (Below w0.heap.size w0 (w129.setCell ⟨go121, (t439 : Int).toNat * 4 + 2, none⟩ (.int .i64 (wrap64 (t447 - 1))))) := ⟨by repeat (first | (with_reducible first | exact HB.out | apply below_alloc | apply pw_below_drewN | apply below_drew1 | refine below_set ?_ (Nat.le_trans HL.out GB121.out) | refine below_set ?_ (IsS89.ge HI0.out) | refine below_set ?_ GE403.out | refine below_set ?_ GE404.out) | exact HB.out)⟩
             (try clear HO_405000)
             (try clear BK403)
             (try clear BK404)
             (try clear HI0)
             (try clear HK)
             (try clear HB)
             generalize (w129.setCell ⟨go121, (t439 : Int).toNat * 4 + 2, none⟩ (.int .i64 (wrap64 (t447 - 1)))) = w131 at n0_ n1_ n2_ n3_ n4_ n5_ ⊢
             have HO_405000 := n0_
             have BK403 := n1_
             have BK404 := n2_
             have HI0 := n3_
             have HK := n4_
             have HB := n5_
             clear n0_ n1_ n2_ n3_ n4_ n5_
             have hcz132_0 : w131.cell? ⟨gb404, 0, none⟩ = some (.slice (some ⟨go121, 0, none⟩) x405000_2.length co125) := (blk_cell BK404.out 0).trans rfl
             have hfz132_0 := blk_frozen BK404.out 0
             have hnb133 := NB403_0.out
             have hnc133 := NB0_403.out
             have hcz134_0 : w131.cell? ⟨gb403, 0, none⟩ = some (.slice none 0 0) := (blk_cell BK403.out 0).trans rfl
             have hfz134_0 := blk_frozen BK403.out 0
             try go_wp2
             refine bodyPost_ret (results_cell_row rfl _ _ gb403 29 #[.slice (some ⟨go121, 0, none⟩) x405000_2.length co125] (0, 0) _ rfl (by (with_reducible repeat (first | refine blk_drewN ?_ _ | refine blk_drew ?_ | refine blk_alloc ?_ _)); refine blk_put (cs := #[.slice none 0 0]) ?_ 0 _ rfl; (with_reducible repeat (first | refine blk_drewN ?_ _ | refine blk_drew ?_ | refine blk_alloc ?_ _)); exact BK403.out) Try.underlying29 rfl (by kernel_rfl)) rfl ?_
             exact ⟨_, by first | rfl | (simp [errW_none, errW_some] <;> rfl) | (simp [*, errW_none, errW_some] <;> rfl), by (with_reducible repeat (first | apply Kd.R_alloc | apply Kd.R_drewN | apply Kd.R_drew)); exact Kd.R_mono (Kd.R_far (p := ⟨gb403, 0, none⟩) (Kd.R_types HO_405000.out BK403.out (by decide)) (fun _ hk => hk.2) (.slice (some ⟨go121, 0, none⟩) x405000_2.length co125)) (fun _ hk => trivial), by repeat (first | (with_reducible first | exact HI0.out | apply IsS89.alloc | apply IsS89.drewN | apply IsS89.drew | apply IsS89.set_1 | apply IsS89.set_2 | refine IsS89.far ?_ NB0_403.out _ | refine IsS89.far ?_ NB0_404.out _) | exact HI0.out), by repeat (first | (with_reducible first | exact HB.out | apply below_alloc | apply pw_below_drewN | apply below_drew1 | refine below_set ?_ (IsS89.ge HI0.out) | refine below_set ?_ GE403.out | refine below_set ?_ GE404.out) | exact HB.out), by repeat (first | (with_reducible first | exact HK.out | apply KeepBut.set_ | apply keep_drewN | apply keep_drew | apply keep_alloc | refine keep_far ?_ GW403.out _ | refine keep_far ?_ GW404.out _) | exact HK.out)⟩
            ·
             rw [if_neg c120] at H
             exact absurd H (by simp)
           ·
            rw [if_neg c119] at H
            exact absurd H (by simp)
          ·
           rw [if_neg c117] at H
           have c117b0 : (t442 == 1) = false := beq_eq_false_iff_ne.mpr c117
           have c117b1 : (t442 != 1) = true := bne_iff_ne.mpr c117
           replace H := Option.bind_eq_some_iff.mp H
           obtain ⟨⟨t451, t452, t453⟩, A1350, H⟩ := H
           replace H : (if 0 ≤ t439 then (if t439 < (x405000_2.length : Int) then (some ((x405000_2.set (t439 : Int).toNat (⟨(rd_T71 x405000_2 t439).f0, (rd_T71 x405000_2 t439).f1, (rd_T71 x405000_2 t439).f2, wrap64 (t451 - 1)⟩ : S71)), t452, t453)) else (none)) else (none)) = some (r1, r2, r3) := H
           have A135 := aM A1350
           clear A1350
           by_cases c136 : 0 ≤ t439
           ·
            rw [if_pos c136] at H
            have c136b0 : decide (0 ≤ t439) = true := decide_eq_true c136
            clear c136
            by_cases c137 : t439 < (x405000_2.length : Int)
            ·
             rw [if_pos c137] at H
             have c137b0 : decide (t439 < (x405000_2.length : Int)) = true := decide_eq_true c137
             clear c137
             obtain ⟨y454, hy454⟩ : ∃ y_ : List (S71), y_ = (x405000_2.set (t439 : Int).toNat (⟨(rd_T71 x405000_2 t439).f0, (rd_T71 x405000_2 t439).f1, (rd_T71 x405000_2 t439).f2, wrap64 (t451 - 1)⟩ : S71)) := ⟨_, rfl⟩
             replace H : (some (y454, t452, t453)) = some (r1, r2, r3) := by first | (rw [hy454]; with_reducible exact H) | (have H2_ := (Option.bind_some _ _).symm.trans H; rw [hy454]; with_reducible exact H2_) | (have H2_ := (Option.bind_some _ _).symm.trans H; with_reducible exact H2_) | with_reducible exact H | (rw [hy454]; exact H) | exact H
             have Ny454 := aM hy454
             clear hy454
             simp only [Option.some.injEq, Prod.mk.injEq] at H
             obtain ⟨rfl, rfl, rfl⟩ := H
             have hnb139 := NB404_403.out
             have hnc139 := NB403_404.out
             have hnb140 := NB404_0.out
             have hnc140 := NB0_404.out
             have hcz141_0 : wc.cell? ⟨gb404, 0, none⟩ = some (u405000) := (blk_cell BK404.out 0).trans rfl
             have hfz141_0 := blk_frozen BK404.out 0
             obtain ⟨Ao142, co142, eo142⟩ := Kd.R_slice HO_405000.out
             subst eo142
             try go_wp2_with (first | ((with_reducible refine gate_callee (f := 83) rfl ?_); refine goesL_ (some 58) rfl rfl Try.func83 (by kernel_rfl) rfl #[.pointer (some ⟨g, 0, none⟩), .int .i64 (x405000_2.length : Int)] rfl (by (try simp only [List.map_toArray, List.map_cons, List.map_nil]); first | done | rfl | (simp only [List.length_drop, List.length_take]; rfl)) ?_; (with_reducible refine (spec_l1Cur_pick.calls g s0_0 x1001_84 x1002_84 (x405000_2.length : Int) t439 t440 t441 w0 _ ?side1 ?side2 A98.out).mono ?_); (case side1 => repeat (first | (with_reducible first | exact HI0.out | apply IsS89.alloc | apply IsS89.drewN | apply IsS89.drew | apply IsS89.set_1 | apply IsS89.set_2 | refine IsS89.far ?_ NB0_403.out _ | refine IsS89.far ?_ NB0_404.out _) | exact HI0.out)); (case side2 => repeat (first | (with_reducible first | exact HB.out | apply below_alloc | apply pw_below_drewN | apply below_drew1 | refine below_set ?_ (IsS89.ge HI0.out) | refine below_set ?_ GE403.out | refine below_set ?_ GE404.out) | exact HB.out)); rintro e w143 ⟨rfl, hi, hb, hk⟩; refine ⟨_, rfl, ?_⟩; have n0_ := aM (Kd.R_mono (Kd.R_keep (IsS89.apart (show IsS89 w0 _ g s0_0 x1001_84 x1002_84 from by repeat (first | (with_reducible first | exact HI0.out | apply IsS89.alloc | apply IsS89.drewN | apply IsS89.drew | apply IsS89.set_1 | apply IsS89.set_2 | refine IsS89.far ?_ NB0_403.out _ | refine IsS89.far ?_ NB0_404.out _) | exact HI0.out)) (gR HO_405000.out) (by decide)) hk (fun _ h => h.2)) (fun _ h => h.1)); have n1_ := aM (KeepBut.blk hk (g' := gb403) (o := .cells #[.slice none 0 0] 29 (0, 0)) (gK BK403.out) NB403_0.out (by simp)); have n2_ := aM (KeepBut.blk hk (g' := gb404) (o := .cells #[.slice Ao142 x405000_2.length co142] 29 (0, 0)) (gK BK404.out) NB404_0.out (by simp)); have n3_ := aM (KeepBut.trans (by repeat (first | (with_reducible first | exact HK.out | apply KeepBut.set_ | apply keep_drewN | apply keep_drew | apply keep_alloc | refine keep_far ?_ GW403.out _ | refine keep_far ?_ GW404.out _) | exact HK.out)) hk (.inl rfl)); have n4_ := aM (hb); have n5_ := aM (hi); clear HO_405000; clear BK403; clear BK404; clear HK; clear HB; clear HI0; have HO_405000 := n0_; have BK403 := n1_; have BK404 := n2_; have HK := n3_; have HB := n4_; have HI0 := n5_; clear n0_ n1_ n2_ n3_ n4_ n5_; (try clear hb); (try clear hb2); (try clear hk); (try clear hi)) | ((with_reducible refine gate_callee (f := 83) rfl ?_); refine goesL_ (some 60) rfl rfl Try.func83 (by kernel_rfl) rfl #[.pointer (some ⟨g, 0, none⟩), .int .i64 3] rfl (by (try simp only [List.map_toArray, List.map_cons, List.map_nil]); first | done | rfl | (simp only [List.length_drop, List.length_take]; rfl)) ?_; (with_reducible refine (spec_l1Cur_pick.calls g s0_0 t440 t441 3 t442 t443 t444 w0 _ ?side1 ?side2 A99.out).mono ?_); (case side1 => repeat (first | (with_reducible first | exact HI0.out | apply IsS89.alloc | apply IsS89.drewN | apply IsS89.drew | apply IsS89.set_1 | apply IsS89.set_2 | refine IsS89.far ?_ NB0_403.out _ | refine IsS89.far ?_ NB0_404.out _) | exact HI0.out)); (case side2 => repeat (first | (with_reducible first | exact HB.out | apply below_alloc | apply pw_below_drewN | apply below_drew1 | refine below_set ?_ (IsS89.ge HI0.out) | refine below_set ?_ GE403.out | refine below_set ?_ GE404.out) | exact HB.out)); rintro e w144 ⟨rfl, hi, hb, hk⟩; refine ⟨_, rfl, ?_⟩; have n0_ := aM (Kd.R_mono (Kd.R_keep (IsS89.apart (show IsS89 w0 _ g s0_0 t440 t441 from by repeat (first | (with_reducible first | exact HI0.out | apply IsS89.alloc | apply IsS89.drewN | apply IsS89.drew | apply IsS89.set_1 | apply IsS89.set_2 | refine IsS89.far ?_ NB0_403.out _ | refine IsS89.far ?_ NB0_404.out _) | exact HI0.out)) (gR HO_405000.out) (by decide)) hk (fun _ h => h.2)) (fun _ h => h.1)); have n1_ := aM (KeepBut.blk hk (g' := gb403) (o := .cells #[.slice none 0 0] 29 (0, 0)) (gK BK403.out) NB403_0.out (by simp)); have n2_ := aM (KeepBut.blk hk (g' := gb404) (o := .cells #[.slice Ao142 x405000_2.length co142] 29 (0, 0)) (gK BK404.out) NB404_0.out (by simp)); have n3_ := aM (KeepBut.trans (by repeat (first | (with_reducible first | exact HK.out | apply KeepBut.set_ | apply keep_drewN | apply keep_drew | apply keep_alloc | refine keep_far ?_ GW403.out _ | refine keep_far ?_ GW404.out _) | exact HK.out)) hk (.inl rfl)); have n4_ := aM (hb); have n5_ := aM (hi); clear HO_405000; clear BK403; clear BK404; clear HK; clear HB; clear HI0; have HO_405000 := n0_; have BK403 := n1_; have BK404 := n2_; have HK := n3_; have HB := n4_; have HI0 := n5_; clear n0_ n1_ n2_ n3_ n4_ n5_; (try clear hb); (try clear hb2); (try clear hk); (try clear hi)))
             have n0_ := aM (Kd.R_drew HO_405000.out)
             have n1_ := aM (blk_drew BK403.out)
             have n2_ := aM (blk_drew BK404.out)
             have n3_ := aM (IsS89.drew HI0.out)
             have n4_ := aM (keep_drew HK.out)
             have n5_ := aM (below_drew1 HB.out)
             clear HO_405000
             clear BK403
             clear BK404
             clear HI0
             clear HK
             clear HB
             have HO_405000 := n0_
             have BK403 := n1_
             have BK404 := n2_
             have HI0 := n3_
             have HK := n4_
             have HB := n5_
             clear n0_ n1_ n2_ n3_ n4_ n5_
             refine start_ (n := 9) (S := fun w' => w'.cell? ⟨gb404, 0, none⟩ = some (.slice Ao142 x405000_2.length co142)) (ds := [8]) #[false, false, false, false, false, false, false, false, false] (by kernel_rfl) rfl rfl ((blk_cell BK404.out 0).trans rfl) (fun hHeld => ?_); refine with_tabW spec_l1Cur_treap.tab19 spec_l1Cur_treap.bits19 (fun HT_ HW_ => ?_)
             generalize w144.drew = w145 at HO_405000 BK403 BK404 HI0 HK HB hHeld ⊢
             refine pure_ (i := 0) (N := some 61) (v := ?_) (a' := ?_) #[true, false, false, false, false, false, false, false, false] rfl rfl (any_of HT_.out (by kernel_rfl)) (fun _ _ _ h => h) (Or.inl ⟨by rfl, ?_⟩) ?_ ?_
             rotate_left
             ·
              intro w'
              go_simp
              with_reducible rfl
             rotate_left
             ·
              simp only [Act.put, zSA, zSB, zSC, i64_w, i32_w]
              rfl
             refine pure_ (i := 2) (N := some 63) (v := ?_) (a' := ?_) #[true, false, true, false, false, false, false, false, false] rfl rfl (any_of HT_.out (by kernel_rfl)) (fun _ _ _ h => h) (Or.inl ⟨by rfl, ?_⟩) ?_ ?_
             rotate_left
             ·
              intro w'
              go_simp
              with_reducible rfl
             rotate_left
             ·
              simp only [Act.put, zSA, zSB, zSC, i64_w, i32_w]
              rfl
             refine pure_ (i := 3) (N := some 64) (v := ?_) (a' := ?_) #[true, false, true, true, false, false, false, false, false] rfl rfl (any_of HT_.out (by kernel_rfl)) (fun _ _ _ h => h) (Or.inl ⟨by rfl, ?_⟩) ?_ ?_
             rotate_left
             ·
              intro w'
              go_simp
              with_reducible rfl
             rotate_left
             ·
              simp only [Act.put, zSA, zSB, zSC, i64_w, i32_w]
              rfl
             refine take_ (i := 1) (N := some 62) (v := ?_) (a' := ?_) #[true, true, true, true, false, false, false, false, false] rfl rfl (take_ofW HT_.out HW_.out (by kernel_rfl)) (fun _ _ _ h => h) (Or.inl ⟨by rfl, ?_⟩) hHeld ?_ ?_
             rotate_left
             ·
              intro w' s0
              go_simp
              with_reducible rfl
             rotate_left
             ·
              simp only [Act.put, zSA, zSB, zSC, i64_w, i32_w]
              rfl
             refine one_ (i := 4) (N := some 65) #[true, true, true, true, true, false, false, false, false] rfl rfl (one_of HT_.out (by kernel_rfl)) (by decide) (fun K hK => ?_)
             refine goes_ Try.func83 (by kernel_rfl) rfl #[.pointer (some ⟨g, 0, none⟩), .int .i64 4] (by rfl) rfl rfl (by (try simp only [List.map_toArray, List.map_cons, List.map_nil]); first | done | rfl | (simp only [List.length_drop, List.length_take]; rfl)) ?_
             with_reducible refine (spec_l1Cur_pick.calls g s0_0 t443 t444 4 t451 t452 t453 w0 _ ?side1 ?side2 A135.out).mono ?_
             (case side1 => repeat (first | (with_reducible first | exact HI0.out | apply IsS89.alloc | apply IsS89.drewN | apply IsS89.drew | apply IsS89.set_1 | apply IsS89.set_2 | refine IsS89.far ?_ NB0_403.out _ | refine IsS89.far ?_ NB0_404.out _) | exact HI0.out))
             (case side2 => repeat (first | (with_reducible first | exact HB.out | apply below_alloc | apply pw_below_drewN | apply below_drew1 | refine below_set ?_ (IsS89.ge HI0.out) | refine below_set ?_ GE403.out | refine below_set ?_ GE404.out) | exact HB.out))
             rintro e w146 ⟨rfl, hi, hb, hk⟩
             refine ⟨_, rfl, ?_⟩
             have n0_ := aM (Kd.R_mono (Kd.R_keep (IsS89.apart (show IsS89 w0 _ g s0_0 t443 t444 from by repeat (first | (with_reducible first | exact HI0.out | apply IsS89.alloc | apply IsS89.drewN | apply IsS89.drew | apply IsS89.set_1 | apply IsS89.set_2 | refine IsS89.far ?_ NB0_403.out _ | refine IsS89.far ?_ NB0_404.out _) | exact HI0.out)) (gR HO_405000.out) (by decide)) hk (fun _ h => h.2)) (fun _ h => h.1))
             have n1_ := aM (KeepBut.blk hk (g' := gb403) (o := .cells #[.slice none 0 0] 29 (0, 0)) (gK BK403.out) NB403_0.out (by simp))
             have n2_ := aM (KeepBut.blk hk (g' := gb404) (o := .cells #[.slice Ao142 x405000_2.length co142] 29 (0, 0)) (gK BK404.out) NB404_0.out (by simp))
             have n3_ := aM (KeepBut.trans (by repeat (first | (with_reducible first | exact HK.out | apply KeepBut.set_ | apply keep_drewN | apply keep_drew | apply keep_alloc | refine keep_far ?_ GW403.out _ | refine keep_far ?_ GW404.out _) | exact HK.out)) hk (.inl rfl))
             have n4_ := aM (hb)
             have n5_ := aM (hi)
             clear HO_405000
             clear BK403
             clear BK404
             clear HK
             clear HB
             clear HI0
             have HO_405000 := n0_
             have BK403 := n1_
             have BK404 := n2_
             have HK := n3_
             have HB := n4_
             have HI0 := n5_
             clear n0_ n1_ n2_ n3_ n4_ n5_
             (try clear hb)
             (try clear hb2)
             (try clear hk)
             (try clear hi)
             have p138 : 0 ≤ (t439 : Int) := of_decide_eq_true (by first | (with_reducible assumption) | assumption)
             have q138 : (t439 : Int) < ((x405000_2.length : Int) : Int) := of_decide_eq_true (by first | (with_reducible assumption) | assumption)
             obtain ⟨go138, co138, eo138, gb138, gl138, cl138, HG138⟩ := Kd.R_form HO_405000.out (by omega)
             (first | cases eo138 | (injection eo138 with ea_ en_ ec_; (first | subst ea_ | (injection ea_ with ea_; subst ea_)); subst ec_; clear en_))
             have GB138 := aM gb138
             have GG138 := aM HG138
             clear gb138 gl138 HG138
             obtain ⟨ce138, hcl138, hM138, hcc138, hfr138⟩ := Kd.R_elem HO_405000.out z71 (t439 : Int) p138 q138
             obtain rfl := k71_openM hM138
             have hx138_0 : World.cell? _ ⟨go138, (t439 : Int).toNat * 4, none⟩ = some (.string ((rd_T71 x405000_2 t439).f0)) := hcc138 0 _ rfl
             have hx138_1 : World.cell? _ ⟨go138, (t439 : Int).toNat * 4 + 1, none⟩ = some (.string ((rd_T71 x405000_2 t439).f1)) := hcc138 1 _ rfl
             have hx138_2 : World.cell? _ ⟨go138, (t439 : Int).toNat * 4 + 2, none⟩ = some (.int .i64 ((rd_T71 x405000_2 t439).f2)) := hcc138 2 _ rfl
             have hx138_3 : World.cell? _ ⟨go138, (t439 : Int).toNat * 4 + 3, none⟩ = some (.int .i64 ((rd_T71 x405000_2 t439).f3)) := hcc138 3 _ rfl
             have hf138_0 : World.frozen? _ ⟨go138, (t439 : Int).toNat * 4, none⟩ = false := hfr138 0
             have hf138_1 : World.frozen? _ ⟨go138, (t439 : Int).toNat * 4 + 1, none⟩ = false := hfr138 1
             have hf138_2 : World.frozen? _ ⟨go138, (t439 : Int).toNat * 4 + 2, none⟩ = false := hfr138 2
             have hf138_3 : World.frozen? _ ⟨go138, (t439 : Int).toNat * 4 + 3, none⟩ = false := hfr138 3
             clear hcl138 hcc138 hfr138 hM138
             replace p138 := eq_true p138
             replace q138 := eq_true q138
             have HN0_go138 := aM (show g ≠ go138 from by have h_ := IsS89.own_ne HI0.out HO_405000.out (by decide); intro e_; exact h_ (by rw [e_]; rfl))
             obtain ⟨ce147, hcl147, hM147, hcc147, hfr147⟩ := Kd.R_elem HO_405000.out z71 (t439 : Int) (of_decide_eq_true (by first | (with_reducible assumption) | assumption)) (by have h_ : (t439 : Int) < ((x405000_2.length : Int) : Int) := of_decide_eq_true (by first | (with_reducible assumption) | assumption); first | exact h_ | (have e_ := (Kd.R_reads' HO_405000.out).1; omega) | simpa using h_)
             obtain rfl := k71_openM hM147
             have HP147 := (Kd.R_seg HO_405000.out (t439 : Int) (of_decide_eq_true (by first | (with_reducible assumption) | assumption)) (by have h_ : (t439 : Int) < ((x405000_2.length : Int) : Int) := of_decide_eq_true (by first | (with_reducible assumption) | assumption); first | exact h_ | (have e_ := (Kd.R_reads' HO_405000.out).1; omega) | simpa using h_) (seg := [.int .i64 (wrap64 (t451 - 1))]) (j := 3) hcl147 hcc147 (show 4 ≤ 4 from by decide) (x' := (⟨(rd_T71 x405000_2 t439).f0, (rd_T71 x405000_2 t439).f1, (rd_T71 x405000_2 t439).f2, wrap64 (t451 - 1)⟩ : S71)) (k71_mkM _ _ _ (⟨(rd_T71 x405000_2 t439).f0, (rd_T71 x405000_2 t439).f1, (rd_T71 x405000_2 t439).f2, wrap64 (t451 - 1)⟩ : S71) ) (fun _ hk => hk)).1
             rw [← Ny454.out] at HP147
             have HQ147 := aM HP147
             clear hcl147 hcc147 hfr147 hM147 HP147
             refine hK.out _ _ ((blk_cell BK404.out 0).trans rfl) (fun hHeld => ?_)
             clear hK K
             refine norm_ (a' := ?_) ?_ ?_
             rotate_left
             ·
              show Act.put _ (some 65) _ = _
              simp only [Act.put, zSA, zSB, zSC, i64_w, i32_w]
              rfl
             refine pure_ (i := 5) (N := some 66) (v := ?_) (a' := ?_) #[true, true, true, true, true, true, false, false, false] rfl rfl (any_of HT_.out (by kernel_rfl)) (fun _ _ _ h => h) (Or.inl ⟨by rfl, ?_⟩) ?_ ?_
             rotate_left
             ·
              intro w'
              go_simp
              with_reducible rfl
             rotate_left
             ·
              simp only [Act.put, zSA, zSB, zSC, i64_w, i32_w]
              rfl
             refine pure_ (i := 6) (N := some 67) (v := ?_) (a' := ?_) #[true, true, true, true, true, true, true, false, false] rfl rfl (any_of HT_.out (by kernel_rfl)) (fun _ _ _ h => h) (Or.inl ⟨by rfl, ?_⟩) ?_ ?_
             rotate_left
             ·
              intro w'
              go_simp
              with_reducible rfl
             rotate_left
             ·
              simp only [Act.put, zSA, zSB, zSC, i64_w, i32_w]
              rfl
             refine pure_ (i := 7) (N := some 68) (v := ?_) (a' := ?_) #[true, true, true, true, true, true, true, true, false] rfl rfl (any_of HT_.out (by kernel_rfl)) (fun _ _ _ h => h) (Or.inl ⟨by rfl, ?_⟩) ?_ ?_
             rotate_left
             ·
              intro w'
              go_simp
              with_reducible rfl
             rotate_left
             ·
              simp only [Act.put, zSA, zSB, zSC, i64_w, i32_w]
              rfl
             refine last_ (i := 8) (N := none) #[true, true, true, true, true, true, true, true, true] rfl rfl (one_of HT_.out (by kernel_rfl)) (by decide) (fun K hK => ?_)
             refine skip_ (w1 := ?_) (by rfl) rfl ?_ ?_
             rotate_left
             ·
              go_simp
              rfl
             refine hK.out _ _ ?_
             clear hK K
             refine done_ (done_of HT_.out (by kernel_rfl)) ?_
             have n0_ : Aside0 (Kd.R k71 71 (w146.setCell ⟨go138, (t439 : Int).toNat * 4 + 3, none⟩ (.int .i64 (wrap64 (t451 - 1)))) w.heap.size (fun _ => True) (.slice (some ⟨go138, 0, none⟩) x405000_2.length co142) y454) := ⟨by (with_reducible repeat (first | apply Kd.R_alloc | apply Kd.R_drewN | apply Kd.R_drew)); exact HQ147.out⟩
             have n1_ : Aside0 ((w146.setCell ⟨go138, (t439 : Int).toNat * 4 + 3, none⟩ (.int .i64 (wrap64 (t451 - 1)))).heap[gb403]? = some (.cells #[.slice none 0 0] 29 (0, 0))) := ⟨by (with_reducible repeat (first | refine blk_drewN ?_ _ | refine blk_drew ?_ | refine blk_alloc ?_ _)); refine blk_far ?_ (by have h_ := Kd.R_ne HO_405000.out BK403.out (by decide); intro e_; exact h_ (by rw [e_]; rfl)) _; (with_reducible repeat (first | refine blk_drewN ?_ _ | refine blk_drew ?_ | refine blk_alloc ?_ _)); exact BK403.out⟩
             have n2_ : Aside0 ((w146.setCell ⟨go138, (t439 : Int).toNat * 4 + 3, none⟩ (.int .i64 (wrap64 (t451 - 1)))).heap[gb404]? = some (.cells #[.slice (some ⟨go138, 0, none⟩) x405000_2.length co142] 29 (0, 0))) := ⟨by (with_reducible repeat (first | refine blk_drewN ?_ _ | refine blk_drew ?_ | refine blk_alloc ?_ _)); refine blk_far ?_ (by have h_ := Kd.R_ne HO_405000.out BK404.out (by decide); intro e_; exact h_ (by rw [e_]; rfl)) _; (with_reducible repeat (first | refine blk_drewN ?_ _ | refine blk_drew ?_ | refine blk_alloc ?_ _)); exact BK404.out⟩
             have n3_ : Aside0 (IsS89 w0 (w146.setCell ⟨go138, (t439 : Int).toNat * 4 + 3, none⟩ (.int .i64 (wrap64 (t451 - 1)))) g s0_0 t452 t453) := ⟨by repeat (first | (with_reducible first | exact HI0.out | apply IsS89.alloc | apply IsS89.drewN | apply IsS89.drew | apply IsS89.set_1 | apply IsS89.set_2 | refine IsS89.far ?_ HN0_go138.out _ | refine IsS89.far ?_ NB0_403.out _ | refine IsS89.far ?_ NB0_404.out _) | exact HI0.out)⟩
             have n4_ : Aside0 (KeepBut w (w146.setCell ⟨go138, (t439 : Int).toNat * 4 + 3, none⟩ (.int .i64 (wrap64 (t451 - 1)))) g none) := ⟨by repeat (first | (with_reducible first | exact HK.out | apply KeepBut.set_ | apply keep_drewN | apply keep_drew | apply keep_alloc | refine keep_far ?_ GB138.out _ | refine keep_far ?_ GW403.out _ | refine keep_far ?_ GW404.out _) | exact HK.out)⟩
             have n5_ : Aside0 (Below w0.heap.size w0 (w146.setCell ⟨go138, (t439 : Int).toNat * 4 + 3, none⟩ (.int .i64 (wrap64 (t451 - 1))))) := ⟨by repeat (first | (with_reducible first | exact HB.out | apply below_alloc | apply pw_below_drewN | apply below_drew1 | refine below_set ?_ (Nat.le_trans HL.out GB138.out) | refine below_set ?_ (IsS89.ge HI0.out) | refine below_set ?_ GE403.out | refine below_set ?_ GE404.out) | exact HB.out)⟩
             (try clear HO_405000)
             (try clear BK403)
             (try clear BK404)
             (try clear HI0)
             (try clear HK)
             (try clear HB)
             generalize (w146.setCell ⟨go138, (t439 : Int).toNat * 4 + 3, none⟩ (.int .i64 (wrap64 (t451 - 1)))) = w148 at n0_ n1_ n2_ n3_ n4_ n5_ ⊢
             have HO_405000 := n0_
             have BK403 := n1_
             have BK404 := n2_
             have HI0 := n3_
             have HK := n4_
             have HB := n5_
             clear n0_ n1_ n2_ n3_ n4_ n5_
             have hcz149_0 : w148.cell? ⟨gb404, 0, none⟩ = some (.slice (some ⟨go138, 0, none⟩) x405000_2.length co142) := (blk_cell BK404.out 0).trans rfl
             have hfz149_0 := blk_frozen BK404.out 0
             have hnb150 := NB403_0.out
             have hnc150 := NB0_403.out
             have hcz151_0 : w148.cell? ⟨gb403, 0, none⟩ = some (.slice none 0 0) := (blk_cell BK403.out 0).trans rfl
             have hfz151_0 := blk_frozen BK403.out 0
             try go_wp2
             refine bodyPost_ret (results_cell_row rfl _ _ gb403 29 #[.slice (some ⟨go138, 0, none⟩) x405000_2.length co142] (0, 0) _ rfl (by (with_reducible repeat (first | refine blk_drewN ?_ _ | refine blk_drew ?_ | refine blk_alloc ?_ _)); refine blk_put (cs := #[.slice none 0 0]) ?_ 0 _ rfl; (with_reducible repeat (first | refine blk_drewN ?_ _ | refine blk_drew ?_ | refine blk_alloc ?_ _)); exact BK403.out) Try.underlying29 rfl (by kernel_rfl)) rfl ?_
             exact ⟨_, by first | rfl | (simp [errW_none, errW_some] <;> rfl) | (simp [*, errW_none, errW_some] <;> rfl), by (with_reducible repeat (first | apply Kd.R_alloc | apply Kd.R_drewN | apply Kd.R_drew)); exact Kd.R_mono (Kd.R_far (p := ⟨gb403, 0, none⟩) (Kd.R_types HO_405000.out BK403.out (by decide)) (fun _ hk => hk.2) (.slice (some ⟨go138, 0, none⟩) x405000_2.length co142)) (fun _ hk => trivial), by repeat (first | (with_reducible first | exact HI0.out | apply IsS89.alloc | apply IsS89.drewN | apply IsS89.drew | apply IsS89.set_1 | apply IsS89.set_2 | refine IsS89.far ?_ NB0_403.out _ | refine IsS89.far ?_ NB0_404.out _) | exact HI0.out), by repeat (first | (with_reducible first | exact HB.out | apply below_alloc | apply pw_below_drewN | apply below_drew1 | refine below_set ?_ (IsS89.ge HI0.out) | refine below_set ?_ GE403.out | refine below_set ?_ GE404.out) | exact HB.out), by repeat (first | (with_reducible first | exact HK.out | apply KeepBut.set_ | apply keep_drewN | apply keep_drew | apply keep_alloc | refine keep_far ?_ GW403.out _ | refine keep_far ?_ GW404.out _) | exact HK.out)⟩
            ·
             rw [if_neg c137] at H
             exact absurd H (by simp)
           ·
            rw [if_neg c136] at H
            exact absurd H (by simp)
        ·
         replace c97 := Bool.eq_false_iff.mpr c97
         subst c97
         have H1 : (some (x405000_2, x1001_84, x1002_84)) = some (r1, r2, r3) := by rw [if_neg (show ¬ (false = true) by decide)] at H; exact H
         clear H
         have H := H1
         clear H1
         simp only [Option.some.injEq, Prod.mk.injEq] at H
         obtain ⟨rfl, rfl, rfl⟩ := H
         have hnb152 := NB404_403.out
         have hnc152 := NB403_404.out
         have hnb153 := NB404_0.out
         have hnc153 := NB0_404.out
         have hcz154_0 : wc.cell? ⟨gb404, 0, none⟩ = some (u405000) := (blk_cell BK404.out 0).trans rfl
         have hfz154_0 := blk_frozen BK404.out 0
         obtain ⟨Ao155, co155, eo155⟩ := Kd.R_slice HO_405000.out
         subst eo155
         have hnb156 := NB403_0.out
         have hnc156 := NB0_403.out
         have hcz157_0 : wc.cell? ⟨gb403, 0, none⟩ = some (.slice none 0 0) := (blk_cell BK403.out 0).trans rfl
         have hfz157_0 := blk_frozen BK403.out 0
         go_wp2
         refine bodyPost_ret (results_cell_row rfl _ _ gb403 29 #[.slice Ao155 x405000_2.length co155] (0, 0) _ rfl (by (with_reducible repeat (first | refine blk_drewN ?_ _ | refine blk_drew ?_ | refine blk_alloc ?_ _)); refine blk_put (cs := #[.slice none 0 0]) ?_ 0 _ rfl; (with_reducible repeat (first | refine blk_drewN ?_ _ | refine blk_drew ?_ | refine blk_alloc ?_ _)); exact BK403.out) Try.underlying29 rfl (by kernel_rfl)) rfl ?_
         exact ⟨_, by first | rfl | (simp [errW_none, errW_some] <;> rfl) | (simp [*, errW_none, errW_some] <;> rfl), by (with_reducible repeat (first | apply Kd.R_alloc | apply Kd.R_drewN | apply Kd.R_drew)); exact Kd.R_mono (Kd.R_far (p := ⟨gb403, 0, none⟩) (Kd.R_types HO_405000.out BK403.out (by decide)) (fun _ hk => hk.2) (.slice Ao155 x405000_2.length co155)) (fun _ hk => trivial), by repeat (first | (with_reducible first | exact HI0.out | apply IsS89.alloc | apply IsS89.drewN | apply IsS89.drew | apply IsS89.set_1 | apply IsS89.set_2 | refine IsS89.far ?_ NB0_403.out _ | refine IsS89.far ?_ NB0_404.out _) | exact HI0.out), by repeat (first | (with_reducible first | exact HB.out | apply below_alloc | apply pw_below_drewN | apply below_drew1 | refine below_set ?_ (IsS89.ge HI0.out) | refine below_set ?_ GE403.out | refine below_set ?_ GE404.out) | exact HB.out), by repeat (first | (with_reducible first | exact HK.out | apply KeepBut.set_ | apply keep_drewN | apply keep_drew | apply keep_alloc | refine keep_far ?_ GW403.out _ | refine keep_far ?_ GW404.out _) | exact HK.out)⟩

def spec_GoodTreap.f (k : Nat) (l0_0 : List (S71)) : Option (Bool) := (spec_l7Of.f k l0_0).bind fun bt362 => (some bt362.2)
set_option maxHeartbeats 8000000 in
set_option maxRecDepth 100000 in
theorem spec_GoodTreap.calls (k : Nat) (A0_0 : Option Addr) (c0_0 : Nat) (l0_0 : List (S71)) (r : Bool) (w : World) (hr0_0 : Kd.C k71 w A0_0 l0_0.length l0_0) (hc0_0 : l0_0.length ≤ c0_0) (h : spec_GoodTreap.f k l0_0 = some r) :
  Calls Try.prog 14 #[.agg #[.slice A0_0 l0_0.length c0_0]] w fun e w' => e = .returned (.bool r) ∧ Below w.heap.size w w' := by
 have hu29 := Try.underlying29
 have HR0_0 := aM hr0_0
 have HC0_0 := aM hc0_0
 clear hr0_0 hc0_0
 have HB := aM (Below.refl w.heap.size w)
 have H : ((spec_l7Of.f k l0_0).bind fun bt362 => (some bt362.2)) = some r := h
 clear h
 replace H := Option.bind_eq_some_iff.mp H
 obtain ⟨⟨t362, t365⟩, A20, H⟩ := H
 replace H : (some t365) = some r := H
 have A2 := aM A20
 clear A20
 obtain rfl := Option.some.inj H
 go_enter Try.func14, Try.ntmps14
 go_wp2_with (first | ((with_reducible refine gate_dst (N := 1) rfl ?_); refine box_event ?hg (N := 1) ?hd (cs := #[.slice A0_0 l0_0.length c0_0]) (t := 29) ?hr ?_; (case hd => rfl); (case hg => rfl); (case hr => first | (go_simp; done) | (go_simp; rfl)); intro gb361 hg w3 hbox hb; have n0_ := aM (below_step (gB HB.out) hb); have n1_ := aM (hbox); have n2_ := aM ((by rw [hg]; exact (below_size (gB HB.out)) : w.heap.size ≤ gb361)); have n3_ := aM ((by rw [hg]; exact (below_size (gB HB.out)) : w.heap.size ≤ gb361)); clear HB; have HB := n0_; have BK361 := n1_; have GW361 := n2_; have GE361 := n3_; clear n0_ n1_ n2_ n3_; clear hb hbox hg; have hcz4_0 : w3.cell? ⟨gb361, 0, none⟩ = some (.slice A0_0 l0_0.length c0_0) := (blk_cell BK361.out 0).trans rfl; have hfz4_0 := blk_frozen BK361.out 0) | ((with_reducible refine gate_callee (f := 47) rfl ?_); refine goesL_ (some 7) rfl rfl Try.func47 (by kernel_rfl) rfl #[.agg #[.slice A0_0 l0_0.length c0_0]] rfl (by (try simp only [List.map_toArray, List.map_cons, List.map_nil]); first | done | rfl | (simp only [List.length_drop, List.length_take]; rfl)) ?_; (with_reducible refine (spec_l7Of.calls k _ _ l0_0 t362 t365 _ ?side1 ?side2 A2.out).mono ?_); (case side1 => repeat (first | exact (Kd.C_below HR0_0.out HB.out) | (with_reducible refine Kd.C_alloc ?_ _) | (with_reducible refine Kd.C_drewN ?_ _) | (with_reducible refine Kd.C_drew ?_))); (case side2 => exact HC0_0.out); rintro e w5 ⟨v363, rfl, ho0, hb⟩; refine ⟨_, rfl, ?_⟩; have n0_ := aM (Kd.R_lower ho0 (below_size (gB HB.out))); have n1_ := aM (blk_below (g := gb361) (o := .cells #[.slice A0_0 l0_0.length c0_0] 29 (0, 0)) (gK BK361.out) hb); have n2_ := aM (below_step (gB HB.out) hb); clear BK361; clear HB; have HO364 := n0_; have BK361 := n1_; have HB := n2_; clear n0_ n1_ n2_; (try clear hb); (try clear hb2); (try clear hk); (try clear hi); (try clear ho0)))
 go_ret
 exact ⟨by first | rfl | (simp [errW_none, errW_some] <;> rfl) | (simp [*, errW_none, errW_some] <;> rfl), by repeat (first | (with_reducible first | exact HB.out | apply below_alloc | apply pw_below_drewN | apply below_drew1 | refine below_set ?_ GE361.out) | exact HB.out)⟩

end Go.Proofs.Ytjknkeipginpcaa.PQ
end
