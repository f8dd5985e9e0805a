/- Several texts in one: what the claim's last text rests on. No conditions. -/
import Derived.Test.YtcngebfcpobnnaaMPn7
import Derived.Test.YtcngebfcpobnnaaMPn12
import Derived.Test.YtcngebfcpobnnaaMPn18
import Derived.Test.YtcngebfcpobnnaaMPn5
import Derived.Test.YtcngebfcpobnnaaMPn15
section
namespace Go.Proofs.Ytcngebfcpobnnaa.PQ
open Go.RowKit Go.Proofs.YtcngebfcpobnnaaW.PrintWords Go.Proofs.YtcngebfcpobnnaaW.PrintLast Go.Proofs.YtcngebfcpobnnaaW.PrintMore
attribute [local go_sem] max2_int min2_int max_two min_two max_three min_three max_four min_four
set_option linter.unusedVariables false
set_option linter.unusedSimpArgs false
mutual
def laws_FnExactPutName.j0 : Nat → ByteArray → Bool → Bool → Bool → List (S80) → List (S64) → List (S64) → List (S64) → Option (Bool)
 | 0, _, _, _, _, _, _, _, _ => none
 | k + 1, x1, x7, x10, x47, x684000, x693000, x697000, x702000 => if x47 = true then (some false) else ((laws_toRadix.f k x684000).bind fun t703 => ((laws_eqRadix.f k x697000 t703).bind fun t706 => (if t706 = true then ((laws_markRadix.f k x697000 1).bind fun bt707 => (if bt707.1 < 0 then (laws_FnExactPutName.j1 k x1 x7 true x684000 x693000 x702000) else ((laws_eqRadix.f k x702000 x693000).bind fun t709 => (if t709 = true then (laws_FnExactPutName.j1 k x1 x7 (x10 != x7) x684000 x693000 x702000) else (laws_FnExactPutName.j1 k x1 x7 true x684000 x693000 x702000))))) else (some false))))
def laws_FnExactPutName.j1 : Nat → ByteArray → Bool → Bool → List (S80) → List (S64) → List (S64) → Option (Bool)
 | 0, _, _, _, _, _, _ => none
 | k + 1, x1, x7, x68, x684000, x693000, x702000 => if x68 = true then (some false) else ((laws_markRadix.f k x702000 1).bind fun bt710 => ((laws_heldRadix.f k bt710.2 1).bind fun t712 => (if t712 < 0 then (some false) else (if t712 = bt710.1 then ((laws_toRadix.f k x684000).bind fun t713 => ((impl_PutName.f k t713 x1).bind fun bt716 => ((laws_eqRadix.f k bt716.1 x693000).bind fun t721 => (if t721 = true then (laws_FnExactPutName.j2 k bt710.1 (bt716.2 != x7) bt710.2) else (laws_FnExactPutName.j2 k bt710.1 true bt710.2))))) else (some false)))))
def laws_FnExactPutName.j2 : Nat → Int → Bool → List (S64) → Option (Bool)
 | 0, _, _, _ => none
 | k + 1, x12, x95, x702000 => if x95 = true then (some false) else ((laws_heldRadix.f k x702000 1).bind fun t722 => (if t722 < 0 then (some false) else (if t722 = x12 then (some true) else (some false))))
end
def laws_FnExactPutName.f (k : Nat) (l0_0 : List (S80)) (a1 : ByteArray) : Option (Bool) := if (a1.size : Int) > 1048576 then (some true) else ((laws_szRadix.f k l0_0 1048576).bind fun t684 => (if t684 < 0 then (some true) else ((laws_toRadix.f k l0_0).bind fun t685 => ((spec_PutName.f k t685 a1).bind fun bt688 => ((laws_toRadix.f k l0_0).bind fun t693 => ((impl_PutName.f k t693 a1).bind fun bt697 => ((laws_eqRadix.f k bt697.1 bt688.1).bind fun t702 => (if t702 = true then (laws_FnExactPutName.j0 k a1 bt688.2 bt697.2 (bt697.2 != bt688.2) l0_0 bt688.1 t693 bt697.1) else (laws_FnExactPutName.j0 k a1 bt688.2 bt697.2 true l0_0 bt688.1 t693 bt697.1)))))))))
set_option maxHeartbeats 8000000 in
set_option maxRecDepth 100000 in
theorem laws_FnExactPutName.calls (k : Nat) (A0_0 : Option Addr) (c0_0 : Nat) (l0_0 : List (S80)) (a1 : ByteArray) (r : Bool) (w : World) (hr0_0 : Kd.C k80 w A0_0 l0_0.length l0_0) (hc0_0 : l0_0.length ≤ c0_0) (h : laws_FnExactPutName.f k l0_0 a1 = some r) :
  Calls Try.prog 8 #[.agg #[.slice A0_0 l0_0.length c0_0], .string a1] w fun e w' => e = .returned (.bool r) ∧ Below w.heap.size w w' := by
 have hu36 := Try.underlying36
 have hu26 := Try.underlying26
 have HR0_0 := aM hr0_0
 have HC0_0 := aM hc0_0
 clear hr0_0 hc0_0
 have HB := aM (Below.refl w.heap.size w)
 have H : (if (a1.size : Int) > 1048576 then (some true) else ((laws_szRadix.f k l0_0 1048576).bind fun t684 => (if t684 < 0 then (some true) else ((laws_toRadix.f k l0_0).bind fun t685 => ((spec_PutName.f k t685 a1).bind fun bt688 => ((laws_toRadix.f k l0_0).bind fun t693 => ((impl_PutName.f k t693 a1).bind fun bt697 => ((laws_eqRadix.f k bt697.1 bt688.1).bind fun t702 => (if t702 = true then (laws_FnExactPutName.j0 k a1 bt688.2 bt697.2 (bt697.2 != bt688.2) l0_0 bt688.1 t693 bt697.1) else (laws_FnExactPutName.j0 k a1 bt688.2 bt697.2 true l0_0 bt688.1 t693 bt697.1)))))))))) = some r := h
 clear h
 by_cases c3 : (a1.size : Int) > 1048576
 ·
  rw [if_pos c3] at H
  have c3b0 : decide (1048576 < (a1.size : Int)) = true := decide_eq_true c3
  have c3b1 : decide (1048576 < a1.size) = true := decide_eq_true (by omega)
  clear c3
  obtain rfl := Option.some.inj H
  go_enter Try.func8, Try.ntmps8
  go_wp2_with (first | ((with_reducible refine gate_dst (N := 2) rfl ?_); refine box_event ?hg (N := 2) ?hd (cs := #[.slice A0_0 l0_0.length c0_0]) (t := 36) ?hr ?_; (case hd => rfl); (case hg => rfl); (case hr => first | (go_simp; done) | (go_simp; rfl)); intro gb683 hg w4 hbox hb; have n0_ := aM (below_step (by repeat (first | (with_reducible first | exact HB.out | apply below_alloc | apply pw_below_drewN | apply below_drew1) | exact HB.out)) hb); have n1_ := aM (hbox); have n2_ := aM ((by rw [hg]; exact (below_size (by repeat (first | (with_reducible first | exact HB.out | apply below_alloc | apply pw_below_drewN | apply below_drew1) | exact HB.out))) : w.heap.size ≤ gb683)); have n3_ := aM ((by rw [hg]; exact (below_size (by repeat (first | (with_reducible first | exact HB.out | apply below_alloc | apply pw_below_drewN | apply below_drew1) | exact HB.out))) : w.heap.size ≤ gb683)); clear HB; have HB := n0_; have BK683 := n1_; have GW683 := n2_; have GE683 := n3_; clear n0_ n1_ n2_ n3_; clear hb hbox hg))
  go_ret
  exact ⟨by first | rfl | (simp [errW_none, errW_some] <;> rfl) | (simp [*, errW_none, errW_some] <;> rfl), by repeat (first | (with_reducible first | exact HB.out | apply below_alloc | apply pw_below_drewN | apply below_drew1 | refine below_set ?_ GE683.out) | exact HB.out)⟩
 ·
  rw [if_neg c3] at H
  have c3b0 : decide (1048576 < (a1.size : Int)) = false := decide_eq_false c3
  have c3b1 : decide (1048576 < a1.size) = false := decide_eq_false (by omega)
  clear c3
  replace H := Option.bind_eq_some_iff.mp H
  obtain ⟨t684, A50, H⟩ := H
  replace H : (if t684 < 0 then (some true) else ((laws_toRadix.f k l0_0).bind fun t685 => ((spec_PutName.f k t685 a1).bind fun bt688 => ((laws_toRadix.f k l0_0).bind fun t693 => ((impl_PutName.f k t693 a1).bind fun bt697 => ((laws_eqRadix.f k bt697.1 bt688.1).bind fun t702 => (if t702 = true then (laws_FnExactPutName.j0 k a1 bt688.2 bt697.2 (bt697.2 != bt688.2) l0_0 bt688.1 t693 bt697.1) else (laws_FnExactPutName.j0 k a1 bt688.2 bt697.2 true l0_0 bt688.1 t693 bt697.1)))))))) = some r := H
  have A5 := aM A50
  clear A50
  by_cases c6 : t684 < 0
  ·
   rw [if_pos c6] at H
   have c6b0 : decide (t684 < 0) = true := decide_eq_true c6
   clear c6
   obtain rfl := Option.some.inj H
   go_enter Try.func8, Try.ntmps8
   go_wp2_with (first | ((with_reducible refine gate_dst (N := 2) rfl ?_); refine box_event ?hg (N := 2) ?hd (cs := #[.slice A0_0 l0_0.length c0_0]) (t := 36) ?hr ?_; (case hd => rfl); (case hg => rfl); (case hr => first | (go_simp; done) | (go_simp; rfl)); intro gb683 hg w7 hbox hb; have n0_ := aM (below_step (by repeat (first | (with_reducible first | exact HB.out | apply below_alloc | apply pw_below_drewN | apply below_drew1) | exact HB.out)) hb); have n1_ := aM (hbox); have n2_ := aM ((by rw [hg]; exact (below_size (by repeat (first | (with_reducible first | exact HB.out | apply below_alloc | apply pw_below_drewN | apply below_drew1) | exact HB.out))) : w.heap.size ≤ gb683)); have n3_ := aM ((by rw [hg]; exact (below_size (by repeat (first | (with_reducible first | exact HB.out | apply below_alloc | apply pw_below_drewN | apply below_drew1) | exact HB.out))) : w.heap.size ≤ gb683)); clear HB; have HB := n0_; have BK683 := n1_; have GW683 := n2_; have GE683 := n3_; clear n0_ n1_ n2_ n3_; clear hb hbox hg; have hcz8_0 : w7.cell? ⟨gb683, 0, none⟩ = some (.slice A0_0 l0_0.length c0_0) := (blk_cell BK683.out 0).trans rfl; have hfz8_0 := blk_frozen BK683.out 0) | ((with_reducible refine gate_callee (f := 20) rfl ?_); refine goesL_ (some 21) rfl rfl Try.func20 (by kernel_rfl) rfl #[.agg #[.slice A0_0 l0_0.length c0_0], .int .i64 1048576] rfl (by (try simp only [List.map_toArray, List.map_cons, List.map_nil]); first | done | rfl | (simp only [List.length_drop, List.length_take]; rfl)) ?_; (with_reducible refine (laws_szRadix.calls k _ _ l0_0 1048576 t684 _ ?side1 ?side2 A5.out).mono ?_); (case side1 => repeat (first | exact (Kd.C_below HR0_0.out HB.out) | (with_reducible refine Kd.C_alloc ?_ _) | (with_reducible refine Kd.C_drewN ?_ _) | (with_reducible refine Kd.C_drew ?_))); (case side2 => exact HC0_0.out); rintro e w9 ⟨rfl, hb⟩; refine ⟨_, rfl, ?_⟩; have n0_ := aM (blk_below (g := gb683) (o := .cells #[.slice A0_0 l0_0.length c0_0] 36 (0, 0)) (by (with_reducible repeat (first | refine blk_drewN ?_ _ | refine blk_drew ?_ | refine blk_alloc ?_ _)); exact BK683.out) hb); have n1_ := aM (below_step (by repeat (first | (with_reducible first | exact HB.out | apply below_alloc | apply pw_below_drewN | apply below_drew1 | refine below_set ?_ GE683.out) | exact HB.out)) hb); clear BK683; clear HB; have BK683 := n0_; have HB := n1_; clear n0_ n1_; (try clear hb); (try clear hb2); (try clear hk); (try clear hi)))
   go_ret
   exact ⟨by first | rfl | (simp [errW_none, errW_some] <;> rfl) | (simp [*, errW_none, errW_some] <;> rfl), by repeat (first | (with_reducible first | exact HB.out | apply below_alloc | apply pw_below_drewN | apply below_drew1 | refine below_set ?_ GE683.out) | exact HB.out)⟩
  ·
   rw [if_neg c6] at H
   have c6b0 : decide (t684 < 0) = false := decide_eq_false c6
   clear c6
   replace H := Option.bind_eq_some_iff.mp H
   obtain ⟨t685, A100, H⟩ := H
   replace H : ((spec_PutName.f k t685 a1).bind fun bt688 => ((laws_toRadix.f k l0_0).bind fun t693 => ((impl_PutName.f k t693 a1).bind fun bt697 => ((laws_eqRadix.f k bt697.1 bt688.1).bind fun t702 => (if t702 = true then (laws_FnExactPutName.j0 k a1 bt688.2 bt697.2 (bt697.2 != bt688.2) l0_0 bt688.1 t693 bt697.1) else (laws_FnExactPutName.j0 k a1 bt688.2 bt697.2 true l0_0 bt688.1 t693 bt697.1)))))) = some r := H
   have A10 := aM A100
   clear A100
   replace H := Option.bind_eq_some_iff.mp H
   obtain ⟨⟨t688, t691⟩, A110, H⟩ := H
   replace H : ((laws_toRadix.f k l0_0).bind fun t693 => ((impl_PutName.f k t693 a1).bind fun bt697 => ((laws_eqRadix.f k bt697.1 t688).bind fun t702 => (if t702 = true then (laws_FnExactPutName.j0 k a1 t691 bt697.2 (bt697.2 != t691) l0_0 t688 t693 bt697.1) else (laws_FnExactPutName.j0 k a1 t691 bt697.2 true l0_0 t688 t693 bt697.1))))) = some r := H
   have A11 := aM A110
   clear A110
   replace H := Option.bind_eq_some_iff.mp H
   obtain ⟨t693, A120, H⟩ := H
   replace H : ((impl_PutName.f k t693 a1).bind fun bt697 => ((laws_eqRadix.f k bt697.1 t688).bind fun t702 => (if t702 = true then (laws_FnExactPutName.j0 k a1 t691 bt697.2 (bt697.2 != t691) l0_0 t688 t693 bt697.1) else (laws_FnExactPutName.j0 k a1 t691 bt697.2 true l0_0 t688 t693 bt697.1)))) = some r := H
   have A12 := aM A120
   clear A120
   replace H := Option.bind_eq_some_iff.mp H
   obtain ⟨⟨t697, t700⟩, A130, H⟩ := H
   replace H : ((laws_eqRadix.f k t697 t688).bind fun t702 => (if t702 = true then (laws_FnExactPutName.j0 k a1 t691 t700 (t700 != t691) l0_0 t688 t693 t697) else (laws_FnExactPutName.j0 k a1 t691 t700 true l0_0 t688 t693 t697))) = some r := H
   have A13 := aM A130
   clear A130
   have HC14 := aM H
   clear H
   go_enter Try.func8, Try.ntmps8
   go_upto_region 10 with (first | ((with_reducible refine gate_dst (N := 2) rfl ?_); refine box_event ?hg (N := 2) ?hd (cs := #[.slice A0_0 l0_0.length c0_0]) (t := 36) ?hr ?_; (case hd => rfl); (case hg => rfl); (case hr => first | (go_simp; done) | (go_simp; rfl)); intro gb683 hg w15 hbox hb; have n0_ := aM (below_step (by repeat (first | (with_reducible first | exact HB.out | apply below_alloc | apply pw_below_drewN | apply below_drew1) | exact HB.out)) hb); have n1_ := aM (hbox); have n2_ := aM ((by rw [hg]; exact (below_size (by repeat (first | (with_reducible first | exact HB.out | apply below_alloc | apply pw_below_drewN | apply below_drew1) | exact HB.out))) : w.heap.size ≤ gb683)); have n3_ := aM ((by rw [hg]; exact (below_size (by repeat (first | (with_reducible first | exact HB.out | apply below_alloc | apply pw_below_drewN | apply below_drew1) | exact HB.out))) : w.heap.size ≤ gb683)); clear HB; have HB := n0_; have BK683 := n1_; have GW683 := n2_; have GE683 := n3_; clear n0_ n1_ n2_ n3_; clear hb hbox hg; have hcz16_0 : w15.cell? ⟨gb683, 0, none⟩ = some (.slice A0_0 l0_0.length c0_0) := (blk_cell BK683.out 0).trans rfl; have hfz16_0 := blk_frozen BK683.out 0) | ((with_reducible refine gate_callee (f := 20) rfl ?_); refine goesL_ (some 21) rfl rfl Try.func20 (by kernel_rfl) rfl #[.agg #[.slice A0_0 l0_0.length c0_0], .int .i64 1048576] rfl (by (try simp only [List.map_toArray, List.map_cons, List.map_nil]); first | done | rfl | (simp only [List.length_drop, List.length_take]; rfl)) ?_; (with_reducible refine (laws_szRadix.calls k _ _ l0_0 1048576 t684 _ ?side1 ?side2 A5.out).mono ?_); (case side1 => repeat (first | exact (Kd.C_below HR0_0.out HB.out) | (with_reducible refine Kd.C_alloc ?_ _) | (with_reducible refine Kd.C_drewN ?_ _) | (with_reducible refine Kd.C_drew ?_))); (case side2 => exact HC0_0.out); rintro e w17 ⟨rfl, hb⟩; refine ⟨_, rfl, ?_⟩; have n0_ := aM (blk_below (g := gb683) (o := .cells #[.slice A0_0 l0_0.length c0_0] 36 (0, 0)) (by (with_reducible repeat (first | refine blk_drewN ?_ _ | refine blk_drew ?_ | refine blk_alloc ?_ _)); exact BK683.out) hb); have n1_ := aM (below_step (by repeat (first | (with_reducible first | exact HB.out | apply below_alloc | apply pw_below_drewN | apply below_drew1 | refine below_set ?_ GE683.out) | exact HB.out)) hb); clear BK683; clear HB; have BK683 := n0_; have HB := n1_; clear n0_ n1_; (try clear hb); (try clear hb2); (try clear hk); (try clear hi); have hcz18_0 : w17.cell? ⟨gb683, 0, none⟩ = some (.slice A0_0 l0_0.length c0_0) := (blk_cell BK683.out 0).trans rfl; have hfz18_0 := blk_frozen BK683.out 0) | ((with_reducible refine gate_callee (f := 22) rfl ?_); refine goesL_ (some 26) rfl rfl Try.func22 (by kernel_rfl) rfl #[.agg #[.slice A0_0 l0_0.length c0_0]] rfl (by (try simp only [List.map_toArray, List.map_cons, List.map_nil]); first | done | rfl | (simp only [List.length_drop, List.length_take]; rfl)) ?_; (with_reducible refine (laws_toRadix.calls k _ _ l0_0 t685 _ ?side1 ?side2 A10.out).mono ?_); (case side1 => repeat (first | exact (Kd.C_below HR0_0.out HB.out) | (with_reducible refine Kd.C_alloc ?_ _) | (with_reducible refine Kd.C_drewN ?_ _) | (with_reducible refine Kd.C_drew ?_))); (case side2 => exact HC0_0.out); rintro e w19 ⟨v686, rfl, ho0, hb⟩; refine ⟨_, rfl, ?_⟩; have n0_ := aM (Kd.R_lower ho0 (below_size (by repeat (first | (with_reducible first | exact HB.out | apply below_alloc | apply pw_below_drewN | apply below_drew1 | refine below_set ?_ GE683.out) | exact HB.out)))); have n1_ := aM (blk_below (g := gb683) (o := .cells #[.slice A0_0 l0_0.length c0_0] 36 (0, 0)) (by (with_reducible repeat (first | refine blk_drewN ?_ _ | refine blk_drew ?_ | refine blk_alloc ?_ _)); exact BK683.out) hb); have n2_ := aM (below_step (by repeat (first | (with_reducible first | exact HB.out | apply below_alloc | apply pw_below_drewN | apply below_drew1 | refine below_set ?_ GE683.out) | exact HB.out)) hb); clear BK683; clear HB; have HO687 := n0_; have BK683 := n1_; have HB := n2_; clear n0_ n1_ n2_; (try clear hb); (try clear hb2); (try clear hk); (try clear hi); (try clear ho0); obtain ⟨Ao20, co20, eo20⟩ := Kd.R_slice HO687.out; subst eo20) | ((with_reducible refine gate_callee (f := 31) rfl ?_); refine goesL_ (some 28) rfl rfl Try.func31 (by kernel_rfl) rfl #[.agg #[.slice Ao20 t685.length co20], .string a1] rfl (by (try simp only [List.map_toArray, List.map_cons, List.map_nil]); first | done | rfl | (simp only [List.length_drop, List.length_take]; rfl)) ?_; (with_reducible refine (spec_PutName.calls k _ _ t685 a1 t688 t691 _ ?side1 ?side2 A11.out).mono ?_); (case side1 => repeat (first | exact (Kd.R_reads' HO687.out).2.2 | (with_reducible refine Kd.C_alloc ?_ _) | (with_reducible refine Kd.C_drewN ?_ _) | (with_reducible refine Kd.C_drew ?_))); (case side2 => exact (Kd.R_reads' HO687.out).2.1); rintro e w21 ⟨v689, rfl, ho0, hb⟩; refine ⟨_, rfl, ?_⟩; have n0_ := aM (Kd.R_elder' (by (with_reducible repeat (first | apply Kd.R_alloc | apply Kd.R_drewN | apply Kd.R_drew)); exact HO687.out) (Kd.R_base ho0) hb); have n1_ := aM (Kd.R_lower (Kd.R_new' ho0 (Kd.R_lt (by (with_reducible repeat (first | apply Kd.R_alloc | apply Kd.R_drewN | apply Kd.R_drew)); exact HO687.out))) (below_size (by repeat (first | (with_reducible first | exact HB.out | apply below_alloc | apply pw_below_drewN | apply below_drew1 | refine below_set ?_ GE683.out) | exact HB.out)))); have n2_ := aM (blk_below (g := gb683) (o := .cells #[.slice A0_0 l0_0.length c0_0] 36 (0, 0)) (by (with_reducible repeat (first | refine blk_drewN ?_ _ | refine blk_drew ?_ | refine blk_alloc ?_ _)); exact BK683.out) hb); have n3_ := aM (below_step (by repeat (first | (with_reducible first | exact HB.out | apply below_alloc | apply pw_below_drewN | apply below_drew1 | refine below_set ?_ GE683.out) | exact HB.out)) hb); clear HO687; clear BK683; clear HB; have HO687 := n0_; have HO690 := n1_; have BK683 := n2_; have HB := n3_; clear n0_ n1_ n2_ n3_; (try clear hb); (try clear hb2); (try clear hk); (try clear hi); (try clear ho0)) | ((with_reducible refine gate_dst (N := 6) rfl ?_); refine box_event ?hg (N := 6) ?hd (cs := #[.slice none 0 0]) (t := 26) ?hr ?_; (case hd => rfl); (case hg => rfl); (case hr => first | (go_simp; done) | (go_simp; rfl)); intro gb692 hg w22 hbox hb; have n0_ := aM (Kd.R_below (by (with_reducible repeat (first | apply Kd.R_alloc | apply Kd.R_drewN | apply Kd.R_drew)); exact HO687.out) hb); have n1_ := aM (Kd.R_below (by (with_reducible repeat (first | apply Kd.R_alloc | apply Kd.R_drewN | apply Kd.R_drew)); exact HO690.out) hb); have n2_ := aM (blk_below (g := gb683) (o := .cells #[.slice A0_0 l0_0.length c0_0] 36 (0, 0)) (by (with_reducible repeat (first | refine blk_drewN ?_ _ | refine blk_drew ?_ | refine blk_alloc ?_ _)); exact BK683.out) hb); have n3_ := aM (below_step (by repeat (first | (with_reducible first | exact HB.out | apply below_alloc | apply pw_below_drewN | apply below_drew1 | refine below_set ?_ GE683.out) | exact HB.out)) hb); have n4_ := aM (hbox); have n5_ := aM ((by rw [hg]; exact (below_size (by repeat (first | (with_reducible first | exact HB.out | apply below_alloc | apply pw_below_drewN | apply below_drew1 | refine below_set ?_ GE683.out) | exact HB.out))) : w.heap.size ≤ gb692)); have n6_ := aM ((by rw [hg]; exact (below_size (by repeat (first | (with_reducible first | exact HB.out | apply below_alloc | apply pw_below_drewN | apply below_drew1 | refine below_set ?_ GE683.out) | exact HB.out))) : w.heap.size ≤ gb692)); have n7_ := aM ((by rw [hg]; exact Nat.ne_of_lt (blk_lt (g := gb683) (o := .cells #[.slice A0_0 l0_0.length c0_0] 36 (0, 0)) (by (with_reducible repeat (first | refine blk_drewN ?_ _ | refine blk_drew ?_ | refine blk_alloc ?_ _)); exact BK683.out)) : gb683 ≠ gb692)); have n8_ := aM ((by rw [hg]; exact Nat.ne_of_gt (blk_lt (g := gb683) (o := .cells #[.slice A0_0 l0_0.length c0_0] 36 (0, 0)) (by (with_reducible repeat (first | refine blk_drewN ?_ _ | refine blk_drew ?_ | refine blk_alloc ?_ _)); exact BK683.out)) : gb692 ≠ gb683)); clear HO687; clear HO690; clear BK683; clear HB; have HO687 := n0_; have HO690 := n1_; have BK683 := n2_; have HB := n3_; have BK692 := n4_; have GW692 := n5_; have GE692 := n6_; have NB683_692 := n7_; have NB692_683 := n8_; clear n0_ n1_ n2_ n3_ n4_ n5_ n6_ n7_ n8_; clear hb hbox hg; obtain ⟨Ao23, co23, eo23⟩ := Kd.R_slice HO690.out; subst eo23; have hnb24 := NB692_683.out; have hnc24 := NB683_692.out; have hcz25_0 : w22.cell? ⟨gb692, 0, none⟩ = some (.slice none 0 0) := (blk_cell BK692.out 0).trans rfl; have hfz25_0 := blk_frozen BK692.out 0; have hcz26_0 : w22.cell? ⟨gb683, 0, none⟩ = some (.slice A0_0 l0_0.length c0_0) := (blk_cell BK683.out 0).trans rfl; have hfz26_0 := blk_frozen BK683.out 0) | ((with_reducible refine gate_callee (f := 22) rfl ?_); refine goesL_ (some 32) rfl rfl Try.func22 (by kernel_rfl) rfl #[.agg #[.slice A0_0 l0_0.length c0_0]] rfl (by (try simp only [List.map_toArray, List.map_cons, List.map_nil]); first | done | rfl | (simp only [List.length_drop, List.length_take]; rfl)) ?_; (with_reducible refine (laws_toRadix.calls k _ _ l0_0 t693 _ ?side1 ?side2 A12.out).mono ?_); (case side1 => exact Kd.C_below HR0_0.out (by repeat (first | (with_reducible first | exact HB.out | apply below_alloc | apply pw_below_drewN | apply below_drew1 | refine below_set ?_ GE683.out | refine below_set ?_ GE692.out) | exact HB.out))); (case side2 => exact HC0_0.out); rintro e w27 ⟨v694, rfl, ho0, hb⟩; refine ⟨_, rfl, ?_⟩; have n0_ := aM (Kd.R_elder' (by (with_reducible repeat (first | apply Kd.R_alloc | apply Kd.R_drewN | apply Kd.R_drew)); exact (Kd.R_mono (Kd.R_far (p := ⟨gb692, 0, none⟩) (Kd.R_types HO687.out BK692.out (by decide)) (fun _ hk => hk.2) (.slice Ao23 t688.length co23)) (fun _ h_ => h_.1))) (Kd.R_base ho0) hb); have n1_ := aM (Kd.R_elder' (by (with_reducible repeat (first | apply Kd.R_alloc | apply Kd.R_drewN | apply Kd.R_drew)); exact (Kd.R_mono (Kd.R_far (p := ⟨gb692, 0, none⟩) (Kd.R_types HO690.out BK692.out (by decide)) (fun _ hk => hk.2) (.slice Ao23 t688.length co23)) (fun _ h_ => h_.1))) (Kd.R_base ho0) hb); have n2_ := aM (Kd.R_lower (Kd.R_new' (Kd.R_new' ho0 (Kd.R_lt (by (with_reducible repeat (first | apply Kd.R_alloc | apply Kd.R_drewN | apply Kd.R_drew)); exact (Kd.R_mono (Kd.R_far (p := ⟨gb692, 0, none⟩) (Kd.R_types HO687.out BK692.out (by decide)) (fun _ hk => hk.2) (.slice Ao23 t688.length co23)) (fun _ h_ => h_.1))))) (Kd.R_lt (by (with_reducible repeat (first | apply Kd.R_alloc | apply Kd.R_drewN | apply Kd.R_drew)); exact (Kd.R_mono (Kd.R_far (p := ⟨gb692, 0, none⟩) (Kd.R_types HO690.out BK692.out (by decide)) (fun _ hk => hk.2) (.slice Ao23 t688.length co23)) (fun _ h_ => h_.1))))) (below_size (by repeat (first | (with_reducible first | exact HB.out | apply below_alloc | apply pw_below_drewN | apply below_drew1 | refine below_set ?_ GE683.out | refine below_set ?_ GE692.out) | exact HB.out)))); have n3_ := aM (blk_below (g := gb683) (o := .cells #[.slice A0_0 l0_0.length c0_0] 36 (0, 0)) (by (with_reducible repeat (first | refine blk_drewN ?_ _ | refine blk_drew ?_ | refine blk_alloc ?_ _)); refine blk_far ?_ NB683_692.out _; (with_reducible repeat (first | refine blk_drewN ?_ _ | refine blk_drew ?_ | refine blk_alloc ?_ _)); exact BK683.out) hb); have n4_ := aM (blk_below (g := gb692) (o := .cells #[.slice Ao23 t688.length co23] 26 (0, 0)) (by (with_reducible repeat (first | refine blk_drewN ?_ _ | refine blk_drew ?_ | refine blk_alloc ?_ _)); refine blk_put (cs := #[.slice none 0 0]) ?_ 0 _ rfl; (with_reducible repeat (first | refine blk_drewN ?_ _ | refine blk_drew ?_ | refine blk_alloc ?_ _)); exact BK692.out) hb); have n5_ := aM (below_step (by repeat (first | (with_reducible first | exact HB.out | apply below_alloc | apply pw_below_drewN | apply below_drew1 | refine below_set ?_ GE683.out | refine below_set ?_ GE692.out) | exact HB.out)) hb); clear HO687; clear HO690; clear BK683; clear BK692; clear HB; have HO687 := n0_; have HO690 := n1_; have HO695 := n2_; have BK683 := n3_; have BK692 := n4_; have HB := n5_; clear n0_ n1_ n2_ n3_ n4_ n5_; (try clear hb); (try clear hb2); (try clear hk); (try clear hi); (try clear ho0)) | ((with_reducible refine gate_dst (N := 8) rfl ?_); refine box_event ?hg (N := 8) ?hd (cs := #[.slice none 0 0]) (t := 26) ?hr ?_; (case hd => rfl); (case hg => rfl); (case hr => first | (go_simp; done) | (go_simp; rfl)); intro gb696 hg w28 hbox hb; have n0_ := aM (Kd.R_below (by (with_reducible repeat (first | apply Kd.R_alloc | apply Kd.R_drewN | apply Kd.R_drew)); exact HO687.out) hb); have n1_ := aM (Kd.R_below (by (with_reducible repeat (first | apply Kd.R_alloc | apply Kd.R_drewN | apply Kd.R_drew)); exact HO690.out) hb); have n2_ := aM (Kd.R_below (by (with_reducible repeat (first | apply Kd.R_alloc | apply Kd.R_drewN | apply Kd.R_drew)); exact HO695.out) hb); have n3_ := aM (blk_below (g := gb683) (o := .cells #[.slice A0_0 l0_0.length c0_0] 36 (0, 0)) (by (with_reducible repeat (first | refine blk_drewN ?_ _ | refine blk_drew ?_ | refine blk_alloc ?_ _)); exact BK683.out) hb); have n4_ := aM (blk_below (g := gb692) (o := .cells #[.slice Ao23 t688.length co23] 26 (0, 0)) (by (with_reducible repeat (first | refine blk_drewN ?_ _ | refine blk_drew ?_ | refine blk_alloc ?_ _)); exact BK692.out) hb); have n5_ := aM (below_step (by repeat (first | (with_reducible first | exact HB.out | apply below_alloc | apply pw_below_drewN | apply below_drew1 | refine below_set ?_ GE683.out | refine below_set ?_ GE692.out) | exact HB.out)) hb); have n6_ := aM (hbox); have n7_ := aM ((by rw [hg]; exact (below_size (by repeat (first | (with_reducible first | exact HB.out | apply below_alloc | apply pw_below_drewN | apply below_drew1 | refine below_set ?_ GE683.out | refine below_set ?_ GE692.out) | exact HB.out))) : w.heap.size ≤ gb696)); have n8_ := aM ((by rw [hg]; exact (below_size (by repeat (first | (with_reducible first | exact HB.out | apply below_alloc | apply pw_below_drewN | apply below_drew1 | refine below_set ?_ GE683.out | refine below_set ?_ GE692.out) | exact HB.out))) : w.heap.size ≤ gb696)); have n9_ := aM ((by rw [hg]; exact Nat.ne_of_lt (blk_lt (g := gb683) (o := .cells #[.slice A0_0 l0_0.length c0_0] 36 (0, 0)) (by (with_reducible repeat (first | refine blk_drewN ?_ _ | refine blk_drew ?_ | refine blk_alloc ?_ _)); exact BK683.out)) : gb683 ≠ gb696)); have n10_ := aM ((by rw [hg]; exact Nat.ne_of_gt (blk_lt (g := gb683) (o := .cells #[.slice A0_0 l0_0.length c0_0] 36 (0, 0)) (by (with_reducible repeat (first | refine blk_drewN ?_ _ | refine blk_drew ?_ | refine blk_alloc ?_ _)); exact BK683.out)) : gb696 ≠ gb683)); have n11_ := aM ((by rw [hg]; exact Nat.ne_of_lt (blk_lt (g := gb692) (o := .cells #[.slice Ao23 t688.length co23] 26 (0, 0)) (by (with_reducible repeat (first | refine blk_drewN ?_ _ | refine blk_drew ?_ | refine blk_alloc ?_ _)); exact BK692.out)) : gb692 ≠ gb696)); have n12_ := aM ((by rw [hg]; exact Nat.ne_of_gt (blk_lt (g := gb692) (o := .cells #[.slice Ao23 t688.length co23] 26 (0, 0)) (by (with_reducible repeat (first | refine blk_drewN ?_ _ | refine blk_drew ?_ | refine blk_alloc ?_ _)); exact BK692.out)) : gb696 ≠ gb692)); clear HO687; clear HO690; clear HO695; clear BK683; clear BK692; clear HB; have HO687 := n0_; have HO690 := n1_; have HO695 := n2_; have BK683 := n3_; have BK692 := n4_; have HB := n5_; have BK696 := n6_; have GW696 := n7_; have GE696 := n8_; have NB683_696 := n9_; have NB696_683 := n10_; have NB692_696 := n11_; have NB696_692 := n12_; clear n0_ n1_ n2_ n3_ n4_ n5_ n6_ n7_ n8_ n9_ n10_ n11_ n12_; clear hb hbox hg; obtain ⟨Ao29, co29, eo29⟩ := Kd.R_slice HO695.out; subst eo29; have hnb30 := NB696_683.out; have hnc30 := NB683_696.out; have hnb31 := NB696_692.out; have hnc31 := NB692_696.out; have hcz32_0 : w28.cell? ⟨gb696, 0, none⟩ = some (.slice none 0 0) := (blk_cell BK696.out 0).trans rfl; have hfz32_0 := blk_frozen BK696.out 0) | ((with_reducible refine gate_callee (f := 32) rfl ?_); refine goesL_ (some 36) rfl rfl Try.func32 (by kernel_rfl) rfl #[.agg #[.slice Ao29 t693.length co29], .string a1] rfl (by (try simp only [List.map_toArray, List.map_cons, List.map_nil]); first | done | rfl | (simp only [List.length_drop, List.length_take]; rfl)) ?_; (with_reducible refine (impl_PutName.calls k _ _ t693 a1 t697 t700 _ ?side1 ?side2 A13.out).mono ?_); (case side1 => refine (Kd.R_reads' (e := 64) (base := w.heap.size) (ok := fun k_ => ((True ∧ some k_ ≠ (.slice Ao20 t685.length co20 : Value).ownBlock) ∧ some k_ ≠ (.slice Ao23 t688.length co23 : Value).ownBlock)) (n := t693.length) (c := co29) ?_).2.2; exact (by (with_reducible repeat (first | apply Kd.R_alloc | apply Kd.R_drewN | apply Kd.R_drew)); exact (Kd.R_mono (Kd.R_far (p := ⟨gb696, 0, none⟩) (Kd.R_types HO695.out BK696.out (by decide)) (fun _ hk => hk.2) (.slice Ao29 t693.length co29)) (fun _ h_ => h_.1)))); (case side2 => exact (Kd.R_reads' HO695.out).2.1); rintro e w33 ⟨v698, rfl, ho0, hb⟩; refine ⟨_, rfl, ?_⟩; have n0_ := aM (Kd.R_elder' (by (with_reducible repeat (first | apply Kd.R_alloc | apply Kd.R_drewN | apply Kd.R_drew)); exact (Kd.R_mono (Kd.R_far (p := ⟨gb696, 0, none⟩) (Kd.R_types HO687.out BK696.out (by decide)) (fun _ hk => hk.2) (.slice Ao29 t693.length co29)) (fun _ h_ => h_.1))) (Kd.R_base ho0) hb); have n1_ := aM (Kd.R_elder' (by (with_reducible repeat (first | apply Kd.R_alloc | apply Kd.R_drewN | apply Kd.R_drew)); exact (Kd.R_mono (Kd.R_far (p := ⟨gb696, 0, none⟩) (Kd.R_types HO690.out BK696.out (by decide)) (fun _ hk => hk.2) (.slice Ao29 t693.length co29)) (fun _ h_ => h_.1))) (Kd.R_base ho0) hb); have n2_ := aM (Kd.R_elder' (by (with_reducible repeat (first | apply Kd.R_alloc | apply Kd.R_drewN | apply Kd.R_drew)); exact (Kd.R_mono (Kd.R_far (p := ⟨gb696, 0, none⟩) (Kd.R_types HO695.out BK696.out (by decide)) (fun _ hk => hk.2) (.slice Ao29 t693.length co29)) (fun _ h_ => h_.1))) (Kd.R_base ho0) hb); have n3_ := aM (Kd.R_lower (Kd.R_new' (Kd.R_new' (Kd.R_new' ho0 (Kd.R_lt (by (with_reducible repeat (first | apply Kd.R_alloc | apply Kd.R_drewN | apply Kd.R_drew)); exact (Kd.R_mono (Kd.R_far (p := ⟨gb696, 0, none⟩) (Kd.R_types HO687.out BK696.out (by decide)) (fun _ hk => hk.2) (.slice Ao29 t693.length co29)) (fun _ h_ => h_.1))))) (Kd.R_lt (by (with_reducible repeat (first | apply Kd.R_alloc | apply Kd.R_drewN | apply Kd.R_drew)); exact (Kd.R_mono (Kd.R_far (p := ⟨gb696, 0, none⟩) (Kd.R_types HO690.out BK696.out (by decide)) (fun _ hk => hk.2) (.slice Ao29 t693.length co29)) (fun _ h_ => h_.1))))) (Kd.R_lt (by (with_reducible repeat (first | apply Kd.R_alloc | apply Kd.R_drewN | apply Kd.R_drew)); exact (Kd.R_mono (Kd.R_far (p := ⟨gb696, 0, none⟩) (Kd.R_types HO695.out BK696.out (by decide)) (fun _ hk => hk.2) (.slice Ao29 t693.length co29)) (fun _ h_ => h_.1))))) (below_size (by repeat (first | (with_reducible first | exact HB.out | apply below_alloc | apply pw_below_drewN | apply below_drew1 | refine below_set ?_ GE683.out | refine below_set ?_ GE692.out | refine below_set ?_ GE696.out) | exact HB.out)))); have n4_ := aM (blk_below (g := gb683) (o := .cells #[.slice A0_0 l0_0.length c0_0] 36 (0, 0)) (by (with_reducible repeat (first | refine blk_drewN ?_ _ | refine blk_drew ?_ | refine blk_alloc ?_ _)); refine blk_far ?_ NB683_696.out _; (with_reducible repeat (first | refine blk_drewN ?_ _ | refine blk_drew ?_ | refine blk_alloc ?_ _)); exact BK683.out) hb); have n5_ := aM (blk_below (g := gb692) (o := .cells #[.slice Ao23 t688.length co23] 26 (0, 0)) (by (with_reducible repeat (first | refine blk_drewN ?_ _ | refine blk_drew ?_ | refine blk_alloc ?_ _)); refine blk_far ?_ NB692_696.out _; (with_reducible repeat (first | refine blk_drewN ?_ _ | refine blk_drew ?_ | refine blk_alloc ?_ _)); exact BK692.out) hb); have n6_ := aM (blk_below (g := gb696) (o := .cells #[.slice Ao29 t693.length co29] 26 (0, 0)) (by (with_reducible repeat (first | refine blk_drewN ?_ _ | refine blk_drew ?_ | refine blk_alloc ?_ _)); refine blk_put (cs := #[.slice none 0 0]) ?_ 0 _ rfl; (with_reducible repeat (first | refine blk_drewN ?_ _ | refine blk_drew ?_ | refine blk_alloc ?_ _)); exact BK696.out) hb); have n7_ := aM (below_step (by repeat (first | (with_reducible first | exact HB.out | apply below_alloc | apply pw_below_drewN | apply below_drew1 | refine below_set ?_ GE683.out | refine below_set ?_ GE692.out | refine below_set ?_ GE696.out) | exact HB.out)) hb); clear HO687; clear HO690; clear HO695; clear BK683; clear BK692; clear BK696; clear HB; have HO687 := n0_; have HO690 := n1_; have HO695 := n2_; have HO699 := n3_; have BK683 := n4_; have BK692 := n5_; have BK696 := n6_; have HB := n7_; clear n0_ n1_ n2_ n3_ n4_ n5_ n6_ n7_; (try clear hb); (try clear hb2); (try clear hk); (try clear hi); (try clear ho0)) | ((with_reducible refine gate_dst (N := 9) rfl ?_); refine box_event ?hg (N := 9) ?hd (cs := #[.slice none 0 0]) (t := 26) ?hr ?_; (case hd => rfl); (case hg => rfl); (case hr => first | (go_simp; done) | (go_simp; rfl)); intro gb701 hg w34 hbox hb; have n0_ := aM (Kd.R_below (by (with_reducible repeat (first | apply Kd.R_alloc | apply Kd.R_drewN | apply Kd.R_drew)); exact HO687.out) hb); have n1_ := aM (Kd.R_below (by (with_reducible repeat (first | apply Kd.R_alloc | apply Kd.R_drewN | apply Kd.R_drew)); exact HO690.out) hb); have n2_ := aM (Kd.R_below (by (with_reducible repeat (first | apply Kd.R_alloc | apply Kd.R_drewN | apply Kd.R_drew)); exact HO695.out) hb); have n3_ := aM (Kd.R_below (by (with_reducible repeat (first | apply Kd.R_alloc | apply Kd.R_drewN | apply Kd.R_drew)); exact HO699.out) hb); have n4_ := aM (blk_below (g := gb683) (o := .cells #[.slice A0_0 l0_0.length c0_0] 36 (0, 0)) (by (with_reducible repeat (first | refine blk_drewN ?_ _ | refine blk_drew ?_ | refine blk_alloc ?_ _)); exact BK683.out) hb); have n5_ := aM (blk_below (g := gb692) (o := .cells #[.slice Ao23 t688.length co23] 26 (0, 0)) (by (with_reducible repeat (first | refine blk_drewN ?_ _ | refine blk_drew ?_ | refine blk_alloc ?_ _)); exact BK692.out) hb); have n6_ := aM (blk_below (g := gb696) (o := .cells #[.slice Ao29 t693.length co29] 26 (0, 0)) (by (with_reducible repeat (first | refine blk_drewN ?_ _ | refine blk_drew ?_ | refine blk_alloc ?_ _)); exact BK696.out) hb); have n7_ := aM (below_step (by repeat (first | (with_reducible first | exact HB.out | apply below_alloc | apply pw_below_drewN | apply below_drew1 | refine below_set ?_ GE683.out | refine below_set ?_ GE692.out | refine below_set ?_ GE696.out) | exact HB.out)) hb); have n8_ := aM (hbox); have n9_ := aM ((by rw [hg]; exact (below_size (by repeat (first | (with_reducible first | exact HB.out | apply below_alloc | apply pw_below_drewN | apply below_drew1 | refine below_set ?_ GE683.out | refine below_set ?_ GE692.out | refine below_set ?_ GE696.out) | exact HB.out))) : w.heap.size ≤ gb701)); have n10_ := aM ((by rw [hg]; exact (below_size (by repeat (first | (with_reducible first | exact HB.out | apply below_alloc | apply pw_below_drewN | apply below_drew1 | refine below_set ?_ GE683.out | refine below_set ?_ GE692.out | refine below_set ?_ GE696.out) | exact HB.out))) : w.heap.size ≤ gb701)); have n11_ := aM ((by rw [hg]; exact Nat.ne_of_lt (blk_lt (g := gb683) (o := .cells #[.slice A0_0 l0_0.length c0_0] 36 (0, 0)) (by (with_reducible repeat (first | refine blk_drewN ?_ _ | refine blk_drew ?_ | refine blk_alloc ?_ _)); exact BK683.out)) : gb683 ≠ gb701)); have n12_ := aM ((by rw [hg]; exact Nat.ne_of_gt (blk_lt (g := gb683) (o := .cells #[.slice A0_0 l0_0.length c0_0] 36 (0, 0)) (by (with_reducible repeat (first | refine blk_drewN ?_ _ | refine blk_drew ?_ | refine blk_alloc ?_ _)); exact BK683.out)) : gb701 ≠ gb683)); have n13_ := aM ((by rw [hg]; exact Nat.ne_of_lt (blk_lt (g := gb692) (o := .cells #[.slice Ao23 t688.length co23] 26 (0, 0)) (by (with_reducible repeat (first | refine blk_drewN ?_ _ | refine blk_drew ?_ | refine blk_alloc ?_ _)); exact BK692.out)) : gb692 ≠ gb701)); have n14_ := aM ((by rw [hg]; exact Nat.ne_of_gt (blk_lt (g := gb692) (o := .cells #[.slice Ao23 t688.length co23] 26 (0, 0)) (by (with_reducible repeat (first | refine blk_drewN ?_ _ | refine blk_drew ?_ | refine blk_alloc ?_ _)); exact BK692.out)) : gb701 ≠ gb692)); have n15_ := aM ((by rw [hg]; exact Nat.ne_of_lt (blk_lt (g := gb696) (o := .cells #[.slice Ao29 t693.length co29] 26 (0, 0)) (by (with_reducible repeat (first | refine blk_drewN ?_ _ | refine blk_drew ?_ | refine blk_alloc ?_ _)); exact BK696.out)) : gb696 ≠ gb701)); have n16_ := aM ((by rw [hg]; exact Nat.ne_of_gt (blk_lt (g := gb696) (o := .cells #[.slice Ao29 t693.length co29] 26 (0, 0)) (by (with_reducible repeat (first | refine blk_drewN ?_ _ | refine blk_drew ?_ | refine blk_alloc ?_ _)); exact BK696.out)) : gb701 ≠ gb696)); clear HO687; clear HO690; clear HO695; clear HO699; clear BK683; clear BK692; clear BK696; clear HB; have HO687 := n0_; have HO690 := n1_; have HO695 := n2_; have HO699 := n3_; have BK683 := n4_; have BK692 := n5_; have BK696 := n6_; have HB := n7_; have BK701 := n8_; have GW701 := n9_; have GE701 := n10_; have NB683_701 := n11_; have NB701_683 := n12_; have NB692_701 := n13_; have NB701_692 := n14_; have NB696_701 := n15_; have NB701_696 := n16_; clear n0_ n1_ n2_ n3_ n4_ n5_ n6_ n7_ n8_ n9_ n10_ n11_ n12_ n13_ n14_ n15_ n16_; clear hb hbox hg; obtain ⟨Ao35, co35, eo35⟩ := Kd.R_slice HO699.out; subst eo35; have hnb36 := NB701_683.out; have hnc36 := NB683_701.out; have hnb37 := NB701_692.out; have hnc37 := NB692_701.out; have hnb38 := NB701_696.out; have hnc38 := NB696_701.out; have hcz39_0 : w34.cell? ⟨gb701, 0, none⟩ = some (.slice none 0 0) := (blk_cell BK701.out 0).trans rfl; have hfz39_0 := blk_frozen BK701.out 0))
   (try simp only [Act.put, zSA, zSB, zSC])
   go_cut [47] (fun v47 wc => ∃ (kq : Nat) (x47_13 : Bool), v47 = .bool x47_13 ∧ Aside0 (laws_FnExactPutName.j0 kq a1 t691 t700 x47_13 l0_0 t688 t693 t697 = some r) ∧ Aside0 (kq ≤ k) ∧ Aside0 (Kd.R k64 64 wc w.heap.size (fun k_ => some k_ ≠ ((.slice Ao29 t693.length co29) : Value).ownBlock ∧ some k_ ≠ ((.slice Ao35 t697.length co35) : Value).ownBlock) (.slice Ao23 t688.length co23) t688) ∧ Aside0 (Kd.R k64 64 wc w.heap.size (fun k_ => some k_ ≠ ((.slice Ao23 t688.length co23) : Value).ownBlock ∧ some k_ ≠ ((.slice Ao35 t697.length co35) : Value).ownBlock) (.slice Ao29 t693.length co29) t693) ∧ Aside0 (Kd.R k64 64 wc w.heap.size (fun k_ => some k_ ≠ ((.slice Ao23 t688.length co23) : Value).ownBlock ∧ some k_ ≠ ((.slice Ao29 t693.length co29) : Value).ownBlock) (.slice Ao35 t697.length co35) t697) ∧ Aside0 (wc.heap[gb683]? = some (.cells #[(.slice A0_0 l0_0.length c0_0)] 36 (0, 0))) ∧ Aside0 (wc.heap[gb692]? = some (.cells #[(.slice Ao23 t688.length co23)] 26 (0, 0))) ∧ Aside0 (wc.heap[gb696]? = some (.cells #[(.slice Ao29 t693.length co29)] 26 (0, 0))) ∧ Aside0 (wc.heap[gb701]? = some (.cells #[(.slice Ao35 t697.length co35)] 26 (0, 0))) ∧ Aside0 (Below w.heap.size w wc))
   case first =>
    have H := HC14.out
    clear HC14
    replace H := Option.bind_eq_some_iff.mp H
    obtain ⟨t702, A400, H⟩ := H
    replace H : (if t702 = true then (laws_FnExactPutName.j0 k a1 t691 t700 (t700 != t691) l0_0 t688 t693 t697) else (laws_FnExactPutName.j0 k a1 t691 t700 true l0_0 t688 t693 t697)) = some r := H
    have A40 := aM A400
    clear A400
    by_cases c41 : t702 = true
    ·
     subst c41
     have H1 : (laws_FnExactPutName.j0 k a1 t691 t700 (t700 != t691) l0_0 t688 t693 t697) = some r := by rw [if_pos rfl] at H; exact H
     clear H
     have H := H1
     clear H1
     have H' := aM H
     clear H
     have hnb42 := NB701_683.out
     have hnc42 := NB683_701.out
     have hnb43 := NB701_692.out
     have hnc43 := NB692_701.out
     have hnb44 := NB701_696.out
     have hnc44 := NB696_701.out
     have hcz45_0 : w34.cell? ⟨gb701, 0, none⟩ = some (.slice none 0 0) := (blk_cell BK701.out 0).trans rfl
     have hfz45_0 := blk_frozen BK701.out 0
     have hnb46 := NB692_683.out
     have hnc46 := NB683_692.out
     have hnb47 := NB692_696.out
     have hnc47 := NB696_692.out
     have hcz48_0 : w34.cell? ⟨gb692, 0, none⟩ = some (.slice Ao23 t688.length co23) := (blk_cell BK692.out 0).trans rfl
     have hfz48_0 := blk_frozen BK692.out 0
     go_wp2_with (first | ((with_reducible refine gate_callee (f := 15) rfl ?_); refine goesL_ (some 41) rfl rfl Try.func15 (by kernel_rfl) rfl #[.agg #[.slice Ao35 t697.length co35], .agg #[.slice Ao23 t688.length co23]] rfl (by (try simp only [List.map_toArray, List.map_cons, List.map_nil]); first | done | rfl | (simp only [List.length_drop, List.length_take]; rfl)) ?_; (with_reducible refine (laws_eqRadix.calls k _ _ t697 _ _ t688 true _ ?side1 ?side2 ?side3 ?side4 A40.out).mono ?_); (case side1 => refine (Kd.R_reads' (e := 64) (base := w.heap.size) (ok := fun k_ => (((True ∧ some k_ ≠ (.slice Ao20 t685.length co20 : Value).ownBlock) ∧ some k_ ≠ (.slice Ao23 t688.length co23 : Value).ownBlock) ∧ some k_ ≠ (.slice Ao29 t693.length co29 : Value).ownBlock)) (n := t697.length) (c := co35) ?_).2.2; exact (by (with_reducible repeat (first | apply Kd.R_alloc | apply Kd.R_drewN | apply Kd.R_drew)); exact (Kd.R_mono (Kd.R_far (p := ⟨gb701, 0, none⟩) (Kd.R_types HO699.out BK701.out (by decide)) (fun _ hk => hk.2) (.slice Ao35 t697.length co35)) (fun _ h_ => h_.1)))); (case side2 => exact (Kd.R_reads' HO699.out).2.1); (case side3 => refine (Kd.R_reads' (e := 64) (base := w.heap.size) (ok := fun k_ => (((True ∧ some k_ ≠ (.slice Ao20 t685.length co20 : Value).ownBlock) ∧ some k_ ≠ (.slice Ao29 t693.length co29 : Value).ownBlock) ∧ some k_ ≠ (.slice Ao35 t697.length co35 : Value).ownBlock)) (n := t688.length) (c := co23) ?_).2.2; exact (by (with_reducible repeat (first | apply Kd.R_alloc | apply Kd.R_drewN | apply Kd.R_drew)); exact (Kd.R_mono (Kd.R_far (p := ⟨gb701, 0, none⟩) (Kd.R_types HO690.out BK701.out (by decide)) (fun _ hk => hk.2) (.slice Ao35 t697.length co35)) (fun _ h_ => h_.1)))); (case side4 => exact (Kd.R_reads' HO690.out).2.1); rintro e w49 ⟨rfl, hb⟩; refine ⟨_, rfl, ?_⟩; have n0_ := aM (Kd.R_below (by (with_reducible repeat (first | apply Kd.R_alloc | apply Kd.R_drewN | apply Kd.R_drew)); exact (Kd.R_mono (Kd.R_far (p := ⟨gb701, 0, none⟩) (Kd.R_types HO687.out BK701.out (by decide)) (fun _ hk => hk.2) (.slice Ao35 t697.length co35)) (fun _ h_ => h_.1))) hb); have n1_ := aM (Kd.R_below (by (with_reducible repeat (first | apply Kd.R_alloc | apply Kd.R_drewN | apply Kd.R_drew)); exact (Kd.R_mono (Kd.R_far (p := ⟨gb701, 0, none⟩) (Kd.R_types HO690.out BK701.out (by decide)) (fun _ hk => hk.2) (.slice Ao35 t697.length co35)) (fun _ h_ => h_.1))) hb); have n2_ := aM (Kd.R_below (by (with_reducible repeat (first | apply Kd.R_alloc | apply Kd.R_drewN | apply Kd.R_drew)); exact (Kd.R_mono (Kd.R_far (p := ⟨gb701, 0, none⟩) (Kd.R_types HO695.out BK701.out (by decide)) (fun _ hk => hk.2) (.slice Ao35 t697.length co35)) (fun _ h_ => h_.1))) hb); have n3_ := aM (Kd.R_below (by (with_reducible repeat (first | apply Kd.R_alloc | apply Kd.R_drewN | apply Kd.R_drew)); exact (Kd.R_mono (Kd.R_far (p := ⟨gb701, 0, none⟩) (Kd.R_types HO699.out BK701.out (by decide)) (fun _ hk => hk.2) (.slice Ao35 t697.length co35)) (fun _ h_ => h_.1))) hb); have n4_ := aM (blk_below (g := gb683) (o := .cells #[.slice A0_0 l0_0.length c0_0] 36 (0, 0)) (by (with_reducible repeat (first | refine blk_drewN ?_ _ | refine blk_drew ?_ | refine blk_alloc ?_ _)); refine blk_far ?_ NB683_701.out _; (with_reducible repeat (first | refine blk_drewN ?_ _ | refine blk_drew ?_ | refine blk_alloc ?_ _)); exact BK683.out) hb); have n5_ := aM (blk_below (g := gb692) (o := .cells #[.slice Ao23 t688.length co23] 26 (0, 0)) (by (with_reducible repeat (first | refine blk_drewN ?_ _ | refine blk_drew ?_ | refine blk_alloc ?_ _)); refine blk_far ?_ NB692_701.out _; (with_reducible repeat (first | refine blk_drewN ?_ _ | refine blk_drew ?_ | refine blk_alloc ?_ _)); exact BK692.out) hb); have n6_ := aM (blk_below (g := gb696) (o := .cells #[.slice Ao29 t693.length co29] 26 (0, 0)) (by (with_reducible repeat (first | refine blk_drewN ?_ _ | refine blk_drew ?_ | refine blk_alloc ?_ _)); refine blk_far ?_ NB696_701.out _; (with_reducible repeat (first | refine blk_drewN ?_ _ | refine blk_drew ?_ | refine blk_alloc ?_ _)); exact BK696.out) hb); have n7_ := aM (blk_below (g := gb701) (o := .cells #[.slice Ao35 t697.length co35] 26 (0, 0)) (by (with_reducible repeat (first | refine blk_drewN ?_ _ | refine blk_drew ?_ | refine blk_alloc ?_ _)); refine blk_put (cs := #[.slice none 0 0]) ?_ 0 _ rfl; (with_reducible repeat (first | refine blk_drewN ?_ _ | refine blk_drew ?_ | refine blk_alloc ?_ _)); exact BK701.out) hb); have n8_ := aM (below_step (by repeat (first | (with_reducible first | exact HB.out | apply below_alloc | apply pw_below_drewN | apply below_drew1 | refine below_set ?_ GE683.out | refine below_set ?_ GE692.out | refine below_set ?_ GE696.out | refine below_set ?_ GE701.out) | exact HB.out)) hb); clear HO687; clear HO690; clear HO695; clear HO699; clear BK683; clear BK692; clear BK696; clear BK701; clear HB; have HO687 := n0_; have HO690 := n1_; have HO695 := n2_; have HO699 := n3_; have BK683 := n4_; have BK692 := n5_; have BK696 := n6_; have BK701 := n7_; have HB := n8_; clear n0_ n1_ n2_ n3_ n4_ n5_ n6_ n7_ n8_; (try clear hb); (try clear hb2); (try clear hk); (try clear hi)))
     go_meet
     case rel => exact ⟨_, ((t700 != t691)), (by first | rfl | (simp; done) | (simp [*]; done)), H', ⟨by first | omega | exact Nat.le_refl _⟩, ⟨by (with_reducible repeat (first | apply Kd.R_alloc | apply Kd.R_drewN | apply Kd.R_drew)); exact Kd.R_mono HO690.out (fun _ hk => ⟨hk.1.2, hk.2⟩)⟩, ⟨by (with_reducible repeat (first | apply Kd.R_alloc | apply Kd.R_drewN | apply Kd.R_drew)); exact Kd.R_mono HO695.out (fun _ hk => ⟨hk.1.2, hk.2⟩)⟩, ⟨by (with_reducible repeat (first | apply Kd.R_alloc | apply Kd.R_drewN | apply Kd.R_drew)); exact Kd.R_mono HO699.out (fun _ hk => ⟨hk.1.2, hk.2⟩)⟩, ⟨by (with_reducible repeat (first | refine blk_drewN ?_ _ | refine blk_drew ?_ | refine blk_alloc ?_ _)); exact BK683.out⟩, ⟨by (with_reducible repeat (first | refine blk_drewN ?_ _ | refine blk_drew ?_ | refine blk_alloc ?_ _)); exact BK692.out⟩, ⟨by (with_reducible repeat (first | refine blk_drewN ?_ _ | refine blk_drew ?_ | refine blk_alloc ?_ _)); exact BK696.out⟩, ⟨by (with_reducible repeat (first | refine blk_drewN ?_ _ | refine blk_drew ?_ | refine blk_alloc ?_ _)); exact BK701.out⟩, ⟨by repeat (first | (with_reducible first | exact HB.out | apply below_alloc | apply pw_below_drewN | apply below_drew1 | refine below_set ?_ GE683.out | refine below_set ?_ GE692.out | refine below_set ?_ GE696.out | refine below_set ?_ GE701.out) | exact HB.out)⟩⟩
    ·
     replace c41 := Bool.eq_false_iff.mpr c41
     subst c41
     have H1 : (laws_FnExactPutName.j0 k a1 t691 t700 true l0_0 t688 t693 t697) = some r := by rw [if_neg (show ¬ (false = true) by decide)] at H; exact H
     clear H
     have H := H1
     clear H1
     have H' := aM H
     clear H
     have hnb50 := NB701_683.out
     have hnc50 := NB683_701.out
     have hnb51 := NB701_692.out
     have hnc51 := NB692_701.out
     have hnb52 := NB701_696.out
     have hnc52 := NB696_701.out
     have hcz53_0 : w34.cell? ⟨gb701, 0, none⟩ = some (.slice none 0 0) := (blk_cell BK701.out 0).trans rfl
     have hfz53_0 := blk_frozen BK701.out 0
     have hnb54 := NB692_683.out
     have hnc54 := NB683_692.out
     have hnb55 := NB692_696.out
     have hnc55 := NB696_692.out
     have hcz56_0 : w34.cell? ⟨gb692, 0, none⟩ = some (.slice Ao23 t688.length co23) := (blk_cell BK692.out 0).trans rfl
     have hfz56_0 := blk_frozen BK692.out 0
     go_wp2_with (first | ((with_reducible refine gate_callee (f := 15) rfl ?_); refine goesL_ (some 41) rfl rfl Try.func15 (by kernel_rfl) rfl #[.agg #[.slice Ao35 t697.length co35], .agg #[.slice Ao23 t688.length co23]] rfl (by (try simp only [List.map_toArray, List.map_cons, List.map_nil]); first | done | rfl | (simp only [List.length_drop, List.length_take]; rfl)) ?_; (with_reducible refine (laws_eqRadix.calls k _ _ t697 _ _ t688 false _ ?side1 ?side2 ?side3 ?side4 A40.out).mono ?_); (case side1 => refine (Kd.R_reads' (e := 64) (base := w.heap.size) (ok := fun k_ => (((True ∧ some k_ ≠ (.slice Ao20 t685.length co20 : Value).ownBlock) ∧ some k_ ≠ (.slice Ao23 t688.length co23 : Value).ownBlock) ∧ some k_ ≠ (.slice Ao29 t693.length co29 : Value).ownBlock)) (n := t697.length) (c := co35) ?_).2.2; exact (by (with_reducible repeat (first | apply Kd.R_alloc | apply Kd.R_drewN | apply Kd.R_drew)); exact (Kd.R_mono (Kd.R_far (p := ⟨gb701, 0, none⟩) (Kd.R_types HO699.out BK701.out (by decide)) (fun _ hk => hk.2) (.slice Ao35 t697.length co35)) (fun _ h_ => h_.1)))); (case side2 => exact (Kd.R_reads' HO699.out).2.1); (case side3 => refine (Kd.R_reads' (e := 64) (base := w.heap.size) (ok := fun k_ => (((True ∧ some k_ ≠ (.slice Ao20 t685.length co20 : Value).ownBlock) ∧ some k_ ≠ (.slice Ao29 t693.length co29 : Value).ownBlock) ∧ some k_ ≠ (.slice Ao35 t697.length co35 : Value).ownBlock)) (n := t688.length) (c := co23) ?_).2.2; exact (by (with_reducible repeat (first | apply Kd.R_alloc | apply Kd.R_drewN | apply Kd.R_drew)); exact (Kd.R_mono (Kd.R_far (p := ⟨gb701, 0, none⟩) (Kd.R_types HO690.out BK701.out (by decide)) (fun _ hk => hk.2) (.slice Ao35 t697.length co35)) (fun _ h_ => h_.1)))); (case side4 => exact (Kd.R_reads' HO690.out).2.1); rintro e w57 ⟨rfl, hb⟩; refine ⟨_, rfl, ?_⟩; have n0_ := aM (Kd.R_below (by (with_reducible repeat (first | apply Kd.R_alloc | apply Kd.R_drewN | apply Kd.R_drew)); exact (Kd.R_mono (Kd.R_far (p := ⟨gb701, 0, none⟩) (Kd.R_types HO687.out BK701.out (by decide)) (fun _ hk => hk.2) (.slice Ao35 t697.length co35)) (fun _ h_ => h_.1))) hb); have n1_ := aM (Kd.R_below (by (with_reducible repeat (first | apply Kd.R_alloc | apply Kd.R_drewN | apply Kd.R_drew)); exact (Kd.R_mono (Kd.R_far (p := ⟨gb701, 0, none⟩) (Kd.R_types HO690.out BK701.out (by decide)) (fun _ hk => hk.2) (.slice Ao35 t697.length co35)) (fun _ h_ => h_.1))) hb); have n2_ := aM (Kd.R_below (by (with_reducible repeat (first | apply Kd.R_alloc | apply Kd.R_drewN | apply Kd.R_drew)); exact (Kd.R_mono (Kd.R_far (p := ⟨gb701, 0, none⟩) (Kd.R_types HO695.out BK701.out (by decide)) (fun _ hk => hk.2) (.slice Ao35 t697.length co35)) (fun _ h_ => h_.1))) hb); have n3_ := aM (Kd.R_below (by (with_reducible repeat (first | apply Kd.R_alloc | apply Kd.R_drewN | apply Kd.R_drew)); exact (Kd.R_mono (Kd.R_far (p := ⟨gb701, 0, none⟩) (Kd.R_types HO699.out BK701.out (by decide)) (fun _ hk => hk.2) (.slice Ao35 t697.length co35)) (fun _ h_ => h_.1))) hb); have n4_ := aM (blk_below (g := gb683) (o := .cells #[.slice A0_0 l0_0.length c0_0] 36 (0, 0)) (by (with_reducible repeat (first | refine blk_drewN ?_ _ | refine blk_drew ?_ | refine blk_alloc ?_ _)); refine blk_far ?_ NB683_701.out _; (with_reducible repeat (first | refine blk_drewN ?_ _ | refine blk_drew ?_ | refine blk_alloc ?_ _)); exact BK683.out) hb); have n5_ := aM (blk_below (g := gb692) (o := .cells #[.slice Ao23 t688.length co23] 26 (0, 0)) (by (with_reducible repeat (first | refine blk_drewN ?_ _ | refine blk_drew ?_ | refine blk_alloc ?_ _)); refine blk_far ?_ NB692_701.out _; (with_reducible repeat (first | refine blk_drewN ?_ _ | refine blk_drew ?_ | refine blk_alloc ?_ _)); exact BK692.out) hb); have n6_ := aM (blk_below (g := gb696) (o := .cells #[.slice Ao29 t693.length co29] 26 (0, 0)) (by (with_reducible repeat (first | refine blk_drewN ?_ _ | refine blk_drew ?_ | refine blk_alloc ?_ _)); refine blk_far ?_ NB696_701.out _; (with_reducible repeat (first | refine blk_drewN ?_ _ | refine blk_drew ?_ | refine blk_alloc ?_ _)); exact BK696.out) hb); have n7_ := aM (blk_below (g := gb701) (o := .cells #[.slice Ao35 t697.length co35] 26 (0, 0)) (by (with_reducible repeat (first | refine blk_drewN ?_ _ | refine blk_drew ?_ | refine blk_alloc ?_ _)); refine blk_put (cs := #[.slice none 0 0]) ?_ 0 _ rfl; (with_reducible repeat (first | refine blk_drewN ?_ _ | refine blk_drew ?_ | refine blk_alloc ?_ _)); exact BK701.out) hb); have n8_ := aM (below_step (by repeat (first | (with_reducible first | exact HB.out | apply below_alloc | apply pw_below_drewN | apply below_drew1 | refine below_set ?_ GE683.out | refine below_set ?_ GE692.out | refine below_set ?_ GE696.out | refine below_set ?_ GE701.out) | exact HB.out)) hb); clear HO687; clear HO690; clear HO695; clear HO699; clear BK683; clear BK692; clear BK696; clear BK701; clear HB; have HO687 := n0_; have HO690 := n1_; have HO695 := n2_; have HO699 := n3_; have BK683 := n4_; have BK692 := n5_; have BK696 := n6_; have BK701 := n7_; have HB := n8_; clear n0_ n1_ n2_ n3_ n4_ n5_ n6_ n7_ n8_; (try clear hb); (try clear hb2); (try clear hk); (try clear hi)))
     go_meet
     case rel => exact ⟨_, (true), (by first | rfl | (simp; done) | (simp [*]; done)), H', ⟨by first | omega | exact Nat.le_refl _⟩, ⟨by (with_reducible repeat (first | apply Kd.R_alloc | apply Kd.R_drewN | apply Kd.R_drew)); exact Kd.R_mono HO690.out (fun _ hk => ⟨hk.1.2, hk.2⟩)⟩, ⟨by (with_reducible repeat (first | apply Kd.R_alloc | apply Kd.R_drewN | apply Kd.R_drew)); exact Kd.R_mono HO695.out (fun _ hk => ⟨hk.1.2, hk.2⟩)⟩, ⟨by (with_reducible repeat (first | apply Kd.R_alloc | apply Kd.R_drewN | apply Kd.R_drew)); exact Kd.R_mono HO699.out (fun _ hk => ⟨hk.1.2, hk.2⟩)⟩, ⟨by (with_reducible repeat (first | refine blk_drewN ?_ _ | refine blk_drew ?_ | refine blk_alloc ?_ _)); exact BK683.out⟩, ⟨by (with_reducible repeat (first | refine blk_drewN ?_ _ | refine blk_drew ?_ | refine blk_alloc ?_ _)); exact BK692.out⟩, ⟨by (with_reducible repeat (first | refine blk_drewN ?_ _ | refine blk_drew ?_ | refine blk_alloc ?_ _)); exact BK696.out⟩, ⟨by (with_reducible repeat (first | refine blk_drewN ?_ _ | refine blk_drew ?_ | refine blk_alloc ?_ _)); exact BK701.out⟩, ⟨by repeat (first | (with_reducible first | exact HB.out | apply below_alloc | apply pw_below_drewN | apply below_drew1 | refine below_set ?_ GE683.out | refine below_set ?_ GE692.out | refine below_set ?_ GE696.out | refine below_set ?_ GE701.out) | exact HB.out)⟩⟩
   case rest =>
    clear HC14
    try clear c1
    try clear c2
    try clear p2
    try clear c3
    try clear c3b0
    try clear c3b1
    try clear c4
    try clear c5
    try clear c6
    try clear c6b0
    try clear c8
    try clear c15
    try clear c20
    try clear c22
    try clear c24
    try clear c30
    try clear c31
    try clear c32
    try clear c36
    try clear c37
    try clear c38
    try clear c41
    try clear c42
    try clear c43
    try clear c44
    try clear c46
    try clear c47
    try clear c50
    try clear c51
    try clear c52
    try clear c54
    try clear c55
    try clear hcz16_0
    try clear hcz18_0
    try clear hcz25_0
    try clear hcz26_0
    try clear hcz32_0
    try clear hcz39_0
    try clear hcz45_0
    try clear hcz48_0
    try clear hcz53_0
    try clear hcz56_0
    try clear hcz8_0
    try clear hfz16_0
    try clear hfz18_0
    try clear hfz25_0
    try clear hfz26_0
    try clear hfz32_0
    try clear hfz39_0
    try clear hfz45_0
    try clear hfz48_0
    try clear hfz53_0
    try clear hfz56_0
    try clear hfz8_0
    obtain ⟨kq, x47_13, rfl, HA, HJ13, HO_693000, HO_697000, HO_702000, BK683, BK692, BK696, BK701, HB⟩ := hcut
    cases kq with
    | zero => exact absurd HA.out (by simp [laws_FnExactPutName.j0])
    | succ kj13 =>
     have H := HA.out
     clear HA
     simp only [laws_FnExactPutName.j0] at H
     by_cases c58 : x47_13 = true
     ·
      subst c58
      have H1 : (some false) = some r := by rw [if_pos rfl] at H; exact H
      clear H
      have H := H1
      clear H1
      obtain rfl := Option.some.inj H
      go_wp2
      go_ret
      exact ⟨by first | rfl | (simp [errW_none, errW_some] <;> rfl) | (simp [*, errW_none, errW_some] <;> rfl), by repeat (first | (with_reducible first | exact HB.out | apply below_alloc | apply pw_below_drewN | apply below_drew1 | refine below_set ?_ GE683.out | refine below_set ?_ GE692.out | refine below_set ?_ GE696.out | refine below_set ?_ GE701.out) | exact HB.out)⟩
     ·
      replace c58 := Bool.eq_false_iff.mpr c58
      subst c58
      have H1 : ((laws_toRadix.f kj13 l0_0).bind fun t703 => ((laws_eqRadix.f kj13 t693 t703).bind fun t706 => (if t706 = true then ((laws_markRadix.f kj13 t693 1).bind fun bt707 => (if bt707.1 < 0 then (laws_FnExactPutName.j1 kj13 a1 t691 true l0_0 t688 t697) else ((laws_eqRadix.f kj13 t697 t688).bind fun t709 => (if t709 = true then (laws_FnExactPutName.j1 kj13 a1 t691 (t700 != t691) l0_0 t688 t697) else (laws_FnExactPutName.j1 kj13 a1 t691 true l0_0 t688 t697))))) else (some false)))) = some r := by rw [if_neg (show ¬ (false = true) by decide)] at H; exact H
      clear H
      have H := H1
      clear H1
      replace H := Option.bind_eq_some_iff.mp H
      obtain ⟨t703, A590, H⟩ := H
      replace H : ((laws_eqRadix.f kj13 t693 t703).bind fun t706 => (if t706 = true then ((laws_markRadix.f kj13 t693 1).bind fun bt707 => (if bt707.1 < 0 then (laws_FnExactPutName.j1 kj13 a1 t691 true l0_0 t688 t697) else ((laws_eqRadix.f kj13 t697 t688).bind fun t709 => (if t709 = true then (laws_FnExactPutName.j1 kj13 a1 t691 (t700 != t691) l0_0 t688 t697) else (laws_FnExactPutName.j1 kj13 a1 t691 true l0_0 t688 t697))))) else (some false))) = some r := H
      have A59 := aM A590
      clear A590
      replace H := Option.bind_eq_some_iff.mp H
      obtain ⟨t706, A600, H⟩ := H
      replace H : (if t706 = true then ((laws_markRadix.f kj13 t693 1).bind fun bt707 => (if bt707.1 < 0 then (laws_FnExactPutName.j1 kj13 a1 t691 true l0_0 t688 t697) else ((laws_eqRadix.f kj13 t697 t688).bind fun t709 => (if t709 = true then (laws_FnExactPutName.j1 kj13 a1 t691 (t700 != t691) l0_0 t688 t697) else (laws_FnExactPutName.j1 kj13 a1 t691 true l0_0 t688 t697))))) else (some false)) = some r := H
      have A60 := aM A600
      clear A600
      by_cases c61 : t706 = true
      ·
       subst c61
       have H1 : ((laws_markRadix.f kj13 t693 1).bind fun bt707 => (if bt707.1 < 0 then (laws_FnExactPutName.j1 kj13 a1 t691 true l0_0 t688 t697) else ((laws_eqRadix.f kj13 t697 t688).bind fun t709 => (if t709 = true then (laws_FnExactPutName.j1 kj13 a1 t691 (t700 != t691) l0_0 t688 t697) else (laws_FnExactPutName.j1 kj13 a1 t691 true l0_0 t688 t697))))) = some r := by rw [if_pos rfl] at H; exact H
       clear H
       have H := H1
       clear H1
       replace H := Option.bind_eq_some_iff.mp H
       obtain ⟨⟨t707, t708⟩, A620, H⟩ := H
       replace H : (if t707 < 0 then (laws_FnExactPutName.j1 kj13 a1 t691 true l0_0 t688 t697) else ((laws_eqRadix.f kj13 t697 t688).bind fun t709 => (if t709 = true then (laws_FnExactPutName.j1 kj13 a1 t691 (t700 != t691) l0_0 t688 t697) else (laws_FnExactPutName.j1 kj13 a1 t691 true l0_0 t688 t697)))) = some r := H
       have A62 := aM A620
       clear A620
       have HC63 := aM H
       clear H
       try go_wp2
       have n0_ := aM (Kd.R_drew HO_693000.out)
       have n1_ := aM (Kd.R_drew HO_697000.out)
       have n2_ := aM (Kd.R_drew HO_702000.out)
       have n3_ := aM (blk_drew BK683.out)
       have n4_ := aM (blk_drew BK692.out)
       have n5_ := aM (blk_drew BK696.out)
       have n6_ := aM (blk_drew BK701.out)
       have n7_ := aM (below_drew1 HB.out)
       clear HO_693000
       clear HO_697000
       clear HO_702000
       clear BK683
       clear BK692
       clear BK696
       clear BK701
       clear HB
       have HO_693000 := n0_
       have HO_697000 := n1_
       have HO_702000 := n2_
       have BK683 := n3_
       have BK692 := n4_
       have BK696 := n5_
       have BK701 := n6_
       have HB := n7_
       clear n0_ n1_ n2_ n3_ n4_ n5_ n6_ n7_
       refine start_ (n := 5) (S := fun w' => w'.cell? ⟨gb696, 0, none⟩ = some (.slice Ao29 t693.length co29) ∧ w'.cell? ⟨gb683, 0, none⟩ = some (.slice A0_0 l0_0.length c0_0)) (ds := []) (bq 5 0) (by kernel_rfl) rfl (by kernel_rfl) ⟨(blk_cell BK696.out 0).trans rfl, (blk_cell BK683.out 0).trans rfl⟩ (fun hHeld => ?_)
       generalize wc.drew = w64 at HO_693000 HO_697000 HO_702000 BK683 BK692 BK696 BK701 HB hHeld ⊢
       refine take_ (i := 0) (N := some 48) (v := ?_) (a' := ?_) (bq 5 1) rfl rfl (by kernel_rfl) (fun _ _ _ h => h) (Or.inl ⟨by rfl, ?_⟩) hHeld ?_ ?_; rotate_left; (rintro w' ⟨s0, s1⟩; go_simp; (with_reducible rfl)); rotate_left; (simp only [Act.put, zSA, zSB, zSC, i64_w, i32_w]; rfl)
       refine take_ (i := 1) (N := some 49) (v := ?_) (a' := ?_) (bq 5 3) rfl rfl (by kernel_rfl) (fun _ _ _ h => h) (Or.inl ⟨by rfl, ?_⟩) hHeld ?_ ?_; rotate_left; (rintro w' ⟨s0, s1⟩; go_simp; (with_reducible rfl)); rotate_left; (simp only [Act.put, zSA, zSB, zSC, i64_w, i32_w]; rfl)
       refine one_ (i := 2) (N := some 50) (bq 5 7) rfl rfl (by kernel_rfl) (by decide) (fun K hK => ?_)
       refine goes_ Try.func22 (by kernel_rfl) rfl #[.agg #[.slice A0_0 l0_0.length c0_0]] (by rfl) rfl rfl (by (try simp only [List.map_toArray, List.map_cons, List.map_nil]); first | done | rfl | (simp only [List.length_drop, List.length_take]; rfl)) ?_
       with_reducible refine (laws_toRadix.calls kj13 _ _ l0_0 t703 _ ?side1 ?side2 A59.out).mono ?_
       (case side1 => repeat (first | exact (Kd.C_below HR0_0.out HB.out) | (with_reducible refine Kd.C_alloc ?_ _) | (with_reducible refine Kd.C_drewN ?_ _) | (with_reducible refine Kd.C_drew ?_)))
       (case side2 => exact HC0_0.out)
       rintro e w65 ⟨v704, rfl, ho0, hb⟩
       refine ⟨_, rfl, ?_⟩
       have n0_ := aM (Kd.R_elder' (by (with_reducible repeat (first | apply Kd.R_alloc | apply Kd.R_drewN | apply Kd.R_drew)); exact HO_693000.out) (Kd.R_base ho0) hb)
       have n1_ := aM (Kd.R_elder' (by (with_reducible repeat (first | apply Kd.R_alloc | apply Kd.R_drewN | apply Kd.R_drew)); exact HO_697000.out) (Kd.R_base ho0) hb)
       have n2_ := aM (Kd.R_elder' (by (with_reducible repeat (first | apply Kd.R_alloc | apply Kd.R_drewN | apply Kd.R_drew)); exact HO_702000.out) (Kd.R_base ho0) hb)
       have n3_ := aM (Kd.R_lower (Kd.R_new' (Kd.R_new' (Kd.R_new' ho0 (Kd.R_lt (by (with_reducible repeat (first | apply Kd.R_alloc | apply Kd.R_drewN | apply Kd.R_drew)); exact HO_693000.out))) (Kd.R_lt (by (with_reducible repeat (first | apply Kd.R_alloc | apply Kd.R_drewN | apply Kd.R_drew)); exact HO_697000.out))) (Kd.R_lt (by (with_reducible repeat (first | apply Kd.R_alloc | apply Kd.R_drewN | apply Kd.R_drew)); exact HO_702000.out))) (below_size (by repeat (first | (with_reducible first | exact HB.out | apply below_alloc | apply pw_below_drewN | apply below_drew1 | refine below_set ?_ GE683.out | refine below_set ?_ GE692.out | refine below_set ?_ GE696.out | refine below_set ?_ GE701.out) | exact HB.out))))
       have n4_ := aM (blk_below (g := gb683) (o := .cells #[.slice A0_0 l0_0.length c0_0] 36 (0, 0)) (by (with_reducible repeat (first | refine blk_drewN ?_ _ | refine blk_drew ?_ | refine blk_alloc ?_ _)); exact BK683.out) hb)
       have n5_ := aM (blk_below (g := gb692) (o := .cells #[.slice Ao23 t688.length co23] 26 (0, 0)) (by (with_reducible repeat (first | refine blk_drewN ?_ _ | refine blk_drew ?_ | refine blk_alloc ?_ _)); exact BK692.out) hb)
       have n6_ := aM (blk_below (g := gb696) (o := .cells #[.slice Ao29 t693.length co29] 26 (0, 0)) (by (with_reducible repeat (first | refine blk_drewN ?_ _ | refine blk_drew ?_ | refine blk_alloc ?_ _)); exact BK696.out) hb)
       have n7_ := aM (blk_below (g := gb701) (o := .cells #[.slice Ao35 t697.length co35] 26 (0, 0)) (by (with_reducible repeat (first | refine blk_drewN ?_ _ | refine blk_drew ?_ | refine blk_alloc ?_ _)); exact BK701.out) hb)
       have n8_ := aM (below_step (by repeat (first | (with_reducible first | exact HB.out | apply below_alloc | apply pw_below_drewN | apply below_drew1 | refine below_set ?_ GE683.out | refine below_set ?_ GE692.out | refine below_set ?_ GE696.out | refine below_set ?_ GE701.out) | exact HB.out)) hb)
       clear HO_693000
       clear HO_697000
       clear HO_702000
       clear BK683
       clear BK692
       clear BK696
       clear BK701
       clear HB
       have HO_693000 := n0_
       have HO_697000 := n1_
       have HO_702000 := n2_
       have HO705 := n3_
       have BK683 := n4_
       have BK692 := n5_
       have BK696 := n6_
       have BK701 := n7_
       have HB := n8_
       clear n0_ n1_ n2_ n3_ n4_ n5_ n6_ n7_ n8_
       (try clear hb)
       (try clear hb2)
       (try clear hk)
       (try clear hi)
       (try clear ho0)
       obtain ⟨Ao66, co66, eo66⟩ := Kd.R_slice HO705.out
       (first | subst eo66 | (injection eo66 with f1_ f2_ f3_; have f4_ := f1_.symm; have f5_ := f3_.symm; clear f1_ f2_ f3_; subst f4_; subst f5_))
       refine hK.out _ _ ⟨(blk_cell BK696.out 0).trans rfl, (blk_cell BK683.out 0).trans rfl⟩ (fun hHeld => ?_)
       clear hK K
       refine norm_ (a' := ?_) ?_ ?_
       rotate_left
       ·
        show Act.put _ (some 50) _ = _
        simp only [Act.put, zSA, zSB, zSC, i64_w, i32_w]
        rfl
       refine one_ (i := 3) (N := some 51) (bq 5 15) rfl rfl (by kernel_rfl) (by decide) (fun K hK => ?_)
       refine goes_ Try.func15 (by kernel_rfl) rfl #[.agg #[.slice Ao29 t693.length co29], .agg #[.slice Ao66 t703.length co66]] (by rfl) rfl rfl (by (try simp only [List.map_toArray, List.map_cons, List.map_nil]); first | done | rfl | (simp only [List.length_drop, List.length_take]; rfl)) ?_
       with_reducible refine (laws_eqRadix.calls kj13 _ _ t693 _ _ t703 true _ ?side1 ?side2 ?side3 ?side4 A60.out).mono ?_
       (case side1 => repeat (first | exact (Kd.R_reads' HO_697000.out).2.2 | (with_reducible refine Kd.C_alloc ?_ _) | (with_reducible refine Kd.C_drewN ?_ _) | (with_reducible refine Kd.C_drew ?_)))
       (case side2 => exact (Kd.R_reads' HO_697000.out).2.1)
       (case side3 => repeat (first | exact (Kd.R_reads' HO705.out).2.2 | (with_reducible refine Kd.C_alloc ?_ _) | (with_reducible refine Kd.C_drewN ?_ _) | (with_reducible refine Kd.C_drew ?_)))
       (case side4 => exact (Kd.R_reads' HO705.out).2.1)
       rintro e w67 ⟨rfl, hb⟩
       refine ⟨_, rfl, ?_⟩
       have n0_ := aM (Kd.R_below (by (with_reducible repeat (first | apply Kd.R_alloc | apply Kd.R_drewN | apply Kd.R_drew)); exact HO_693000.out) hb)
       have n1_ := aM (Kd.R_below (by (with_reducible repeat (first | apply Kd.R_alloc | apply Kd.R_drewN | apply Kd.R_drew)); exact HO_697000.out) hb)
       have n2_ := aM (Kd.R_below (by (with_reducible repeat (first | apply Kd.R_alloc | apply Kd.R_drewN | apply Kd.R_drew)); exact HO_702000.out) hb)
       have n3_ := aM (Kd.R_below (by (with_reducible repeat (first | apply Kd.R_alloc | apply Kd.R_drewN | apply Kd.R_drew)); exact HO705.out) hb)
       have n4_ := aM (blk_below (g := gb683) (o := .cells #[.slice A0_0 l0_0.length c0_0] 36 (0, 0)) (by (with_reducible repeat (first | refine blk_drewN ?_ _ | refine blk_drew ?_ | refine blk_alloc ?_ _)); exact BK683.out) hb)
       have n5_ := aM (blk_below (g := gb692) (o := .cells #[.slice Ao23 t688.length co23] 26 (0, 0)) (by (with_reducible repeat (first | refine blk_drewN ?_ _ | refine blk_drew ?_ | refine blk_alloc ?_ _)); exact BK692.out) hb)
       have n6_ := aM (blk_below (g := gb696) (o := .cells #[.slice Ao29 t693.length co29] 26 (0, 0)) (by (with_reducible repeat (first | refine blk_drewN ?_ _ | refine blk_drew ?_ | refine blk_alloc ?_ _)); exact BK696.out) hb)
       have n7_ := aM (blk_below (g := gb701) (o := .cells #[.slice Ao35 t697.length co35] 26 (0, 0)) (by (with_reducible repeat (first | refine blk_drewN ?_ _ | refine blk_drew ?_ | refine blk_alloc ?_ _)); exact BK701.out) hb)
       have n8_ := aM (below_step (by repeat (first | (with_reducible first | exact HB.out | apply below_alloc | apply pw_below_drewN | apply below_drew1 | refine below_set ?_ GE683.out | refine below_set ?_ GE692.out | refine below_set ?_ GE696.out | refine below_set ?_ GE701.out) | exact HB.out)) hb)
       clear HO_693000
       clear HO_697000
       clear HO_702000
       clear HO705
       clear BK683
       clear BK692
       clear BK696
       clear BK701
       clear HB
       have HO_693000 := n0_
       have HO_697000 := n1_
       have HO_702000 := n2_
       have HO705 := n3_
       have BK683 := n4_
       have BK692 := n5_
       have BK696 := n6_
       have BK701 := n7_
       have HB := n8_
       clear n0_ n1_ n2_ n3_ n4_ n5_ n6_ n7_ n8_
       (try clear hb)
       (try clear hb2)
       (try clear hk)
       (try clear hi)
       refine hK.out _ _ ⟨(blk_cell BK696.out 0).trans rfl, (blk_cell BK683.out 0).trans rfl⟩ (fun hHeld => ?_)
       clear hK K
       refine norm_ (a' := ?_) ?_ ?_
       rotate_left
       ·
        show Act.put _ (some 51) _ = _
        simp only [Act.put, zSA, zSB, zSC, i64_w, i32_w]
        rfl
       refine pure_ (i := 4) (N := some 52) (v := ?_) (a' := ?_) (bq 5 31) rfl rfl (by kernel_rfl) (fun _ _ _ h => h) (Or.inl ⟨by rfl, ?_⟩) ?_ ?_; rotate_left; (intro w'; go_simp; (with_reducible rfl)); rotate_left; (simp only [Act.put, zSA, zSB, zSC, i64_w, i32_w]; rfl)
       refine done_ (by kernel_rfl) ?_
       have hnb68 := NB696_683.out
       have hnc68 := NB683_696.out
       have hnb69 := NB696_692.out
       have hnc69 := NB692_696.out
       have hnb70 := NB696_701.out
       have hnc70 := NB701_696.out
       have hcz71_0 : w67.cell? ⟨gb696, 0, none⟩ = some (.slice Ao29 t693.length co29) := (blk_cell BK696.out 0).trans rfl
       have hfz71_0 := blk_frozen BK696.out 0
       go_upto_region 16 with (first | ((with_reducible refine gate_callee (f := 18) rfl ?_); refine goesL_ (some 55) rfl rfl Try.func18 (by kernel_rfl) rfl #[.agg #[.slice Ao29 t693.length co29], .int .i64 1] rfl (by (try simp only [List.map_toArray, List.map_cons, List.map_nil]); first | done | rfl | (simp only [List.length_drop, List.length_take]; rfl)) ?_; (with_reducible refine (laws_markRadix.calls kj13 (fun k_ => some k_ = (.slice Ao29 t693.length co29 : Value).ownBlock) (.slice Ao29 t693.length co29) t693 1 t707 t708 w _ ?side1 ?side2 A62.out).mono ?_); (case side1 => repeat (first | (with_reducible first | exact HB.out | apply below_alloc | apply pw_below_drewN | apply below_drew1 | refine below_set ?_ GE683.out | refine below_set ?_ GE692.out | refine below_set ?_ GE696.out | refine below_set ?_ GE701.out) | exact HB.out)); (case side2 => exact Kd.R_tight rfl HO_697000.out); rintro e w72 ⟨rfl, hy0, hb, hkp⟩; refine ⟨_, rfl, ?_⟩; have n0_ := aM (Kd.R_mono (ok' := fun k_ => some k_ ≠ (.slice Ao29 t693.length co29 : Value).ownBlock ∧ some k_ ≠ (.slice Ao35 t697.length co35 : Value).ownBlock ∧ some k_ ≠ (.slice Ao66 t703.length co66 : Value).ownBlock) (Kd.R_keptB (HO_693000.out) hkp (fun k_ hk_ hs_ => (hk_.1.1) hs_)) (fun k_ hk_ => ⟨hk_.1.1.1, hk_.1.1.2, hk_.1.2⟩)); have n1_ := aM (Kd.R_reok rfl hy0 (fun k_ e_ => HO_697000.out.1 k_ e_)); have n2_ := aM (Kd.R_mono (ok' := fun k_ => some k_ ≠ (.slice Ao23 t688.length co23 : Value).ownBlock ∧ some k_ ≠ (.slice Ao29 t693.length co29 : Value).ownBlock ∧ some k_ ≠ (.slice Ao66 t703.length co66 : Value).ownBlock) (Kd.R_keptB (HO_702000.out) hkp (fun k_ hk_ hs_ => (hk_.1.2) hs_)) (fun k_ hk_ => ⟨hk_.1.1.1, hk_.1.1.2, hk_.1.2⟩)); have n3_ := aM (blk_kept (by (with_reducible repeat (first | refine blk_drewN ?_ _ | refine blk_drew ?_ | refine blk_alloc ?_ _)); exact BK683.out) hkp (fun hs_ => (fun e_ => (Kd.R_ne HO_697000.out BK683.out (by decide)) e_) hs_)); have n4_ := aM (blk_kept (by (with_reducible repeat (first | refine blk_drewN ?_ _ | refine blk_drew ?_ | refine blk_alloc ?_ _)); exact BK692.out) hkp (fun hs_ => (fun e_ => (Kd.R_ne HO_697000.out BK692.out (by decide)) e_) hs_)); have n5_ := aM (blk_kept (by (with_reducible repeat (first | refine blk_drewN ?_ _ | refine blk_drew ?_ | refine blk_alloc ?_ _)); exact BK696.out) hkp (fun hs_ => (fun e_ => (Kd.R_ne HO_697000.out BK696.out (by decide)) e_) hs_)); have n6_ := aM (blk_kept (by (with_reducible repeat (first | refine blk_drewN ?_ _ | refine blk_drew ?_ | refine blk_alloc ?_ _)); exact BK701.out) hkp (fun hs_ => (fun e_ => (Kd.R_ne HO_697000.out BK701.out (by decide)) e_) hs_)); have n7_ := aM (Kd.R_mono (ok' := fun k_ => some k_ ≠ (.slice Ao23 t688.length co23 : Value).ownBlock ∧ some k_ ≠ (.slice Ao29 t693.length co29 : Value).ownBlock ∧ some k_ ≠ (.slice Ao35 t697.length co35 : Value).ownBlock) (Kd.R_keptB (HO705.out) hkp (fun k_ hk_ hs_ => (hk_.1.2) hs_)) (fun k_ hk_ => ⟨hk_.1.1.1.2, hk_.1.1.2, hk_.1.2⟩)); have n8_ := aM (hb); clear HO_693000; clear HO_697000; clear HO_702000; clear BK683; clear BK692; clear BK696; clear BK701; clear HO705; clear HB; have HO_693000 := n0_; have HO_697000 := n1_; have HO_702000 := n2_; have BK683 := n3_; have BK692 := n4_; have BK696 := n5_; have BK701 := n6_; have HO705 := n7_; have HB := n8_; clear n0_ n1_ n2_ n3_ n4_ n5_ n6_ n7_ n8_; (try clear hb); (try clear hkp); (try clear hy0)))
       (try simp only [Act.put, zSA, zSB, zSC])
       go_cut [68] (fun v68 wc => ∃ (kq : Nat) (x68_62 : Bool), v68 = .bool x68_62 ∧ Aside0 (laws_FnExactPutName.j1 kq a1 t691 x68_62 l0_0 t688 t697 = some r) ∧ Aside0 (kq ≤ kj13) ∧ Aside0 (Kd.R k64 64 wc w.heap.size (fun k_ => some k_ ≠ ((.slice Ao29 t693.length co29) : Value).ownBlock ∧ some k_ ≠ ((.slice Ao35 t697.length co35) : Value).ownBlock) (.slice Ao23 t688.length co23) t688) ∧ Aside0 (Kd.R k64 64 wc w.heap.size (fun k_ => some k_ ≠ ((.slice Ao23 t688.length co23) : Value).ownBlock ∧ some k_ ≠ ((.slice Ao35 t697.length co35) : Value).ownBlock) (.slice Ao29 t693.length co29) t708) ∧ Aside0 (Kd.R k64 64 wc w.heap.size (fun k_ => some k_ ≠ ((.slice Ao23 t688.length co23) : Value).ownBlock ∧ some k_ ≠ ((.slice Ao29 t693.length co29) : Value).ownBlock) (.slice Ao35 t697.length co35) t697) ∧ Aside0 (wc.heap[gb683]? = some (.cells #[(.slice A0_0 l0_0.length c0_0)] 36 (0, 0))) ∧ Aside0 (wc.heap[gb692]? = some (.cells #[(.slice Ao23 t688.length co23)] 26 (0, 0))) ∧ Aside0 (wc.heap[gb696]? = some (.cells #[(.slice Ao29 t693.length co29)] 26 (0, 0))) ∧ Aside0 (wc.heap[gb701]? = some (.cells #[(.slice Ao35 t697.length co35)] 26 (0, 0))) ∧ Aside0 (Below w.heap.size w wc))
       case first =>
        have H := HC63.out
        clear HC63
        by_cases c73 : t707 < 0
        ·
         rw [if_pos c73] at H
         have c73b0 : decide (t707 < 0) = true := decide_eq_true c73
         clear c73
         (first | rw [c73b0] | (simp only [i64_w, i32_w]; rw [c73b0]) | skip)
         have H' := aM H
         clear H
         go_wp2
         go_meet
         case rel => exact ⟨_, (true), (by first | rfl | (simp; done) | (simp [*]; done)), H', ⟨by have := HJ13.out; first | omega | exact Nat.le_refl _⟩, ⟨by (with_reducible repeat (first | apply Kd.R_alloc | apply Kd.R_drewN | apply Kd.R_drew)); exact Kd.R_mono HO_693000.out (fun _ hk => ⟨hk.1, hk.2.1⟩)⟩, ⟨by (with_reducible repeat (first | apply Kd.R_alloc | apply Kd.R_drewN | apply Kd.R_drew)); exact Kd.R_mono HO_697000.out (fun _ hk => ⟨hk.1.1, hk.1.2⟩)⟩, ⟨by (with_reducible repeat (first | apply Kd.R_alloc | apply Kd.R_drewN | apply Kd.R_drew)); exact Kd.R_mono HO_702000.out (fun _ hk => ⟨hk.1, hk.2.1⟩)⟩, ⟨by (with_reducible repeat (first | refine blk_drewN ?_ _ | refine blk_drew ?_ | refine blk_alloc ?_ _)); exact BK683.out⟩, ⟨by (with_reducible repeat (first | refine blk_drewN ?_ _ | refine blk_drew ?_ | refine blk_alloc ?_ _)); exact BK692.out⟩, ⟨by (with_reducible repeat (first | refine blk_drewN ?_ _ | refine blk_drew ?_ | refine blk_alloc ?_ _)); exact BK696.out⟩, ⟨by (with_reducible repeat (first | refine blk_drewN ?_ _ | refine blk_drew ?_ | refine blk_alloc ?_ _)); exact BK701.out⟩, ⟨by repeat (first | (with_reducible first | exact HB.out | apply below_alloc | apply pw_below_drewN | apply below_drew1 | refine below_set ?_ GE683.out | refine below_set ?_ GE692.out | refine below_set ?_ GE696.out | refine below_set ?_ GE701.out) | exact HB.out)⟩⟩
        ·
         rw [if_neg c73] at H
         have c73b0 : decide (t707 < 0) = false := decide_eq_false c73
         clear c73
         (first | rw [c73b0] | (simp only [i64_w, i32_w]; rw [c73b0]) | skip)
         replace H := Option.bind_eq_some_iff.mp H
         obtain ⟨t709, A740, H⟩ := H
         replace H : (if t709 = true then (laws_FnExactPutName.j1 kj13 a1 t691 (t700 != t691) l0_0 t688 t697) else (laws_FnExactPutName.j1 kj13 a1 t691 true l0_0 t688 t697)) = some r := H
         have A74 := aM A740
         clear A740
         by_cases c75 : t709 = true
         ·
          subst c75
          have H1 : (laws_FnExactPutName.j1 kj13 a1 t691 (t700 != t691) l0_0 t688 t697) = some r := by rw [if_pos rfl] at H; exact H
          clear H
          have H := H1
          clear H1
          have H' := aM H
          clear H
          have hnb76 := NB701_683.out
          have hnc76 := NB683_701.out
          have hnb77 := NB701_692.out
          have hnc77 := NB692_701.out
          have hnb78 := NB701_696.out
          have hnc78 := NB696_701.out
          have hcz79_0 : w72.cell? ⟨gb701, 0, none⟩ = some (.slice Ao35 t697.length co35) := (blk_cell BK701.out 0).trans rfl
          have hfz79_0 := blk_frozen BK701.out 0
          have hnb80 := NB692_683.out
          have hnc80 := NB683_692.out
          have hnb81 := NB692_696.out
          have hnc81 := NB696_692.out
          have hcz82_0 : w72.cell? ⟨gb692, 0, none⟩ = some (.slice Ao23 t688.length co23) := (blk_cell BK692.out 0).trans rfl
          have hfz82_0 := blk_frozen BK692.out 0
          go_wp2_with (first | (go_at_call 15; (try simp only [i64_w]); (with_reducible refine (laws_eqRadix.calls kj13 _ _ t697 _ _ t688 true _ ?side1 ?side2 ?side3 ?side4 A74.out).mono ?_); (case side1 => repeat (first | exact (Kd.R_reads' HO_702000.out).2.2 | (with_reducible refine Kd.C_alloc ?_ _) | (with_reducible refine Kd.C_drewN ?_ _) | (with_reducible refine Kd.C_drew ?_))); (case side2 => exact (Kd.R_reads' HO_702000.out).2.1); (case side3 => repeat (first | exact (Kd.R_reads' HO_693000.out).2.2 | (with_reducible refine Kd.C_alloc ?_ _) | (with_reducible refine Kd.C_drewN ?_ _) | (with_reducible refine Kd.C_drew ?_))); (case side4 => exact (Kd.R_reads' HO_693000.out).2.1); rintro e w83 ⟨rfl, hb⟩; have n0_ := aM (Kd.R_below (by (with_reducible repeat (first | apply Kd.R_alloc | apply Kd.R_drewN | apply Kd.R_drew)); exact HO_693000.out) hb); have n1_ := aM (Kd.R_below (by (with_reducible repeat (first | apply Kd.R_alloc | apply Kd.R_drewN | apply Kd.R_drew)); exact HO_697000.out) hb); have n2_ := aM (Kd.R_below (by (with_reducible repeat (first | apply Kd.R_alloc | apply Kd.R_drewN | apply Kd.R_drew)); exact HO_702000.out) hb); have n3_ := aM (Kd.R_below (by (with_reducible repeat (first | apply Kd.R_alloc | apply Kd.R_drewN | apply Kd.R_drew)); exact HO705.out) hb); have n4_ := aM (blk_below (g := gb683) (o := .cells #[.slice A0_0 l0_0.length c0_0] 36 (0, 0)) (by (with_reducible repeat (first | refine blk_drewN ?_ _ | refine blk_drew ?_ | refine blk_alloc ?_ _)); exact BK683.out) hb); have n5_ := aM (blk_below (g := gb692) (o := .cells #[.slice Ao23 t688.length co23] 26 (0, 0)) (by (with_reducible repeat (first | refine blk_drewN ?_ _ | refine blk_drew ?_ | refine blk_alloc ?_ _)); exact BK692.out) hb); have n6_ := aM (blk_below (g := gb696) (o := .cells #[.slice Ao29 t693.length co29] 26 (0, 0)) (by (with_reducible repeat (first | refine blk_drewN ?_ _ | refine blk_drew ?_ | refine blk_alloc ?_ _)); exact BK696.out) hb); have n7_ := aM (blk_below (g := gb701) (o := .cells #[.slice Ao35 t697.length co35] 26 (0, 0)) (by (with_reducible repeat (first | refine blk_drewN ?_ _ | refine blk_drew ?_ | refine blk_alloc ?_ _)); exact BK701.out) hb); have n8_ := aM (below_step (by repeat (first | (with_reducible first | exact HB.out | apply below_alloc | apply pw_below_drewN | apply below_drew1 | refine below_set ?_ GE683.out | refine below_set ?_ GE692.out | refine below_set ?_ GE696.out | refine below_set ?_ GE701.out) | exact HB.out)) hb); clear HO_693000; clear HO_697000; clear HO_702000; clear HO705; clear BK683; clear BK692; clear BK696; clear BK701; clear HB; have HO_693000 := n0_; have HO_697000 := n1_; have HO_702000 := n2_; have HO705 := n3_; have BK683 := n4_; have BK692 := n5_; have BK696 := n6_; have BK701 := n7_; have HB := n8_; clear n0_ n1_ n2_ n3_ n4_ n5_ n6_ n7_ n8_; (try clear hb); (try clear hb2); (try clear hk); (try clear hi)))
          go_meet
          case rel => exact ⟨_, ((t700 != t691)), (by first | rfl | (simp; done) | (simp [*]; done)), H', ⟨by have := HJ13.out; first | omega | exact Nat.le_refl _⟩, ⟨by (with_reducible repeat (first | apply Kd.R_alloc | apply Kd.R_drewN | apply Kd.R_drew)); exact Kd.R_mono HO_693000.out (fun _ hk => ⟨hk.1, hk.2.1⟩)⟩, ⟨by (with_reducible repeat (first | apply Kd.R_alloc | apply Kd.R_drewN | apply Kd.R_drew)); exact Kd.R_mono HO_697000.out (fun _ hk => ⟨hk.1.1, hk.1.2⟩)⟩, ⟨by (with_reducible repeat (first | apply Kd.R_alloc | apply Kd.R_drewN | apply Kd.R_drew)); exact Kd.R_mono HO_702000.out (fun _ hk => ⟨hk.1, hk.2.1⟩)⟩, ⟨by (with_reducible repeat (first | refine blk_drewN ?_ _ | refine blk_drew ?_ | refine blk_alloc ?_ _)); exact BK683.out⟩, ⟨by (with_reducible repeat (first | refine blk_drewN ?_ _ | refine blk_drew ?_ | refine blk_alloc ?_ _)); exact BK692.out⟩, ⟨by (with_reducible repeat (first | refine blk_drewN ?_ _ | refine blk_drew ?_ | refine blk_alloc ?_ _)); exact BK696.out⟩, ⟨by (with_reducible repeat (first | refine blk_drewN ?_ _ | refine blk_drew ?_ | refine blk_alloc ?_ _)); exact BK701.out⟩, ⟨by repeat (first | (with_reducible first | exact HB.out | apply below_alloc | apply pw_below_drewN | apply below_drew1 | refine below_set ?_ GE683.out | refine below_set ?_ GE692.out | refine below_set ?_ GE696.out | refine below_set ?_ GE701.out) | exact HB.out)⟩⟩
         ·
          replace c75 := Bool.eq_false_iff.mpr c75
          subst c75
          have H1 : (laws_FnExactPutName.j1 kj13 a1 t691 true l0_0 t688 t697) = some r := by rw [if_neg (show ¬ (false = true) by decide)] at H; exact H
          clear H
          have H := H1
          clear H1
          have H' := aM H
          clear H
          have hnb84 := NB701_683.out
          have hnc84 := NB683_701.out
          have hnb85 := NB701_692.out
          have hnc85 := NB692_701.out
          have hnb86 := NB701_696.out
          have hnc86 := NB696_701.out
          have hcz87_0 : w72.cell? ⟨gb701, 0, none⟩ = some (.slice Ao35 t697.length co35) := (blk_cell BK701.out 0).trans rfl
          have hfz87_0 := blk_frozen BK701.out 0
          have hnb88 := NB692_683.out
          have hnc88 := NB683_692.out
          have hnb89 := NB692_696.out
          have hnc89 := NB696_692.out
          have hcz90_0 : w72.cell? ⟨gb692, 0, none⟩ = some (.slice Ao23 t688.length co23) := (blk_cell BK692.out 0).trans rfl
          have hfz90_0 := blk_frozen BK692.out 0
          go_wp2_with (first | (go_at_call 15; (try simp only [i64_w]); (with_reducible refine (laws_eqRadix.calls kj13 _ _ t697 _ _ t688 false _ ?side1 ?side2 ?side3 ?side4 A74.out).mono ?_); (case side1 => repeat (first | exact (Kd.R_reads' HO_702000.out).2.2 | (with_reducible refine Kd.C_alloc ?_ _) | (with_reducible refine Kd.C_drewN ?_ _) | (with_reducible refine Kd.C_drew ?_))); (case side2 => exact (Kd.R_reads' HO_702000.out).2.1); (case side3 => repeat (first | exact (Kd.R_reads' HO_693000.out).2.2 | (with_reducible refine Kd.C_alloc ?_ _) | (with_reducible refine Kd.C_drewN ?_ _) | (with_reducible refine Kd.C_drew ?_))); (case side4 => exact (Kd.R_reads' HO_693000.out).2.1); rintro e w91 ⟨rfl, hb⟩; have n0_ := aM (Kd.R_below (by (with_reducible repeat (first | apply Kd.R_alloc | apply Kd.R_drewN | apply Kd.R_drew)); exact HO_693000.out) hb); have n1_ := aM (Kd.R_below (by (with_reducible repeat (first | apply Kd.R_alloc | apply Kd.R_drewN | apply Kd.R_drew)); exact HO_697000.out) hb); have n2_ := aM (Kd.R_below (by (with_reducible repeat (first | apply Kd.R_alloc | apply Kd.R_drewN | apply Kd.R_drew)); exact HO_702000.out) hb); have n3_ := aM (Kd.R_below (by (with_reducible repeat (first | apply Kd.R_alloc | apply Kd.R_drewN | apply Kd.R_drew)); exact HO705.out) hb); have n4_ := aM (blk_below (g := gb683) (o := .cells #[.slice A0_0 l0_0.length c0_0] 36 (0, 0)) (by (with_reducible repeat (first | refine blk_drewN ?_ _ | refine blk_drew ?_ | refine blk_alloc ?_ _)); exact BK683.out) hb); have n5_ := aM (blk_below (g := gb692) (o := .cells #[.slice Ao23 t688.length co23] 26 (0, 0)) (by (with_reducible repeat (first | refine blk_drewN ?_ _ | refine blk_drew ?_ | refine blk_alloc ?_ _)); exact BK692.out) hb); have n6_ := aM (blk_below (g := gb696) (o := .cells #[.slice Ao29 t693.length co29] 26 (0, 0)) (by (with_reducible repeat (first | refine blk_drewN ?_ _ | refine blk_drew ?_ | refine blk_alloc ?_ _)); exact BK696.out) hb); have n7_ := aM (blk_below (g := gb701) (o := .cells #[.slice Ao35 t697.length co35] 26 (0, 0)) (by (with_reducible repeat (first | refine blk_drewN ?_ _ | refine blk_drew ?_ | refine blk_alloc ?_ _)); exact BK701.out) hb); have n8_ := aM (below_step (by repeat (first | (with_reducible first | exact HB.out | apply below_alloc | apply pw_below_drewN | apply below_drew1 | refine below_set ?_ GE683.out | refine below_set ?_ GE692.out | refine below_set ?_ GE696.out | refine below_set ?_ GE701.out) | exact HB.out)) hb); clear HO_693000; clear HO_697000; clear HO_702000; clear HO705; clear BK683; clear BK692; clear BK696; clear BK701; clear HB; have HO_693000 := n0_; have HO_697000 := n1_; have HO_702000 := n2_; have HO705 := n3_; have BK683 := n4_; have BK692 := n5_; have BK696 := n6_; have BK701 := n7_; have HB := n8_; clear n0_ n1_ n2_ n3_ n4_ n5_ n6_ n7_ n8_; (try clear hb); (try clear hb2); (try clear hk); (try clear hi)))
          go_meet
          case rel => exact ⟨_, (true), (by first | rfl | (simp; done) | (simp [*]; done)), H', ⟨by have := HJ13.out; first | omega | exact Nat.le_refl _⟩, ⟨by (with_reducible repeat (first | apply Kd.R_alloc | apply Kd.R_drewN | apply Kd.R_drew)); exact Kd.R_mono HO_693000.out (fun _ hk => ⟨hk.1, hk.2.1⟩)⟩, ⟨by (with_reducible repeat (first | apply Kd.R_alloc | apply Kd.R_drewN | apply Kd.R_drew)); exact Kd.R_mono HO_697000.out (fun _ hk => ⟨hk.1.1, hk.1.2⟩)⟩, ⟨by (with_reducible repeat (first | apply Kd.R_alloc | apply Kd.R_drewN | apply Kd.R_drew)); exact Kd.R_mono HO_702000.out (fun _ hk => ⟨hk.1, hk.2.1⟩)⟩, ⟨by (with_reducible repeat (first | refine blk_drewN ?_ _ | refine blk_drew ?_ | refine blk_alloc ?_ _)); exact BK683.out⟩, ⟨by (with_reducible repeat (first | refine blk_drewN ?_ _ | refine blk_drew ?_ | refine blk_alloc ?_ _)); exact BK692.out⟩, ⟨by (with_reducible repeat (first | refine blk_drewN ?_ _ | refine blk_drew ?_ | refine blk_alloc ?_ _)); exact BK696.out⟩, ⟨by (with_reducible repeat (first | refine blk_drewN ?_ _ | refine blk_drew ?_ | refine blk_alloc ?_ _)); exact BK701.out⟩, ⟨by repeat (first | (with_reducible first | exact HB.out | apply below_alloc | apply pw_below_drewN | apply below_drew1 | refine below_set ?_ GE683.out | refine below_set ?_ GE692.out | refine below_set ?_ GE696.out | refine below_set ?_ GE701.out) | exact HB.out)⟩⟩
       case rest =>
        clear HC63
        try clear c1
        try clear c2
        try clear p2
        try clear c3
        try clear c3b0
        try clear c3b1
        try clear c4
        try clear c5
        try clear c6
        try clear c6b0
        try clear c7
        try clear c8
        try clear c15
        try clear c18
        try clear c20
        try clear c22
        try clear c24
        try clear c30
        try clear c31
        try clear c32
        try clear c36
        try clear c37
        try clear c38
        try clear c41
        try clear c42
        try clear c43
        try clear c44
        try clear c46
        try clear c47
        try clear c50
        try clear c51
        try clear c52
        try clear c54
        try clear c55
        try clear c58
        try clear c61
        try clear c68
        try clear c69
        try clear c70
        try clear c73
        try clear c73b0
        try clear c75
        try clear c76
        try clear c77
        try clear c78
        try clear c80
        try clear c81
        try clear c84
        try clear c85
        try clear c86
        try clear c88
        try clear c89
        try clear hcz16_0
        try clear hcz18_0
        try clear hcz25_0
        try clear hcz26_0
        try clear hcz32_0
        try clear hcz39_0
        try clear hcz45_0
        try clear hcz48_0
        try clear hcz53_0
        try clear hcz56_0
        try clear hcz71_0
        try clear hcz79_0
        try clear hcz82_0
        try clear hcz87_0
        try clear hcz8_0
        try clear hcz90_0
        try clear hfz16_0
        try clear hfz18_0
        try clear hfz25_0
        try clear hfz26_0
        try clear hfz32_0
        try clear hfz39_0
        try clear hfz45_0
        try clear hfz48_0
        try clear hfz53_0
        try clear hfz56_0
        try clear hfz71_0
        try clear hfz79_0
        try clear hfz82_0
        try clear hfz87_0
        try clear hfz8_0
        try clear hfz90_0
        try clear p2
        obtain ⟨kq, x68_62, rfl, HA, HJ62, HO_693000, HO_697000, HO_702000, BK683, BK692, BK696, BK701, HB⟩ := hcut
        have hl697000_62 := (Kd.R_reads' HO_697000.out).1
        rw [hl697000_62] at HO_697000
        (try simp only [hl697000_62])
        (try simp only [hl697000_62] at BK683)
        (try simp only [hl697000_62] at BK692)
        (try simp only [hl697000_62] at BK696)
        (try simp only [hl697000_62] at BK701)
        (try simp only [hl697000_62] at HO_693000)
        (try simp only [hl697000_62] at HO_702000)
        cases kq with
        | zero => exact absurd HA.out (by simp [laws_FnExactPutName.j1])
        | succ kj62 =>
         have H := HA.out
         clear HA
         simp only [laws_FnExactPutName.j1] at H
         by_cases c92 : x68_62 = true
         ·
          subst c92
          have H1 : (some false) = some r := by rw [if_pos rfl] at H; exact H
          clear H
          have H := H1
          clear H1
          obtain rfl := Option.some.inj H
          go_wp2
          go_ret
          exact ⟨by first | rfl | (simp [errW_none, errW_some] <;> rfl) | (simp [*, errW_none, errW_some] <;> rfl), by repeat (first | (with_reducible first | exact HB.out | apply below_alloc | apply pw_below_drewN | apply below_drew1 | refine below_set ?_ GE683.out | refine below_set ?_ GE692.out | refine below_set ?_ GE696.out | refine below_set ?_ GE701.out) | exact HB.out)⟩
         ·
          replace c92 := Bool.eq_false_iff.mpr c92
          subst c92
          have H1 : ((laws_markRadix.f kj62 t697 1).bind fun bt710 => ((laws_heldRadix.f kj62 bt710.2 1).bind fun t712 => (if t712 < 0 then (some false) else (if t712 = bt710.1 then ((laws_toRadix.f kj62 l0_0).bind fun t713 => ((impl_PutName.f kj62 t713 a1).bind fun bt716 => ((laws_eqRadix.f kj62 bt716.1 t688).bind fun t721 => (if t721 = true then (laws_FnExactPutName.j2 kj62 bt710.1 (bt716.2 != t691) bt710.2) else (laws_FnExactPutName.j2 kj62 bt710.1 true bt710.2))))) else (some false))))) = some r := by rw [if_neg (show ¬ (false = true) by decide)] at H; exact H
          clear H
          have H := H1
          clear H1
          replace H := Option.bind_eq_some_iff.mp H
          obtain ⟨⟨t710, t711⟩, A930, H⟩ := H
          replace H : ((laws_heldRadix.f kj62 t711 1).bind fun t712 => (if t712 < 0 then (some false) else (if t712 = t710 then ((laws_toRadix.f kj62 l0_0).bind fun t713 => ((impl_PutName.f kj62 t713 a1).bind fun bt716 => ((laws_eqRadix.f kj62 bt716.1 t688).bind fun t721 => (if t721 = true then (laws_FnExactPutName.j2 kj62 t710 (bt716.2 != t691) t711) else (laws_FnExactPutName.j2 kj62 t710 true t711))))) else (some false)))) = some r := H
          have A93 := aM A930
          clear A930
          replace H := Option.bind_eq_some_iff.mp H
          obtain ⟨t712, A940, H⟩ := H
          replace H : (if t712 < 0 then (some false) else (if t712 = t710 then ((laws_toRadix.f kj62 l0_0).bind fun t713 => ((impl_PutName.f kj62 t713 a1).bind fun bt716 => ((laws_eqRadix.f kj62 bt716.1 t688).bind fun t721 => (if t721 = true then (laws_FnExactPutName.j2 kj62 t710 (bt716.2 != t691) t711) else (laws_FnExactPutName.j2 kj62 t710 true t711))))) else (some false))) = some r := H
          have A94 := aM A940
          clear A940
          by_cases c95 : t712 < 0
          ·
           rw [if_pos c95] at H
           have c95b0 : decide (t712 < 0) = true := decide_eq_true c95
           clear c95
           obtain rfl := Option.some.inj H
           have hnb96 := NB701_683.out
           have hnc96 := NB683_701.out
           have hnb97 := NB701_692.out
           have hnc97 := NB692_701.out
           have hnb98 := NB701_696.out
           have hnc98 := NB696_701.out
           have hcz99_0 : wc.cell? ⟨gb701, 0, none⟩ = some (.slice Ao35 t697.length co35) := (blk_cell BK701.out 0).trans rfl
           have hfz99_0 := blk_frozen BK701.out 0
           go_wp2_with (first | ((with_reducible refine gate_callee (f := 18) rfl ?_); refine goesL_ (some 71) rfl rfl Try.func18 (by kernel_rfl) rfl #[.agg #[.slice Ao35 t697.length co35], .int .i64 1] rfl (by (try simp only [List.map_toArray, List.map_cons, List.map_nil]); first | done | rfl | (simp only [List.length_drop, List.length_take]; rfl)) ?_; (with_reducible refine (laws_markRadix.calls kj62 (fun k_ => some k_ = (.slice Ao35 t697.length co35 : Value).ownBlock) (.slice Ao35 t697.length co35) t697 1 t710 t711 w _ ?side1 ?side2 A93.out).mono ?_); (case side1 => repeat (first | (with_reducible first | exact HB.out | apply below_alloc | apply pw_below_drewN | apply below_drew1 | refine below_set ?_ GE683.out | refine below_set ?_ GE692.out | refine below_set ?_ GE696.out | refine below_set ?_ GE701.out) | exact HB.out)); (case side2 => exact Kd.R_tight rfl HO_702000.out); rintro e w100 ⟨rfl, hy0, hb, hkp⟩; refine ⟨_, rfl, ?_⟩; have n0_ := aM (Kd.R_mono (ok' := fun k_ => some k_ ≠ (.slice Ao29 t708.length co29 : Value).ownBlock ∧ some k_ ≠ (.slice Ao35 t697.length co35 : Value).ownBlock) (Kd.R_keptB (HO_693000.out) hkp (fun k_ hk_ hs_ => (hk_.2) hs_)) (fun k_ hk_ => ⟨hk_.1.1, hk_.1.2⟩)); have n1_ := aM (Kd.R_mono (ok' := fun k_ => some k_ ≠ (.slice Ao23 t688.length co23 : Value).ownBlock ∧ some k_ ≠ (.slice Ao35 t697.length co35 : Value).ownBlock) (Kd.R_keptB (HO_697000.out) hkp (fun k_ hk_ hs_ => (hk_.2) hs_)) (fun k_ hk_ => ⟨hk_.1.1, hk_.1.2⟩)); have n2_ := aM (Kd.R_reok rfl hy0 (fun k_ e_ => HO_702000.out.1 k_ e_)); have n3_ := aM (blk_kept (by (with_reducible repeat (first | refine blk_drewN ?_ _ | refine blk_drew ?_ | refine blk_alloc ?_ _)); exact BK683.out) hkp (fun hs_ => (fun e_ => (Kd.R_ne HO_702000.out BK683.out (by decide)) e_) hs_)); have n4_ := aM (blk_kept (by (with_reducible repeat (first | refine blk_drewN ?_ _ | refine blk_drew ?_ | refine blk_alloc ?_ _)); exact BK692.out) hkp (fun hs_ => (fun e_ => (Kd.R_ne HO_702000.out BK692.out (by decide)) e_) hs_)); have n5_ := aM (blk_kept (by (with_reducible repeat (first | refine blk_drewN ?_ _ | refine blk_drew ?_ | refine blk_alloc ?_ _)); exact BK696.out) hkp (fun hs_ => (fun e_ => (Kd.R_ne HO_702000.out BK696.out (by decide)) e_) hs_)); have n6_ := aM (blk_kept (by (with_reducible repeat (first | refine blk_drewN ?_ _ | refine blk_drew ?_ | refine blk_alloc ?_ _)); exact BK701.out) hkp (fun hs_ => (fun e_ => (Kd.R_ne HO_702000.out BK701.out (by decide)) e_) hs_)); have n7_ := aM (hb); clear HO_693000; clear HO_697000; clear HO_702000; clear BK683; clear BK692; clear BK696; clear BK701; clear HB; have HO_693000 := n0_; have HO_697000 := n1_; have HO_702000 := n2_; have BK683 := n3_; have BK692 := n4_; have BK696 := n5_; have BK701 := n6_; have HB := n7_; clear n0_ n1_ n2_ n3_ n4_ n5_ n6_ n7_; (try clear hb); (try clear hkp); (try clear hy0); have hcz101_0 : w100.cell? ⟨gb701, 0, none⟩ = some (.slice Ao35 t697.length co35) := (blk_cell BK701.out 0).trans rfl; have hfz101_0 := blk_frozen BK701.out 0) | ((with_reducible refine gate_callee (f := 19) rfl ?_); refine goesL_ (some 74) rfl rfl Try.func19 (by kernel_rfl) rfl #[.agg #[.slice Ao35 t711.length co35], .int .i64 1] rfl (by (try simp only [List.map_toArray, List.map_cons, List.map_nil]); first | done | (rw [show t711.length = t697.length from (Kd.R_reads' HO_702000.out).1.symm] <;> rfl) | rfl | (simp only [List.length_drop, List.length_take]; rfl)) ?_; (with_reducible refine (laws_heldRadix.calls kj62 _ _ t711 1 t712 _ ?side1 ?side2 A94.out).mono ?_); (case side1 => repeat (first | exact (Kd.R_reads' HO_702000.out).2.2 | (with_reducible refine Kd.C_alloc ?_ _) | (with_reducible refine Kd.C_drewN ?_ _) | (with_reducible refine Kd.C_drew ?_))); (case side2 => rw [show t711.length = t697.length from (Kd.R_reads' HO_702000.out).1.symm]; exact (Kd.R_reads' HO_702000.out).2.1); rintro e w102 ⟨rfl, hb⟩; refine ⟨_, rfl, ?_⟩; have n0_ := aM (Kd.R_below (by (with_reducible repeat (first | apply Kd.R_alloc | apply Kd.R_drewN | apply Kd.R_drew)); exact HO_693000.out) hb); have n1_ := aM (Kd.R_below (by (with_reducible repeat (first | apply Kd.R_alloc | apply Kd.R_drewN | apply Kd.R_drew)); exact HO_697000.out) hb); have n2_ := aM (Kd.R_below (by (with_reducible repeat (first | apply Kd.R_alloc | apply Kd.R_drewN | apply Kd.R_drew)); exact HO_702000.out) hb); have n3_ := aM (blk_below (g := gb683) (o := .cells #[.slice A0_0 l0_0.length c0_0] 36 (0, 0)) (by (with_reducible repeat (first | refine blk_drewN ?_ _ | refine blk_drew ?_ | refine blk_alloc ?_ _)); exact BK683.out) hb); have n4_ := aM (blk_below (g := gb692) (o := .cells #[.slice Ao23 t688.length co23] 26 (0, 0)) (by (with_reducible repeat (first | refine blk_drewN ?_ _ | refine blk_drew ?_ | refine blk_alloc ?_ _)); exact BK692.out) hb); have n5_ := aM (blk_below (g := gb696) (o := .cells #[.slice Ao29 t708.length co29] 26 (0, 0)) (by (with_reducible repeat (first | refine blk_drewN ?_ _ | refine blk_drew ?_ | refine blk_alloc ?_ _)); exact BK696.out) hb); have n6_ := aM (blk_below (g := gb701) (o := .cells #[.slice Ao35 t697.length co35] 26 (0, 0)) (by (with_reducible repeat (first | refine blk_drewN ?_ _ | refine blk_drew ?_ | refine blk_alloc ?_ _)); exact BK701.out) hb); have n7_ := aM (below_step (by repeat (first | (with_reducible first | exact HB.out | apply below_alloc | apply pw_below_drewN | apply below_drew1 | refine below_set ?_ GE683.out | refine below_set ?_ GE692.out | refine below_set ?_ GE696.out | refine below_set ?_ GE701.out) | exact HB.out)) hb); clear HO_693000; clear HO_697000; clear HO_702000; clear BK683; clear BK692; clear BK696; clear BK701; clear HB; have HO_693000 := n0_; have HO_697000 := n1_; have HO_702000 := n2_; have BK683 := n3_; have BK692 := n4_; have BK696 := n5_; have BK701 := n6_; have HB := n7_; clear n0_ n1_ n2_ n3_ n4_ n5_ n6_ n7_; (try clear hb); (try clear hb2); (try clear hk); (try clear hi)))
           go_ret
           exact ⟨by first | rfl | (simp [errW_none, errW_some] <;> rfl) | (simp [*, errW_none, errW_some] <;> rfl), by repeat (first | (with_reducible first | exact HB.out | apply below_alloc | apply pw_below_drewN | apply below_drew1 | refine below_set ?_ GE683.out | refine below_set ?_ GE692.out | refine below_set ?_ GE696.out | refine below_set ?_ GE701.out) | exact HB.out)⟩
          ·
           rw [if_neg c95] at H
           have c95b0 : decide (t712 < 0) = false := decide_eq_false c95
           clear c95
           by_cases c103 : t712 = t710
           ·
            rw [if_pos c103] at H
            have c103b0 : (t712 == t710) = true := beq_iff_eq.mpr c103
            have c103b1 : (t712 != t710) = false := bne_eq_false_iff_eq.mpr c103
            clear c103
            replace H := Option.bind_eq_some_iff.mp H
            obtain ⟨t713, A1040, H⟩ := H
            replace H : ((impl_PutName.f kj62 t713 a1).bind fun bt716 => ((laws_eqRadix.f kj62 bt716.1 t688).bind fun t721 => (if t721 = true then (laws_FnExactPutName.j2 kj62 t710 (bt716.2 != t691) t711) else (laws_FnExactPutName.j2 kj62 t710 true t711)))) = some r := H
            have A104 := aM A1040
            clear A1040
            replace H := Option.bind_eq_some_iff.mp H
            obtain ⟨⟨t716, t719⟩, A1050, H⟩ := H
            replace H : ((laws_eqRadix.f kj62 t716 t688).bind fun t721 => (if t721 = true then (laws_FnExactPutName.j2 kj62 t710 (t719 != t691) t711) else (laws_FnExactPutName.j2 kj62 t710 true t711))) = some r := H
            have A105 := aM A1050
            clear A1050
            have HC106 := aM H
            clear H
            have hnb107 := NB701_683.out
            have hnc107 := NB683_701.out
            have hnb108 := NB701_692.out
            have hnc108 := NB692_701.out
            have hnb109 := NB701_696.out
            have hnc109 := NB696_701.out
            have hcz110_0 : wc.cell? ⟨gb701, 0, none⟩ = some (.slice Ao35 t697.length co35) := (blk_cell BK701.out 0).trans rfl
            have hfz110_0 := blk_frozen BK701.out 0
            go_upto_region 27 with (first | ((with_reducible refine gate_callee (f := 18) rfl ?_); refine goesL_ (some 71) rfl rfl Try.func18 (by kernel_rfl) rfl #[.agg #[.slice Ao35 t697.length co35], .int .i64 1] rfl (by (try simp only [List.map_toArray, List.map_cons, List.map_nil]); first | done | rfl | (simp only [List.length_drop, List.length_take]; rfl)) ?_; (with_reducible refine (laws_markRadix.calls kj62 (fun k_ => some k_ = (.slice Ao35 t697.length co35 : Value).ownBlock) (.slice Ao35 t697.length co35) t697 1 t710 t711 w _ ?side1 ?side2 A93.out).mono ?_); (case side1 => repeat (first | (with_reducible first | exact HB.out | apply below_alloc | apply pw_below_drewN | apply below_drew1 | refine below_set ?_ GE683.out | refine below_set ?_ GE692.out | refine below_set ?_ GE696.out | refine below_set ?_ GE701.out) | exact HB.out)); (case side2 => exact Kd.R_tight rfl HO_702000.out); rintro e w111 ⟨rfl, hy0, hb, hkp⟩; refine ⟨_, rfl, ?_⟩; have n0_ := aM (Kd.R_mono (ok' := fun k_ => some k_ ≠ (.slice Ao29 t708.length co29 : Value).ownBlock ∧ some k_ ≠ (.slice Ao35 t697.length co35 : Value).ownBlock) (Kd.R_keptB (HO_693000.out) hkp (fun k_ hk_ hs_ => (hk_.2) hs_)) (fun k_ hk_ => ⟨hk_.1.1, hk_.1.2⟩)); have n1_ := aM (Kd.R_mono (ok' := fun k_ => some k_ ≠ (.slice Ao23 t688.length co23 : Value).ownBlock ∧ some k_ ≠ (.slice Ao35 t697.length co35 : Value).ownBlock) (Kd.R_keptB (HO_697000.out) hkp (fun k_ hk_ hs_ => (hk_.2) hs_)) (fun k_ hk_ => ⟨hk_.1.1, hk_.1.2⟩)); have n2_ := aM (Kd.R_reok rfl hy0 (fun k_ e_ => HO_702000.out.1 k_ e_)); have n3_ := aM (blk_kept (by (with_reducible repeat (first | refine blk_drewN ?_ _ | refine blk_drew ?_ | refine blk_alloc ?_ _)); exact BK683.out) hkp (fun hs_ => (fun e_ => (Kd.R_ne HO_702000.out BK683.out (by decide)) e_) hs_)); have n4_ := aM (blk_kept (by (with_reducible repeat (first | refine blk_drewN ?_ _ | refine blk_drew ?_ | refine blk_alloc ?_ _)); exact BK692.out) hkp (fun hs_ => (fun e_ => (Kd.R_ne HO_702000.out BK692.out (by decide)) e_) hs_)); have n5_ := aM (blk_kept (by (with_reducible repeat (first | refine blk_drewN ?_ _ | refine blk_drew ?_ | refine blk_alloc ?_ _)); exact BK696.out) hkp (fun hs_ => (fun e_ => (Kd.R_ne HO_702000.out BK696.out (by decide)) e_) hs_)); have n6_ := aM (blk_kept (by (with_reducible repeat (first | refine blk_drewN ?_ _ | refine blk_drew ?_ | refine blk_alloc ?_ _)); exact BK701.out) hkp (fun hs_ => (fun e_ => (Kd.R_ne HO_702000.out BK701.out (by decide)) e_) hs_)); have n7_ := aM (hb); clear HO_693000; clear HO_697000; clear HO_702000; clear BK683; clear BK692; clear BK696; clear BK701; clear HB; have HO_693000 := n0_; have HO_697000 := n1_; have HO_702000 := n2_; have BK683 := n3_; have BK692 := n4_; have BK696 := n5_; have BK701 := n6_; have HB := n7_; clear n0_ n1_ n2_ n3_ n4_ n5_ n6_ n7_; (try clear hb); (try clear hkp); (try clear hy0); have hcz112_0 : w111.cell? ⟨gb701, 0, none⟩ = some (.slice Ao35 t697.length co35) := (blk_cell BK701.out 0).trans rfl; have hfz112_0 := blk_frozen BK701.out 0) | ((with_reducible refine gate_callee (f := 19) rfl ?_); refine goesL_ (some 74) rfl rfl Try.func19 (by kernel_rfl) rfl #[.agg #[.slice Ao35 t711.length co35], .int .i64 1] rfl (by (try simp only [List.map_toArray, List.map_cons, List.map_nil]); first | done | (rw [show t711.length = t697.length from (Kd.R_reads' HO_702000.out).1.symm] <;> rfl) | rfl | (simp only [List.length_drop, List.length_take]; rfl)) ?_; (with_reducible refine (laws_heldRadix.calls kj62 _ _ t711 1 t712 _ ?side1 ?side2 A94.out).mono ?_); (case side1 => repeat (first | exact (Kd.R_reads' HO_702000.out).2.2 | (with_reducible refine Kd.C_alloc ?_ _) | (with_reducible refine Kd.C_drewN ?_ _) | (with_reducible refine Kd.C_drew ?_))); (case side2 => rw [show t711.length = t697.length from (Kd.R_reads' HO_702000.out).1.symm]; exact (Kd.R_reads' HO_702000.out).2.1); rintro e w113 ⟨rfl, hb⟩; refine ⟨_, rfl, ?_⟩; have n0_ := aM (Kd.R_below (by (with_reducible repeat (first | apply Kd.R_alloc | apply Kd.R_drewN | apply Kd.R_drew)); exact HO_693000.out) hb); have n1_ := aM (Kd.R_below (by (with_reducible repeat (first | apply Kd.R_alloc | apply Kd.R_drewN | apply Kd.R_drew)); exact HO_697000.out) hb); have n2_ := aM (Kd.R_below (by (with_reducible repeat (first | apply Kd.R_alloc | apply Kd.R_drewN | apply Kd.R_drew)); exact HO_702000.out) hb); have n3_ := aM (blk_below (g := gb683) (o := .cells #[.slice A0_0 l0_0.length c0_0] 36 (0, 0)) (by (with_reducible repeat (first | refine blk_drewN ?_ _ | refine blk_drew ?_ | refine blk_alloc ?_ _)); exact BK683.out) hb); have n4_ := aM (blk_below (g := gb692) (o := .cells #[.slice Ao23 t688.length co23] 26 (0, 0)) (by (with_reducible repeat (first | refine blk_drewN ?_ _ | refine blk_drew ?_ | refine blk_alloc ?_ _)); exact BK692.out) hb); have n5_ := aM (blk_below (g := gb696) (o := .cells #[.slice Ao29 t708.length co29] 26 (0, 0)) (by (with_reducible repeat (first | refine blk_drewN ?_ _ | refine blk_drew ?_ | refine blk_alloc ?_ _)); exact BK696.out) hb); have n6_ := aM (blk_below (g := gb701) (o := .cells #[.slice Ao35 t697.length co35] 26 (0, 0)) (by (with_reducible repeat (first | refine blk_drewN ?_ _ | refine blk_drew ?_ | refine blk_alloc ?_ _)); exact BK701.out) hb); have n7_ := aM (below_step (by repeat (first | (with_reducible first | exact HB.out | apply below_alloc | apply pw_below_drewN | apply below_drew1 | refine below_set ?_ GE683.out | refine below_set ?_ GE692.out | refine below_set ?_ GE696.out | refine below_set ?_ GE701.out) | exact HB.out)) hb); clear HO_693000; clear HO_697000; clear HO_702000; clear BK683; clear BK692; clear BK696; clear BK701; clear HB; have HO_693000 := n0_; have HO_697000 := n1_; have HO_702000 := n2_; have BK683 := n3_; have BK692 := n4_; have BK696 := n5_; have BK701 := n6_; have HB := n7_; clear n0_ n1_ n2_ n3_ n4_ n5_ n6_ n7_; (try clear hb); (try clear hb2); (try clear hk); (try clear hi); have hnb114 := NB683_692.out; have hnc114 := NB692_683.out; have hnb115 := NB683_696.out; have hnc115 := NB696_683.out; have hcz116_0 : w113.cell? ⟨gb683, 0, none⟩ = some (.slice A0_0 l0_0.length c0_0) := (blk_cell BK683.out 0).trans rfl; have hfz116_0 := blk_frozen BK683.out 0) | ((with_reducible refine gate_callee (f := 22) rfl ?_); refine goesL_ (some 82) rfl rfl Try.func22 (by kernel_rfl) rfl #[.agg #[.slice A0_0 l0_0.length c0_0]] rfl (by (try simp only [List.map_toArray, List.map_cons, List.map_nil]); first | done | rfl | (simp only [List.length_drop, List.length_take]; rfl)) ?_; (with_reducible refine (laws_toRadix.calls kj62 _ _ l0_0 t713 _ ?side1 ?side2 A104.out).mono ?_); (case side1 => repeat (first | exact (Kd.C_below HR0_0.out HB.out) | (with_reducible refine Kd.C_alloc ?_ _) | (with_reducible refine Kd.C_drewN ?_ _) | (with_reducible refine Kd.C_drew ?_))); (case side2 => exact HC0_0.out); rintro e w117 ⟨v714, rfl, ho0, hb⟩; refine ⟨_, rfl, ?_⟩; have n0_ := aM (Kd.R_elder' (by (with_reducible repeat (first | apply Kd.R_alloc | apply Kd.R_drewN | apply Kd.R_drew)); exact HO_693000.out) (Kd.R_base ho0) hb); have n1_ := aM (Kd.R_elder' (by (with_reducible repeat (first | apply Kd.R_alloc | apply Kd.R_drewN | apply Kd.R_drew)); exact HO_697000.out) (Kd.R_base ho0) hb); have n2_ := aM (Kd.R_elder' (by (with_reducible repeat (first | apply Kd.R_alloc | apply Kd.R_drewN | apply Kd.R_drew)); exact HO_702000.out) (Kd.R_base ho0) hb); have n3_ := aM (Kd.R_lower (Kd.R_new' (Kd.R_new' (Kd.R_new' ho0 (Kd.R_lt (by (with_reducible repeat (first | apply Kd.R_alloc | apply Kd.R_drewN | apply Kd.R_drew)); exact HO_693000.out))) (Kd.R_lt (by (with_reducible repeat (first | apply Kd.R_alloc | apply Kd.R_drewN | apply Kd.R_drew)); exact HO_697000.out))) (Kd.R_lt (by (with_reducible repeat (first | apply Kd.R_alloc | apply Kd.R_drewN | apply Kd.R_drew)); exact HO_702000.out))) (below_size (by repeat (first | (with_reducible first | exact HB.out | apply below_alloc | apply pw_below_drewN | apply below_drew1 | refine below_set ?_ GE683.out | refine below_set ?_ GE692.out | refine below_set ?_ GE696.out | refine below_set ?_ GE701.out) | exact HB.out)))); have n4_ := aM (blk_below (g := gb683) (o := .cells #[.slice A0_0 l0_0.length c0_0] 36 (0, 0)) (by (with_reducible repeat (first | refine blk_drewN ?_ _ | refine blk_drew ?_ | refine blk_alloc ?_ _)); exact BK683.out) hb); have n5_ := aM (blk_below (g := gb692) (o := .cells #[.slice Ao23 t688.length co23] 26 (0, 0)) (by (with_reducible repeat (first | refine blk_drewN ?_ _ | refine blk_drew ?_ | refine blk_alloc ?_ _)); exact BK692.out) hb); have n6_ := aM (blk_below (g := gb696) (o := .cells #[.slice Ao29 t708.length co29] 26 (0, 0)) (by (with_reducible repeat (first | refine blk_drewN ?_ _ | refine blk_drew ?_ | refine blk_alloc ?_ _)); exact BK696.out) hb); have n7_ := aM (blk_below (g := gb701) (o := .cells #[.slice Ao35 t697.length co35] 26 (0, 0)) (by (with_reducible repeat (first | refine blk_drewN ?_ _ | refine blk_drew ?_ | refine blk_alloc ?_ _)); exact BK701.out) hb); have n8_ := aM (below_step (by repeat (first | (with_reducible first | exact HB.out | apply below_alloc | apply pw_below_drewN | apply below_drew1 | refine below_set ?_ GE683.out | refine below_set ?_ GE692.out | refine below_set ?_ GE696.out | refine below_set ?_ GE701.out) | exact HB.out)) hb); clear HO_693000; clear HO_697000; clear HO_702000; clear BK683; clear BK692; clear BK696; clear BK701; clear HB; have HO_693000 := n0_; have HO_697000 := n1_; have HO_702000 := n2_; have HO715 := n3_; have BK683 := n4_; have BK692 := n5_; have BK696 := n6_; have BK701 := n7_; have HB := n8_; clear n0_ n1_ n2_ n3_ n4_ n5_ n6_ n7_ n8_; (try clear hb); (try clear hb2); (try clear hk); (try clear hi); (try clear ho0); obtain ⟨Ao118, co118, eo118⟩ := Kd.R_slice HO715.out; subst eo118) | ((with_reducible refine gate_callee (f := 32) rfl ?_); refine goesL_ (some 84) rfl rfl Try.func32 (by kernel_rfl) rfl #[.agg #[.slice Ao118 t713.length co118], .string a1] rfl (by (try simp only [List.map_toArray, List.map_cons, List.map_nil]); first | done | rfl | (simp only [List.length_drop, List.length_take]; rfl)) ?_; (with_reducible refine (impl_PutName.calls kj62 _ _ t713 a1 t716 t719 _ ?side1 ?side2 A105.out).mono ?_); (case side1 => repeat (first | exact (Kd.R_reads' HO715.out).2.2 | (with_reducible refine Kd.C_alloc ?_ _) | (with_reducible refine Kd.C_drewN ?_ _) | (with_reducible refine Kd.C_drew ?_))); (case side2 => exact (Kd.R_reads' HO715.out).2.1); rintro e w119 ⟨v717, rfl, ho0, hb⟩; refine ⟨_, rfl, ?_⟩; have n0_ := aM (Kd.R_elder' (by (with_reducible repeat (first | apply Kd.R_alloc | apply Kd.R_drewN | apply Kd.R_drew)); exact HO_693000.out) (Kd.R_base ho0) hb); have n1_ := aM (Kd.R_elder' (by (with_reducible repeat (first | apply Kd.R_alloc | apply Kd.R_drewN | apply Kd.R_drew)); exact HO_697000.out) (Kd.R_base ho0) hb); have n2_ := aM (Kd.R_elder' (by (with_reducible repeat (first | apply Kd.R_alloc | apply Kd.R_drewN | apply Kd.R_drew)); exact HO_702000.out) (Kd.R_base ho0) hb); have n3_ := aM (Kd.R_elder' (by (with_reducible repeat (first | apply Kd.R_alloc | apply Kd.R_drewN | apply Kd.R_drew)); exact HO715.out) (Kd.R_base ho0) hb); have n4_ := aM (Kd.R_lower (Kd.R_new' (Kd.R_new' (Kd.R_new' (Kd.R_new' ho0 (Kd.R_lt (by (with_reducible repeat (first | apply Kd.R_alloc | apply Kd.R_drewN | apply Kd.R_drew)); exact HO_693000.out))) (Kd.R_lt (by (with_reducible repeat (first | apply Kd.R_alloc | apply Kd.R_drewN | apply Kd.R_drew)); exact HO_697000.out))) (Kd.R_lt (by (with_reducible repeat (first | apply Kd.R_alloc | apply Kd.R_drewN | apply Kd.R_drew)); exact HO_702000.out))) (Kd.R_lt (by (with_reducible repeat (first | apply Kd.R_alloc | apply Kd.R_drewN | apply Kd.R_drew)); exact HO715.out))) (below_size (by repeat (first | (with_reducible first | exact HB.out | apply below_alloc | apply pw_below_drewN | apply below_drew1 | refine below_set ?_ GE683.out | refine below_set ?_ GE692.out | refine below_set ?_ GE696.out | refine below_set ?_ GE701.out) | exact HB.out)))); have n5_ := aM (blk_below (g := gb683) (o := .cells #[.slice A0_0 l0_0.length c0_0] 36 (0, 0)) (by (with_reducible repeat (first | refine blk_drewN ?_ _ | refine blk_drew ?_ | refine blk_alloc ?_ _)); exact BK683.out) hb); have n6_ := aM (blk_below (g := gb692) (o := .cells #[.slice Ao23 t688.length co23] 26 (0, 0)) (by (with_reducible repeat (first | refine blk_drewN ?_ _ | refine blk_drew ?_ | refine blk_alloc ?_ _)); exact BK692.out) hb); have n7_ := aM (blk_below (g := gb696) (o := .cells #[.slice Ao29 t708.length co29] 26 (0, 0)) (by (with_reducible repeat (first | refine blk_drewN ?_ _ | refine blk_drew ?_ | refine blk_alloc ?_ _)); exact BK696.out) hb); have n8_ := aM (blk_below (g := gb701) (o := .cells #[.slice Ao35 t697.length co35] 26 (0, 0)) (by (with_reducible repeat (first | refine blk_drewN ?_ _ | refine blk_drew ?_ | refine blk_alloc ?_ _)); exact BK701.out) hb); have n9_ := aM (below_step (by repeat (first | (with_reducible first | exact HB.out | apply below_alloc | apply pw_below_drewN | apply below_drew1 | refine below_set ?_ GE683.out | refine below_set ?_ GE692.out | refine below_set ?_ GE696.out | refine below_set ?_ GE701.out) | exact HB.out)) hb); clear HO_693000; clear HO_697000; clear HO_702000; clear HO715; clear BK683; clear BK692; clear BK696; clear BK701; clear HB; have HO_693000 := n0_; have HO_697000 := n1_; have HO_702000 := n2_; have HO715 := n3_; have HO718 := n4_; have BK683 := n5_; have BK692 := n6_; have BK696 := n7_; have BK701 := n8_; have HB := n9_; clear n0_ n1_ n2_ n3_ n4_ n5_ n6_ n7_ n8_ n9_; (try clear hb); (try clear hb2); (try clear hk); (try clear hi); (try clear ho0)) | ((with_reducible refine gate_dst (N := 14) rfl ?_); refine box_event ?hg (N := 14) ?hd (cs := #[.slice none 0 0]) (t := 26) ?hr ?_; (case hd => rfl); (case hg => rfl); (case hr => first | (go_simp; done) | (go_simp; rfl)); intro gb720 hg w120 hbox hb; have n0_ := aM (Kd.R_below (by (with_reducible repeat (first | apply Kd.R_alloc | apply Kd.R_drewN | apply Kd.R_drew)); exact HO_693000.out) hb); have n1_ := aM (Kd.R_below (by (with_reducible repeat (first | apply Kd.R_alloc | apply Kd.R_drewN | apply Kd.R_drew)); exact HO_697000.out) hb); have n2_ := aM (Kd.R_below (by (with_reducible repeat (first | apply Kd.R_alloc | apply Kd.R_drewN | apply Kd.R_drew)); exact HO_702000.out) hb); have n3_ := aM (Kd.R_below (by (with_reducible repeat (first | apply Kd.R_alloc | apply Kd.R_drewN | apply Kd.R_drew)); exact HO715.out) hb); have n4_ := aM (Kd.R_below (by (with_reducible repeat (first | apply Kd.R_alloc | apply Kd.R_drewN | apply Kd.R_drew)); exact HO718.out) hb); have n5_ := aM (blk_below (g := gb683) (o := .cells #[.slice A0_0 l0_0.length c0_0] 36 (0, 0)) (by (with_reducible repeat (first | refine blk_drewN ?_ _ | refine blk_drew ?_ | refine blk_alloc ?_ _)); exact BK683.out) hb); have n6_ := aM (blk_below (g := gb692) (o := .cells #[.slice Ao23 t688.length co23] 26 (0, 0)) (by (with_reducible repeat (first | refine blk_drewN ?_ _ | refine blk_drew ?_ | refine blk_alloc ?_ _)); exact BK692.out) hb); have n7_ := aM (blk_below (g := gb696) (o := .cells #[.slice Ao29 t708.length co29] 26 (0, 0)) (by (with_reducible repeat (first | refine blk_drewN ?_ _ | refine blk_drew ?_ | refine blk_alloc ?_ _)); exact BK696.out) hb); have n8_ := aM (blk_below (g := gb701) (o := .cells #[.slice Ao35 t697.length co35] 26 (0, 0)) (by (with_reducible repeat (first | refine blk_drewN ?_ _ | refine blk_drew ?_ | refine blk_alloc ?_ _)); exact BK701.out) hb); have n9_ := aM (below_step (by repeat (first | (with_reducible first | exact HB.out | apply below_alloc | apply pw_below_drewN | apply below_drew1 | refine below_set ?_ GE683.out | refine below_set ?_ GE692.out | refine below_set ?_ GE696.out | refine below_set ?_ GE701.out) | exact HB.out)) hb); have n10_ := aM (hbox); have n11_ := aM ((by rw [hg]; exact (below_size (by repeat (first | (with_reducible first | exact HB.out | apply below_alloc | apply pw_below_drewN | apply below_drew1 | refine below_set ?_ GE683.out | refine below_set ?_ GE692.out | refine below_set ?_ GE696.out | refine below_set ?_ GE701.out) | exact HB.out))) : w.heap.size ≤ gb720)); have n12_ := aM ((by rw [hg]; exact (below_size (by repeat (first | (with_reducible first | exact HB.out | apply below_alloc | apply pw_below_drewN | apply below_drew1 | refine below_set ?_ GE683.out | refine below_set ?_ GE692.out | refine below_set ?_ GE696.out | refine below_set ?_ GE701.out) | exact HB.out))) : w.heap.size ≤ gb720)); have n13_ := aM ((by rw [hg]; exact Nat.ne_of_lt (blk_lt (g := gb683) (o := .cells #[.slice A0_0 l0_0.length c0_0] 36 (0, 0)) (by (with_reducible repeat (first | refine blk_drewN ?_ _ | refine blk_drew ?_ | refine blk_alloc ?_ _)); exact BK683.out)) : gb683 ≠ gb720)); have n14_ := aM ((by rw [hg]; exact Nat.ne_of_gt (blk_lt (g := gb683) (o := .cells #[.slice A0_0 l0_0.length c0_0] 36 (0, 0)) (by (with_reducible repeat (first | refine blk_drewN ?_ _ | refine blk_drew ?_ | refine blk_alloc ?_ _)); exact BK683.out)) : gb720 ≠ gb683)); have n15_ := aM ((by rw [hg]; exact Nat.ne_of_lt (blk_lt (g := gb692) (o := .cells #[.slice Ao23 t688.length co23] 26 (0, 0)) (by (with_reducible repeat (first | refine blk_drewN ?_ _ | refine blk_drew ?_ | refine blk_alloc ?_ _)); exact BK692.out)) : gb692 ≠ gb720)); have n16_ := aM ((by rw [hg]; exact Nat.ne_of_gt (blk_lt (g := gb692) (o := .cells #[.slice Ao23 t688.length co23] 26 (0, 0)) (by (with_reducible repeat (first | refine blk_drewN ?_ _ | refine blk_drew ?_ | refine blk_alloc ?_ _)); exact BK692.out)) : gb720 ≠ gb692)); have n17_ := aM ((by rw [hg]; exact Nat.ne_of_lt (blk_lt (g := gb696) (o := .cells #[.slice Ao29 t708.length co29] 26 (0, 0)) (by (with_reducible repeat (first | refine blk_drewN ?_ _ | refine blk_drew ?_ | refine blk_alloc ?_ _)); exact BK696.out)) : gb696 ≠ gb720)); have n18_ := aM ((by rw [hg]; exact Nat.ne_of_gt (blk_lt (g := gb696) (o := .cells #[.slice Ao29 t708.length co29] 26 (0, 0)) (by (with_reducible repeat (first | refine blk_drewN ?_ _ | refine blk_drew ?_ | refine blk_alloc ?_ _)); exact BK696.out)) : gb720 ≠ gb696)); have n19_ := aM ((by rw [hg]; exact Nat.ne_of_lt (blk_lt (g := gb701) (o := .cells #[.slice Ao35 t697.length co35] 26 (0, 0)) (by (with_reducible repeat (first | refine blk_drewN ?_ _ | refine blk_drew ?_ | refine blk_alloc ?_ _)); exact BK701.out)) : gb701 ≠ gb720)); have n20_ := aM ((by rw [hg]; exact Nat.ne_of_gt (blk_lt (g := gb701) (o := .cells #[.slice Ao35 t697.length co35] 26 (0, 0)) (by (with_reducible repeat (first | refine blk_drewN ?_ _ | refine blk_drew ?_ | refine blk_alloc ?_ _)); exact BK701.out)) : gb720 ≠ gb701)); clear HO_693000; clear HO_697000; clear HO_702000; clear HO715; clear HO718; clear BK683; clear BK692; clear BK696; clear BK701; clear HB; have HO_693000 := n0_; have HO_697000 := n1_; have HO_702000 := n2_; have HO715 := n3_; have HO718 := n4_; have BK683 := n5_; have BK692 := n6_; have BK696 := n7_; have BK701 := n8_; have HB := n9_; have BK720 := n10_; have GW720 := n11_; have GE720 := n12_; have NB683_720 := n13_; have NB720_683 := n14_; have NB692_720 := n15_; have NB720_692 := n16_; have NB696_720 := n17_; have NB720_696 := n18_; have NB701_720 := n19_; have NB720_701 := n20_; clear n0_ n1_ n2_ n3_ n4_ n5_ n6_ n7_ n8_ n9_ n10_ n11_ n12_ n13_ n14_ n15_ n16_ n17_ n18_ n19_ n20_; clear hb hbox hg; obtain ⟨Ao121, co121, eo121⟩ := Kd.R_slice HO718.out; subst eo121; have hnb122 := NB720_683.out; have hnc122 := NB683_720.out; have hnb123 := NB720_692.out; have hnc123 := NB692_720.out; have hnb124 := NB720_696.out; have hnc124 := NB696_720.out; have hnb125 := NB720_701.out; have hnc125 := NB701_720.out; have hcz126_0 : w120.cell? ⟨gb720, 0, none⟩ = some (.slice none 0 0) := (blk_cell BK720.out 0).trans rfl; have hfz126_0 := blk_frozen BK720.out 0))
            (try simp only [Act.put, zSA, zSB, zSC])
            go_cut [95] (fun v95 wc => ∃ (kq : Nat) (x95_105 : Bool), v95 = .bool x95_105 ∧ Aside0 (laws_FnExactPutName.j2 kq t710 x95_105 t711 = some r) ∧ Aside0 (kq ≤ kj62) ∧ Aside0 (Kd.R k64 64 wc w.heap.size (fun k_ => some k_ ≠ ((.slice Ao29 t708.length co29) : Value).ownBlock ∧ some k_ ≠ ((.slice Ao35 t697.length co35) : Value).ownBlock ∧ some k_ ≠ ((.slice Ao121 t716.length co121) : Value).ownBlock) (.slice Ao23 t688.length co23) t688) ∧ Aside0 (Kd.R k64 64 wc w.heap.size (fun k_ => some k_ ≠ ((.slice Ao23 t688.length co23) : Value).ownBlock ∧ some k_ ≠ ((.slice Ao35 t697.length co35) : Value).ownBlock ∧ some k_ ≠ ((.slice Ao121 t716.length co121) : Value).ownBlock) (.slice Ao29 t708.length co29) t708) ∧ Aside0 (Kd.R k64 64 wc w.heap.size (fun k_ => some k_ ≠ ((.slice Ao23 t688.length co23) : Value).ownBlock ∧ some k_ ≠ ((.slice Ao29 t708.length co29) : Value).ownBlock ∧ some k_ ≠ ((.slice Ao121 t716.length co121) : Value).ownBlock) (.slice Ao35 t697.length co35) t711) ∧ Aside0 (Kd.R k64 64 wc w.heap.size (fun k_ => some k_ ≠ ((.slice Ao23 t688.length co23) : Value).ownBlock ∧ some k_ ≠ ((.slice Ao29 t708.length co29) : Value).ownBlock ∧ some k_ ≠ ((.slice Ao35 t697.length co35) : Value).ownBlock) (.slice Ao121 t716.length co121) t716) ∧ Aside0 (wc.heap[gb683]? = some (.cells #[(.slice A0_0 l0_0.length c0_0)] 36 (0, 0))) ∧ Aside0 (wc.heap[gb692]? = some (.cells #[(.slice Ao23 t688.length co23)] 26 (0, 0))) ∧ Aside0 (wc.heap[gb696]? = some (.cells #[(.slice Ao29 t708.length co29)] 26 (0, 0))) ∧ Aside0 (wc.heap[gb701]? = some (.cells #[(.slice Ao35 t697.length co35)] 26 (0, 0))) ∧ Aside0 (wc.heap[gb720]? = some (.cells #[(.slice Ao121 t716.length co121)] 26 (0, 0))) ∧ Aside0 (Below w.heap.size w wc))
            case first =>
             have H := HC106.out
             clear HC106
             replace H := Option.bind_eq_some_iff.mp H
             obtain ⟨t721, A1270, H⟩ := H
             replace H : (if t721 = true then (laws_FnExactPutName.j2 kj62 t710 (t719 != t691) t711) else (laws_FnExactPutName.j2 kj62 t710 true t711)) = some r := H
             have A127 := aM A1270
             clear A1270
             by_cases c128 : t721 = true
             ·
              subst c128
              have H1 : (laws_FnExactPutName.j2 kj62 t710 (t719 != t691) t711) = some r := by rw [if_pos rfl] at H; exact H
              clear H
              have H := H1
              clear H1
              have H' := aM H
              clear H
              have hnb129 := NB720_683.out
              have hnc129 := NB683_720.out
              have hnb130 := NB720_692.out
              have hnc130 := NB692_720.out
              have hnb131 := NB720_696.out
              have hnc131 := NB696_720.out
              have hnb132 := NB720_701.out
              have hnc132 := NB701_720.out
              have hcz133_0 : w120.cell? ⟨gb720, 0, none⟩ = some (.slice none 0 0) := (blk_cell BK720.out 0).trans rfl
              have hfz133_0 := blk_frozen BK720.out 0
              have hnb134 := NB692_683.out
              have hnc134 := NB683_692.out
              have hnb135 := NB692_696.out
              have hnc135 := NB696_692.out
              have hnb136 := NB692_701.out
              have hnc136 := NB701_692.out
              have hcz137_0 : w120.cell? ⟨gb692, 0, none⟩ = some (.slice Ao23 t688.length co23) := (blk_cell BK692.out 0).trans rfl
              have hfz137_0 := blk_frozen BK692.out 0
              go_wp2_with (first | ((with_reducible refine gate_callee (f := 15) rfl ?_); refine goesL_ (some 89) rfl rfl Try.func15 (by kernel_rfl) rfl #[.agg #[.slice Ao121 t716.length co121], .agg #[.slice Ao23 t688.length co23]] rfl (by (try simp only [List.map_toArray, List.map_cons, List.map_nil]); first | done | rfl | (simp only [List.length_drop, List.length_take]; rfl)) ?_; (with_reducible refine (laws_eqRadix.calls kj62 _ _ t716 _ _ t688 true _ ?side1 ?side2 ?side3 ?side4 A127.out).mono ?_); (case side1 => refine (Kd.R_reads' (e := 64) (base := w.heap.size) (ok := fun k_ => ((((True ∧ some k_ ≠ (.slice Ao23 t688.length co23 : Value).ownBlock) ∧ some k_ ≠ (.slice Ao29 t708.length co29 : Value).ownBlock) ∧ some k_ ≠ (.slice Ao35 t697.length co35 : Value).ownBlock) ∧ some k_ ≠ (.slice Ao118 t713.length co118 : Value).ownBlock)) (n := t716.length) (c := co121) ?_).2.2; exact (by (with_reducible repeat (first | apply Kd.R_alloc | apply Kd.R_drewN | apply Kd.R_drew)); exact (Kd.R_mono (Kd.R_far (p := ⟨gb720, 0, none⟩) (Kd.R_types HO718.out BK720.out (by decide)) (fun _ hk => hk.2) (.slice Ao121 t716.length co121)) (fun _ h_ => h_.1)))); (case side2 => exact (Kd.R_reads' HO718.out).2.1); (case side3 => refine (Kd.R_reads' (e := 64) (base := w.heap.size) (ok := fun k_ => (((some k_ ≠ (.slice Ao29 t708.length co29 : Value).ownBlock ∧ some k_ ≠ (.slice Ao35 t697.length co35 : Value).ownBlock) ∧ some k_ ≠ (.slice Ao118 t713.length co118 : Value).ownBlock) ∧ some k_ ≠ (.slice Ao121 t716.length co121 : Value).ownBlock)) (n := t688.length) (c := co23) ?_).2.2; exact (by (with_reducible repeat (first | apply Kd.R_alloc | apply Kd.R_drewN | apply Kd.R_drew)); exact (Kd.R_mono (Kd.R_far (p := ⟨gb720, 0, none⟩) (Kd.R_types HO_693000.out BK720.out (by decide)) (fun _ hk => hk.2) (.slice Ao121 t716.length co121)) (fun _ h_ => h_.1)))); (case side4 => exact (Kd.R_reads' HO_693000.out).2.1); rintro e w138 ⟨rfl, hb⟩; refine ⟨_, rfl, ?_⟩; have n0_ := aM (Kd.R_below (by (with_reducible repeat (first | apply Kd.R_alloc | apply Kd.R_drewN | apply Kd.R_drew)); exact (Kd.R_mono (Kd.R_far (p := ⟨gb720, 0, none⟩) (Kd.R_types HO_693000.out BK720.out (by decide)) (fun _ hk => hk.2) (.slice Ao121 t716.length co121)) (fun _ h_ => h_.1))) hb); have n1_ := aM (Kd.R_below (by (with_reducible repeat (first | apply Kd.R_alloc | apply Kd.R_drewN | apply Kd.R_drew)); exact (Kd.R_mono (Kd.R_far (p := ⟨gb720, 0, none⟩) (Kd.R_types HO_697000.out BK720.out (by decide)) (fun _ hk => hk.2) (.slice Ao121 t716.length co121)) (fun _ h_ => h_.1))) hb); have n2_ := aM (Kd.R_below (by (with_reducible repeat (first | apply Kd.R_alloc | apply Kd.R_drewN | apply Kd.R_drew)); exact (Kd.R_mono (Kd.R_far (p := ⟨gb720, 0, none⟩) (Kd.R_types HO_702000.out BK720.out (by decide)) (fun _ hk => hk.2) (.slice Ao121 t716.length co121)) (fun _ h_ => h_.1))) hb); have n3_ := aM (Kd.R_below (by (with_reducible repeat (first | apply Kd.R_alloc | apply Kd.R_drewN | apply Kd.R_drew)); exact (Kd.R_mono (Kd.R_far (p := ⟨gb720, 0, none⟩) (Kd.R_types HO715.out BK720.out (by decide)) (fun _ hk => hk.2) (.slice Ao121 t716.length co121)) (fun _ h_ => h_.1))) hb); have n4_ := aM (Kd.R_below (by (with_reducible repeat (first | apply Kd.R_alloc | apply Kd.R_drewN | apply Kd.R_drew)); exact (Kd.R_mono (Kd.R_far (p := ⟨gb720, 0, none⟩) (Kd.R_types HO718.out BK720.out (by decide)) (fun _ hk => hk.2) (.slice Ao121 t716.length co121)) (fun _ h_ => h_.1))) hb); have n5_ := aM (blk_below (g := gb683) (o := .cells #[.slice A0_0 l0_0.length c0_0] 36 (0, 0)) (by (with_reducible repeat (first | refine blk_drewN ?_ _ | refine blk_drew ?_ | refine blk_alloc ?_ _)); refine blk_far ?_ NB683_720.out _; (with_reducible repeat (first | refine blk_drewN ?_ _ | refine blk_drew ?_ | refine blk_alloc ?_ _)); exact BK683.out) hb); have n6_ := aM (blk_below (g := gb692) (o := .cells #[.slice Ao23 t688.length co23] 26 (0, 0)) (by (with_reducible repeat (first | refine blk_drewN ?_ _ | refine blk_drew ?_ | refine blk_alloc ?_ _)); refine blk_far ?_ NB692_720.out _; (with_reducible repeat (first | refine blk_drewN ?_ _ | refine blk_drew ?_ | refine blk_alloc ?_ _)); exact BK692.out) hb); have n7_ := aM (blk_below (g := gb696) (o := .cells #[.slice Ao29 t708.length co29] 26 (0, 0)) (by (with_reducible repeat (first | refine blk_drewN ?_ _ | refine blk_drew ?_ | refine blk_alloc ?_ _)); refine blk_far ?_ NB696_720.out _; (with_reducible repeat (first | refine blk_drewN ?_ _ | refine blk_drew ?_ | refine blk_alloc ?_ _)); exact BK696.out) hb); have n8_ := aM (blk_below (g := gb701) (o := .cells #[.slice Ao35 t697.length co35] 26 (0, 0)) (by (with_reducible repeat (first | refine blk_drewN ?_ _ | refine blk_drew ?_ | refine blk_alloc ?_ _)); refine blk_far ?_ NB701_720.out _; (with_reducible repeat (first | refine blk_drewN ?_ _ | refine blk_drew ?_ | refine blk_alloc ?_ _)); exact BK701.out) hb); have n9_ := aM (blk_below (g := gb720) (o := .cells #[.slice Ao121 t716.length co121] 26 (0, 0)) (by (with_reducible repeat (first | refine blk_drewN ?_ _ | refine blk_drew ?_ | refine blk_alloc ?_ _)); refine blk_put (cs := #[.slice none 0 0]) ?_ 0 _ rfl; (with_reducible repeat (first | refine blk_drewN ?_ _ | refine blk_drew ?_ | refine blk_alloc ?_ _)); exact BK720.out) hb); have n10_ := aM (below_step (by repeat (first | (with_reducible first | exact HB.out | apply below_alloc | apply pw_below_drewN | apply below_drew1 | refine below_set ?_ GE683.out | refine below_set ?_ GE692.out | refine below_set ?_ GE696.out | refine below_set ?_ GE701.out | refine below_set ?_ GE720.out) | exact HB.out)) hb); clear HO_693000; clear HO_697000; clear HO_702000; clear HO715; clear HO718; clear BK683; clear BK692; clear BK696; clear BK701; clear BK720; clear HB; have HO_693000 := n0_; have HO_697000 := n1_; have HO_702000 := n2_; have HO715 := n3_; have HO718 := n4_; have BK683 := n5_; have BK692 := n6_; have BK696 := n7_; have BK701 := n8_; have BK720 := n9_; have HB := n10_; clear n0_ n1_ n2_ n3_ n4_ n5_ n6_ n7_ n8_ n9_ n10_; (try clear hb); (try clear hb2); (try clear hk); (try clear hi)))
              go_meet
              case rel => exact ⟨_, ((t719 != t691)), (by first | rfl | (simp; done) | (simp [*]; done)), H', ⟨by have := HJ13.out; have := HJ62.out; first | omega | exact Nat.le_refl _⟩, ⟨by (try simp only [hl697000_62]); (with_reducible repeat (first | apply Kd.R_alloc | apply Kd.R_drewN | apply Kd.R_drew)); exact Kd.R_mono HO_693000.out (fun _ hk => ⟨hk.1.1.1, ⟨hk.1.1.2, hk.2⟩⟩)⟩, ⟨by (try simp only [hl697000_62]); (with_reducible repeat (first | apply Kd.R_alloc | apply Kd.R_drewN | apply Kd.R_drew)); exact Kd.R_mono HO_697000.out (fun _ hk => ⟨hk.1.1.1, ⟨hk.1.1.2, hk.2⟩⟩)⟩, ⟨by (try simp only [hl697000_62]); (with_reducible repeat (first | apply Kd.R_alloc | apply Kd.R_drewN | apply Kd.R_drew)); exact Kd.R_mono HO_702000.out (fun _ hk => ⟨hk.1.1.1, ⟨hk.1.1.2, hk.2⟩⟩)⟩, ⟨by (try simp only [hl697000_62]); (with_reducible repeat (first | apply Kd.R_alloc | apply Kd.R_drewN | apply Kd.R_drew)); exact Kd.R_mono HO718.out (fun _ hk => ⟨hk.1.1.1.2, ⟨hk.1.1.2, hk.1.2⟩⟩)⟩, ⟨by (try simp only [hl697000_62]); (with_reducible repeat (first | refine blk_drewN ?_ _ | refine blk_drew ?_ | refine blk_alloc ?_ _)); exact BK683.out⟩, ⟨by (try simp only [hl697000_62]); (with_reducible repeat (first | refine blk_drewN ?_ _ | refine blk_drew ?_ | refine blk_alloc ?_ _)); exact BK692.out⟩, ⟨by (try simp only [hl697000_62]); (with_reducible repeat (first | refine blk_drewN ?_ _ | refine blk_drew ?_ | refine blk_alloc ?_ _)); exact BK696.out⟩, ⟨by (try simp only [hl697000_62]); (with_reducible repeat (first | refine blk_drewN ?_ _ | refine blk_drew ?_ | refine blk_alloc ?_ _)); exact BK701.out⟩, ⟨by (try simp only [hl697000_62]); (with_reducible repeat (first | refine blk_drewN ?_ _ | refine blk_drew ?_ | refine blk_alloc ?_ _)); exact BK720.out⟩, ⟨by repeat (first | (with_reducible first | exact HB.out | apply below_alloc | apply pw_below_drewN | apply below_drew1 | refine below_set ?_ GE683.out | refine below_set ?_ GE692.out | refine below_set ?_ GE696.out | refine below_set ?_ GE701.out | refine below_set ?_ GE720.out) | exact HB.out)⟩⟩
             ·
              replace c128 := Bool.eq_false_iff.mpr c128
              subst c128
              have H1 : (laws_FnExactPutName.j2 kj62 t710 true t711) = some r := by rw [if_neg (show ¬ (false = true) by decide)] at H; exact H
              clear H
              have H := H1
              clear H1
              have H' := aM H
              clear H
              have hnb139 := NB720_683.out
              have hnc139 := NB683_720.out
              have hnb140 := NB720_692.out
              have hnc140 := NB692_720.out
              have hnb141 := NB720_696.out
              have hnc141 := NB696_720.out
              have hnb142 := NB720_701.out
              have hnc142 := NB701_720.out
              have hcz143_0 : w120.cell? ⟨gb720, 0, none⟩ = some (.slice none 0 0) := (blk_cell BK720.out 0).trans rfl
              have hfz143_0 := blk_frozen BK720.out 0
              have hnb144 := NB692_683.out
              have hnc144 := NB683_692.out
              have hnb145 := NB692_696.out
              have hnc145 := NB696_692.out
              have hnb146 := NB692_701.out
              have hnc146 := NB701_692.out
              have hcz147_0 : w120.cell? ⟨gb692, 0, none⟩ = some (.slice Ao23 t688.length co23) := (blk_cell BK692.out 0).trans rfl
              have hfz147_0 := blk_frozen BK692.out 0
              go_wp2_with (first | ((with_reducible refine gate_callee (f := 15) rfl ?_); refine goesL_ (some 89) rfl rfl Try.func15 (by kernel_rfl) rfl #[.agg #[.slice Ao121 t716.length co121], .agg #[.slice Ao23 t688.length co23]] rfl (by (try simp only [List.map_toArray, List.map_cons, List.map_nil]); first | done | rfl | (simp only [List.length_drop, List.length_take]; rfl)) ?_; (with_reducible refine (laws_eqRadix.calls kj62 _ _ t716 _ _ t688 false _ ?side1 ?side2 ?side3 ?side4 A127.out).mono ?_); (case side1 => refine (Kd.R_reads' (e := 64) (base := w.heap.size) (ok := fun k_ => ((((True ∧ some k_ ≠ (.slice Ao23 t688.length co23 : Value).ownBlock) ∧ some k_ ≠ (.slice Ao29 t708.length co29 : Value).ownBlock) ∧ some k_ ≠ (.slice Ao35 t697.length co35 : Value).ownBlock) ∧ some k_ ≠ (.slice Ao118 t713.length co118 : Value).ownBlock)) (n := t716.length) (c := co121) ?_).2.2; exact (by (with_reducible repeat (first | apply Kd.R_alloc | apply Kd.R_drewN | apply Kd.R_drew)); exact (Kd.R_mono (Kd.R_far (p := ⟨gb720, 0, none⟩) (Kd.R_types HO718.out BK720.out (by decide)) (fun _ hk => hk.2) (.slice Ao121 t716.length co121)) (fun _ h_ => h_.1)))); (case side2 => exact (Kd.R_reads' HO718.out).2.1); (case side3 => refine (Kd.R_reads' (e := 64) (base := w.heap.size) (ok := fun k_ => (((some k_ ≠ (.slice Ao29 t708.length co29 : Value).ownBlock ∧ some k_ ≠ (.slice Ao35 t697.length co35 : Value).ownBlock) ∧ some k_ ≠ (.slice Ao118 t713.length co118 : Value).ownBlock) ∧ some k_ ≠ (.slice Ao121 t716.length co121 : Value).ownBlock)) (n := t688.length) (c := co23) ?_).2.2; exact (by (with_reducible repeat (first | apply Kd.R_alloc | apply Kd.R_drewN | apply Kd.R_drew)); exact (Kd.R_mono (Kd.R_far (p := ⟨gb720, 0, none⟩) (Kd.R_types HO_693000.out BK720.out (by decide)) (fun _ hk => hk.2) (.slice Ao121 t716.length co121)) (fun _ h_ => h_.1)))); (case side4 => exact (Kd.R_reads' HO_693000.out).2.1); rintro e w148 ⟨rfl, hb⟩; refine ⟨_, rfl, ?_⟩; have n0_ := aM (Kd.R_below (by (with_reducible repeat (first | apply Kd.R_alloc | apply Kd.R_drewN | apply Kd.R_drew)); exact (Kd.R_mono (Kd.R_far (p := ⟨gb720, 0, none⟩) (Kd.R_types HO_693000.out BK720.out (by decide)) (fun _ hk => hk.2) (.slice Ao121 t716.length co121)) (fun _ h_ => h_.1))) hb); have n1_ := aM (Kd.R_below (by (with_reducible repeat (first | apply Kd.R_alloc | apply Kd.R_drewN | apply Kd.R_drew)); exact (Kd.R_mono (Kd.R_far (p := ⟨gb720, 0, none⟩) (Kd.R_types HO_697000.out BK720.out (by decide)) (fun _ hk => hk.2) (.slice Ao121 t716.length co121)) (fun _ h_ => h_.1))) hb); have n2_ := aM (Kd.R_below (by (with_reducible repeat (first | apply Kd.R_alloc | apply Kd.R_drewN | apply Kd.R_drew)); exact (Kd.R_mono (Kd.R_far (p := ⟨gb720, 0, none⟩) (Kd.R_types HO_702000.out BK720.out (by decide)) (fun _ hk => hk.2) (.slice Ao121 t716.length co121)) (fun _ h_ => h_.1))) hb); have n3_ := aM (Kd.R_below (by (with_reducible repeat (first | apply Kd.R_alloc | apply Kd.R_drewN | apply Kd.R_drew)); exact (Kd.R_mono (Kd.R_far (p := ⟨gb720, 0, none⟩) (Kd.R_types HO715.out BK720.out (by decide)) (fun _ hk => hk.2) (.slice Ao121 t716.length co121)) (fun _ h_ => h_.1))) hb); have n4_ := aM (Kd.R_below (by (with_reducible repeat (first | apply Kd.R_alloc | apply Kd.R_drewN | apply Kd.R_drew)); exact (Kd.R_mono (Kd.R_far (p := ⟨gb720, 0, none⟩) (Kd.R_types HO718.out BK720.out (by decide)) (fun _ hk => hk.2) (.slice Ao121 t716.length co121)) (fun _ h_ => h_.1))) hb); have n5_ := aM (blk_below (g := gb683) (o := .cells #[.slice A0_0 l0_0.length c0_0] 36 (0, 0)) (by (with_reducible repeat (first | refine blk_drewN ?_ _ | refine blk_drew ?_ | refine blk_alloc ?_ _)); refine blk_far ?_ NB683_720.out _; (with_reducible repeat (first | refine blk_drewN ?_ _ | refine blk_drew ?_ | refine blk_alloc ?_ _)); exact BK683.out) hb); have n6_ := aM (blk_below (g := gb692) (o := .cells #[.slice Ao23 t688.length co23] 26 (0, 0)) (by (with_reducible repeat (first | refine blk_drewN ?_ _ | refine blk_drew ?_ | refine blk_alloc ?_ _)); refine blk_far ?_ NB692_720.out _; (with_reducible repeat (first | refine blk_drewN ?_ _ | refine blk_drew ?_ | refine blk_alloc ?_ _)); exact BK692.out) hb); have n7_ := aM (blk_below (g := gb696) (o := .cells #[.slice Ao29 t708.length co29] 26 (0, 0)) (by (with_reducible repeat (first | refine blk_drewN ?_ _ | refine blk_drew ?_ | refine blk_alloc ?_ _)); refine blk_far ?_ NB696_720.out _; (with_reducible repeat (first | refine blk_drewN ?_ _ | refine blk_drew ?_ | refine blk_alloc ?_ _)); exact BK696.out) hb); have n8_ := aM (blk_below (g := gb701) (o := .cells #[.slice Ao35 t697.length co35] 26 (0, 0)) (by (with_reducible repeat (first | refine blk_drewN ?_ _ | refine blk_drew ?_ | refine blk_alloc ?_ _)); refine blk_far ?_ NB701_720.out _; (with_reducible repeat (first | refine blk_drewN ?_ _ | refine blk_drew ?_ | refine blk_alloc ?_ _)); exact BK701.out) hb); have n9_ := aM (blk_below (g := gb720) (o := .cells #[.slice Ao121 t716.length co121] 26 (0, 0)) (by (with_reducible repeat (first | refine blk_drewN ?_ _ | refine blk_drew ?_ | refine blk_alloc ?_ _)); refine blk_put (cs := #[.slice none 0 0]) ?_ 0 _ rfl; (with_reducible repeat (first | refine blk_drewN ?_ _ | refine blk_drew ?_ | refine blk_alloc ?_ _)); exact BK720.out) hb); have n10_ := aM (below_step (by repeat (first | (with_reducible first | exact HB.out | apply below_alloc | apply pw_below_drewN | apply below_drew1 | refine below_set ?_ GE683.out | refine below_set ?_ GE692.out | refine below_set ?_ GE696.out | refine below_set ?_ GE701.out | refine below_set ?_ GE720.out) | exact HB.out)) hb); clear HO_693000; clear HO_697000; clear HO_702000; clear HO715; clear HO718; clear BK683; clear BK692; clear BK696; clear BK701; clear BK720; clear HB; have HO_693000 := n0_; have HO_697000 := n1_; have HO_702000 := n2_; have HO715 := n3_; have HO718 := n4_; have BK683 := n5_; have BK692 := n6_; have BK696 := n7_; have BK701 := n8_; have BK720 := n9_; have HB := n10_; clear n0_ n1_ n2_ n3_ n4_ n5_ n6_ n7_ n8_ n9_ n10_; (try clear hb); (try clear hb2); (try clear hk); (try clear hi)))
              go_meet
              case rel => exact ⟨_, (true), (by first | rfl | (simp; done) | (simp [*]; done)), H', ⟨by have := HJ13.out; have := HJ62.out; first | omega | exact Nat.le_refl _⟩, ⟨by (try simp only [hl697000_62]); (with_reducible repeat (first | apply Kd.R_alloc | apply Kd.R_drewN | apply Kd.R_drew)); exact Kd.R_mono HO_693000.out (fun _ hk => ⟨hk.1.1.1, ⟨hk.1.1.2, hk.2⟩⟩)⟩, ⟨by (try simp only [hl697000_62]); (with_reducible repeat (first | apply Kd.R_alloc | apply Kd.R_drewN | apply Kd.R_drew)); exact Kd.R_mono HO_697000.out (fun _ hk => ⟨hk.1.1.1, ⟨hk.1.1.2, hk.2⟩⟩)⟩, ⟨by (try simp only [hl697000_62]); (with_reducible repeat (first | apply Kd.R_alloc | apply Kd.R_drewN | apply Kd.R_drew)); exact Kd.R_mono HO_702000.out (fun _ hk => ⟨hk.1.1.1, ⟨hk.1.1.2, hk.2⟩⟩)⟩, ⟨by (try simp only [hl697000_62]); (with_reducible repeat (first | apply Kd.R_alloc | apply Kd.R_drewN | apply Kd.R_drew)); exact Kd.R_mono HO718.out (fun _ hk => ⟨hk.1.1.1.2, ⟨hk.1.1.2, hk.1.2⟩⟩)⟩, ⟨by (try simp only [hl697000_62]); (with_reducible repeat (first | refine blk_drewN ?_ _ | refine blk_drew ?_ | refine blk_alloc ?_ _)); exact BK683.out⟩, ⟨by (try simp only [hl697000_62]); (with_reducible repeat (first | refine blk_drewN ?_ _ | refine blk_drew ?_ | refine blk_alloc ?_ _)); exact BK692.out⟩, ⟨by (try simp only [hl697000_62]); (with_reducible repeat (first | refine blk_drewN ?_ _ | refine blk_drew ?_ | refine blk_alloc ?_ _)); exact BK696.out⟩, ⟨by (try simp only [hl697000_62]); (with_reducible repeat (first | refine blk_drewN ?_ _ | refine blk_drew ?_ | refine blk_alloc ?_ _)); exact BK701.out⟩, ⟨by (try simp only [hl697000_62]); (with_reducible repeat (first | refine blk_drewN ?_ _ | refine blk_drew ?_ | refine blk_alloc ?_ _)); exact BK720.out⟩, ⟨by repeat (first | (with_reducible first | exact HB.out | apply below_alloc | apply pw_below_drewN | apply below_drew1 | refine below_set ?_ GE683.out | refine below_set ?_ GE692.out | refine below_set ?_ GE696.out | refine below_set ?_ GE701.out | refine below_set ?_ GE720.out) | exact HB.out)⟩⟩
            case rest =>
             clear HC106
             try clear c1
             try clear c2
             try clear p2
             try clear c3
             try clear c3b0
             try clear c3b1
             try clear c4
             try clear c5
             try clear c6
             try clear c6b0
             try clear c7
             try clear c8
             try clear c9
             try clear c10
             try clear c11
             try clear c12
             try clear c13
             try clear c14
             try clear c15
             try clear c18
             try clear c19
             try clear c20
             try clear c22
             try clear c24
             try clear c30
             try clear c31
             try clear c32
             try clear c36
             try clear c37
             try clear c38
             try clear c41
             try clear c42
             try clear c43
             try clear c44
             try clear c46
             try clear c47
             try clear c50
             try clear c51
             try clear c52
             try clear c54
             try clear c55
             try clear c58
             try clear c61
             try clear c68
             try clear c69
             try clear c70
             try clear c73
             try clear c73b0
             try clear c75
             try clear c76
             try clear c77
             try clear c78
             try clear c80
             try clear c81
             try clear c84
             try clear c85
             try clear c86
             try clear c88
             try clear c89
             try clear c92
             try clear c95
             try clear c95b0
             try clear c96
             try clear c97
             try clear c98
             try clear c103
             try clear c103b0
             try clear c103b1
             try clear c107
             try clear c108
             try clear c109
             try clear c114
             try clear c115
             try clear c122
             try clear c123
             try clear c124
             try clear c125
             try clear c128
             try clear c129
             try clear c130
             try clear c131
             try clear c132
             try clear c134
             try clear c135
             try clear c136
             try clear c139
             try clear c140
             try clear c141
             try clear c142
             try clear c144
             try clear c145
             try clear c146
             try clear hcz101_0
             try clear hcz110_0
             try clear hcz112_0
             try clear hcz116_0
             try clear hcz126_0
             try clear hcz133_0
             try clear hcz137_0
             try clear hcz143_0
             try clear hcz147_0
             try clear hcz16_0
             try clear hcz18_0
             try clear hcz25_0
             try clear hcz26_0
             try clear hcz32_0
             try clear hcz39_0
             try clear hcz45_0
             try clear hcz48_0
             try clear hcz53_0
             try clear hcz56_0
             try clear hcz71_0
             try clear hcz79_0
             try clear hcz82_0
             try clear hcz87_0
             try clear hcz8_0
             try clear hcz90_0
             try clear hcz99_0
             try clear hfz101_0
             try clear hfz110_0
             try clear hfz112_0
             try clear hfz116_0
             try clear hfz126_0
             try clear hfz133_0
             try clear hfz137_0
             try clear hfz143_0
             try clear hfz147_0
             try clear hfz16_0
             try clear hfz18_0
             try clear hfz25_0
             try clear hfz26_0
             try clear hfz32_0
             try clear hfz39_0
             try clear hfz45_0
             try clear hfz48_0
             try clear hfz53_0
             try clear hfz56_0
             try clear hfz71_0
             try clear hfz79_0
             try clear hfz82_0
             try clear hfz87_0
             try clear hfz8_0
             try clear hfz90_0
             try clear hfz99_0
             try clear p2
             obtain ⟨kq, x95_105, rfl, HA, HJ105, HO_693000, HO_697000, HO_702000, HO_721000, BK683, BK692, BK696, BK701, BK720, HB⟩ := hcut
             have hl702000_105 := (Kd.R_reads' HO_702000.out).1
             rw [hl702000_105] at HO_702000
             (try simp only [hl702000_105])
             (try simp only [hl702000_105] at BK683)
             (try simp only [hl702000_105] at BK692)
             (try simp only [hl702000_105] at BK696)
             (try simp only [hl702000_105] at BK701)
             (try simp only [hl702000_105] at BK720)
             (try simp only [hl702000_105] at HO_693000)
             (try simp only [hl702000_105] at HO_697000)
             (try simp only [hl702000_105] at HO_721000)
             cases kq with
             | zero => exact absurd HA.out (by simp [laws_FnExactPutName.j2])
             | succ kj105 =>
              have H := HA.out
              clear HA
              simp only [laws_FnExactPutName.j2] at H
              by_cases c149 : x95_105 = true
              ·
               subst c149
               have H1 : (some false) = some r := by rw [if_pos rfl] at H; exact H
               clear H
               have H := H1
               clear H1
               obtain rfl := Option.some.inj H
               go_wp2
               go_ret
               exact ⟨by first | rfl | (simp [errW_none, errW_some] <;> rfl) | (simp [*, errW_none, errW_some] <;> rfl), by repeat (first | (with_reducible first | exact HB.out | apply below_alloc | apply pw_below_drewN | apply below_drew1 | refine below_set ?_ GE683.out | refine below_set ?_ GE692.out | refine below_set ?_ GE696.out | refine below_set ?_ GE701.out | refine below_set ?_ GE720.out) | exact HB.out)⟩
              ·
               replace c149 := Bool.eq_false_iff.mpr c149
               subst c149
               have H1 : ((laws_heldRadix.f kj105 t711 1).bind fun t722 => (if t722 < 0 then (some false) else (if t722 = t710 then (some true) else (some false)))) = some r := by rw [if_neg (show ¬ (false = true) by decide)] at H; exact H
               clear H
               have H := H1
               clear H1
               replace H := Option.bind_eq_some_iff.mp H
               obtain ⟨t722, A1500, H⟩ := H
               replace H : (if t722 < 0 then (some false) else (if t722 = t710 then (some true) else (some false))) = some r := H
               have A150 := aM A1500
               clear A1500
               by_cases c151 : t722 < 0
               ·
                rw [if_pos c151] at H
                have c151b0 : decide (t722 < 0) = true := decide_eq_true c151
                clear c151
                obtain rfl := Option.some.inj H
                have hnb152 := NB701_683.out
                have hnc152 := NB683_701.out
                have hnb153 := NB701_692.out
                have hnc153 := NB692_701.out
                have hnb154 := NB701_696.out
                have hnc154 := NB696_701.out
                have hnb155 := NB701_720.out
                have hnc155 := NB720_701.out
                have hcz156_0 : wc.cell? ⟨gb701, 0, none⟩ = some (.slice Ao35 t711.length co35) := (blk_cell BK701.out 0).trans rfl
                have hfz156_0 := blk_frozen BK701.out 0
                go_wp2_with (first | ((with_reducible refine gate_callee (f := 19) rfl ?_); refine goesL_ (some 98) rfl rfl Try.func19 (by kernel_rfl) rfl #[.agg #[.slice Ao35 t711.length co35], .int .i64 1] rfl (by (try simp only [List.map_toArray, List.map_cons, List.map_nil]); first | done | rfl | (simp only [List.length_drop, List.length_take]; rfl)) ?_; (with_reducible refine (laws_heldRadix.calls kj105 _ _ t711 1 t722 _ ?side1 ?side2 A150.out).mono ?_); (case side1 => repeat (first | exact (Kd.R_reads' HO_702000.out).2.2 | (with_reducible refine Kd.C_alloc ?_ _) | (with_reducible refine Kd.C_drewN ?_ _) | (with_reducible refine Kd.C_drew ?_))); (case side2 => exact (Kd.R_reads' HO_702000.out).2.1); rintro e w157 ⟨rfl, hb⟩; refine ⟨_, rfl, ?_⟩; have n0_ := aM (Kd.R_below (by (with_reducible repeat (first | apply Kd.R_alloc | apply Kd.R_drewN | apply Kd.R_drew)); exact HO_693000.out) hb); have n1_ := aM (Kd.R_below (by (with_reducible repeat (first | apply Kd.R_alloc | apply Kd.R_drewN | apply Kd.R_drew)); exact HO_697000.out) hb); have n2_ := aM (Kd.R_below (by (with_reducible repeat (first | apply Kd.R_alloc | apply Kd.R_drewN | apply Kd.R_drew)); exact HO_702000.out) hb); have n3_ := aM (Kd.R_below (by (with_reducible repeat (first | apply Kd.R_alloc | apply Kd.R_drewN | apply Kd.R_drew)); exact HO_721000.out) hb); have n4_ := aM (blk_below (g := gb683) (o := .cells #[.slice A0_0 l0_0.length c0_0] 36 (0, 0)) (by (with_reducible repeat (first | refine blk_drewN ?_ _ | refine blk_drew ?_ | refine blk_alloc ?_ _)); exact BK683.out) hb); have n5_ := aM (blk_below (g := gb692) (o := .cells #[.slice Ao23 t688.length co23] 26 (0, 0)) (by (with_reducible repeat (first | refine blk_drewN ?_ _ | refine blk_drew ?_ | refine blk_alloc ?_ _)); exact BK692.out) hb); have n6_ := aM (blk_below (g := gb696) (o := .cells #[.slice Ao29 t708.length co29] 26 (0, 0)) (by (with_reducible repeat (first | refine blk_drewN ?_ _ | refine blk_drew ?_ | refine blk_alloc ?_ _)); exact BK696.out) hb); have n7_ := aM (blk_below (g := gb701) (o := .cells #[.slice Ao35 t711.length co35] 26 (0, 0)) (by (with_reducible repeat (first | refine blk_drewN ?_ _ | refine blk_drew ?_ | refine blk_alloc ?_ _)); exact BK701.out) hb); have n8_ := aM (blk_below (g := gb720) (o := .cells #[.slice Ao121 t716.length co121] 26 (0, 0)) (by (with_reducible repeat (first | refine blk_drewN ?_ _ | refine blk_drew ?_ | refine blk_alloc ?_ _)); exact BK720.out) hb); have n9_ := aM (below_step (by repeat (first | (with_reducible first | exact HB.out | apply below_alloc | apply pw_below_drewN | apply below_drew1 | refine below_set ?_ GE683.out | refine below_set ?_ GE692.out | refine below_set ?_ GE696.out | refine below_set ?_ GE701.out | refine below_set ?_ GE720.out) | exact HB.out)) hb); clear HO_693000; clear HO_697000; clear HO_702000; clear HO_721000; clear BK683; clear BK692; clear BK696; clear BK701; clear BK720; clear HB; have HO_693000 := n0_; have HO_697000 := n1_; have HO_702000 := n2_; have HO_721000 := n3_; have BK683 := n4_; have BK692 := n5_; have BK696 := n6_; have BK701 := n7_; have BK720 := n8_; have HB := n9_; clear n0_ n1_ n2_ n3_ n4_ n5_ n6_ n7_ n8_ n9_; (try clear hb); (try clear hb2); (try clear hk); (try clear hi)))
                go_ret
                exact ⟨by first | rfl | (simp [errW_none, errW_some] <;> rfl) | (simp [*, errW_none, errW_some] <;> rfl), by repeat (first | (with_reducible first | exact HB.out | apply below_alloc | apply pw_below_drewN | apply below_drew1 | refine below_set ?_ GE683.out | refine below_set ?_ GE692.out | refine below_set ?_ GE696.out | refine below_set ?_ GE701.out | refine below_set ?_ GE720.out) | exact HB.out)⟩
               ·
                rw [if_neg c151] at H
                have c151b0 : decide (t722 < 0) = false := decide_eq_false c151
                clear c151
                by_cases c158 : t722 = t710
                ·
                 rw [if_pos c158] at H
                 have c158b0 : (t722 == t710) = true := beq_iff_eq.mpr c158
                 have c158b1 : (t722 != t710) = false := bne_eq_false_iff_eq.mpr c158
                 clear c158
                 obtain rfl := Option.some.inj H
                 have hnb159 := NB701_683.out
                 have hnc159 := NB683_701.out
                 have hnb160 := NB701_692.out
                 have hnc160 := NB692_701.out
                 have hnb161 := NB701_696.out
                 have hnc161 := NB696_701.out
                 have hnb162 := NB701_720.out
                 have hnc162 := NB720_701.out
                 have hcz163_0 : wc.cell? ⟨gb701, 0, none⟩ = some (.slice Ao35 t711.length co35) := (blk_cell BK701.out 0).trans rfl
                 have hfz163_0 := blk_frozen BK701.out 0
                 go_wp2_with (first | ((with_reducible refine gate_callee (f := 19) rfl ?_); refine goesL_ (some 98) rfl rfl Try.func19 (by kernel_rfl) rfl #[.agg #[.slice Ao35 t711.length co35], .int .i64 1] rfl (by (try simp only [List.map_toArray, List.map_cons, List.map_nil]); first | done | rfl | (simp only [List.length_drop, List.length_take]; rfl)) ?_; (with_reducible refine (laws_heldRadix.calls kj105 _ _ t711 1 t722 _ ?side1 ?side2 A150.out).mono ?_); (case side1 => repeat (first | exact (Kd.R_reads' HO_702000.out).2.2 | (with_reducible refine Kd.C_alloc ?_ _) | (with_reducible refine Kd.C_drewN ?_ _) | (with_reducible refine Kd.C_drew ?_))); (case side2 => exact (Kd.R_reads' HO_702000.out).2.1); rintro e w164 ⟨rfl, hb⟩; refine ⟨_, rfl, ?_⟩; have n0_ := aM (Kd.R_below (by (with_reducible repeat (first | apply Kd.R_alloc | apply Kd.R_drewN | apply Kd.R_drew)); exact HO_693000.out) hb); have n1_ := aM (Kd.R_below (by (with_reducible repeat (first | apply Kd.R_alloc | apply Kd.R_drewN | apply Kd.R_drew)); exact HO_697000.out) hb); have n2_ := aM (Kd.R_below (by (with_reducible repeat (first | apply Kd.R_alloc | apply Kd.R_drewN | apply Kd.R_drew)); exact HO_702000.out) hb); have n3_ := aM (Kd.R_below (by (with_reducible repeat (first | apply Kd.R_alloc | apply Kd.R_drewN | apply Kd.R_drew)); exact HO_721000.out) hb); have n4_ := aM (blk_below (g := gb683) (o := .cells #[.slice A0_0 l0_0.length c0_0] 36 (0, 0)) (by (with_reducible repeat (first | refine blk_drewN ?_ _ | refine blk_drew ?_ | refine blk_alloc ?_ _)); exact BK683.out) hb); have n5_ := aM (blk_below (g := gb692) (o := .cells #[.slice Ao23 t688.length co23] 26 (0, 0)) (by (with_reducible repeat (first | refine blk_drewN ?_ _ | refine blk_drew ?_ | refine blk_alloc ?_ _)); exact BK692.out) hb); have n6_ := aM (blk_below (g := gb696) (o := .cells #[.slice Ao29 t708.length co29] 26 (0, 0)) (by (with_reducible repeat (first | refine blk_drewN ?_ _ | refine blk_drew ?_ | refine blk_alloc ?_ _)); exact BK696.out) hb); have n7_ := aM (blk_below (g := gb701) (o := .cells #[.slice Ao35 t711.length co35] 26 (0, 0)) (by (with_reducible repeat (first | refine blk_drewN ?_ _ | refine blk_drew ?_ | refine blk_alloc ?_ _)); exact BK701.out) hb); have n8_ := aM (blk_below (g := gb720) (o := .cells #[.slice Ao121 t716.length co121] 26 (0, 0)) (by (with_reducible repeat (first | refine blk_drewN ?_ _ | refine blk_drew ?_ | refine blk_alloc ?_ _)); exact BK720.out) hb); have n9_ := aM (below_step (by repeat (first | (with_reducible first | exact HB.out | apply below_alloc | apply pw_below_drewN | apply below_drew1 | refine below_set ?_ GE683.out | refine below_set ?_ GE692.out | refine below_set ?_ GE696.out | refine below_set ?_ GE701.out | refine below_set ?_ GE720.out) | exact HB.out)) hb); clear HO_693000; clear HO_697000; clear HO_702000; clear HO_721000; clear BK683; clear BK692; clear BK696; clear BK701; clear BK720; clear HB; have HO_693000 := n0_; have HO_697000 := n1_; have HO_702000 := n2_; have HO_721000 := n3_; have BK683 := n4_; have BK692 := n5_; have BK696 := n6_; have BK701 := n7_; have BK720 := n8_; have HB := n9_; clear n0_ n1_ n2_ n3_ n4_ n5_ n6_ n7_ n8_ n9_; (try clear hb); (try clear hb2); (try clear hk); (try clear hi)))
                 go_ret
                 exact ⟨by first | rfl | (simp [errW_none, errW_some] <;> rfl) | (simp [*, errW_none, errW_some] <;> rfl), by repeat (first | (with_reducible first | exact HB.out | apply below_alloc | apply pw_below_drewN | apply below_drew1 | refine below_set ?_ GE683.out | refine below_set ?_ GE692.out | refine below_set ?_ GE696.out | refine below_set ?_ GE701.out | refine below_set ?_ GE720.out) | exact HB.out)⟩
                ·
                 rw [if_neg c158] at H
                 have c158b0 : (t722 == t710) = false := beq_eq_false_iff_ne.mpr c158
                 have c158b1 : (t722 != t710) = true := bne_iff_ne.mpr c158
                 obtain rfl := Option.some.inj H
                 have hnb165 := NB701_683.out
                 have hnc165 := NB683_701.out
                 have hnb166 := NB701_692.out
                 have hnc166 := NB692_701.out
                 have hnb167 := NB701_696.out
                 have hnc167 := NB696_701.out
                 have hnb168 := NB701_720.out
                 have hnc168 := NB720_701.out
                 have hcz169_0 : wc.cell? ⟨gb701, 0, none⟩ = some (.slice Ao35 t711.length co35) := (blk_cell BK701.out 0).trans rfl
                 have hfz169_0 := blk_frozen BK701.out 0
                 go_wp2_with (first | ((with_reducible refine gate_callee (f := 19) rfl ?_); refine goesL_ (some 98) rfl rfl Try.func19 (by kernel_rfl) rfl #[.agg #[.slice Ao35 t711.length co35], .int .i64 1] rfl (by (try simp only [List.map_toArray, List.map_cons, List.map_nil]); first | done | rfl | (simp only [List.length_drop, List.length_take]; rfl)) ?_; (with_reducible refine (laws_heldRadix.calls kj105 _ _ t711 1 t722 _ ?side1 ?side2 A150.out).mono ?_); (case side1 => repeat (first | exact (Kd.R_reads' HO_702000.out).2.2 | (with_reducible refine Kd.C_alloc ?_ _) | (with_reducible refine Kd.C_drewN ?_ _) | (with_reducible refine Kd.C_drew ?_))); (case side2 => exact (Kd.R_reads' HO_702000.out).2.1); rintro e w170 ⟨rfl, hb⟩; refine ⟨_, rfl, ?_⟩; have n0_ := aM (Kd.R_below (by (with_reducible repeat (first | apply Kd.R_alloc | apply Kd.R_drewN | apply Kd.R_drew)); exact HO_693000.out) hb); have n1_ := aM (Kd.R_below (by (with_reducible repeat (first | apply Kd.R_alloc | apply Kd.R_drewN | apply Kd.R_drew)); exact HO_697000.out) hb); have n2_ := aM (Kd.R_below (by (with_reducible repeat (first | apply Kd.R_alloc | apply Kd.R_drewN | apply Kd.R_drew)); exact HO_702000.out) hb); have n3_ := aM (Kd.R_below (by (with_reducible repeat (first | apply Kd.R_alloc | apply Kd.R_drewN | apply Kd.R_drew)); exact HO_721000.out) hb); have n4_ := aM (blk_below (g := gb683) (o := .cells #[.slice A0_0 l0_0.length c0_0] 36 (0, 0)) (by (with_reducible repeat (first | refine blk_drewN ?_ _ | refine blk_drew ?_ | refine blk_alloc ?_ _)); exact BK683.out) hb); have n5_ := aM (blk_below (g := gb692) (o := .cells #[.slice Ao23 t688.length co23] 26 (0, 0)) (by (with_reducible repeat (first | refine blk_drewN ?_ _ | refine blk_drew ?_ | refine blk_alloc ?_ _)); exact BK692.out) hb); have n6_ := aM (blk_below (g := gb696) (o := .cells #[.slice Ao29 t708.length co29] 26 (0, 0)) (by (with_reducible repeat (first | refine blk_drewN ?_ _ | refine blk_drew ?_ | refine blk_alloc ?_ _)); exact BK696.out) hb); have n7_ := aM (blk_below (g := gb701) (o := .cells #[.slice Ao35 t711.length co35] 26 (0, 0)) (by (with_reducible repeat (first | refine blk_drewN ?_ _ | refine blk_drew ?_ | refine blk_alloc ?_ _)); exact BK701.out) hb); have n8_ := aM (blk_below (g := gb720) (o := .cells #[.slice Ao121 t716.length co121] 26 (0, 0)) (by (with_reducible repeat (first | refine blk_drewN ?_ _ | refine blk_drew ?_ | refine blk_alloc ?_ _)); exact BK720.out) hb); have n9_ := aM (below_step (by repeat (first | (with_reducible first | exact HB.out | apply below_alloc | apply pw_below_drewN | apply below_drew1 | refine below_set ?_ GE683.out | refine below_set ?_ GE692.out | refine below_set ?_ GE696.out | refine below_set ?_ GE701.out | refine below_set ?_ GE720.out) | exact HB.out)) hb); clear HO_693000; clear HO_697000; clear HO_702000; clear HO_721000; clear BK683; clear BK692; clear BK696; clear BK701; clear BK720; clear HB; have HO_693000 := n0_; have HO_697000 := n1_; have HO_702000 := n2_; have HO_721000 := n3_; have BK683 := n4_; have BK692 := n5_; have BK696 := n6_; have BK701 := n7_; have BK720 := n8_; have HB := n9_; clear n0_ n1_ n2_ n3_ n4_ n5_ n6_ n7_ n8_ n9_; (try clear hb); (try clear hb2); (try clear hk); (try clear hi)))
                 go_ret
                 exact ⟨by first | rfl | (simp [errW_none, errW_some] <;> rfl) | (simp [*, errW_none, errW_some] <;> rfl), by repeat (first | (with_reducible first | exact HB.out | apply below_alloc | apply pw_below_drewN | apply below_drew1 | refine below_set ?_ GE683.out | refine below_set ?_ GE692.out | refine below_set ?_ GE696.out | refine below_set ?_ GE701.out | refine below_set ?_ GE720.out) | exact HB.out)⟩
           ·
            rw [if_neg c103] at H
            have c103b0 : (t712 == t710) = false := beq_eq_false_iff_ne.mpr c103
            have c103b1 : (t712 != t710) = true := bne_iff_ne.mpr c103
            obtain rfl := Option.some.inj H
            have hnb171 := NB701_683.out
            have hnc171 := NB683_701.out
            have hnb172 := NB701_692.out
            have hnc172 := NB692_701.out
            have hnb173 := NB701_696.out
            have hnc173 := NB696_701.out
            have hcz174_0 : wc.cell? ⟨gb701, 0, none⟩ = some (.slice Ao35 t697.length co35) := (blk_cell BK701.out 0).trans rfl
            have hfz174_0 := blk_frozen BK701.out 0
            go_wp2_with (first | ((with_reducible refine gate_callee (f := 18) rfl ?_); refine goesL_ (some 71) rfl rfl Try.func18 (by kernel_rfl) rfl #[.agg #[.slice Ao35 t697.length co35], .int .i64 1] rfl (by (try simp only [List.map_toArray, List.map_cons, List.map_nil]); first | done | rfl | (simp only [List.length_drop, List.length_take]; rfl)) ?_; (with_reducible refine (laws_markRadix.calls kj62 (fun k_ => some k_ = (.slice Ao35 t697.length co35 : Value).ownBlock) (.slice Ao35 t697.length co35) t697 1 t710 t711 w _ ?side1 ?side2 A93.out).mono ?_); (case side1 => repeat (first | (with_reducible first | exact HB.out | apply below_alloc | apply pw_below_drewN | apply below_drew1 | refine below_set ?_ GE683.out | refine below_set ?_ GE692.out | refine below_set ?_ GE696.out | refine below_set ?_ GE701.out) | exact HB.out)); (case side2 => exact Kd.R_tight rfl HO_702000.out); rintro e w175 ⟨rfl, hy0, hb, hkp⟩; refine ⟨_, rfl, ?_⟩; have n0_ := aM (Kd.R_mono (ok' := fun k_ => some k_ ≠ (.slice Ao29 t708.length co29 : Value).ownBlock ∧ some k_ ≠ (.slice Ao35 t697.length co35 : Value).ownBlock) (Kd.R_keptB (HO_693000.out) hkp (fun k_ hk_ hs_ => (hk_.2) hs_)) (fun k_ hk_ => ⟨hk_.1.1, hk_.1.2⟩)); have n1_ := aM (Kd.R_mono (ok' := fun k_ => some k_ ≠ (.slice Ao23 t688.length co23 : Value).ownBlock ∧ some k_ ≠ (.slice Ao35 t697.length co35 : Value).ownBlock) (Kd.R_keptB (HO_697000.out) hkp (fun k_ hk_ hs_ => (hk_.2) hs_)) (fun k_ hk_ => ⟨hk_.1.1, hk_.1.2⟩)); have n2_ := aM (Kd.R_reok rfl hy0 (fun k_ e_ => HO_702000.out.1 k_ e_)); have n3_ := aM (blk_kept (by (with_reducible repeat (first | refine blk_drewN ?_ _ | refine blk_drew ?_ | refine blk_alloc ?_ _)); exact BK683.out) hkp (fun hs_ => (fun e_ => (Kd.R_ne HO_702000.out BK683.out (by decide)) e_) hs_)); have n4_ := aM (blk_kept (by (with_reducible repeat (first | refine blk_drewN ?_ _ | refine blk_drew ?_ | refine blk_alloc ?_ _)); exact BK692.out) hkp (fun hs_ => (fun e_ => (Kd.R_ne HO_702000.out BK692.out (by decide)) e_) hs_)); have n5_ := aM (blk_kept (by (with_reducible repeat (first | refine blk_drewN ?_ _ | refine blk_drew ?_ | refine blk_alloc ?_ _)); exact BK696.out) hkp (fun hs_ => (fun e_ => (Kd.R_ne HO_702000.out BK696.out (by decide)) e_) hs_)); have n6_ := aM (blk_kept (by (with_reducible repeat (first | refine blk_drewN ?_ _ | refine blk_drew ?_ | refine blk_alloc ?_ _)); exact BK701.out) hkp (fun hs_ => (fun e_ => (Kd.R_ne HO_702000.out BK701.out (by decide)) e_) hs_)); have n7_ := aM (hb); clear HO_693000; clear HO_697000; clear HO_702000; clear BK683; clear BK692; clear BK696; clear BK701; clear HB; have HO_693000 := n0_; have HO_697000 := n1_; have HO_702000 := n2_; have BK683 := n3_; have BK692 := n4_; have BK696 := n5_; have BK701 := n6_; have HB := n7_; clear n0_ n1_ n2_ n3_ n4_ n5_ n6_ n7_; (try clear hb); (try clear hkp); (try clear hy0); have hcz176_0 : w175.cell? ⟨gb701, 0, none⟩ = some (.slice Ao35 t697.length co35) := (blk_cell BK701.out 0).trans rfl; have hfz176_0 := blk_frozen BK701.out 0) | ((with_reducible refine gate_callee (f := 19) rfl ?_); refine goesL_ (some 74) rfl rfl Try.func19 (by kernel_rfl) rfl #[.agg #[.slice Ao35 t711.length co35], .int .i64 1] rfl (by (try simp only [List.map_toArray, List.map_cons, List.map_nil]); first | done | (rw [show t711.length = t697.length from (Kd.R_reads' HO_702000.out).1.symm] <;> rfl) | rfl | (simp only [List.length_drop, List.length_take]; rfl)) ?_; (with_reducible refine (laws_heldRadix.calls kj62 _ _ t711 1 t712 _ ?side1 ?side2 A94.out).mono ?_); (case side1 => repeat (first | exact (Kd.R_reads' HO_702000.out).2.2 | (with_reducible refine Kd.C_alloc ?_ _) | (with_reducible refine Kd.C_drewN ?_ _) | (with_reducible refine Kd.C_drew ?_))); (case side2 => rw [show t711.length = t697.length from (Kd.R_reads' HO_702000.out).1.symm]; exact (Kd.R_reads' HO_702000.out).2.1); rintro e w177 ⟨rfl, hb⟩; refine ⟨_, rfl, ?_⟩; have n0_ := aM (Kd.R_below (by (with_reducible repeat (first | apply Kd.R_alloc | apply Kd.R_drewN | apply Kd.R_drew)); exact HO_693000.out) hb); have n1_ := aM (Kd.R_below (by (with_reducible repeat (first | apply Kd.R_alloc | apply Kd.R_drewN | apply Kd.R_drew)); exact HO_697000.out) hb); have n2_ := aM (Kd.R_below (by (with_reducible repeat (first | apply Kd.R_alloc | apply Kd.R_drewN | apply Kd.R_drew)); exact HO_702000.out) hb); have n3_ := aM (blk_below (g := gb683) (o := .cells #[.slice A0_0 l0_0.length c0_0] 36 (0, 0)) (by (with_reducible repeat (first | refine blk_drewN ?_ _ | refine blk_drew ?_ | refine blk_alloc ?_ _)); exact BK683.out) hb); have n4_ := aM (blk_below (g := gb692) (o := .cells #[.slice Ao23 t688.length co23] 26 (0, 0)) (by (with_reducible repeat (first | refine blk_drewN ?_ _ | refine blk_drew ?_ | refine blk_alloc ?_ _)); exact BK692.out) hb); have n5_ := aM (blk_below (g := gb696) (o := .cells #[.slice Ao29 t708.length co29] 26 (0, 0)) (by (with_reducible repeat (first | refine blk_drewN ?_ _ | refine blk_drew ?_ | refine blk_alloc ?_ _)); exact BK696.out) hb); have n6_ := aM (blk_below (g := gb701) (o := .cells #[.slice Ao35 t697.length co35] 26 (0, 0)) (by (with_reducible repeat (first | refine blk_drewN ?_ _ | refine blk_drew ?_ | refine blk_alloc ?_ _)); exact BK701.out) hb); have n7_ := aM (below_step (by repeat (first | (with_reducible first | exact HB.out | apply below_alloc | apply pw_below_drewN | apply below_drew1 | refine below_set ?_ GE683.out | refine below_set ?_ GE692.out | refine below_set ?_ GE696.out | refine below_set ?_ GE701.out) | exact HB.out)) hb); clear HO_693000; clear HO_697000; clear HO_702000; clear BK683; clear BK692; clear BK696; clear BK701; clear HB; have HO_693000 := n0_; have HO_697000 := n1_; have HO_702000 := n2_; have BK683 := n3_; have BK692 := n4_; have BK696 := n5_; have BK701 := n6_; have HB := n7_; clear n0_ n1_ n2_ n3_ n4_ n5_ n6_ n7_; (try clear hb); (try clear hb2); (try clear hk); (try clear hi)))
            go_ret
            exact ⟨by first | rfl | (simp [errW_none, errW_some] <;> rfl) | (simp [*, errW_none, errW_some] <;> rfl), by repeat (first | (with_reducible first | exact HB.out | apply below_alloc | apply pw_below_drewN | apply below_drew1 | refine below_set ?_ GE683.out | refine below_set ?_ GE692.out | refine below_set ?_ GE696.out | refine below_set ?_ GE701.out) | exact HB.out)⟩
      ·
       replace c61 := Bool.eq_false_iff.mpr c61
       subst c61
       have H1 : (some false) = some r := by rw [if_neg (show ¬ (false = true) by decide)] at H; exact H
       clear H
       have H := H1
       clear H1
       obtain rfl := Option.some.inj H
       try go_wp2
       have n0_ := aM (Kd.R_drew HO_693000.out)
       have n1_ := aM (Kd.R_drew HO_697000.out)
       have n2_ := aM (Kd.R_drew HO_702000.out)
       have n3_ := aM (blk_drew BK683.out)
       have n4_ := aM (blk_drew BK692.out)
       have n5_ := aM (blk_drew BK696.out)
       have n6_ := aM (blk_drew BK701.out)
       have n7_ := aM (below_drew1 HB.out)
       clear HO_693000
       clear HO_697000
       clear HO_702000
       clear BK683
       clear BK692
       clear BK696
       clear BK701
       clear HB
       have HO_693000 := n0_
       have HO_697000 := n1_
       have HO_702000 := n2_
       have BK683 := n3_
       have BK692 := n4_
       have BK696 := n5_
       have BK701 := n6_
       have HB := n7_
       clear n0_ n1_ n2_ n3_ n4_ n5_ n6_ n7_
       refine start_ (n := 5) (S := fun w' => w'.cell? ⟨gb696, 0, none⟩ = some (.slice Ao29 t693.length co29) ∧ w'.cell? ⟨gb683, 0, none⟩ = some (.slice A0_0 l0_0.length c0_0)) (ds := []) (bq 5 0) (by kernel_rfl) rfl (by kernel_rfl) ⟨(blk_cell BK696.out 0).trans rfl, (blk_cell BK683.out 0).trans rfl⟩ (fun hHeld => ?_)
       generalize wc.drew = w178 at HO_693000 HO_697000 HO_702000 BK683 BK692 BK696 BK701 HB hHeld ⊢
       refine take_ (i := 0) (N := some 48) (v := ?_) (a' := ?_) (bq 5 1) rfl rfl (by kernel_rfl) (fun _ _ _ h => h) (Or.inl ⟨by rfl, ?_⟩) hHeld ?_ ?_; rotate_left; (rintro w' ⟨s0, s1⟩; go_simp; (with_reducible rfl)); rotate_left; (simp only [Act.put, zSA, zSB, zSC, i64_w, i32_w]; rfl)
       refine take_ (i := 1) (N := some 49) (v := ?_) (a' := ?_) (bq 5 3) rfl rfl (by kernel_rfl) (fun _ _ _ h => h) (Or.inl ⟨by rfl, ?_⟩) hHeld ?_ ?_; rotate_left; (rintro w' ⟨s0, s1⟩; go_simp; (with_reducible rfl)); rotate_left; (simp only [Act.put, zSA, zSB, zSC, i64_w, i32_w]; rfl)
       refine one_ (i := 2) (N := some 50) (bq 5 7) rfl rfl (by kernel_rfl) (by decide) (fun K hK => ?_)
       refine goes_ Try.func22 (by kernel_rfl) rfl #[.agg #[.slice A0_0 l0_0.length c0_0]] (by rfl) rfl rfl (by (try simp only [List.map_toArray, List.map_cons, List.map_nil]); first | done | rfl | (simp only [List.length_drop, List.length_take]; rfl)) ?_
       with_reducible refine (laws_toRadix.calls kj13 _ _ l0_0 t703 _ ?side1 ?side2 A59.out).mono ?_
       (case side1 => repeat (first | exact (Kd.C_below HR0_0.out HB.out) | (with_reducible refine Kd.C_alloc ?_ _) | (with_reducible refine Kd.C_drewN ?_ _) | (with_reducible refine Kd.C_drew ?_)))
       (case side2 => exact HC0_0.out)
       rintro e w179 ⟨v704, rfl, ho0, hb⟩
       refine ⟨_, rfl, ?_⟩
       have n0_ := aM (Kd.R_elder' (by (with_reducible repeat (first | apply Kd.R_alloc | apply Kd.R_drewN | apply Kd.R_drew)); exact HO_693000.out) (Kd.R_base ho0) hb)
       have n1_ := aM (Kd.R_elder' (by (with_reducible repeat (first | apply Kd.R_alloc | apply Kd.R_drewN | apply Kd.R_drew)); exact HO_697000.out) (Kd.R_base ho0) hb)
       have n2_ := aM (Kd.R_elder' (by (with_reducible repeat (first | apply Kd.R_alloc | apply Kd.R_drewN | apply Kd.R_drew)); exact HO_702000.out) (Kd.R_base ho0) hb)
       have n3_ := aM (Kd.R_lower (Kd.R_new' (Kd.R_new' (Kd.R_new' ho0 (Kd.R_lt (by (with_reducible repeat (first | apply Kd.R_alloc | apply Kd.R_drewN | apply Kd.R_drew)); exact HO_693000.out))) (Kd.R_lt (by (with_reducible repeat (first | apply Kd.R_alloc | apply Kd.R_drewN | apply Kd.R_drew)); exact HO_697000.out))) (Kd.R_lt (by (with_reducible repeat (first | apply Kd.R_alloc | apply Kd.R_drewN | apply Kd.R_drew)); exact HO_702000.out))) (below_size (by repeat (first | (with_reducible first | exact HB.out | apply below_alloc | apply pw_below_drewN | apply below_drew1 | refine below_set ?_ GE683.out | refine below_set ?_ GE692.out | refine below_set ?_ GE696.out | refine below_set ?_ GE701.out) | exact HB.out))))
       have n4_ := aM (blk_below (g := gb683) (o := .cells #[.slice A0_0 l0_0.length c0_0] 36 (0, 0)) (by (with_reducible repeat (first | refine blk_drewN ?_ _ | refine blk_drew ?_ | refine blk_alloc ?_ _)); exact BK683.out) hb)
       have n5_ := aM (blk_below (g := gb692) (o := .cells #[.slice Ao23 t688.length co23] 26 (0, 0)) (by (with_reducible repeat (first | refine blk_drewN ?_ _ | refine blk_drew ?_ | refine blk_alloc ?_ _)); exact BK692.out) hb)
       have n6_ := aM (blk_below (g := gb696) (o := .cells #[.slice Ao29 t693.length co29] 26 (0, 0)) (by (with_reducible repeat (first | refine blk_drewN ?_ _ | refine blk_drew ?_ | refine blk_alloc ?_ _)); exact BK696.out) hb)
       have n7_ := aM (blk_below (g := gb701) (o := .cells #[.slice Ao35 t697.length co35] 26 (0, 0)) (by (with_reducible repeat (first | refine blk_drewN ?_ _ | refine blk_drew ?_ | refine blk_alloc ?_ _)); exact BK701.out) hb)
       have n8_ := aM (below_step (by repeat (first | (with_reducible first | exact HB.out | apply below_alloc | apply pw_below_drewN | apply below_drew1 | refine below_set ?_ GE683.out | refine below_set ?_ GE692.out | refine below_set ?_ GE696.out | refine below_set ?_ GE701.out) | exact HB.out)) hb)
       clear HO_693000
       clear HO_697000
       clear HO_702000
       clear BK683
       clear BK692
       clear BK696
       clear BK701
       clear HB
       have HO_693000 := n0_
       have HO_697000 := n1_
       have HO_702000 := n2_
       have HO705 := n3_
       have BK683 := n4_
       have BK692 := n5_
       have BK696 := n6_
       have BK701 := n7_
       have HB := n8_
       clear n0_ n1_ n2_ n3_ n4_ n5_ n6_ n7_ n8_
       (try clear hb)
       (try clear hb2)
       (try clear hk)
       (try clear hi)
       (try clear ho0)
       obtain ⟨Ao180, co180, eo180⟩ := Kd.R_slice HO705.out
       (first | subst eo180 | (injection eo180 with f1_ f2_ f3_; have f4_ := f1_.symm; have f5_ := f3_.symm; clear f1_ f2_ f3_; subst f4_; subst f5_))
       refine hK.out _ _ ⟨(blk_cell BK696.out 0).trans rfl, (blk_cell BK683.out 0).trans rfl⟩ (fun hHeld => ?_)
       clear hK K
       refine norm_ (a' := ?_) ?_ ?_
       rotate_left
       ·
        show Act.put _ (some 50) _ = _
        simp only [Act.put, zSA, zSB, zSC, i64_w, i32_w]
        rfl
       refine one_ (i := 3) (N := some 51) (bq 5 15) rfl rfl (by kernel_rfl) (by decide) (fun K hK => ?_)
       refine goes_ Try.func15 (by kernel_rfl) rfl #[.agg #[.slice Ao29 t693.length co29], .agg #[.slice Ao180 t703.length co180]] (by rfl) rfl rfl (by (try simp only [List.map_toArray, List.map_cons, List.map_nil]); first | done | rfl | (simp only [List.length_drop, List.length_take]; rfl)) ?_
       with_reducible refine (laws_eqRadix.calls kj13 _ _ t693 _ _ t703 false _ ?side1 ?side2 ?side3 ?side4 A60.out).mono ?_
       (case side1 => repeat (first | exact (Kd.R_reads' HO_697000.out).2.2 | (with_reducible refine Kd.C_alloc ?_ _) | (with_reducible refine Kd.C_drewN ?_ _) | (with_reducible refine Kd.C_drew ?_)))
       (case side2 => exact (Kd.R_reads' HO_697000.out).2.1)
       (case side3 => repeat (first | exact (Kd.R_reads' HO705.out).2.2 | (with_reducible refine Kd.C_alloc ?_ _) | (with_reducible refine Kd.C_drewN ?_ _) | (with_reducible refine Kd.C_drew ?_)))
       (case side4 => exact (Kd.R_reads' HO705.out).2.1)
       rintro e w181 ⟨rfl, hb⟩
       refine ⟨_, rfl, ?_⟩
       have n0_ := aM (Kd.R_below (by (with_reducible repeat (first | apply Kd.R_alloc | apply Kd.R_drewN | apply Kd.R_drew)); exact HO_693000.out) hb)
       have n1_ := aM (Kd.R_below (by (with_reducible repeat (first | apply Kd.R_alloc | apply Kd.R_drewN | apply Kd.R_drew)); exact HO_697000.out) hb)
       have n2_ := aM (Kd.R_below (by (with_reducible repeat (first | apply Kd.R_alloc | apply Kd.R_drewN | apply Kd.R_drew)); exact HO_702000.out) hb)
       have n3_ := aM (Kd.R_below (by (with_reducible repeat (first | apply Kd.R_alloc | apply Kd.R_drewN | apply Kd.R_drew)); exact HO705.out) hb)
       have n4_ := aM (blk_below (g := gb683) (o := .cells #[.slice A0_0 l0_0.length c0_0] 36 (0, 0)) (by (with_reducible repeat (first | refine blk_drewN ?_ _ | refine blk_drew ?_ | refine blk_alloc ?_ _)); exact BK683.out) hb)
       have n5_ := aM (blk_below (g := gb692) (o := .cells #[.slice Ao23 t688.length co23] 26 (0, 0)) (by (with_reducible repeat (first | refine blk_drewN ?_ _ | refine blk_drew ?_ | refine blk_alloc ?_ _)); exact BK692.out) hb)
       have n6_ := aM (blk_below (g := gb696) (o := .cells #[.slice Ao29 t693.length co29] 26 (0, 0)) (by (with_reducible repeat (first | refine blk_drewN ?_ _ | refine blk_drew ?_ | refine blk_alloc ?_ _)); exact BK696.out) hb)
       have n7_ := aM (blk_below (g := gb701) (o := .cells #[.slice Ao35 t697.length co35] 26 (0, 0)) (by (with_reducible repeat (first | refine blk_drewN ?_ _ | refine blk_drew ?_ | refine blk_alloc ?_ _)); exact BK701.out) hb)
       have n8_ := aM (below_step (by repeat (first | (with_reducible first | exact HB.out | apply below_alloc | apply pw_below_drewN | apply below_drew1 | refine below_set ?_ GE683.out | refine below_set ?_ GE692.out | refine below_set ?_ GE696.out | refine below_set ?_ GE701.out) | exact HB.out)) hb)
       clear HO_693000
       clear HO_697000
       clear HO_702000
       clear HO705
       clear BK683
       clear BK692
       clear BK696
       clear BK701
       clear HB
       have HO_693000 := n0_
       have HO_697000 := n1_
       have HO_702000 := n2_
       have HO705 := n3_
       have BK683 := n4_
       have BK692 := n5_
       have BK696 := n6_
       have BK701 := n7_
       have HB := n8_
       clear n0_ n1_ n2_ n3_ n4_ n5_ n6_ n7_ n8_
       (try clear hb)
       (try clear hb2)
       (try clear hk)
       (try clear hi)
       refine hK.out _ _ ⟨(blk_cell BK696.out 0).trans rfl, (blk_cell BK683.out 0).trans rfl⟩ (fun hHeld => ?_)
       clear hK K
       refine norm_ (a' := ?_) ?_ ?_
       rotate_left
       ·
        show Act.put _ (some 51) _ = _
        simp only [Act.put, zSA, zSB, zSC, i64_w, i32_w]
        rfl
       refine pure_ (i := 4) (N := some 52) (v := ?_) (a' := ?_) (bq 5 31) rfl rfl (by kernel_rfl) (fun _ _ _ h => h) (Or.inl ⟨by rfl, ?_⟩) ?_ ?_; rotate_left; (intro w'; go_simp; (with_reducible rfl)); rotate_left; (simp only [Act.put, zSA, zSB, zSC, i64_w, i32_w]; rfl)
       refine done_ (by kernel_rfl) ?_
       try go_wp2
       go_ret
       exact ⟨by first | rfl | (simp [errW_none, errW_some] <;> rfl) | (simp [*, errW_none, errW_some] <;> rfl), by repeat (first | (with_reducible first | exact HB.out | apply below_alloc | apply pw_below_drewN | apply below_drew1 | refine below_set ?_ GE683.out | refine below_set ?_ GE692.out | refine below_set ?_ GE696.out | refine below_set ?_ GE701.out) | exact HB.out)⟩

/-- THE ONE PURE STATEMENT of laws_FnExactPutName. -/
def laws_FnExactPutName.Pure : Prop := ∀ (l0_0 : List (S80)) (a1 : ByteArray), (l0_0.length ≤ maxLen ∧ ∀ x_ ∈ l0_0, (x_.f0.size ≤ maxLen ∧ (True ∧ (Lit.int .i64 x_.f2).wf = true))) → a1.size ≤ maxLen → ∃ k, laws_FnExactPutName.f k l0_0 a1 = some true
theorem laws_FnExactPutName.walk (P : laws_FnExactPutName.Pure) (A0_0 : Option Addr) (c0_0 : Nat) (l0_0 : List (S80)) (a1 : ByteArray) (w : World) (hr0_0 : Kd.C k80 w A0_0 l0_0.length l0_0) (hc0_0 : l0_0.length ≤ c0_0) (w0_0 : (l0_0.length ≤ maxLen ∧ ∀ x_ ∈ l0_0, (x_.f0.size ≤ maxLen ∧ (True ∧ (Lit.int .i64 x_.f2).wf = true)))) (w1 : a1.size ≤ maxLen) :
  Calls Try.prog 8 #[.agg #[.slice A0_0 l0_0.length c0_0], .string a1] w fun e w' => e = .returned (.bool true) ∧ Below w.heap.size w w' := by
 obtain ⟨k, h⟩ := P l0_0 a1 w0_0 w1
 refine (laws_FnExactPutName.calls k _ _ l0_0 a1 true w hr0_0 hc0_0 h).mono ?_
 rintro e w' ⟨rfl, hd⟩
 exact ⟨rfl, hd⟩

end Go.Proofs.Ytcngebfcpobnnaa.PQ
end

section
namespace Go.Proofs.Ytcngebfcpobnnaa.Rx
set_option linter.unusedVariables false
set_option linter.unusedSimpArgs false
open Go.RowKit Go.Proofs.Ytcngebfcpobnnaa.PQ Go.Proofs.YtcngebfcpobnnaaW.PrintWords Go.Proofs.YtcngebfcpobnnaaW.PrintLast Go.Proofs.Ytcngebfcpobnnaa.Pre Go.Proofs.Ytcngebfcpobnnaa.CmpL Go.Proofs.Ytcngebfcpobnnaa.Com Go.Proofs.Ytcngebfcpobnnaa.Sml Go.Proofs.Ytcngebfcpobnnaa.SrE
/-- The texts and names behind the first edges. -/
def s0 (r : List Eg) : List ByteArray × List ByteArray := ([⟨#[]⟩], if (r.getD 0 root).f1 = true then [⟨#[]⟩] else [])
def st (r : List Eg) (i : Nat) : List ByteArray × List ByteArray := run ((r.drop 1).take i) (s0 r)
theorem st_succ (r : List Eg) (i : Nat) (h : i + 1 < r.length) : st r (i + 1) = next (st r i) r[i + 1] := by
 unfold st
 have h2 : i < (r.drop 1).length := by rw [List.length_drop]; omega
 rw [List.take_succ_eq_append_getElem h2, run_app]
 have e : (r.drop 1)[i] = r[i + 1] := by rw [List.getElem_drop]; simp only [Nat.add_comm 1]
 rw [e]
 rfl
theorem st_len (r : List Eg) (i : Nat) (h : i < r.length) : (st r i).1.length = i + 1 := by
 unfold st
 rw [run_len, List.length_take, List.length_drop]
 show 1 + _ = _
 omega
theorem st_names (r : List Eg) : ∀ i, i < r.length → (st r i).2.length ≤ i + 1
 | 0, _ => by
  show (if _ then _ else _ : List ByteArray).length ≤ 1
  split <;> simp
 | i + 1, h => by
  have ih := st_names r i (by omega)
  rw [st_succ r i h]
  unfold next
  dsimp only
  split
  ·
   rw [List.length_append, List.length_singleton]
   omega
  ·
   omega
theorem st_sub (r : List Eg) : ∀ i, i < r.length → ∀ n ∈ (st r i).2, n ∈ (st r i).1
 | 0, _, n, hn => by
  have hn : n ∈ (if (r.getD 0 root).f1 = true then [⟨#[]⟩] else [] : List ByteArray) := hn
  split at hn
  ·
   exact hn
  ·
   cases hn
 | i + 1, h, n, hn => by
  have ih := st_sub r i (by omega)
  rw [st_succ r i h] at hn ⊢
  unfold next at hn ⊢
  dsimp only at hn ⊢
  rw [List.mem_append]
  split at hn
  ·
   rcases List.mem_append.1 hn with hn | hn
   ·
    exact .inl (ih n hn)
   ·
    exact .inr hn
  ·
   exact .inl (ih n hn)
/-- What the program asks of an edge. -/
def Chk (r : List Eg) (j : Nat) (e : Eg) : Prop := 0 ≤ e.f2 ∧ e.f2 ≤ (j : Int) - 1 ∧ e.f0.size ≤ 20 ∧ ((st r (j - 1)).1.getD e.f2.toNat ⟨#[]⟩ ++ e.f0).size ≤ 20
theorem within_ev (a b c : Int) : impl_within.f a b c = some (decide (b ≤ a ∧ a ≤ c)) := by
 unfold impl_within.f
 by_cases h : a ≥ b
 ·
  rw [if_pos h]
  simp [show b ≤ a from h]
 ·
  rw [if_neg h]
  simp [show ¬ b ≤ a from h]
theorem in_ev (a b c : Int) : spec_l1In.f a b c = some (decide (b ≤ a ∧ a ≤ c)) := by
 unfold spec_l1In.f
 by_cases h : a ≥ b
 ·
  rw [if_pos h]
  simp [show b ≤ a from h]
 ·
  rw [if_neg h]
  simp [show ¬ b ≤ a from h]
theorem edge_eq (x y : Eg) : (!((x.f0.toList) == (y.f0.toList)) || (!(x.f1 == y.f1) || (!(x.f2 == y.f2)))) = false ↔ x = y := by
 obtain ⟨a, b, c⟩ := x
 obtain ⟨a', b', c'⟩ := y
 simp only [Bool.or_eq_false_iff, Bool.not_eq_false', beq_iff_eq]
 constructor
 ·
  rintro ⟨h1, h2, h3⟩
  rw [Byt.toList_inj h1, h2, h3]
 ·
  intro h
  injection h with h1 h2 h3
  exact ⟨by rw [h1], h2, h3⟩
theorem equal_ev (a b : List Eg) (hl : a.length ≤ 1048576) : ∃ c, Evt (fun k => impl_Edge_79.f k a b) c ∧ (c = true ↔ a = b) := by
 unfold impl_Edge_79.f
 by_cases hn : a.length = b.length
 ·
  have key : ∀ (m i : Nat), i + m = a.length → a.take i = b.take i → ∃ c, Evt (fun k => impl_Edge_79.l0 k a b (a.length : Int) (i : Int)) c ∧ (c = true ↔ a = b) := by
   intro m
   induction m with
   | zero =>
    intro i hi ht
    refine ⟨true, Evt.step (fun k => impl_Edge_79.l0.eq_2 _ _ _ _ k) (Evt.neg (by omega) (Evt.const _)), fun _ => ?_, fun _ => rfl⟩
    rw [List.take_of_length_le (by omega), List.take_of_length_le (by omega)] at ht
    exact ht
   | succ m ih =>
    intro i hi ht
    by_cases he : a[i]'(by omega) = b[i]'(by omega)
    ·
     obtain ⟨c, h1, h2⟩ := ih (i + 1) (by omega) (by rw [List.take_succ_eq_append_getElem (by omega), List.take_succ_eq_append_getElem (by omega), ht, he])
     refine ⟨c, Evt.step (fun k => impl_Edge_79.l0.eq_2 _ _ _ _ k) (Evt.pos (by omega) (Evt.pos (by omega) (Evt.pos (by omega) (Evt.pos (by omega) ?_)))), h2⟩
     rw [rd_eg a i (by omega), rd_eg b i (by omega), w64 (n := (i : Int) + 1) (by omega) (by omega)]
     exact Evt.neg (by rw [(edge_eq _ _).2 he]; decide) h1
    ·
     refine ⟨false, Evt.step (fun k => impl_Edge_79.l0.eq_2 _ _ _ _ k) (Evt.pos (by omega) (Evt.pos (by omega) (Evt.pos (by omega) (Evt.pos (by omega) ?_)))), (fun h => by cases h), fun e => ?_⟩
     ·
      rw [rd_eg a i (by omega), rd_eg b i (by omega)]
      exact Evt.pos (by
       cases h : (!((a[i].f0.toList) == (b[i].f0.toList)) || (!(a[i].f1 == b[i].f1) || (!(a[i].f2 == b[i].f2)))) with
       | true => rfl
       | false => exact absurd ((edge_eq _ _).1 h) he) (Evt.const _)
     ·
      subst e
      exact absurd rfl he
  obtain ⟨c, h1, h2⟩ := key a.length 0 (by omega) rfl
  exact ⟨c, Evt.pos (by omega) h1, h2⟩
 ·
  exact ⟨false, Evt.neg (by omega) (Evt.const _), (fun h => by cases h), fun e => absurd (by rw [e]) hn⟩
/-- A name's list that is told: it is that of the tree. -/
def Tells (N : List ByteArray) (r : List Eg) : Prop := (ansRad N).2 = true ∧ (ansRad N).1 = r
theorem impl_end (r : List Eg) (N : List ByteArray) (hN : N.length ≤ 1048576 ∧ ∀ s ∈ N, s.size ≤ 1048576) :
  ∃ b, Evt (fun k => (impl_RadixOf.f N).bind fun bt513 => (if bt513.2 = true then ((impl_Edge_79.f k bt513.1 r).bind fun t518 => (some (N, t518))) else (some (N, false)))) (N, b) ∧ (b = true ↔ Tells N r) := by
 have hI : impl_RadixOf.f N = some (ansRad N) := if_pos hN
 rw [hI]
 have hl := ansRad_len N
 unfold Tells
 by_cases h : (ansRad N).2 = true
 ·
  obtain ⟨c, h1, h2⟩ := equal_ev (ansRad N).1 r (by omega)
  exact ⟨c, Evt.bsome (Evt.pos h (Evt.bind h1 (Evt.const _))), h2.trans ⟨fun e => ⟨h, e⟩, fun e => e.2⟩⟩
 ·
  exact ⟨false, Evt.bsome (Evt.neg h (Evt.const _)), (fun h => by cases h), fun e => absurd e.1 h⟩
theorem getD_app {α : Type} (a b : List α) (i : Nat) (d : α) (h : i < a.length) : (a ++ b).getD i d = a.getD i d := by
 rw [List.getD_eq_getElem?_getD, List.getElem?_append_left h, ← List.getD_eq_getElem?_getD]
theorem rd_getD (l : List ByteArray) (i : Int) (h : 0 ≤ i) : rdOf ByteArray.empty l i = l.getD i.toNat ByteArray.empty := rfl
theorem set_fill (T : List ByteArray) (m : Nat) (t z : ByteArray) : (T ++ List.replicate (m + 1) z).set T.length t = (T ++ [t]) ++ List.replicate m z := by
 rw [List.set_append_right _ _ (Nat.le_refl _), Nat.sub_self, List.replicate_succ, List.append_assoc]
 rfl
/-- The program's way along the edges. -/
theorem impl_loop (r : List Eg) (hn : 1 ≤ r.length ∧ r.length ≤ 81) (hz : ∀ e ∈ r, e.f0.size ≤ 1048576) : ∀ (m i : Nat), i + 1 + m = r.length → (∀ t ∈ (st r i).1, t.size ≤ 20) →
  ∃ x b, Evt (fun k => impl_namesOf.l0 k ((st r i).1 ++ List.replicate m (⟨#[]⟩ : ByteArray)) (st r i).2 r (r.length : Int) ((i + 1 : Nat) : Int) r) (x, b) ∧
   ((b = false ∧ x.length ≤ 81 ∧ ∃ j, ∃ h : j < r.length, i + 1 ≤ j ∧ ¬ Chk r j r[j]) ∨ (x = (st r (r.length - 1)).2 ∧ (b = true ↔ Tells x r) ∧ ∀ j, ∀ h : j < r.length, i + 1 ≤ j → Chk r j r[j])) := by
 intro m
 induction m with
 | zero =>
  intro i hi ht
  have e : r.length - 1 = i := by omega
  have hs := st_names r i (by omega)
  obtain ⟨b, h1, h2⟩ := impl_end r (st r i).2 ⟨by omega, fun s hs => by have := ht s (st_sub r i (by omega) s hs); omega⟩
  exact ⟨_, b, Evt.step (fun k => impl_namesOf.l0.eq_2 _ _ _ _ _ _ k) (Evt.neg (by omega) h1), .inr ⟨by rw [e], h2, fun j h hj => by omega⟩⟩
 | succ m ih =>
  intro i hi ht
  have hlt : i + 1 < r.length := by omega
  have hl := st_len r i (by omega)
  have hs := st_names r i (by omega)
  have hss := st_succ r i hlt
  have hze := hz _ (List.getElem_mem hlt)
  have hgo : ∀ x b, Evt (fun k => (impl_within.f (r[i + 1].f2) 0 ((i : Nat) : Int)).bind fun t521 => (if t521 = true then (if ((r[i + 1].f0).size : Int) > 20 then (some (([] : List ByteArray), false)) else (if 0 ≤ (r[i + 1].f2) then (if (r[i + 1].f2) < (((st r i).1 ++ List.replicate (m + 1) (⟨#[]⟩ : ByteArray)).length : Int) then (if (rdOf ByteArray.empty ((st r i).1 ++ List.replicate (m + 1) (⟨#[]⟩ : ByteArray)) (r[i + 1].f2)).size + (r[i + 1].f0).size ≤ 9223372036854775807 then (if ((i + 1 : Nat) : Int) < (((st r i).1 ++ List.replicate (m + 1) (⟨#[]⟩ : ByteArray)).length : Int) then (impl_namesOf.j1 k (((st r i).1 ++ List.replicate (m + 1) (⟨#[]⟩ : ByteArray)).set (i + 1) ((rdOf ByteArray.empty ((st r i).1 ++ List.replicate (m + 1) (⟨#[]⟩ : ByteArray)) (r[i + 1].f2)) ++ (r[i + 1].f0))) (st r i).2 ((i + 1 : Nat) : Int) r (r.length : Int) ((i + 1 : Nat) : Int) r (r[i + 1].f0) (r[i + 1].f1) (r[i + 1].f2)) else (none)) else (none)) else (none)) else (none))) else (some (([] : List ByteArray), false)))) (x, b) →
    Evt (fun k => impl_namesOf.l0 k ((st r i).1 ++ List.replicate (m + 1) (⟨#[]⟩ : ByteArray)) (st r i).2 r (r.length : Int) ((i + 1 : Nat) : Int) r) (x, b) := fun x b h => by
   refine Evt.step (fun k => impl_namesOf.l0.eq_2 _ _ _ _ _ _ k) (Evt.pos (by omega) (Evt.pos (by omega) (Evt.pos (by omega) (Evt.pos (by omega) ?_))))
   rw [rd_eg r (i + 1) hlt, w64 (n := ((i + 1 : Nat) : Int) - 1) (by omega) (by omega), show ((i + 1 : Nat) : Int) - 1 = (i : Int) by omega]
   simp only [Int.toNat_natCast]
   exact h
  generalize hE : r[i + 1] = e at *
  by_cases hu : 0 ≤ e.f2 ∧ e.f2 ≤ (i : Int)
  ·
   by_cases h20 : e.f0.size ≤ 20
   ·
    obtain ⟨u, hu2⟩ := Int.eq_ofNat_of_zero_le hu.1
    have hul : u < (st r i).1.length := by omega
    have e1 : rdOf ByteArray.empty ((st r i).1 ++ List.replicate (m + 1) (⟨#[]⟩ : ByteArray)) e.f2 = (st r i).1.getD e.f2.toNat ⟨#[]⟩ := by
     rw [rd_getD _ _ hu.1, hu2, Int.toNat_natCast, getD_app _ _ _ _ hul]
     rfl
    obtain ⟨t, htt⟩ : ∃ t, t = (st r i).1.getD e.f2.toNat ⟨#[]⟩ ++ e.f0 := ⟨_, rfl⟩
    have hpz : ((st r i).1.getD e.f2.toNat ⟨#[]⟩).size ≤ 20 := by
     rw [hu2, Int.toNat_natCast, List.getD_eq_getElem?_getD, List.getElem?_eq_getElem hul]
     exact ht _ (List.getElem_mem hul)
    have hset : ((st r i).1 ++ List.replicate (m + 1) (⟨#[]⟩ : ByteArray)).set (i + 1) t = ((st r i).1 ++ [t]) ++ List.replicate m (⟨#[]⟩ : ByteArray) := by
     have := set_fill (st r i).1 m t ⟨#[]⟩
     rw [hl] at this
     exact this
    have hrt : rdOf ByteArray.empty (((st r i).1 ++ [t]) ++ List.replicate m (⟨#[]⟩ : ByteArray)) ((i + 1 : Nat) : Int) = t := by
     rw [rd_getD _ _ (by omega), Int.toNat_natCast, List.getD_eq_getElem?_getD, List.append_assoc, List.getElem?_append_right (by omega), hl, Nat.sub_self]
     rfl
    have hll : (((st r i).1 ++ [t]) ++ List.replicate m (⟨#[]⟩ : ByteArray)).length = r.length := by simp; omega
    have hpre : ∀ x b, Evt (fun k => impl_namesOf.j1 k (((st r i).1 ++ [t]) ++ List.replicate m (⟨#[]⟩ : ByteArray)) (st r i).2 ((i + 1 : Nat) : Int) r (r.length : Int) ((i + 1 : Nat) : Int) r e.f0 e.f1 e.f2) (x, b) →
      Evt (fun k => impl_namesOf.l0 k ((st r i).1 ++ List.replicate (m + 1) (⟨#[]⟩ : ByteArray)) (st r i).2 r (r.length : Int) ((i + 1 : Nat) : Int) r) (x, b) := fun x b h => by
     refine hgo x b ?_
     rw [within_ev, decide_eq_true hu, e1, ← htt, hset]
     exact Evt.bsome (Evt.pos rfl (Evt.neg (by omega) (Evt.pos hu.1 (Evt.pos (by simp; omega) (Evt.pos (by omega) (Evt.pos (by simp; omega) h))))))
    by_cases ht20 : t.size ≤ 20
    ·
     have hsn : st r (i + 1) = ((st r i).1 ++ [t], if e.f1 = true then (st r i).2 ++ [t] else (st r i).2) := by
      rw [hss, htt]
      rfl
     obtain ⟨x, b, h1, h2⟩ := ih (i + 1) (by omega) (by
      rw [hsn]
      intro y hy
      rcases List.mem_append.1 hy with hy | hy
      ·
       exact ht y hy
      ·
       rw [List.mem_singleton.1 hy]
       exact ht20)
     rw [hsn] at h1
     have hchk : Chk r (i + 1) e := ⟨hu.1, by omega, h20, by rw [Nat.add_sub_cancel, ← htt]; exact ht20⟩
     refine ⟨x, b, hpre x b (Evt.step (fun k => impl_namesOf.j1.eq_2 _ _ _ _ _ _ _ _ _ _ k) ?_), ?_⟩
     ·
      rw [hrt, w64 (n := ((i + 1 : Nat) : Int) + 1) (by omega) (by omega)]
      by_cases hf : e.f1 = true
      ·
       rw [if_pos hf] at h1
       exact Evt.pos hf (Evt.pos (by omega) (Evt.pos (by omega) (Evt.pos (by omega) (Evt.neg (by omega) h1))))
      ·
       rw [if_neg hf] at h1
       exact Evt.neg hf (Evt.pos (by omega) (Evt.pos (by omega) (Evt.neg (by omega) h1)))
     ·
      rcases h2 with ⟨q1, q2, j, hj, q3, q4⟩ | ⟨q1, q2, q3⟩
      ·
       exact .inl ⟨q1, q2, j, hj, by omega, q4⟩
      ·
       refine .inr ⟨q1, q2, fun j hj hij => ?_⟩
       by_cases ej : j = i + 1
       ·
        subst ej
        rw [hE]
        exact hchk
       ·
        exact q3 j hj (by omega)
    ·
     refine ⟨[], false, hpre _ _ (Evt.step (fun k => impl_namesOf.j1.eq_2 _ _ _ _ _ _ _ _ _ _ k) ?_), .inl ⟨rfl, Nat.zero_le _, i + 1, hlt, Nat.le_refl _, fun h => ?_⟩⟩
     ·
      rw [hrt]
      by_cases hf : e.f1 = true
      ·
       exact Evt.pos hf (Evt.pos (by omega) (Evt.pos (by omega) (Evt.pos (by omega) (Evt.pos (by omega) (Evt.const _)))))
      ·
       exact Evt.neg hf (Evt.pos (by omega) (Evt.pos (by omega) (Evt.pos (by omega) (Evt.const _))))
     ·
      rw [hE] at h
      have := h.2.2.2
      rw [Nat.add_sub_cancel, ← htt] at this
      exact ht20 this
   ·
    refine ⟨[], false, hgo _ _ ?_, .inl ⟨rfl, Nat.zero_le _, i + 1, hlt, Nat.le_refl _, fun h => ?_⟩⟩
    ·
     rw [within_ev, decide_eq_true hu]
     exact Evt.bsome (Evt.pos rfl (Evt.pos (by omega) (Evt.const _)))
    ·
     rw [hE] at h
     exact h20 h.2.2.1
  ·
   refine ⟨[], false, hgo _ _ ?_, .inl ⟨rfl, Nat.zero_le _, i + 1, hlt, Nat.le_refl _, fun h => ?_⟩⟩
   ·
    rw [within_ev, decide_eq_false hu]
    exact Evt.bsome (Evt.neg (by decide) (Evt.const _))
   ·
    rw [hE] at h
    exact hu ⟨h.1, by have := h.2.1; omega⟩
theorem impl_all (r : List Eg) (hl : r.length ≤ 1048576) (hz : ∀ e ∈ r, e.f0.size ≤ 1048576) : ∃ x b, Evt (fun k => impl_namesOf.f k r) (x, b) ∧ x.length ≤ 81 ∧
  (b = true → (1 ≤ r.length ∧ r.length ≤ 81) ∧ x = (st r (r.length - 1)).2 ∧ Tells x r) ∧
  ((1 ≤ r.length ∧ r.length ≤ 81) → (∀ j, ∀ h : j < r.length, 1 ≤ j → Chk r j r[j]) → x = (st r (r.length - 1)).2 ∧ (b = true ↔ Tells x r)) := by
 unfold impl_namesOf.f
 rw [within_ev]
 by_cases hn : 1 ≤ r.length ∧ r.length ≤ 81
 ·
  obtain ⟨x, b, h1, h2⟩ := impl_loop r hn hz (r.length - 1) 0 (by omega) (fun t ht => by
   have ht : t ∈ [(⟨#[]⟩ : ByteArray)] := ht
   rw [List.mem_singleton.1 ht]
   exact Nat.zero_le _)
  have hx : x.length ≤ 81 := by
   rcases h2 with ⟨_, h, _⟩ | ⟨h, _, _⟩
   ·
    exact h
   ·
    rw [h]
    have := st_names r (r.length - 1) (by omega)
    omega
  refine ⟨x, b, ?_, hx, fun hb => ?_, fun _ hc => ?_⟩
  ·
   rw [decide_eq_true (by omega)]
   refine Evt.bsome (Evt.pos rfl (Evt.pos (by omega) (Evt.pos (by omega) ?_)))
   have h0 : 0 < r.length := by omega
   have e0 : r.getD 0 root = r[0] := by rw [List.getD_eq_getElem?_getD, List.getElem?_eq_getElem h0]; rfl
   have er : List.replicate ((r.length : Int)).toNat (⟨#[]⟩ : ByteArray) = [(⟨#[]⟩ : ByteArray)] ++ List.replicate (r.length - 1) (⟨#[]⟩ : ByteArray) := by
    rw [Int.toNat_natCast]
    conv => lhs; rw [show r.length = (r.length - 1) + 1 by omega, List.replicate_succ]
    rfl
   rw [er]
   refine Evt.step (fun k => impl_namesOf.l0.eq_2 _ _ _ _ _ _ k) (Evt.pos (by omega) (Evt.pos (by omega) (Evt.pos (by omega) (Evt.neg (by omega) ?_))))
   have e1 : rd_T64 r 0 = r[0] := rd_eg r 0 h0
   rw [e1]
   have h1 : Evt (fun k => impl_namesOf.l0 k ([(⟨#[]⟩ : ByteArray)] ++ List.replicate (r.length - 1) (⟨#[]⟩ : ByteArray)) (if (r.getD 0 root).f1 = true then [(⟨#[]⟩ : ByteArray)] else []) r (r.length : Int) 1 r) (x, b) := h1
   rw [e0] at h1
   have ew : wrap64 (0 + 1) = 1 := by rw [w64 (by omega) (by omega)]; rfl
   have e2 : rdOf ByteArray.empty ([(⟨#[]⟩ : ByteArray)] ++ List.replicate (r.length - 1) (⟨#[]⟩ : ByteArray)) 0 = (⟨#[]⟩ : ByteArray) := rfl
   refine Evt.step (fun k => impl_namesOf.j1.eq_2 _ _ _ _ _ _ _ _ _ _ k) ?_
   rw [e2, ew]
   by_cases hf : (r[0]).f1 = true
   ·
    rw [if_pos hf] at h1
    exact Evt.pos hf (Evt.pos (by omega) (Evt.pos (by simp) (Evt.pos (by simp) (Evt.neg (by show ¬ ((0 : Nat) : Int) > 20; omega) h1))))
   ·
    rw [if_neg hf] at h1
    exact Evt.neg hf (Evt.pos (by omega) (Evt.pos (by simp) (Evt.neg (by show ¬ ((0 : Nat) : Int) > 20; omega) h1)))
  ·
   rcases h2 with ⟨h, _⟩ | ⟨h, h3, _⟩
   ·
    rw [hb] at h
    cases h
   ·
    exact ⟨hn, h, h3.1 hb⟩
  ·
   rcases h2 with ⟨_, _, j, hj, h3, h4⟩ | ⟨h, h3, _⟩
   ·
    exact absurd (hc j hj (by omega)) h4
   ·
    exact ⟨h, h3⟩
 ·
  rw [decide_eq_false (by omega)]
  exact ⟨[], false, Evt.bsome (Evt.neg (by decide) (Evt.const _)), Nat.zero_le _, (fun h => by cases h), fun h => absurd h hn⟩
theorem st_mono (r : List Eg) (i : Nat) : ∀ m, i + m < r.length → ∀ t ∈ (st r i).1, t ∈ (st r (i + m)).1
 | 0, _, t, h => h
 | m + 1, hm, t, h => by
  have ih := st_mono r i m (by omega) t h
  rw [show i + (m + 1) = (i + m) + 1 by omega, st_succ r (i + m) (by omega)]
  exact List.mem_append_left _ ih
theorem srt_self {L : List ByteArray} (h : Names L) : srt L = L :=
 rise_unique (srt_perm L) (srt_rise (h.rise.imp (fun h e => by rw [e, ltS_irrefl] at h; cases h))) h.rise
theorem names_nodup {L : List ByteArray} (h : Names L) : L.Nodup := h.rise.imp (fun h e => by rw [e, ltS_irrefl] at h; cases h)
theorem names_any {L : List ByteArray} (h : Names L) : L.any notN = false := by
 rw [List.any_eq_false]
 intro n hn
 unfold notN
 rw [h.each n hn]
 decide
theorem tells_self {L : List ByteArray} (h : Names L) (h40 : L.length ≤ 40) : Tells L (tree L) := by
 unfold Tells ansRad
 rw [if_pos ⟨h40, names_any h, names_nodup h⟩, srt_self h]
 exact ⟨rfl, rfl⟩
theorem tells_tree {N : List ByteArray} {r : List Eg} (h : Tells N r) : Names (srt N) ∧ (srt N).length ≤ 40 ∧ tree (srt N) = r := by
 unfold Tells ansRad at h
 split at h
 ·
  rename_i hc
  exact ⟨names_srt hc.2.1 hc.2.2, by rw [srt_len]; exact hc.1, h.2⟩
 ·
  cases h.1
/-- What a tree of names is like. -/
theorem tree_facts {L : List ByteArray} (h : Names L) : (st (tree L) ((tree L).length - 1)).2 = L ∧ (∀ t ∈ (st (tree L) ((tree L).length - 1)).1, t.size ≤ 20) ∧ (tree L)[0]? = some root ∧
  (∀ (j : Nat) (hj : j < (tree L).length), 1 ≤ j → New L 0 0 1 (tree L)[j] (j - 1)) ∧ (tree L).Pairwise (fun x y => x.f2 = y.f2 → bt x.f0 0 ≠ bt y.f0 0 ∨ x.f2 = -1) := by
 obtain ⟨E, h1, ⟨T', h2, h3⟩, h4, h5, _, _, _⟩ := bld_all (Rx.left L 0) L 0 0 [root] [⟨#[]⟩] [] h.ok (Nat.le_refl _) rfl (by simp) (fun n hn => by
  apply Byt.bytesOf_inj
  rw [Byt.bytesOf_take]
  rfl)
 have ht : tree L = root :: E := h1
 have hst : st (tree L) ((tree L).length - 1) = ([⟨#[]⟩] ++ T', L) := by
  rw [ht]
  unfold st
  show run (E.take (E.length + 1 - 1)) ([⟨#[]⟩], []) = _
  rw [Nat.add_sub_cancel, List.take_length, h2, List.nil_append]
 refine ⟨by rw [hst], fun t htm => ?_, by rw [ht]; rfl, fun j hj h1 => ?_, ?_⟩
 ·
  rw [hst] at htm
  rcases List.mem_append.1 htm with htm | htm
  ·
   rw [List.mem_singleton.1 htm]
   exact Nat.zero_le _
  ·
   obtain ⟨n, hn, hs⟩ := h3 t htm
   have := h.size n hn
   omega
 ·
  obtain ⟨i, rfl⟩ : ∃ i, j = i + 1 := ⟨j - 1, by omega⟩
  have hi : i < E.length := by rw [ht] at hj; simpa using hj
  have e : (tree L)[i + 1] = E[i] := by
   have : (tree L)[i + 1]? = E[i]? := by rw [ht]; rfl
   rw [List.getElem?_eq_getElem hj, List.getElem?_eq_getElem hi] at this
   exact Option.some.inj this
  rw [e]
  exact h4 i hi
 ·
  rw [ht]
  exact List.pairwise_cons.2 ⟨fun x _ _ => .inr rfl, h5.imp (fun h e => .inl (h e))⟩
theorem tree_chk {L : List ByteArray} (h : Names L) : ∀ j, ∀ hj : j < (tree L).length, 1 ≤ j → Chk (tree L) j (tree L)[j] := by
 obtain ⟨h1, h2, h3, h4, h5⟩ := tree_facts h
 intro j hj hj1
 have hn := h4 j hj hj1
 obtain ⟨n, hnm, x, y, q1, q2, q3, q4⟩ := hn.text
 have hu := hn.up0
 have hsn := h.size n hnm
 obtain ⟨i, rfl⟩ : ∃ i, j = i + 1 := ⟨j - 1, by omega⟩
 refine ⟨hu.1, by omega, by rw [q4, ByteArray.size_extract]; omega, h2 _ ?_⟩
 have hm := st_mono (tree L) (i + 1) ((tree L).length - 1 - (i + 1)) (by omega) ((st (tree L) (i + 1 - 1)).1.getD ((tree L)[i + 1]).f2.toNat ⟨#[]⟩ ++ ((tree L)[i + 1]).f0) (by
  rw [st_succ (tree L) i hj, Nat.add_sub_cancel]
  exact List.mem_append_right _ (List.mem_singleton.2 rfl))
 rw [show i + 1 + ((tree L).length - 1 - (i + 1)) = (tree L).length - 1 by omega] at hm
 exact hm
theorem tree_short {L : List ByteArray} (h : Names L) (h40 : L.length ≤ 40) : 1 ≤ (tree L).length ∧ (tree L).length ≤ 81 := by
 have := tree_len h
 omega
theorem tree_text {L : List ByteArray} (h : Names L) : ∀ e ∈ tree L, e.f0.size ≤ 20 := by
 intro e he
 obtain ⟨j, hj, rfl⟩ := List.getElem_of_mem he
 by_cases h0 : j = 0
 ·
  subst h0
  have := (tree_facts h).2.2.1
  rw [List.getElem?_eq_getElem hj] at this
  rw [Option.some.inj this]
  exact Nat.zero_le _
 ·
  exact (tree_chk h j hj (by omega)).2.2.1
/-- The program's names of a tree. -/
theorem impl_names {L : List ByteArray} (h : Names L) (h40 : L.length ≤ 40) : Evt (fun k => impl_namesOf.f k (tree L)) (L, true) := by
 have hs := tree_short h h40
 obtain ⟨x, b, h1, _, _, h2⟩ := impl_all (tree L) (by omega) (fun e he => by have := tree_text h e he; omega)
 obtain ⟨h3, h4⟩ := h2 hs (tree_chk h)
 rw [(tree_facts h).1] at h3
 subst h3
 rw [h4.2 (tells_self h h40)] at h1
 exact h1
/-- What the program says of a tree that is not one of names. -/
theorem impl_other (r : List Eg) (hl : r.length ≤ 1048576) (hz : ∀ e ∈ r, e.f0.size ≤ 1048576) (hno : ∀ L, Names L → L.length ≤ 40 → tree L ≠ r) : ∃ x, Evt (fun k => impl_namesOf.f k r) (x, false) ∧ x.length ≤ 81 := by
 obtain ⟨x, b, h1, h2, h3, _⟩ := impl_all r hl hz
 cases b with
 | false => exact ⟨x, h1, h2⟩
 | true =>
  obtain ⟨_, _, h4⟩ := h3 rfl
  obtain ⟨q1, q2, q3⟩ := tells_tree h4
  exact absurd q3 (hno _ q1 q2)

theorem spec_names (r : List Eg) (hn : 1 ≤ r.length ∧ r.length ≤ 81) (hc : ∀ (j : Nat) (h : j < r.length), 1 ≤ j → 0 ≤ (r[j]).f2 ∧ (r[j]).f2 ≤ (j : Int) - 1 ∧ (r[j]).f0.size ≤ 20) :
  Evt (fun k => spec_l13Names.f k r) (st r (r.length - 1)).2 ∧ ∀ t ∈ (st r (r.length - 1)).1, t.size ≤ 20 * r.length := by
 have hsz : ∀ i, i < r.length → ∀ t ∈ (st r i).1, t.size ≤ 20 * i := by
  intro i
  induction i with
  | zero =>
   intro _ t ht
   have ht : t ∈ [(⟨#[]⟩ : ByteArray)] := ht
   rw [List.mem_singleton.1 ht]
   exact Nat.zero_le _
  | succ i ih =>
   intro h t ht
   have ih := ih (by omega)
   rw [st_succ r i h] at ht
   rcases List.mem_append.1 ht with ht | ht
   ·
    have := ih t ht
    omega
   ·
    rw [List.mem_singleton.1 ht, ByteArray.size_append]
    have h1 := (hc (i + 1) h (by omega)).2.2
    have h2 : ((st r i).1.getD (r[i + 1]).f2.toNat ⟨#[]⟩).size ≤ 20 * i := by
     rw [List.getD_eq_getElem?_getD]
     cases h3 : (st r i).1[(r[i + 1]).f2.toNat]? with
     | none => exact Nat.zero_le _
     | some t' => exact ih t' (List.mem_of_getElem? h3)
    omega
 refine ⟨?_, fun t ht => by have := hsz (r.length - 1) (by omega) t ht; omega⟩
 have key : ∀ (m i : Nat), i + 1 + m = r.length → Evt (fun k => spec_l13Names.l0 k (st r i).2 ((st r i).1 ++ List.replicate m (⟨#[]⟩ : ByteArray)) r (r.length : Int) ((i + 1 : Nat) : Int)) (st r (r.length - 1)).2 := by
  intro m
  induction m with
  | zero =>
   intro i hi
   refine Evt.step (fun k => spec_l13Names.l0.eq_2 _ _ _ _ _ k) (Evt.neg (by omega) ((Evt.const _).eq ?_))
   rw [show r.length - 1 = i by omega]
  | succ m ih =>
   intro i hi
   have hlt : i + 1 < r.length := by omega
   have hl := st_len r i (by omega)
   have hs := st_names r i (by omega)
   have hss := st_succ r i hlt
   have hci := hc (i + 1) hlt (by omega)
   have hr := ih (i + 1) (by omega)
   obtain ⟨u, hu2⟩ := Int.eq_ofNat_of_zero_le hci.1
   have hul : u < (st r i).1.length := by omega
   have e1 : rdOf ByteArray.empty ((st r i).1 ++ List.replicate (m + 1) (⟨#[]⟩ : ByteArray)) (r[i + 1]).f2 = (st r i).1.getD (r[i + 1]).f2.toNat ⟨#[]⟩ := by
    rw [rd_getD _ _ hci.1, hu2, Int.toNat_natCast, getD_app _ _ _ _ hul]
    rfl
   have hpz : ((st r i).1.getD (r[i + 1]).f2.toNat ⟨#[]⟩).size ≤ 20 * i := by
    rw [hu2, Int.toNat_natCast, List.getD_eq_getElem?_getD, List.getElem?_eq_getElem hul]
    exact hsz i (by omega) _ (List.getElem_mem hul)
   have hset := set_fill (st r i).1 m ((st r i).1.getD (r[i + 1]).f2.toNat ⟨#[]⟩ ++ (r[i + 1]).f0) ⟨#[]⟩
   rw [hl] at hset
   refine Evt.step (fun k => spec_l13Names.l0.eq_2 _ _ _ _ _ k) (Evt.pos (by omega) (Evt.pos (by omega) (Evt.pos (by omega) (Evt.pos (by omega) ?_))))
   rw [rd_eg r (i + 1) hlt, e1, w64 (n := ((i + 1 : Nat) : Int) + 1) (by omega) (by omega)]
   refine Evt.pos hci.1 (Evt.pos (by simp; omega) (Evt.pos (by omega) (Evt.pos (by simp; omega) (Evt.bsome ?_))))
   rw [Int.toNat_natCast, hset]
   rw [hss] at hr
   by_cases hf : (r[i + 1]).f1 = true
   ·
    unfold next at hr
    rw [if_pos hf] at hr
    exact Evt.pos hf (Evt.pos (by omega) hr)
   ·
    unfold next at hr
    rw [if_neg hf] at hr
    exact Evt.neg hf hr
 unfold spec_l13Names.f
 refine Evt.pos (by omega) (Evt.pos (by omega) ?_)
 have h0 : 0 < r.length := by omega
 have e0 : r.getD 0 root = r[0] := by rw [List.getD_eq_getElem?_getD, List.getElem?_eq_getElem h0]; rfl
 have er : List.replicate ((r.length : Int)).toNat (⟨#[]⟩ : ByteArray) = [(⟨#[]⟩ : ByteArray)] ++ List.replicate (r.length - 1) (⟨#[]⟩ : ByteArray) := by
  rw [Int.toNat_natCast]
  conv => lhs; rw [show r.length = (r.length - 1) + 1 by omega, List.replicate_succ]
  rfl
 have h1 : Evt (fun k => spec_l13Names.l0 k (if (r.getD 0 root).f1 = true then [(⟨#[]⟩ : ByteArray)] else []) ([(⟨#[]⟩ : ByteArray)] ++ List.replicate (r.length - 1) (⟨#[]⟩ : ByteArray)) r (r.length : Int) 1) (st r (r.length - 1)).2 := key (r.length - 1) 0 (by omega)
 rw [e0] at h1
 have ew : wrap64 (0 + 1) = 1 := by rw [w64 (by omega) (by omega)]; rfl
 have e1 : rd_T64 r 0 = r[0] := rd_eg r 0 h0
 rw [er]
 refine Evt.step (fun k => spec_l13Names.l0.eq_2 _ _ _ _ _ k) (Evt.pos (by omega) (Evt.pos (by omega) (Evt.pos (by omega) (Evt.neg (by omega) ?_))))
 rw [e1, ew]
 by_cases hf : (r[0]).f1 = true
 ·
  rw [if_pos hf] at h1
  exact Evt.pos hf (Evt.pos (by simp) (Evt.pos (by simp) h1))
 ·
  rw [if_neg hf] at h1
  exact Evt.neg hf h1
/-- The reference's look at names that were told. -/
theorem spec_l1 (r : List Eg) (hr : r.length ≤ 81) (N : List ByteArray) (hN : N.length ≤ 81 ∧ ∀ s ∈ N, s.size ≤ 1048576) : ∃ y b, Evt (fun k => spec_l13Good.l1 k (r.length : Int) N N (N.length : Int) 0 r) (y, b) ∧ (b = false → y = []) ∧
  (b = true → y = N ∧ Names N ∧ N.length ≤ 40 ∧ tree N = r) ∧ (Names N → N.length ≤ 40 → tree N = r → b = true) := by
 have hend : Names N → ∃ y b, Evt (fun k => if (N.length : Int) > 40 then (some (([] : List ByteArray), false)) else ((spec_l13Radix.f k N).bind fun t449 => (if (t449.length : Int) = (r.length : Int) then (spec_l13Good.l2 k N (t449.length : Int) 0 r t449) else (some (([] : List ByteArray), false))))) (y, b) ∧ (b = false → y = []) ∧ (b = true → y = N ∧ Names N ∧ N.length ≤ 40 ∧ tree N = r) ∧ (Names N → N.length ≤ 40 → tree N = r → b = true) := fun hNm => by
  by_cases h40 : N.length ≤ 40
  ·
   have ht := tree_short hNm h40
   by_cases hl : (tree N).length = r.length
   ·
    have key : ∀ (m i : Nat), i + m = (tree N).length → (tree N).take i = r.take i → ∃ y b, Evt (fun k => spec_l13Good.l2 k N ((tree N).length : Int) (i : Int) r (tree N)) (y, b) ∧ (b = false → y = []) ∧ (b = true → y = N ∧ Names N ∧ N.length ≤ 40 ∧ tree N = r) ∧ (Names N → N.length ≤ 40 → tree N = r → b = true) := by
     intro m
     induction m with
     | zero =>
      intro i hi htk
      rw [List.take_of_length_le (by omega), List.take_of_length_le (by omega)] at htk
      exact ⟨N, true, Evt.step (fun k => spec_l13Good.l2.eq_2 _ _ _ _ _ k) (Evt.neg (by omega) (Evt.const _)), (fun h => by cases h), fun _ => ⟨rfl, hNm, h40, htk⟩, fun _ _ _ => rfl⟩
     | succ m ih =>
      intro i hi htk
      by_cases he : (tree N)[i]'(by omega) = r[i]'(by omega)
      ·
       obtain ⟨y, b, h1, h2⟩ := ih (i + 1) (by omega) (by rw [List.take_succ_eq_append_getElem (by omega), List.take_succ_eq_append_getElem (by omega), htk, he])
       refine ⟨y, b, Evt.step (fun k => spec_l13Good.l2.eq_2 _ _ _ _ _ k) (Evt.pos (by omega) (Evt.pos (by omega) (Evt.pos (by omega) (Evt.pos (by omega) ?_)))), h2⟩
       rw [rd_eg (tree N) i (by omega), rd_eg r i (by omega), w64 (n := (i : Int) + 1) (by omega) (by omega)]
       exact Evt.neg (by rw [(edge_eq _ _).2 he]; decide) h1
      ·
       refine ⟨[], false, Evt.step (fun k => spec_l13Good.l2.eq_2 _ _ _ _ _ k) (Evt.pos (by omega) (Evt.pos (by omega) (Evt.pos (by omega) (Evt.pos (by omega) ?_)))), fun _ => rfl, (fun h => by cases h), fun _ _ e => ?_⟩
       ·
        rw [rd_eg (tree N) i (by omega), rd_eg r i (by omega)]
        exact Evt.pos (by
         cases h : (!(((tree N)[i].f0.toList) == (r[i].f0.toList)) || (!((tree N)[i].f1 == r[i].f1) || (!((tree N)[i].f2 == r[i].f2)))) with
         | true => rfl
         | false => exact absurd ((edge_eq _ _).1 h) he) (Evt.const _)
       ·
        exfalso
        apply he
        simp only [e]
    obtain ⟨y, b, h1, h2⟩ := key (tree N).length 0 (by omega) rfl
    exact ⟨y, b, Evt.neg (by omega) (Evt.bind (spec_tree hNm (by omega)) (Evt.pos (by omega) h1)), h2⟩
   ·
    exact ⟨[], false, Evt.neg (by omega) (Evt.bind (spec_tree hNm (by omega)) (Evt.neg (by omega) (Evt.const _))), fun _ => rfl, (fun h => by cases h), fun _ _ e => absurd (by rw [e]) hl⟩
  ·
   exact ⟨[], false, Evt.pos (by omega) (Evt.const _), fun _ => rfl, (fun h => by cases h), fun _ h _ => absurd h h40⟩
 have key : ∀ (m i : Nat), i + m = N.length → Names (N.take i) → ∃ y b, Evt (fun k => spec_l13Good.l1 k (r.length : Int) N N (N.length : Int) (i : Int) r) (y, b) ∧ (b = false → y = []) ∧ (b = true → y = N ∧ Names N ∧ N.length ≤ 40 ∧ tree N = r) ∧ (Names N → N.length ≤ 40 → tree N = r → b = true) := by
  intro m
  induction m with
  | zero =>
   intro i hi hNm
   rw [List.take_of_length_le (by omega)] at hNm
   obtain ⟨y, b, h1, h2⟩ := hend hNm
   exact ⟨y, b, Evt.step (fun k => spec_l13Good.l1.eq_2 _ _ _ _ _ _ k) (Evt.neg (by omega) h1), h2⟩
  | succ m ih =>
   intro i hi hNm
   have hlt : i < N.length := by omega
   have hsz := hN.2 _ (List.getElem_mem hlt)
   have bad : ∀ (h : ¬ Names N), Evt (fun k => spec_l13Good.l1 k (r.length : Int) N N (N.length : Int) (i : Int) r) ([], false) → ∃ y b, Evt (fun k => spec_l13Good.l1 k (r.length : Int) N N (N.length : Int) (i : Int) r) (y, b) ∧ (b = false → y = []) ∧ (b = true → y = N ∧ Names N ∧ N.length ≤ 40 ∧ tree N = r) ∧ (Names N → N.length ≤ 40 → tree N = r → b = true) :=
    fun h h1 => ⟨[], false, h1, fun _ => rfl, (fun h => by cases h), fun h2 => absurd h2 h⟩
   by_cases hisN : isN N[i] = true
   ·
    by_cases h0 : i = 0
    ·
     subst h0
     obtain ⟨y, b, h1, h2⟩ := ih 1 (by omega) (by
      rw [show N.take 1 = [N[0]] by rw [List.take_succ_eq_append_getElem hlt]; rfl]
      exact ⟨List.pairwise_singleton _ _, fun n hn => by rw [List.mem_singleton.1 hn]; exact hisN⟩)
     refine ⟨y, b, Evt.step (fun k => spec_l13Good.l1.eq_2 _ _ _ _ _ _ k) (Evt.pos (by omega) (Evt.pos (by omega) (Evt.pos (by omega) ?_))), h2⟩
     have e0 : rdOf ByteArray.empty N ((0 : Nat) : Int) = N[0] := rd_str N 0 hlt
     rw [e0]
     refine Evt.bind (spec_name _ hsz) (Evt.pos hisN (Evt.neg (by omega) ?_))
     rw [w64 (n := ((0 : Nat) : Int) + 1) (by omega) (by omega)]
     exact h1
    ·
     obtain ⟨j, rfl⟩ : ∃ j, i = j + 1 := ⟨i - 1, by omega⟩
     have e1 : wrap64 (((j + 1 : Nat) : Int) - 1) = (j : Int) := by rw [w64 (by omega) (by omega)]; omega
     cases hlt2 : ltS N[j] N[j + 1] with
     | true =>
      obtain ⟨y, b, h1, h2⟩ := ih (j + 1 + 1) (by omega) (by
       rw [List.take_succ_eq_append_getElem hlt]
       refine ⟨List.pairwise_append.2 ⟨hNm.rise, List.pairwise_singleton _ _, fun a ha b hb => ?_⟩, fun n hn => ?_⟩
       ·
        rw [List.mem_singleton.1 hb]
        rw [List.take_succ_eq_append_getElem (by omega)] at ha hNm
        rcases List.mem_append.1 ha with ha | ha
        ·
         exact ltS_trans ((List.pairwise_append.1 hNm.rise).2.2 a ha _ (List.mem_singleton.2 rfl)) hlt2
        ·
         rw [List.mem_singleton.1 ha]
         exact hlt2
       ·
        rcases List.mem_append.1 hn with hn | hn
        ·
         exact hNm.each n hn
        ·
         rw [List.mem_singleton.1 hn]
         exact hisN)
      refine ⟨y, b, Evt.step (fun k => spec_l13Good.l1.eq_2 _ _ _ _ _ _ k) (Evt.pos (by omega) (Evt.pos (by omega) (Evt.pos (by omega) ?_))), h2⟩
      rw [rd_str N (j + 1) hlt, e1, rd_str N j (by omega)]
      refine Evt.bind (spec_name _ hsz) (Evt.pos hisN (Evt.pos (by omega) (Evt.pos (by omega) (Evt.pos (by omega) (Evt.pos hlt2 ?_)))))
      rw [w64 (n := ((j + 1 : Nat) : Int) + 1) (by omega) (by omega)]
      exact h1
     | false =>
      refine bad (fun h => ?_) (Evt.step (fun k => spec_l13Good.l1.eq_2 _ _ _ _ _ _ k) (Evt.pos (by omega) (Evt.pos (by omega) (Evt.pos (by omega) ?_))))
      ·
       have := List.pairwise_iff_getElem.1 h.rise j (j + 1) (by omega) hlt (Nat.lt_succ_self j)
       rw [hlt2] at this
       cases this
      ·
       rw [rd_str N (j + 1) hlt, e1, rd_str N j (by omega)]
       exact Evt.bind (spec_name _ hsz) (Evt.pos hisN (Evt.pos (by omega) (Evt.pos (by omega) (Evt.pos (by omega) (Evt.neg (by show ¬ ltS _ _ = true; rw [hlt2]; decide) (Evt.const _))))))
   ·
    refine bad (fun h => hisN (h.each _ (List.getElem_mem hlt))) (Evt.step (fun k => spec_l13Good.l1.eq_2 _ _ _ _ _ _ k) (Evt.pos (by omega) (Evt.pos (by omega) (Evt.pos (by omega) ?_))))
    rw [rd_str N i hlt]
    exact Evt.bind (spec_name _ hsz) (Evt.neg hisN (Evt.const _))
 exact key N.length 0 (by omega) ⟨List.Pairwise.nil, fun _ h => by cases h⟩
/-- What the reference asks of an edge. -/
def ChkS (j : Nat) (e : Eg) : Prop := (j = 0 ↔ e.f2 = -1) ∧ (-1 ≤ e.f2 ∧ e.f2 ≤ (j : Int) - 1) ∧ sml e.f0 20 = true
theorem spec_all (r : List Eg) (hl : r.length ≤ 1048576) (hz : ∀ e ∈ r, e.f0.size ≤ 1048576) : ∃ y b, Evt (fun k => spec_l13Good.f k r) (y, b) ∧ (b = false → y = []) ∧ (b = true → Names y ∧ y.length ≤ 40 ∧ tree y = r) ∧
  ((1 ≤ r.length ∧ r.length ≤ 81) → (∀ (j : Nat) (h : j < r.length), ChkS j r[j]) → ∀ L, Names L → L.length ≤ 40 → tree L = r → (y, b) = (L, true)) := by
 unfold spec_l13Good.f
 rw [in_ev]
 by_cases hn : 1 ≤ r.length ∧ r.length ≤ 81
 ·
  have key : ∀ (m i : Nat), i + m = r.length → (∀ (j : Nat) (h : j < r.length), j < i → ChkS j r[j]) → ∃ y b, Evt (fun k => spec_l13Good.l0 k (r.length : Int) r (r.length : Int) (i : Int) r) (y, b) ∧ (b = false → y = []) ∧ (b = true → Names y ∧ y.length ≤ 40 ∧ tree y = r) ∧
    ((1 ≤ r.length ∧ r.length ≤ 81) → (∀ (j : Nat) (h : j < r.length), ChkS j r[j]) → ∀ L, Names L → L.length ≤ 40 → tree L = r → (y, b) = (L, true)) := by
   intro m
   induction m with
   | zero =>
    intro i hi hc
    have hcc : ∀ (j : Nat) (h : j < r.length), 1 ≤ j → 0 ≤ (r[j]).f2 ∧ (r[j]).f2 ≤ (j : Int) - 1 ∧ (r[j]).f0.size ≤ 20 := fun j h hj => by
     obtain ⟨c1, c2, c3⟩ := hc j h (by omega)
     have h1 : (r[j]).f2 ≠ -1 := fun e => by have := c1.2 e; omega
     unfold sml at c3
     rw [Bool.and_eq_true, decide_eq_true_eq] at c3
     exact ⟨by omega, c2.2, by omega⟩
    obtain ⟨h1, h2⟩ := spec_names r hn hcc
    have h3 := st_names r (r.length - 1) (by omega)
    obtain ⟨y, b, g1, g2, g3, g4⟩ := spec_l1 r hn.2 (st r (r.length - 1)).2 ⟨by omega, fun s hs => by have := h2 s (st_sub r (r.length - 1) (by omega) s hs); omega⟩
    refine ⟨y, b, Evt.step (fun k => spec_l13Good.l0.eq_2 _ _ _ _ _ k) (Evt.neg (by omega) (Evt.bind h1 g1)), g2, fun h => ?_, fun _ _ L hL h40 hT => ?_⟩
    ·
     obtain ⟨e, q⟩ := g3 h
     rw [e]
     exact q
    ·
     have e : (st r (r.length - 1)).2 = L := by
      have := (tree_facts hL).1
      rw [hT] at this
      exact this
     rw [e] at g4 g3
     have hb := g4 hL h40 hT
     rw [(g3 hb).1, hb]
   | succ m ih =>
    intro i hi hc
    have hlt : i < r.length := by omega
    have hze := hz _ (List.getElem_mem hlt)
    have bad : ∀ (h : ¬ ChkS i r[i]), Evt (fun k => spec_l13Good.l0 k (r.length : Int) r (r.length : Int) (i : Int) r) ([], false) → ∃ y b, Evt (fun k => spec_l13Good.l0 k (r.length : Int) r (r.length : Int) (i : Int) r) (y, b) ∧ (b = false → y = []) ∧ (b = true → Names y ∧ y.length ≤ 40 ∧ tree y = r) ∧
      ((1 ≤ r.length ∧ r.length ≤ 81) → (∀ (j : Nat) (h : j < r.length), ChkS j r[j]) → ∀ L, Names L → L.length ≤ 40 → tree L = r → (y, b) = (L, true)) :=
     fun h h1 => ⟨[], false, h1, fun _ => rfl, (fun h => by cases h), fun _ h2 => absurd (h2 i hlt) h⟩
    have hgo : ∀ v, Evt (fun k => if (((i : Int) == 0) != ((r[i].f2) == (-1))) = true then (some (([] : List ByteArray), false)) else ((spec_l1In.f (r[i].f2) (-1) ((i : Int) - 1)).bind fun t441 => (if t441 = true then ((spec_l13Small.f k (r[i].f0) 20).bind fun t442 => (if t442 = true then (spec_l13Good.l0 k (r.length : Int) r (r.length : Int) ((i : Int) + 1) r) else (some (([] : List ByteArray), false)))) else (some (([] : List ByteArray), false))))) v → Evt (fun k => spec_l13Good.l0 k (r.length : Int) r (r.length : Int) (i : Int) r) v := fun v h => by
     refine Evt.step (fun k => spec_l13Good.l0.eq_2 _ _ _ _ _ k) (Evt.pos (by omega) (Evt.pos (by omega) (Evt.pos (by omega) ?_)))
     rw [rd_eg r i hlt, w64 (n := (i : Int) - 1) (by omega) (by omega), w64 (n := (i : Int) + 1) (by omega) (by omega)]
     exact h
    by_cases c1 : (i = 0 ↔ (r[i]).f2 = -1)
    ·
     have e1 : (((i : Int) == 0) != ((r[i].f2) == (-1))) = false := by
      by_cases h0 : i = 0
      ·
       rw [show ((i : Int) == 0) = true from beq_iff_eq.2 (by omega), show (r[i].f2 == -1) = true from beq_iff_eq.2 (c1.1 h0)]
       rfl
      ·
       rw [show ((i : Int) == 0) = false from beq_eq_false_iff_ne.2 (by omega), show (r[i].f2 == -1) = false from beq_eq_false_iff_ne.2 (fun h => h0 (c1.2 h))]
       rfl
     by_cases c2 : -1 ≤ (r[i]).f2 ∧ (r[i]).f2 ≤ (i : Int) - 1
     ·
      by_cases c3 : sml (r[i]).f0 20 = true
      ·
       obtain ⟨y, b, h1, h2⟩ := ih (i + 1) (by omega) (fun j h hj => by
        by_cases e : j = i
        ·
         subst e
         exact ⟨c1, c2, c3⟩
        ·
         exact hc j h (by omega))
       refine ⟨y, b, hgo _ (Evt.neg (by rw [e1]; decide) ?_), h2⟩
       rw [in_ev, decide_eq_true c2]
       exact Evt.bsome (Evt.pos rfl (Evt.bind (spec_small _ hze 20) (Evt.pos c3 h1)))
      ·
       refine bad (fun h => c3 h.2.2) (hgo _ (Evt.neg (by rw [e1]; decide) ?_))
       rw [in_ev, decide_eq_true c2]
       exact Evt.bsome (Evt.pos rfl (Evt.bind (spec_small _ hze 20) (Evt.neg c3 (Evt.const _))))
     ·
      refine bad (fun h => c2 h.2.1) (hgo _ (Evt.neg (by rw [e1]; decide) ?_))
      rw [in_ev, decide_eq_false c2]
      exact Evt.bsome (Evt.neg (by decide) (Evt.const _))
    ·
     refine bad (fun h => c1 h.1) (hgo _ (Evt.pos ?_ (Evt.const _)))
     cases h : (((i : Int) == 0) != ((r[i].f2) == (-1))) with
     | true => rfl
     | false =>
      exfalso
      apply c1
      have h := of_decide_eq_true (show decide (((i : Int) == 0) = ((r[i].f2) == (-1))) = true by simpa using h)
      constructor
      ·
       intro h0
       rw [show ((i : Int) == 0) = true from beq_iff_eq.2 (by omega)] at h
       exact beq_iff_eq.1 h.symm
      ·
       intro h0
       rw [show (r[i].f2 == -1) = true from beq_iff_eq.2 h0] at h
       have := beq_iff_eq.1 h
       omega
  obtain ⟨y, b, h1, h2⟩ := key r.length 0 (by omega) (fun j _ h => absurd h (Nat.not_lt_zero _))
  refine ⟨y, b, ?_, h2⟩
  rw [decide_eq_true (by omega)]
  exact Evt.bsome (Evt.pos rfl h1)
 ·
  rw [decide_eq_false (by omega)]
  exact ⟨[], false, Evt.bsome (Evt.neg (by decide) (Evt.const _)), fun _ => rfl, (fun h => by cases h), fun h => absurd h hn⟩
theorem tree_chkS {L : List ByteArray} (h : Names L) : ∀ (j : Nat) (hj : j < (tree L).length), ChkS j (tree L)[j] := by
 obtain ⟨h1, h2, h3, h4, h5⟩ := tree_facts h
 intro j hj
 by_cases h0 : j = 0
 ·
  subst h0
  rw [List.getElem?_eq_getElem hj] at h3
  rw [Option.some.inj h3]
  exact ⟨⟨fun _ => rfl, fun _ => rfl⟩, ⟨by decide, by decide⟩, by decide⟩
 ·
  have hn := h4 j hj (by omega)
  obtain ⟨n, hnm, x, y, q1, q2, q3, q4⟩ := hn.text
  have hu := hn.up0
  have hsn := isN_size (h.each n hnm)
  refine ⟨⟨fun e => absurd e h0, fun e => by omega⟩, ⟨by omega, by omega⟩, ?_⟩
  unfold sml
  rw [Bool.and_eq_true, decide_eq_true_eq, List.all_eq_true]
  refine ⟨fun c hc => ?_, by rw [q4, ByteArray.size_extract]; omega⟩
  rw [q4, Byt.bytesOf_mid] at hc
  have := hsn.2.2 c (List.mem_of_mem_drop (List.mem_of_mem_take hc))
  exact decide_eq_true this
/-- Both sides tell the names of a tree alike. -/
theorem both (r : List Eg) (hl : r.length ≤ 1048576) (hz : ∀ e ∈ r, e.f0.size ≤ 1048576) :
  (∃ L, Names L ∧ L.length ≤ 40 ∧ tree L = r ∧ Evt (fun k => impl_namesOf.f k r) (L, true) ∧ Evt (fun k => spec_l13Good.f k r) (L, true)) ∨
  (∃ x, x.length ≤ 81 ∧ Evt (fun k => impl_namesOf.f k r) (x, false) ∧ Evt (fun k => spec_l13Good.f k r) ([], false)) := by
 obtain ⟨y, b, h1, h2, h3, h4⟩ := spec_all r hl hz
 by_cases hex : ∃ L, Names L ∧ L.length ≤ 40 ∧ tree L = r
 ·
  obtain ⟨L, g1, g2, g3⟩ := hex
  have e := h4 (by rw [← g3]; exact tree_short g1 g2) (by subst g3; exact tree_chkS g1) L g1 g2 g3
  rw [e] at h1
  exact .inl ⟨L, g1, g2, g3, by rw [← g3]; exact impl_names g1 g2, h1⟩
 ·
  obtain ⟨x, q1, q2⟩ := impl_other r hl hz (fun L a b c => hex ⟨L, a, b, c⟩)
  cases b with
  | true => exact absurd ⟨y, h3 rfl⟩ hex
  | false =>
   rw [h2 rfl] at h1
   exact .inr ⟨x, q2, q1, h1⟩
theorem put_names (r : List Eg) (s : ByteArray) (hm : r.length ≤ 1048576) (hz : ∀ e ∈ r, e.f0.size ≤ 1048576) (hs : s.size ≤ 1048576) :
  ∃ (x : List Eg) (b : Bool), Evt (fun k => spec_PutName.f k r s) (x, b) ∧ Evt (fun k => impl_PutName.f k r s) (x, b) ∧ x.length ≤ 81 := by
 unfold spec_PutName.f impl_PutName.f
 rcases both r hm hz with ⟨L, hL, h40, _, h1, h2⟩ | ⟨x, _, h1, h2⟩
 ·
  have hsz : ∀ t ∈ L ++ [s], t.size ≤ 1048576 := fun t ht => by
   rcases List.mem_append.1 ht with ht | ht
   ·
    have := hL.size t ht
    omega
   ·
    rw [List.mem_singleton.1 ht]
    exact hs
  have hI : impl_RadixOf.f (L ++ [s]) = some (ansRad (L ++ [s])) := if_pos ⟨by simp; omega, hsz⟩
  refine ⟨(ansRad (L ++ [s])).1, (ansRad (L ++ [s])).2, ?_, Evt.bind h1 (Evt.pos rfl (Evt.pos (by show L.length < _; omega) ?_)), ansRad_len _⟩
  ·
   refine Evt.bind h2 (Evt.bind (put_ev L s (by omega) hL.rise) (Evt.pos rfl (Evt.bind (spec_name s hs) ?_)))
   have hany : (L ++ [s]).any notN = !isN s := by
    rw [List.any_append, names_any hL]
    show (false || ((!isN s) || false)) = _
    simp
   by_cases hN : isN s = true
   ·
    refine Evt.pos hN ?_
    by_cases hin : s ∈ L
    ·
     have e1 : putN L s = (L, false) := by unfold putN; rw [if_pos (memN_iff.2 hin)]
     rw [e1]
     refine Evt.neg (by simp) ((Evt.const _).eq ?_)
     unfold ansRad
     rw [if_neg (fun h => (List.nodup_append.1 h.2.2).2.2 s hin s (by simp) rfl)]
    ·
     have e1 : putN L s = (L.takeWhile (fun n => ltS n s) ++ s :: L.dropWhile (fun n => ltS n s), true) := by unfold putN; rw [if_neg (fun h => hin (memN_iff.1 h))]
     rw [e1]
     obtain ⟨p1, p2⟩ := put_rise hL.rise hin
     refine Evt.pos rfl ?_
     show Evt _ _
     generalize L.takeWhile (fun n => ltS n s) ++ s :: L.dropWhile (fun n => ltS n s) = P at p1 p2 ⊢
     have hP : Names P := ⟨p1, fun n hn => by
      rcases List.mem_cons.1 (p2.mem_iff.1 hn) with rfl | hn
      ·
       exact hN
      ·
       exact hL.each n hn⟩
     have hlen := p2.length_eq
     rw [List.length_cons] at hlen
     have hnd : (L ++ [s]).Nodup := by
      rw [List.nodup_append]
      exact ⟨names_nodup hL, by simp, fun a ha b hb e => by rw [List.mem_singleton.1 hb] at e; exact hin (e ▸ ha)⟩
     by_cases hl : L.length + 1 ≤ 40
     ·
      refine Evt.neg (by show ¬ ((P.length : Nat) : Int) > 40; omega) (Evt.bind (spec_tree hP (by show P.length ≤ _; omega)) ((Evt.const _).eq ?_))
      unfold ansRad
      rw [if_pos ⟨by simp; omega, by rw [hany, hN]; rfl, hnd⟩]
      have : srt (L ++ [s]) = P := rise_unique ((srt_perm _).trans ((List.perm_append_singleton _ _).trans p2.symm)) (srt_rise hnd) hP.rise
      rw [this]
     ·
      refine Evt.pos (by show ((P.length : Nat) : Int) > 40; omega) ((Evt.const _).eq ?_)
      unfold ansRad
      rw [if_neg (fun h => by have := h.1; simp at this; omega)]
   ·
    refine Evt.neg hN ((Evt.const _).eq ?_)
    unfold ansRad
    rw [if_neg (fun h => by have := h.2.1; rw [hany, Bool.eq_false_iff.2 hN] at this; cases this)]
  ·
   rw [hI]
   exact Evt.bsome (Evt.const _)
 ·
  refine ⟨[], false, ?_, Evt.bind h1 (Evt.neg (by simp) (Evt.const _)), Nat.zero_le _⟩
  exact Evt.bind h2 (Evt.bind (put_ev [] s (Nat.zero_le _) List.Pairwise.nil) (Evt.neg (by simp) (Evt.const _)))
end Go.Proofs.Ytcngebfcpobnnaa.Rx
end

section
namespace Go.Proofs.Ytcngebfcpobnnaa.Pure
open Go.RowKit Go.Proofs.Ytcngebfcpobnnaa.PQ Go.Proofs.YtcngebfcpobnnaaW.PrintWords Go.Proofs.YtcngebfcpobnnaaW.PrintLast Go.Proofs.Ytcngebfcpobnnaa.Pre Go.Proofs.Ytcngebfcpobnnaa.Rx
theorem FnExactPutName : laws_FnExactPutName.Pure := by
 intro l a hw hwa
 refine Evt.ex (r := true) ?_
 obtain ⟨t, ht, h2⟩ := RxL.sz_ev l hw.1 (fun x hx => (hw.2 x hx).1)
 unfold laws_FnExactPutName.f
 by_cases hbig : (a.size : Int) > 1048576
 ·
  exact Evt.pos hbig (Evt.const _)
 refine Evt.neg hbig (Evt.bind ht ?_)
 by_cases hc : t < 0
 ·
  exact Evt.pos hc (Evt.const _)
 ·
  refine Evt.neg hc ?_
  have hs := h2 (by omega)
  have hto := RxL.to_ev l hs.1
  have hm : (l.map RxL.cvE).length ≤ 1048576 := by rw [List.length_map]; exact hs.1
  have hz : ∀ e ∈ l.map RxL.cvE, e.f0.size ≤ 1048576 := by
   intro e he
   obtain ⟨x, hx, rfl⟩ := List.mem_map.1 he
   exact hs.2 x hx
  generalize l.map RxL.cvE = r at hto hm hz
  obtain ⟨N, b, hS, hI, h81⟩ := put_names r a hm hz (by omega)
  have heq := RxL.eq_ev N (by omega)
  have heqr := RxL.eq_ev r hm
  have hmk := RxL.mark_ev r 1 (by omega) hm
  have hmr := RxL.mark_ev N 1 (by omega) (by omega)
  have hhr := RxL.held_ev N.length 1 (by omega) (by omega)
  refine Evt.bind hto (Evt.bind hS (Evt.bind hto (Evt.bind hI (Evt.bind heq (Evt.pos rfl ?_)))))
  refine Evt.step (fun k => laws_FnExactPutName.j0.eq_2 _ _ _ _ _ _ _ _ k) (Evt.neg (by simp) (Evt.bind hto (Evt.bind heqr (Evt.pos rfl (Evt.bind hmk (Evt.neg (by simp; omega) (Evt.bind heq (Evt.pos rfl ?_))))))))
  refine Evt.step (fun k => laws_FnExactPutName.j1.eq_2 _ _ _ _ _ _ k) (Evt.neg (by simp) (Evt.bind hmr (Evt.bind hhr (Evt.neg (by omega) (Evt.pos rfl ?_)))))
  refine Evt.bind hto (Evt.bind hI (Evt.bind heq (Evt.pos rfl ?_)))
  exact Evt.step (fun k => laws_FnExactPutName.j2.eq_2 _ _ _ k) (Evt.neg (by simp) (Evt.bind hhr (Evt.neg (by omega) (Evt.pos rfl (Evt.const _)))))
end Go.Proofs.Ytcngebfcpobnnaa.Pure
end
