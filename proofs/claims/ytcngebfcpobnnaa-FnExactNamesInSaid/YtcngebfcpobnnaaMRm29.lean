/- Several texts in one: what the claim's last text rests on. No conditions. -/
import Derived.Test.YtcngebfcpobnnaaMRm7
import Derived.Test.YtcngebfcpobnnaaMRm18
import Derived.Test.YtcngebfcpobnnaaMRm8
import Derived.Test.YtcngebfcpobnnaaMRm26
import Derived.Test.YtcngebfcpobnnaaMRm9
import Derived.Test.YtcngebfcpobnnaaMRm27
import Derived.Test.YtcngebfcpobnnaaMRm5
import Derived.Test.YtcngebfcpobnnaaMRm15
import Derived.Test.YtcngebfcpobnnaaMRm28
section
namespace Go.Proofs.Ytcngebfcpobnnaa.PQ
open Go.RowKit Go.Proofs.YtcngebfcpobnnaaW.PrintWords Go.Proofs.YtcngebfcpobnnaaW.PrintLast Go.Proofs.YtcngebfcpobnnaaW.PrintMore
attribute [local go_sem] max2_int min2_int max_two min_two max_three min_three max_four min_four
set_option linter.unusedVariables false
set_option linter.unusedSimpArgs false
def impl_NamesIn.f (k : Nat) (l0_0 : List (S64)) : Option (List ByteArray × Bool) := (impl_namesOf.f k l0_0).bind fun bt613 => (if bt613.2 = true then (some (bt613.1, true)) else (some (([] : List ByteArray), false)))
set_option maxHeartbeats 8000000 in
set_option maxRecDepth 100000 in
theorem impl_NamesIn.calls (k : Nat) (A0_0 : Option Addr) (c0_0 : Nat) (l0_0 : List (S64)) (r1 : List ByteArray) (r2 : Bool) (w : World) (hr0_0 : Kd.C k64 w A0_0 l0_0.length l0_0) (hc0_0 : l0_0.length ≤ c0_0) (h : impl_NamesIn.f k l0_0 = some (r1, r2)) :
  Calls Try.prog 29 #[.agg #[.slice A0_0 l0_0.length c0_0]] w fun e w' => ∃ v0_ : Value, e = .returned (.tuple #[v0_, .bool r2]) ∧ Kd.R Kd.string 9 w' w.heap.size (fun _ => True) v0_ r1 ∧ Below w.heap.size w w' := by
 have hu26 := Try.underlying26
 have HR0_0 := aM hr0_0
 have HC0_0 := aM hc0_0
 clear hr0_0 hc0_0
 have HB := aM (Below.refl w.heap.size w)
 have H : ((impl_namesOf.f k l0_0).bind fun bt613 => (if bt613.2 = true then (some (bt613.1, true)) else (some (([] : List ByteArray), false)))) = some (r1, r2) := h
 clear h
 replace H := Option.bind_eq_some_iff.mp H
 obtain ⟨⟨t613, t616⟩, A20, H⟩ := H
 replace H : (if t616 = true then (some (t613, true)) else (some (([] : List ByteArray), false))) = some (r1, r2) := H
 have A2 := aM A20
 clear A20
 by_cases c3 : t616 = true
 ·
  subst c3
  have H1 : (some (t613, true)) = some (r1, r2) := by rw [if_pos rfl] at H; exact H
  clear H
  have H := H1
  clear H1
  simp only [Option.some.injEq, Prod.mk.injEq] at H
  obtain ⟨rfl, rfl⟩ := H
  go_enter Try.func29, Try.ntmps29
  go_wp2_with (first | ((with_reducible refine gate_dst (N := 1) rfl ?_); refine box_event ?hg (N := 1) ?hd (cs := #[.slice A0_0 l0_0.length c0_0]) (t := 26) ?hr ?_; (case hd => rfl); (case hg => rfl); (case hr => first | (go_simp; done) | (go_simp; rfl)); intro gb612 hg w4 hbox hb; have n0_ := aM (below_step (by repeat (first | (with_reducible first | exact HB.out | apply below_alloc | apply pw_below_drewN | apply below_drew1) | exact HB.out)) hb); have n1_ := aM (hbox); have n2_ := aM ((by rw [hg]; exact (below_size (by repeat (first | (with_reducible first | exact HB.out | apply below_alloc | apply pw_below_drewN | apply below_drew1) | exact HB.out))) : w.heap.size ≤ gb612)); have n3_ := aM ((by rw [hg]; exact (below_size (by repeat (first | (with_reducible first | exact HB.out | apply below_alloc | apply pw_below_drewN | apply below_drew1) | exact HB.out))) : w.heap.size ≤ gb612)); clear HB; have HB := n0_; have BK612 := n1_; have GW612 := n2_; have GE612 := n3_; clear n0_ n1_ n2_ n3_; clear hb hbox hg; have hcz5_0 : w4.cell? ⟨gb612, 0, none⟩ = some (.slice A0_0 l0_0.length c0_0) := (blk_cell BK612.out 0).trans rfl; have hfz5_0 := blk_frozen BK612.out 0) | ((with_reducible refine gate_callee (f := 54) rfl ?_); refine goesL_ (some 8) rfl rfl Try.func54 (by kernel_rfl) rfl #[.agg #[.slice A0_0 l0_0.length c0_0]] rfl (by (try simp only [List.map_toArray, List.map_cons, List.map_nil]); first | done | rfl | (simp only [List.length_drop, List.length_take]; rfl)) ?_; (with_reducible refine (impl_namesOf.calls k _ _ l0_0 t613 true _ ?side1 ?side2 A2.out).mono ?_); (case side1 => repeat (first | exact (Kd.C_below HR0_0.out HB.out) | (with_reducible refine Kd.C_alloc ?_ _) | (with_reducible refine Kd.C_drewN ?_ _) | (with_reducible refine Kd.C_drew ?_))); (case side2 => exact HC0_0.out); rintro e w6 ⟨v614, rfl, ho0, hb⟩; refine ⟨_, rfl, ?_⟩; have n0_ := aM (Kd.R_lower ho0 (below_size (by repeat (first | (with_reducible first | exact HB.out | apply below_alloc | apply pw_below_drewN | apply below_drew1 | refine below_set ?_ GE612.out) | exact HB.out)))); have n1_ := aM (blk_below (g := gb612) (o := .cells #[.slice A0_0 l0_0.length c0_0] 26 (0, 0)) (by (with_reducible repeat (first | refine blk_drewN ?_ _ | refine blk_drew ?_ | refine blk_alloc ?_ _)); exact BK612.out) hb); have n2_ := aM (below_step (by repeat (first | (with_reducible first | exact HB.out | apply below_alloc | apply pw_below_drewN | apply below_drew1 | refine below_set ?_ GE612.out) | exact HB.out)) hb); clear BK612; clear HB; have HO615 := n0_; have BK612 := n1_; have HB := n2_; clear n0_ n1_ n2_; (try clear hb); (try clear hb2); (try clear hk); (try clear hi); (try clear ho0)))
  go_ret2
  exact ⟨_, by first | rfl | (simp [errW_none, errW_some] <;> rfl) | (simp [*, errW_none, errW_some] <;> rfl), by (with_reducible repeat (first | apply Kd.R_alloc | apply Kd.R_drewN | apply Kd.R_drew)); exact HO615.out, by repeat (first | (with_reducible first | exact HB.out | apply below_alloc | apply pw_below_drewN | apply below_drew1 | refine below_set ?_ GE612.out) | exact HB.out)⟩
 ·
  replace c3 := Bool.eq_false_iff.mpr c3
  subst c3
  have H1 : (some (([] : List ByteArray), false)) = some (r1, r2) := by rw [if_neg (show ¬ (false = true) by decide)] at H; exact H
  clear H
  have H := H1
  clear H1
  simp only [Option.some.injEq, Prod.mk.injEq] at H
  obtain ⟨rfl, rfl⟩ := H
  go_enter Try.func29, Try.ntmps29
  go_wp2_with (first | ((with_reducible refine gate_dst (N := 1) rfl ?_); refine box_event ?hg (N := 1) ?hd (cs := #[.slice A0_0 l0_0.length c0_0]) (t := 26) ?hr ?_; (case hd => rfl); (case hg => rfl); (case hr => first | (go_simp; done) | (go_simp; rfl)); intro gb612 hg w7 hbox hb; have n0_ := aM (below_step (by repeat (first | (with_reducible first | exact HB.out | apply below_alloc | apply pw_below_drewN | apply below_drew1) | exact HB.out)) hb); have n1_ := aM (hbox); have n2_ := aM ((by rw [hg]; exact (below_size (by repeat (first | (with_reducible first | exact HB.out | apply below_alloc | apply pw_below_drewN | apply below_drew1) | exact HB.out))) : w.heap.size ≤ gb612)); have n3_ := aM ((by rw [hg]; exact (below_size (by repeat (first | (with_reducible first | exact HB.out | apply below_alloc | apply pw_below_drewN | apply below_drew1) | exact HB.out))) : w.heap.size ≤ gb612)); clear HB; have HB := n0_; have BK612 := n1_; have GW612 := n2_; have GE612 := n3_; clear n0_ n1_ n2_ n3_; clear hb hbox hg; have hcz8_0 : w7.cell? ⟨gb612, 0, none⟩ = some (.slice A0_0 l0_0.length c0_0) := (blk_cell BK612.out 0).trans rfl; have hfz8_0 := blk_frozen BK612.out 0) | ((with_reducible refine gate_callee (f := 54) rfl ?_); refine goesL_ (some 8) rfl rfl Try.func54 (by kernel_rfl) rfl #[.agg #[.slice A0_0 l0_0.length c0_0]] rfl (by (try simp only [List.map_toArray, List.map_cons, List.map_nil]); first | done | rfl | (simp only [List.length_drop, List.length_take]; rfl)) ?_; (with_reducible refine (impl_namesOf.calls k _ _ l0_0 t613 false _ ?side1 ?side2 A2.out).mono ?_); (case side1 => repeat (first | exact (Kd.C_below HR0_0.out HB.out) | (with_reducible refine Kd.C_alloc ?_ _) | (with_reducible refine Kd.C_drewN ?_ _) | (with_reducible refine Kd.C_drew ?_))); (case side2 => exact HC0_0.out); rintro e w9 ⟨v614, rfl, ho0, hb⟩; refine ⟨_, rfl, ?_⟩; have n0_ := aM (Kd.R_lower ho0 (below_size (by repeat (first | (with_reducible first | exact HB.out | apply below_alloc | apply pw_below_drewN | apply below_drew1 | refine below_set ?_ GE612.out) | exact HB.out)))); have n1_ := aM (blk_below (g := gb612) (o := .cells #[.slice A0_0 l0_0.length c0_0] 26 (0, 0)) (by (with_reducible repeat (first | refine blk_drewN ?_ _ | refine blk_drew ?_ | refine blk_alloc ?_ _)); exact BK612.out) hb); have n2_ := aM (below_step (by repeat (first | (with_reducible first | exact HB.out | apply below_alloc | apply pw_below_drewN | apply below_drew1 | refine below_set ?_ GE612.out) | exact HB.out)) hb); clear BK612; clear HB; have HO615 := n0_; have BK612 := n1_; have HB := n2_; clear n0_ n1_ n2_; (try clear hb); (try clear hb2); (try clear hk); (try clear hi); (try clear ho0)))
  go_ret2
  exact ⟨_, by first | rfl | (simp [errW_none, errW_some] <;> rfl) | (simp [*, errW_none, errW_some] <;> rfl), by first | exact Kd.R_nil _ _ _ _ _ | exact Kd.N_nil _ _ _ _ _ | exact Kd.V_nil _ _ _ _ _ | exact Kd.Q_nil _ _ _ _ _ | exact Kd.S_nil _ _ _ _ _, by repeat (first | (with_reducible first | exact HB.out | apply below_alloc | apply pw_below_drewN | apply below_drew1 | refine below_set ?_ GE612.out) | exact HB.out)⟩

mutual
def laws_FnExactNamesIn.j0 : Nat → List ByteArray → Bool → List ByteArray → Bool → Bool → List (S80) → List (S64) → Option (Bool)
 | 0, _, _, _, _, _, _, _ => none
 | k + 1, x4, x5, x7, x8, x40, x620000, x632000 => if x40 = true then (some false) else ((laws_toRadix.f k x620000).bind fun t637 => ((laws_eqRadix.f k x632000 t637).bind fun t640 => (if t640 = true then ((laws_markRadix.f k x632000 1).bind fun bt641 => (if bt641.1 < 0 then (laws_FnExactNamesIn.j1 k x4 x5 x7 true x620000) else ((laws_eqStringS.f k x7 x4).bind fun t643 => (if t643 = true then (laws_FnExactNamesIn.j1 k x4 x5 x7 (x8 != x5) x620000) else (laws_FnExactNamesIn.j1 k x4 x5 x7 true x620000))))) else (some false))))
def laws_FnExactNamesIn.j1 : Nat → List ByteArray → Bool → List ByteArray → Bool → List (S80) → Option (Bool)
 | 0, _, _, _, _, _ => none
 | k + 1, x4, x5, x7, x61, x620000 => if x61 = true then (some false) else ((laws_markStringS.f k x7 1).bind fun bt644 => ((laws_heldStringS.f k bt644.2 1).bind fun t646 => (if t646 < 0 then (some false) else (if t646 = bt644.1 then ((laws_toRadix.f k x620000).bind fun t647 => ((impl_NamesIn.f k t647).bind fun bt650 => ((laws_eqStringS.f k bt650.1 x4).bind fun t654 => (if t654 = true then (laws_FnExactNamesIn.j2 k bt644.2 bt644.1 (bt650.2 != x5)) else (laws_FnExactNamesIn.j2 k bt644.2 bt644.1 true))))) else (some false)))))
def laws_FnExactNamesIn.j2 : Nat → List ByteArray → Int → Bool → Option (Bool)
 | 0, _, _, _ => none
 | k + 1, x7, x10, x87 => if x87 = true then (some false) else ((laws_heldStringS.f k x7 1).bind fun t655 => (if t655 < 0 then (some false) else (if t655 = x10 then (some true) else (some false))))
end
def laws_FnExactNamesIn.f (k : Nat) (l0_0 : List (S80)) : Option (Bool) := (laws_szRadix.f k l0_0 1048576).bind fun t620 => (if t620 < 0 then (some true) else ((laws_toRadix.f k l0_0).bind fun t621 => ((spec_NamesIn.f k t621).bind fun bt624 => ((laws_toRadix.f k l0_0).bind fun t628 => ((impl_NamesIn.f k t628).bind fun bt632 => ((laws_eqStringS.f k bt632.1 bt624.1).bind fun t636 => (if t636 = true then (laws_FnExactNamesIn.j0 k bt624.1 bt624.2 bt632.1 bt632.2 (bt632.2 != bt624.2) l0_0 t628) else (laws_FnExactNamesIn.j0 k bt624.1 bt624.2 bt632.1 bt632.2 true l0_0 t628))))))))
set_option maxHeartbeats 8000000 in
set_option maxRecDepth 100000 in
theorem laws_FnExactNamesIn.calls (k : Nat) (A0_0 : Option Addr) (c0_0 : Nat) (l0_0 : List (S80)) (r : Bool) (w : World) (hr0_0 : Kd.C k80 w A0_0 l0_0.length l0_0) (hc0_0 : l0_0.length ≤ c0_0) (h : laws_FnExactNamesIn.f k l0_0 = some r) :
  Calls Try.prog 7 #[.agg #[.slice A0_0 l0_0.length c0_0]] w fun e w' => e = .returned (.bool r) ∧ Below w.heap.size w w' := by
 have hu36 := Try.underlying36
 have hu26 := Try.underlying26
 have HR0_0 := aM hr0_0
 have HC0_0 := aM hc0_0
 clear hr0_0 hc0_0
 have HB := aM (Below.refl w.heap.size w)
 have H : ((laws_szRadix.f k l0_0 1048576).bind fun t620 => (if t620 < 0 then (some true) else ((laws_toRadix.f k l0_0).bind fun t621 => ((spec_NamesIn.f k t621).bind fun bt624 => ((laws_toRadix.f k l0_0).bind fun t628 => ((impl_NamesIn.f k t628).bind fun bt632 => ((laws_eqStringS.f k bt632.1 bt624.1).bind fun t636 => (if t636 = true then (laws_FnExactNamesIn.j0 k bt624.1 bt624.2 bt632.1 bt632.2 (bt632.2 != bt624.2) l0_0 t628) else (laws_FnExactNamesIn.j0 k bt624.1 bt624.2 bt632.1 bt632.2 true l0_0 t628))))))))) = some r := h
 clear h
 replace H := Option.bind_eq_some_iff.mp H
 obtain ⟨t620, A20, H⟩ := H
 replace H : (if t620 < 0 then (some true) else ((laws_toRadix.f k l0_0).bind fun t621 => ((spec_NamesIn.f k t621).bind fun bt624 => ((laws_toRadix.f k l0_0).bind fun t628 => ((impl_NamesIn.f k t628).bind fun bt632 => ((laws_eqStringS.f k bt632.1 bt624.1).bind fun t636 => (if t636 = true then (laws_FnExactNamesIn.j0 k bt624.1 bt624.2 bt632.1 bt632.2 (bt632.2 != bt624.2) l0_0 t628) else (laws_FnExactNamesIn.j0 k bt624.1 bt624.2 bt632.1 bt632.2 true l0_0 t628)))))))) = some r := H
 have A2 := aM A20
 clear A20
 by_cases c3 : t620 < 0
 ·
  rw [if_pos c3] at H
  have c3b0 : decide (t620 < 0) = true := decide_eq_true c3
  clear c3
  obtain rfl := Option.some.inj H
  go_enter Try.func7, Try.ntmps7
  go_wp2_with (first | ((with_reducible refine gate_dst (N := 1) rfl ?_); refine box_event ?hg (N := 1) ?hd (cs := #[.slice A0_0 l0_0.length c0_0]) (t := 36) ?hr ?_; (case hd => rfl); (case hg => rfl); (case hr => first | (go_simp; done) | (go_simp; rfl)); intro gb619 hg w4 hbox hb; have n0_ := aM (below_step (by repeat (first | (with_reducible first | exact HB.out | apply below_alloc | apply pw_below_drewN | apply below_drew1) | exact HB.out)) hb); have n1_ := aM (hbox); have n2_ := aM ((by rw [hg]; exact (below_size (by repeat (first | (with_reducible first | exact HB.out | apply below_alloc | apply pw_below_drewN | apply below_drew1) | exact HB.out))) : w.heap.size ≤ gb619)); have n3_ := aM ((by rw [hg]; exact (below_size (by repeat (first | (with_reducible first | exact HB.out | apply below_alloc | apply pw_below_drewN | apply below_drew1) | exact HB.out))) : w.heap.size ≤ gb619)); clear HB; have HB := n0_; have BK619 := n1_; have GW619 := n2_; have GE619 := n3_; clear n0_ n1_ n2_ n3_; clear hb hbox hg; have hcz5_0 : w4.cell? ⟨gb619, 0, none⟩ = some (.slice A0_0 l0_0.length c0_0) := (blk_cell BK619.out 0).trans rfl; have hfz5_0 := blk_frozen BK619.out 0) | ((with_reducible refine gate_callee (f := 20) rfl ?_); refine goesL_ (some 16) rfl rfl Try.func20 (by kernel_rfl) rfl #[.agg #[.slice A0_0 l0_0.length c0_0], .int .i64 1048576] rfl (by (try simp only [List.map_toArray, List.map_cons, List.map_nil]); first | done | rfl | (simp only [List.length_drop, List.length_take]; rfl)) ?_; (with_reducible refine (laws_szRadix.calls k _ _ l0_0 1048576 t620 _ ?side1 ?side2 A2.out).mono ?_); (case side1 => repeat (first | exact (Kd.C_below HR0_0.out HB.out) | (with_reducible refine Kd.C_alloc ?_ _) | (with_reducible refine Kd.C_drewN ?_ _) | (with_reducible refine Kd.C_drew ?_))); (case side2 => exact HC0_0.out); rintro e w6 ⟨rfl, hb⟩; refine ⟨_, rfl, ?_⟩; have n0_ := aM (blk_below (g := gb619) (o := .cells #[.slice A0_0 l0_0.length c0_0] 36 (0, 0)) (by (with_reducible repeat (first | refine blk_drewN ?_ _ | refine blk_drew ?_ | refine blk_alloc ?_ _)); exact BK619.out) hb); have n1_ := aM (below_step (by repeat (first | (with_reducible first | exact HB.out | apply below_alloc | apply pw_below_drewN | apply below_drew1 | refine below_set ?_ GE619.out) | exact HB.out)) hb); clear BK619; clear HB; have BK619 := n0_; have HB := n1_; clear n0_ n1_; (try clear hb); (try clear hb2); (try clear hk); (try clear hi)))
  go_ret
  exact ⟨by first | rfl | (simp [errW_none, errW_some] <;> rfl) | (simp [*, errW_none, errW_some] <;> rfl), by repeat (first | (with_reducible first | exact HB.out | apply below_alloc | apply pw_below_drewN | apply below_drew1 | refine below_set ?_ GE619.out) | exact HB.out)⟩
 ·
  rw [if_neg c3] at H
  have c3b0 : decide (t620 < 0) = false := decide_eq_false c3
  clear c3
  replace H := Option.bind_eq_some_iff.mp H
  obtain ⟨t621, A70, H⟩ := H
  replace H : ((spec_NamesIn.f k t621).bind fun bt624 => ((laws_toRadix.f k l0_0).bind fun t628 => ((impl_NamesIn.f k t628).bind fun bt632 => ((laws_eqStringS.f k bt632.1 bt624.1).bind fun t636 => (if t636 = true then (laws_FnExactNamesIn.j0 k bt624.1 bt624.2 bt632.1 bt632.2 (bt632.2 != bt624.2) l0_0 t628) else (laws_FnExactNamesIn.j0 k bt624.1 bt624.2 bt632.1 bt632.2 true l0_0 t628)))))) = some r := H
  have A7 := aM A70
  clear A70
  replace H := Option.bind_eq_some_iff.mp H
  obtain ⟨⟨t624, t627⟩, A80, H⟩ := H
  replace H : ((laws_toRadix.f k l0_0).bind fun t628 => ((impl_NamesIn.f k t628).bind fun bt632 => ((laws_eqStringS.f k bt632.1 t624).bind fun t636 => (if t636 = true then (laws_FnExactNamesIn.j0 k t624 t627 bt632.1 bt632.2 (bt632.2 != t627) l0_0 t628) else (laws_FnExactNamesIn.j0 k t624 t627 bt632.1 bt632.2 true l0_0 t628))))) = some r := H
  have A8 := aM A80
  clear A80
  replace H := Option.bind_eq_some_iff.mp H
  obtain ⟨t628, A90, H⟩ := H
  replace H : ((impl_NamesIn.f k t628).bind fun bt632 => ((laws_eqStringS.f k bt632.1 t624).bind fun t636 => (if t636 = true then (laws_FnExactNamesIn.j0 k t624 t627 bt632.1 bt632.2 (bt632.2 != t627) l0_0 t628) else (laws_FnExactNamesIn.j0 k t624 t627 bt632.1 bt632.2 true l0_0 t628)))) = some r := H
  have A9 := aM A90
  clear A90
  replace H := Option.bind_eq_some_iff.mp H
  obtain ⟨⟨t632, t635⟩, A100, H⟩ := H
  replace H : ((laws_eqStringS.f k t632 t624).bind fun t636 => (if t636 = true then (laws_FnExactNamesIn.j0 k t624 t627 t632 t635 (t635 != t627) l0_0 t628) else (laws_FnExactNamesIn.j0 k t624 t627 t632 t635 true l0_0 t628))) = some r := H
  have A10 := aM A100
  clear A100
  have HC11 := aM H
  clear H
  go_enter Try.func7, Try.ntmps7
  go_upto_region 8 with (first | ((with_reducible refine gate_dst (N := 1) rfl ?_); refine box_event ?hg (N := 1) ?hd (cs := #[.slice A0_0 l0_0.length c0_0]) (t := 36) ?hr ?_; (case hd => rfl); (case hg => rfl); (case hr => first | (go_simp; done) | (go_simp; rfl)); intro gb619 hg w12 hbox hb; have n0_ := aM (below_step (by repeat (first | (with_reducible first | exact HB.out | apply below_alloc | apply pw_below_drewN | apply below_drew1) | exact HB.out)) hb); have n1_ := aM (hbox); have n2_ := aM ((by rw [hg]; exact (below_size (by repeat (first | (with_reducible first | exact HB.out | apply below_alloc | apply pw_below_drewN | apply below_drew1) | exact HB.out))) : w.heap.size ≤ gb619)); have n3_ := aM ((by rw [hg]; exact (below_size (by repeat (first | (with_reducible first | exact HB.out | apply below_alloc | apply pw_below_drewN | apply below_drew1) | exact HB.out))) : w.heap.size ≤ gb619)); clear HB; have HB := n0_; have BK619 := n1_; have GW619 := n2_; have GE619 := n3_; clear n0_ n1_ n2_ n3_; clear hb hbox hg; have hcz13_0 : w12.cell? ⟨gb619, 0, none⟩ = some (.slice A0_0 l0_0.length c0_0) := (blk_cell BK619.out 0).trans rfl; have hfz13_0 := blk_frozen BK619.out 0) | ((with_reducible refine gate_callee (f := 20) rfl ?_); refine goesL_ (some 16) rfl rfl Try.func20 (by kernel_rfl) rfl #[.agg #[.slice A0_0 l0_0.length c0_0], .int .i64 1048576] rfl (by (try simp only [List.map_toArray, List.map_cons, List.map_nil]); first | done | rfl | (simp only [List.length_drop, List.length_take]; rfl)) ?_; (with_reducible refine (laws_szRadix.calls k _ _ l0_0 1048576 t620 _ ?side1 ?side2 A2.out).mono ?_); (case side1 => repeat (first | exact (Kd.C_below HR0_0.out HB.out) | (with_reducible refine Kd.C_alloc ?_ _) | (with_reducible refine Kd.C_drewN ?_ _) | (with_reducible refine Kd.C_drew ?_))); (case side2 => exact HC0_0.out); rintro e w14 ⟨rfl, hb⟩; refine ⟨_, rfl, ?_⟩; have n0_ := aM (blk_below (g := gb619) (o := .cells #[.slice A0_0 l0_0.length c0_0] 36 (0, 0)) (by (with_reducible repeat (first | refine blk_drewN ?_ _ | refine blk_drew ?_ | refine blk_alloc ?_ _)); exact BK619.out) hb); have n1_ := aM (below_step (by repeat (first | (with_reducible first | exact HB.out | apply below_alloc | apply pw_below_drewN | apply below_drew1 | refine below_set ?_ GE619.out) | exact HB.out)) hb); clear BK619; clear HB; have BK619 := n0_; have HB := n1_; clear n0_ n1_; (try clear hb); (try clear hb2); (try clear hk); (try clear hi); have hcz15_0 : w14.cell? ⟨gb619, 0, none⟩ = some (.slice A0_0 l0_0.length c0_0) := (blk_cell BK619.out 0).trans rfl; have hfz15_0 := blk_frozen BK619.out 0) | ((with_reducible refine gate_callee (f := 22) rfl ?_); refine goesL_ (some 21) rfl rfl Try.func22 (by kernel_rfl) rfl #[.agg #[.slice A0_0 l0_0.length c0_0]] rfl (by (try simp only [List.map_toArray, List.map_cons, List.map_nil]); first | done | rfl | (simp only [List.length_drop, List.length_take]; rfl)) ?_; (with_reducible refine (laws_toRadix.calls k _ _ l0_0 t621 _ ?side1 ?side2 A7.out).mono ?_); (case side1 => repeat (first | exact (Kd.C_below HR0_0.out HB.out) | (with_reducible refine Kd.C_alloc ?_ _) | (with_reducible refine Kd.C_drewN ?_ _) | (with_reducible refine Kd.C_drew ?_))); (case side2 => exact HC0_0.out); rintro e w16 ⟨v622, rfl, ho0, hb⟩; refine ⟨_, rfl, ?_⟩; have n0_ := aM (Kd.R_lower ho0 (below_size (by repeat (first | (with_reducible first | exact HB.out | apply below_alloc | apply pw_below_drewN | apply below_drew1 | refine below_set ?_ GE619.out) | exact HB.out)))); have n1_ := aM (blk_below (g := gb619) (o := .cells #[.slice A0_0 l0_0.length c0_0] 36 (0, 0)) (by (with_reducible repeat (first | refine blk_drewN ?_ _ | refine blk_drew ?_ | refine blk_alloc ?_ _)); exact BK619.out) hb); have n2_ := aM (below_step (by repeat (first | (with_reducible first | exact HB.out | apply below_alloc | apply pw_below_drewN | apply below_drew1 | refine below_set ?_ GE619.out) | exact HB.out)) hb); clear BK619; clear HB; have HO623 := n0_; have BK619 := n1_; have HB := n2_; clear n0_ n1_ n2_; (try clear hb); (try clear hb2); (try clear hk); (try clear hi); (try clear ho0); obtain ⟨Ao17, co17, eo17⟩ := Kd.R_slice HO623.out; subst eo17) | ((with_reducible refine gate_callee (f := 28) rfl ?_); refine goesL_ (some 22) rfl rfl Try.func28 (by kernel_rfl) rfl #[.agg #[.slice Ao17 t621.length co17]] rfl (by (try simp only [List.map_toArray, List.map_cons, List.map_nil]); first | done | rfl | (simp only [List.length_drop, List.length_take]; rfl)) ?_; (with_reducible refine (spec_NamesIn.calls k _ _ t621 t624 t627 _ ?side1 ?side2 A8.out).mono ?_); (case side1 => repeat (first | exact (Kd.R_reads' HO623.out).2.2 | (with_reducible refine Kd.C_alloc ?_ _) | (with_reducible refine Kd.C_drewN ?_ _) | (with_reducible refine Kd.C_drew ?_))); (case side2 => exact (Kd.R_reads' HO623.out).2.1); rintro e w18 ⟨v625, rfl, ho0, hb⟩; refine ⟨_, rfl, ?_⟩; have n0_ := aM (Kd.R_below (by (with_reducible repeat (first | apply Kd.R_alloc | apply Kd.R_drewN | apply Kd.R_drew)); exact HO623.out) hb); have n1_ := aM (Kd.R_lower ho0 (below_size (by repeat (first | (with_reducible first | exact HB.out | apply below_alloc | apply pw_below_drewN | apply below_drew1 | refine below_set ?_ GE619.out) | exact HB.out)))); have n2_ := aM (blk_below (g := gb619) (o := .cells #[.slice A0_0 l0_0.length c0_0] 36 (0, 0)) (by (with_reducible repeat (first | refine blk_drewN ?_ _ | refine blk_drew ?_ | refine blk_alloc ?_ _)); exact BK619.out) hb); have n3_ := aM (below_step (by repeat (first | (with_reducible first | exact HB.out | apply below_alloc | apply pw_below_drewN | apply below_drew1 | refine below_set ?_ GE619.out) | exact HB.out)) hb); clear HO623; clear BK619; clear HB; have HO623 := n0_; have HO626 := n1_; have BK619 := n2_; have HB := n3_; clear n0_ n1_ n2_ n3_; (try clear hb); (try clear hb2); (try clear hk); (try clear hi); (try clear ho0); have hcz19_0 : w18.cell? ⟨gb619, 0, none⟩ = some (.slice A0_0 l0_0.length c0_0) := (blk_cell BK619.out 0).trans rfl; have hfz19_0 := blk_frozen BK619.out 0) | ((with_reducible refine gate_callee (f := 22) rfl ?_); refine goesL_ (some 26) rfl rfl Try.func22 (by kernel_rfl) rfl #[.agg #[.slice A0_0 l0_0.length c0_0]] rfl (by (try simp only [List.map_toArray, List.map_cons, List.map_nil]); first | done | rfl | (simp only [List.length_drop, List.length_take]; rfl)) ?_; (with_reducible refine (laws_toRadix.calls k _ _ l0_0 t628 _ ?side1 ?side2 A9.out).mono ?_); (case side1 => repeat (first | exact (Kd.C_below HR0_0.out HB.out) | (with_reducible refine Kd.C_alloc ?_ _) | (with_reducible refine Kd.C_drewN ?_ _) | (with_reducible refine Kd.C_drew ?_))); (case side2 => exact HC0_0.out); rintro e w20 ⟨v629, rfl, ho0, hb⟩; refine ⟨_, rfl, ?_⟩; have n0_ := aM (Kd.R_elder' (by (with_reducible repeat (first | apply Kd.R_alloc | apply Kd.R_drewN | apply Kd.R_drew)); exact HO623.out) (Kd.R_base ho0) hb); have n1_ := aM (Kd.R_below (by (with_reducible repeat (first | apply Kd.R_alloc | apply Kd.R_drewN | apply Kd.R_drew)); exact HO626.out) hb); have n2_ := aM (Kd.R_lower (Kd.R_new' ho0 (Kd.R_lt (by (with_reducible repeat (first | apply Kd.R_alloc | apply Kd.R_drewN | apply Kd.R_drew)); exact HO623.out))) (below_size (by repeat (first | (with_reducible first | exact HB.out | apply below_alloc | apply pw_below_drewN | apply below_drew1 | refine below_set ?_ GE619.out) | exact HB.out)))); have n3_ := aM (blk_below (g := gb619) (o := .cells #[.slice A0_0 l0_0.length c0_0] 36 (0, 0)) (by (with_reducible repeat (first | refine blk_drewN ?_ _ | refine blk_drew ?_ | refine blk_alloc ?_ _)); exact BK619.out) hb); have n4_ := aM (below_step (by repeat (first | (with_reducible first | exact HB.out | apply below_alloc | apply pw_below_drewN | apply below_drew1 | refine below_set ?_ GE619.out) | exact HB.out)) hb); clear HO623; clear HO626; clear BK619; clear HB; have HO623 := n0_; have HO626 := n1_; have HO630 := n2_; have BK619 := n3_; have HB := n4_; clear n0_ n1_ n2_ n3_ n4_; (try clear hb); (try clear hb2); (try clear hk); (try clear hi); (try clear ho0)) | ((with_reducible refine gate_dst (N := 6) rfl ?_); refine box_event ?hg (N := 6) ?hd (cs := #[.slice none 0 0]) (t := 26) ?hr ?_; (case hd => rfl); (case hg => rfl); (case hr => first | (go_simp; done) | (go_simp; rfl)); intro gb631 hg w21 hbox hb; have n0_ := aM (Kd.R_below (by (with_reducible repeat (first | apply Kd.R_alloc | apply Kd.R_drewN | apply Kd.R_drew)); exact HO623.out) hb); have n1_ := aM (Kd.R_below (by (with_reducible repeat (first | apply Kd.R_alloc | apply Kd.R_drewN | apply Kd.R_drew)); exact HO626.out) hb); have n2_ := aM (Kd.R_below (by (with_reducible repeat (first | apply Kd.R_alloc | apply Kd.R_drewN | apply Kd.R_drew)); exact HO630.out) hb); have n3_ := aM (blk_below (g := gb619) (o := .cells #[.slice A0_0 l0_0.length c0_0] 36 (0, 0)) (by (with_reducible repeat (first | refine blk_drewN ?_ _ | refine blk_drew ?_ | refine blk_alloc ?_ _)); exact BK619.out) hb); have n4_ := aM (below_step (by repeat (first | (with_reducible first | exact HB.out | apply below_alloc | apply pw_below_drewN | apply below_drew1 | refine below_set ?_ GE619.out) | exact HB.out)) hb); have n5_ := aM (hbox); have n6_ := aM ((by rw [hg]; exact (below_size (by repeat (first | (with_reducible first | exact HB.out | apply below_alloc | apply pw_below_drewN | apply below_drew1 | refine below_set ?_ GE619.out) | exact HB.out))) : w.heap.size ≤ gb631)); have n7_ := aM ((by rw [hg]; exact (below_size (by repeat (first | (with_reducible first | exact HB.out | apply below_alloc | apply pw_below_drewN | apply below_drew1 | refine below_set ?_ GE619.out) | exact HB.out))) : w.heap.size ≤ gb631)); have n8_ := aM ((by rw [hg]; exact Nat.ne_of_lt (blk_lt (g := gb619) (o := .cells #[.slice A0_0 l0_0.length c0_0] 36 (0, 0)) (by (with_reducible repeat (first | refine blk_drewN ?_ _ | refine blk_drew ?_ | refine blk_alloc ?_ _)); exact BK619.out)) : gb619 ≠ gb631)); have n9_ := aM ((by rw [hg]; exact Nat.ne_of_gt (blk_lt (g := gb619) (o := .cells #[.slice A0_0 l0_0.length c0_0] 36 (0, 0)) (by (with_reducible repeat (first | refine blk_drewN ?_ _ | refine blk_drew ?_ | refine blk_alloc ?_ _)); exact BK619.out)) : gb631 ≠ gb619)); clear HO623; clear HO626; clear HO630; clear BK619; clear HB; have HO623 := n0_; have HO626 := n1_; have HO630 := n2_; have BK619 := n3_; have HB := n4_; have BK631 := n5_; have GW631 := n6_; have GE631 := n7_; have NB619_631 := n8_; have NB631_619 := n9_; clear n0_ n1_ n2_ n3_ n4_ n5_ n6_ n7_ n8_ n9_; clear hb hbox hg; obtain ⟨Ao22, co22, eo22⟩ := Kd.R_slice HO630.out; subst eo22; have hnb23 := NB631_619.out; have hnc23 := NB619_631.out; have hcz24_0 : w21.cell? ⟨gb631, 0, none⟩ = some (.slice none 0 0) := (blk_cell BK631.out 0).trans rfl; have hfz24_0 := blk_frozen BK631.out 0) | ((with_reducible refine gate_callee (f := 29) rfl ?_); refine goesL_ (some 29) rfl rfl Try.func29 (by kernel_rfl) rfl #[.agg #[.slice Ao22 t628.length co22]] rfl (by (try simp only [List.map_toArray, List.map_cons, List.map_nil]); first | done | rfl | (simp only [List.length_drop, List.length_take]; rfl)) ?_; (with_reducible refine (impl_NamesIn.calls k _ _ t628 t632 t635 _ ?side1 ?side2 A10.out).mono ?_); (case side1 => refine (Kd.R_reads' (e := 64) (base := w.heap.size) (ok := fun k_ => (True ∧ some k_ ≠ (.slice Ao17 t621.length co17 : Value).ownBlock)) (n := t628.length) (c := co22) ?_).2.2; exact (by (with_reducible repeat (first | apply Kd.R_alloc | apply Kd.R_drewN | apply Kd.R_drew)); exact (Kd.R_mono (Kd.R_far (p := ⟨gb631, 0, none⟩) (Kd.R_types HO630.out BK631.out (by decide)) (fun _ hk => hk.2) (.slice Ao22 t628.length co22)) (fun _ h_ => h_.1)))); (case side2 => exact (Kd.R_reads' HO630.out).2.1); rintro e w25 ⟨v633, rfl, ho0, hb⟩; refine ⟨_, rfl, ?_⟩; have n0_ := aM (Kd.R_below (by (with_reducible repeat (first | apply Kd.R_alloc | apply Kd.R_drewN | apply Kd.R_drew)); exact (Kd.R_mono (Kd.R_far (p := ⟨gb631, 0, none⟩) (Kd.R_types HO623.out BK631.out (by decide)) (fun _ hk => hk.2) (.slice Ao22 t628.length co22)) (fun _ h_ => h_.1))) hb); have n1_ := aM (Kd.R_elder' (by (with_reducible repeat (first | apply Kd.R_alloc | apply Kd.R_drewN | apply Kd.R_drew)); exact (Kd.R_mono (Kd.R_far (p := ⟨gb631, 0, none⟩) (Kd.R_types HO626.out BK631.out (by decide)) (fun _ hk => hk.2) (.slice Ao22 t628.length co22)) (fun _ h_ => h_.1))) (Kd.R_base ho0) hb); have n2_ := aM (Kd.R_below (by (with_reducible repeat (first | apply Kd.R_alloc | apply Kd.R_drewN | apply Kd.R_drew)); exact (Kd.R_mono (Kd.R_far (p := ⟨gb631, 0, none⟩) (Kd.R_types HO630.out BK631.out (by decide)) (fun _ hk => hk.2) (.slice Ao22 t628.length co22)) (fun _ h_ => h_.1))) hb); have n3_ := aM (Kd.R_lower (Kd.R_new' ho0 (Kd.R_lt (by (with_reducible repeat (first | apply Kd.R_alloc | apply Kd.R_drewN | apply Kd.R_drew)); exact (Kd.R_mono (Kd.R_far (p := ⟨gb631, 0, none⟩) (Kd.R_types HO626.out BK631.out (by decide)) (fun _ hk => hk.2) (.slice Ao22 t628.length co22)) (fun _ h_ => h_.1))))) (below_size (by repeat (first | (with_reducible first | exact HB.out | apply below_alloc | apply pw_below_drewN | apply below_drew1 | refine below_set ?_ GE619.out | refine below_set ?_ GE631.out) | exact HB.out)))); have n4_ := aM (blk_below (g := gb619) (o := .cells #[.slice A0_0 l0_0.length c0_0] 36 (0, 0)) (by (with_reducible repeat (first | refine blk_drewN ?_ _ | refine blk_drew ?_ | refine blk_alloc ?_ _)); refine blk_far ?_ NB619_631.out _; (with_reducible repeat (first | refine blk_drewN ?_ _ | refine blk_drew ?_ | refine blk_alloc ?_ _)); exact BK619.out) hb); have n5_ := aM (blk_below (g := gb631) (o := .cells #[.slice Ao22 t628.length co22] 26 (0, 0)) (by (with_reducible repeat (first | refine blk_drewN ?_ _ | refine blk_drew ?_ | refine blk_alloc ?_ _)); refine blk_put (cs := #[.slice none 0 0]) ?_ 0 _ rfl; (with_reducible repeat (first | refine blk_drewN ?_ _ | refine blk_drew ?_ | refine blk_alloc ?_ _)); exact BK631.out) hb); have n6_ := aM (below_step (by repeat (first | (with_reducible first | exact HB.out | apply below_alloc | apply pw_below_drewN | apply below_drew1 | refine below_set ?_ GE619.out | refine below_set ?_ GE631.out) | exact HB.out)) hb); clear HO623; clear HO626; clear HO630; clear BK619; clear BK631; clear HB; have HO623 := n0_; have HO626 := n1_; have HO630 := n2_; have HO634 := n3_; have BK619 := n4_; have BK631 := n5_; have HB := n6_; clear n0_ n1_ n2_ n3_ n4_ n5_ n6_; (try clear hb); (try clear hb2); (try clear hk); (try clear hi); (try clear ho0)))
  (try simp only [Act.put, zSA, zSB, zSC])
  go_cut [40] (fun v40 wc => ∃ (kq : Nat) (x40_10 : Bool), v40 = .bool x40_10 ∧ Aside0 (laws_FnExactNamesIn.j0 kq t624 t627 t632 t635 x40_10 l0_0 t628 = some r) ∧ Aside0 (kq ≤ k) ∧ Aside0 (Kd.R Kd.string 9 wc w.heap.size (fun k_ => some k_ ≠ (v633 : Value).ownBlock) v625 t624) ∧ Aside0 (Kd.R Kd.string 9 wc w.heap.size (fun k_ => some k_ ≠ (v625 : Value).ownBlock) v633 t632) ∧ Aside0 (Kd.R k64 64 wc w.heap.size (fun _ => True) (.slice Ao22 t628.length co22) t628) ∧ Aside0 (wc.heap[gb619]? = some (.cells #[(.slice A0_0 l0_0.length c0_0)] 36 (0, 0))) ∧ Aside0 (wc.heap[gb631]? = some (.cells #[(.slice Ao22 t628.length co22)] 26 (0, 0))) ∧ Aside0 (Below w.heap.size w wc))
  case first =>
   have H := HC11.out
   clear HC11
   replace H := Option.bind_eq_some_iff.mp H
   obtain ⟨t636, A260, H⟩ := H
   replace H : (if t636 = true then (laws_FnExactNamesIn.j0 k t624 t627 t632 t635 (t635 != t627) l0_0 t628) else (laws_FnExactNamesIn.j0 k t624 t627 t632 t635 true l0_0 t628)) = some r := H
   have A26 := aM A260
   clear A260
   by_cases c27 : t636 = true
   ·
    subst c27
    have H1 : (laws_FnExactNamesIn.j0 k t624 t627 t632 t635 (t635 != t627) l0_0 t628) = some r := by rw [if_pos rfl] at H; exact H
    clear H
    have H := H1
    clear H1
    have H' := aM H
    clear H
    obtain ⟨Ao28, co28, eo28⟩ := Kd.R_slice HO634.out
    subst eo28
    obtain ⟨Ao29, co29, eo29⟩ := Kd.R_slice HO626.out
    subst eo29
    go_wp2_with (first | ((with_reducible refine gate_callee (f := 16) rfl ?_); refine goesL_ (some 34) rfl rfl Try.func16 (by kernel_rfl) rfl #[.slice Ao28 t632.length co28, .slice Ao29 t624.length co29] rfl (by (try simp only [List.map_toArray, List.map_cons, List.map_nil]); first | done | rfl | (simp only [List.length_drop, List.length_take]; rfl)) ?_; (with_reducible refine (laws_eqStringS.calls k _ _ t632 _ _ t624 true _ ?side1 ?side2 ?side3 ?side4 A26.out).mono ?_); (case side1 => repeat (first | exact (Kd.R_reads' HO634.out).2.2 | (with_reducible refine Kd.C_alloc ?_ _) | (with_reducible refine Kd.C_drewN ?_ _) | (with_reducible refine Kd.C_drew ?_))); (case side2 => exact (Kd.R_reads' HO634.out).2.1); (case side3 => repeat (first | exact (Kd.R_reads' HO626.out).2.2 | (with_reducible refine Kd.C_alloc ?_ _) | (with_reducible refine Kd.C_drewN ?_ _) | (with_reducible refine Kd.C_drew ?_))); (case side4 => exact (Kd.R_reads' HO626.out).2.1); rintro e w' ⟨rfl, ⟨nd, rfl⟩⟩; refine ⟨_, rfl, ?_⟩))
    go_meet
    case rel => exact ⟨_, ((t635 != t627)), (by first | rfl | (simp; done) | (simp [*]; done)), H', ⟨by first | omega | exact Nat.le_refl _⟩, ⟨by (with_reducible repeat (first | apply Kd.R_alloc | apply Kd.R_drewN | apply Kd.R_drew)); exact Kd.R_mono HO626.out (fun _ hk => hk.2)⟩, ⟨by (with_reducible repeat (first | apply Kd.R_alloc | apply Kd.R_drewN | apply Kd.R_drew)); exact Kd.R_mono HO634.out (fun _ hk => hk.2)⟩, ⟨by (with_reducible repeat (first | apply Kd.R_alloc | apply Kd.R_drewN | apply Kd.R_drew)); exact Kd.R_mono HO630.out (fun _ hk => trivial)⟩, ⟨by (with_reducible repeat (first | refine blk_drewN ?_ _ | refine blk_drew ?_ | refine blk_alloc ?_ _)); exact BK619.out⟩, ⟨by (with_reducible repeat (first | refine blk_drewN ?_ _ | refine blk_drew ?_ | refine blk_alloc ?_ _)); exact BK631.out⟩, ⟨by repeat (first | (with_reducible first | exact HB.out | apply below_alloc | apply pw_below_drewN | apply below_drew1 | refine below_set ?_ GE619.out | refine below_set ?_ GE631.out) | exact HB.out)⟩⟩
   ·
    replace c27 := Bool.eq_false_iff.mpr c27
    subst c27
    have H1 : (laws_FnExactNamesIn.j0 k t624 t627 t632 t635 true l0_0 t628) = some r := by rw [if_neg (show ¬ (false = true) by decide)] at H; exact H
    clear H
    have H := H1
    clear H1
    have H' := aM H
    clear H
    obtain ⟨Ao30, co30, eo30⟩ := Kd.R_slice HO634.out
    subst eo30
    obtain ⟨Ao31, co31, eo31⟩ := Kd.R_slice HO626.out
    subst eo31
    go_wp2_with (first | ((with_reducible refine gate_callee (f := 16) rfl ?_); refine goesL_ (some 34) rfl rfl Try.func16 (by kernel_rfl) rfl #[.slice Ao30 t632.length co30, .slice Ao31 t624.length co31] rfl (by (try simp only [List.map_toArray, List.map_cons, List.map_nil]); first | done | rfl | (simp only [List.length_drop, List.length_take]; rfl)) ?_; (with_reducible refine (laws_eqStringS.calls k _ _ t632 _ _ t624 false _ ?side1 ?side2 ?side3 ?side4 A26.out).mono ?_); (case side1 => repeat (first | exact (Kd.R_reads' HO634.out).2.2 | (with_reducible refine Kd.C_alloc ?_ _) | (with_reducible refine Kd.C_drewN ?_ _) | (with_reducible refine Kd.C_drew ?_))); (case side2 => exact (Kd.R_reads' HO634.out).2.1); (case side3 => repeat (first | exact (Kd.R_reads' HO626.out).2.2 | (with_reducible refine Kd.C_alloc ?_ _) | (with_reducible refine Kd.C_drewN ?_ _) | (with_reducible refine Kd.C_drew ?_))); (case side4 => exact (Kd.R_reads' HO626.out).2.1); rintro e w' ⟨rfl, ⟨nd, rfl⟩⟩; refine ⟨_, rfl, ?_⟩))
    go_meet
    case rel => exact ⟨_, (true), (by first | rfl | (simp; done) | (simp [*]; done)), H', ⟨by first | omega | exact Nat.le_refl _⟩, ⟨by (with_reducible repeat (first | apply Kd.R_alloc | apply Kd.R_drewN | apply Kd.R_drew)); exact Kd.R_mono HO626.out (fun _ hk => hk.2)⟩, ⟨by (with_reducible repeat (first | apply Kd.R_alloc | apply Kd.R_drewN | apply Kd.R_drew)); exact Kd.R_mono HO634.out (fun _ hk => hk.2)⟩, ⟨by (with_reducible repeat (first | apply Kd.R_alloc | apply Kd.R_drewN | apply Kd.R_drew)); exact Kd.R_mono HO630.out (fun _ hk => trivial)⟩, ⟨by (with_reducible repeat (first | refine blk_drewN ?_ _ | refine blk_drew ?_ | refine blk_alloc ?_ _)); exact BK619.out⟩, ⟨by (with_reducible repeat (first | refine blk_drewN ?_ _ | refine blk_drew ?_ | refine blk_alloc ?_ _)); exact BK631.out⟩, ⟨by repeat (first | (with_reducible first | exact HB.out | apply below_alloc | apply pw_below_drewN | apply below_drew1 | refine below_set ?_ GE619.out | refine below_set ?_ GE631.out) | exact HB.out)⟩⟩
  case rest =>
   clear HC11
   try clear c1
   try clear c2
   try clear p2
   try clear c3
   try clear c3b0
   try clear c7
   try clear c16
   try clear c20
   try clear c22
   try clear c23
   try clear c27
   try clear c28
   try clear c29
   try clear hcz13_0
   try clear hcz15_0
   try clear hcz19_0
   try clear hcz24_0
   try clear hcz5_0
   try clear hfz13_0
   try clear hfz15_0
   try clear hfz19_0
   try clear hfz24_0
   try clear hfz5_0
   obtain ⟨kq, x40_10, rfl, HA, HJ10, HO_4, HO_7, HO_632000, BK619, BK631, HB⟩ := hcut
   cases kq with
   | zero => exact absurd HA.out (by simp [laws_FnExactNamesIn.j0])
   | succ kj10 =>
    have H := HA.out
    clear HA
    simp only [laws_FnExactNamesIn.j0] at H
    by_cases c32 : x40_10 = true
    ·
     subst c32
     have H1 : (some false) = some r := by rw [if_pos rfl] at H; exact H
     clear H
     have H := H1
     clear H1
     obtain rfl := Option.some.inj H
     go_wp2
     go_ret
     exact ⟨by first | rfl | (simp [errW_none, errW_some] <;> rfl) | (simp [*, errW_none, errW_some] <;> rfl), by repeat (first | (with_reducible first | exact HB.out | apply below_alloc | apply pw_below_drewN | apply below_drew1 | refine below_set ?_ GE619.out | refine below_set ?_ GE631.out) | exact HB.out)⟩
    ·
     replace c32 := Bool.eq_false_iff.mpr c32
     subst c32
     have H1 : ((laws_toRadix.f kj10 l0_0).bind fun t637 => ((laws_eqRadix.f kj10 t628 t637).bind fun t640 => (if t640 = true then ((laws_markRadix.f kj10 t628 1).bind fun bt641 => (if bt641.1 < 0 then (laws_FnExactNamesIn.j1 kj10 t624 t627 t632 true l0_0) else ((laws_eqStringS.f kj10 t632 t624).bind fun t643 => (if t643 = true then (laws_FnExactNamesIn.j1 kj10 t624 t627 t632 (t635 != t627) l0_0) else (laws_FnExactNamesIn.j1 kj10 t624 t627 t632 true l0_0))))) else (some false)))) = some r := by rw [if_neg (show ¬ (false = true) by decide)] at H; exact H
     clear H
     have H := H1
     clear H1
     replace H := Option.bind_eq_some_iff.mp H
     obtain ⟨t637, A330, H⟩ := H
     replace H : ((laws_eqRadix.f kj10 t628 t637).bind fun t640 => (if t640 = true then ((laws_markRadix.f kj10 t628 1).bind fun bt641 => (if bt641.1 < 0 then (laws_FnExactNamesIn.j1 kj10 t624 t627 t632 true l0_0) else ((laws_eqStringS.f kj10 t632 t624).bind fun t643 => (if t643 = true then (laws_FnExactNamesIn.j1 kj10 t624 t627 t632 (t635 != t627) l0_0) else (laws_FnExactNamesIn.j1 kj10 t624 t627 t632 true l0_0))))) else (some false))) = some r := H
     have A33 := aM A330
     clear A330
     replace H := Option.bind_eq_some_iff.mp H
     obtain ⟨t640, A340, H⟩ := H
     replace H : (if t640 = true then ((laws_markRadix.f kj10 t628 1).bind fun bt641 => (if bt641.1 < 0 then (laws_FnExactNamesIn.j1 kj10 t624 t627 t632 true l0_0) else ((laws_eqStringS.f kj10 t632 t624).bind fun t643 => (if t643 = true then (laws_FnExactNamesIn.j1 kj10 t624 t627 t632 (t635 != t627) l0_0) else (laws_FnExactNamesIn.j1 kj10 t624 t627 t632 true l0_0))))) else (some false)) = some r := H
     have A34 := aM A340
     clear A340
     by_cases c35 : t640 = true
     ·
      subst c35
      have H1 : ((laws_markRadix.f kj10 t628 1).bind fun bt641 => (if bt641.1 < 0 then (laws_FnExactNamesIn.j1 kj10 t624 t627 t632 true l0_0) else ((laws_eqStringS.f kj10 t632 t624).bind fun t643 => (if t643 = true then (laws_FnExactNamesIn.j1 kj10 t624 t627 t632 (t635 != t627) l0_0) else (laws_FnExactNamesIn.j1 kj10 t624 t627 t632 true l0_0))))) = some r := by rw [if_pos rfl] at H; exact H
      clear H
      have H := H1
      clear H1
      replace H := Option.bind_eq_some_iff.mp H
      obtain ⟨⟨t641, t642⟩, A360, H⟩ := H
      replace H : (if t641 < 0 then (laws_FnExactNamesIn.j1 kj10 t624 t627 t632 true l0_0) else ((laws_eqStringS.f kj10 t632 t624).bind fun t643 => (if t643 = true then (laws_FnExactNamesIn.j1 kj10 t624 t627 t632 (t635 != t627) l0_0) else (laws_FnExactNamesIn.j1 kj10 t624 t627 t632 true l0_0)))) = some r := H
      have A36 := aM A360
      clear A360
      have HC37 := aM H
      clear H
      try go_wp2
      have n0_ := aM (Kd.R_drew HO_4.out)
      have n1_ := aM (Kd.R_drew HO_7.out)
      have n2_ := aM (Kd.R_drew HO_632000.out)
      have n3_ := aM (blk_drew BK619.out)
      have n4_ := aM (blk_drew BK631.out)
      have n5_ := aM (below_drew1 HB.out)
      clear HO_4
      clear HO_7
      clear HO_632000
      clear BK619
      clear BK631
      clear HB
      have HO_4 := n0_
      have HO_7 := n1_
      have HO_632000 := n2_
      have BK619 := n3_
      have BK631 := n4_
      have HB := n5_
      clear n0_ n1_ n2_ n3_ n4_ n5_
      refine start_ (n := 5) (S := fun w' => w'.cell? ⟨gb631, 0, none⟩ = some (.slice Ao22 t628.length co22) ∧ w'.cell? ⟨gb619, 0, none⟩ = some (.slice A0_0 l0_0.length c0_0)) (ds := []) (bq 5 0) (by kernel_rfl) rfl (by kernel_rfl) ⟨(blk_cell BK631.out 0).trans rfl, (blk_cell BK619.out 0).trans rfl⟩ (fun hHeld => ?_)
      generalize wc.drew = w38 at HO_4 HO_7 HO_632000 BK619 BK631 HB hHeld ⊢
      refine take_ (i := 0) (N := some 41) (v := ?_) (a' := ?_) (bq 5 1) rfl rfl (by kernel_rfl) (fun _ _ _ h => h) (Or.inl ⟨by rfl, ?_⟩) hHeld ?_ ?_; rotate_left; (rintro w' ⟨s0, s1⟩; go_simp; (with_reducible rfl)); rotate_left; (simp only [Act.put, zSA, zSB, zSC, i64_w, i32_w]; rfl)
      refine take_ (i := 1) (N := some 42) (v := ?_) (a' := ?_) (bq 5 3) rfl rfl (by kernel_rfl) (fun _ _ _ h => h) (Or.inl ⟨by rfl, ?_⟩) hHeld ?_ ?_; rotate_left; (rintro w' ⟨s0, s1⟩; go_simp; (with_reducible rfl)); rotate_left; (simp only [Act.put, zSA, zSB, zSC, i64_w, i32_w]; rfl)
      refine one_ (i := 2) (N := some 43) (bq 5 7) rfl rfl (by kernel_rfl) (by decide) (fun K hK => ?_)
      refine goes_ Try.func22 (by kernel_rfl) rfl #[.agg #[.slice A0_0 l0_0.length c0_0]] (by rfl) rfl rfl (by (try simp only [List.map_toArray, List.map_cons, List.map_nil]); first | done | rfl | (simp only [List.length_drop, List.length_take]; rfl)) ?_
      with_reducible refine (laws_toRadix.calls kj10 _ _ l0_0 t637 _ ?side1 ?side2 A33.out).mono ?_
      (case side1 => repeat (first | exact (Kd.C_below HR0_0.out HB.out) | (with_reducible refine Kd.C_alloc ?_ _) | (with_reducible refine Kd.C_drewN ?_ _) | (with_reducible refine Kd.C_drew ?_)))
      (case side2 => exact HC0_0.out)
      rintro e w39 ⟨v638, rfl, ho0, hb⟩
      refine ⟨_, rfl, ?_⟩
      have n0_ := aM (Kd.R_below (by (with_reducible repeat (first | apply Kd.R_alloc | apply Kd.R_drewN | apply Kd.R_drew)); exact HO_4.out) hb)
      have n1_ := aM (Kd.R_below (by (with_reducible repeat (first | apply Kd.R_alloc | apply Kd.R_drewN | apply Kd.R_drew)); exact HO_7.out) hb)
      have n2_ := aM (Kd.R_elder' (by (with_reducible repeat (first | apply Kd.R_alloc | apply Kd.R_drewN | apply Kd.R_drew)); exact HO_632000.out) (Kd.R_base ho0) hb)
      have n3_ := aM (Kd.R_lower (Kd.R_new' ho0 (Kd.R_lt (by (with_reducible repeat (first | apply Kd.R_alloc | apply Kd.R_drewN | apply Kd.R_drew)); exact HO_632000.out))) (below_size (by repeat (first | (with_reducible first | exact HB.out | apply below_alloc | apply pw_below_drewN | apply below_drew1 | refine below_set ?_ GE619.out | refine below_set ?_ GE631.out) | exact HB.out))))
      have n4_ := aM (blk_below (g := gb619) (o := .cells #[.slice A0_0 l0_0.length c0_0] 36 (0, 0)) (by (with_reducible repeat (first | refine blk_drewN ?_ _ | refine blk_drew ?_ | refine blk_alloc ?_ _)); exact BK619.out) hb)
      have n5_ := aM (blk_below (g := gb631) (o := .cells #[.slice Ao22 t628.length co22] 26 (0, 0)) (by (with_reducible repeat (first | refine blk_drewN ?_ _ | refine blk_drew ?_ | refine blk_alloc ?_ _)); exact BK631.out) hb)
      have n6_ := aM (below_step (by repeat (first | (with_reducible first | exact HB.out | apply below_alloc | apply pw_below_drewN | apply below_drew1 | refine below_set ?_ GE619.out | refine below_set ?_ GE631.out) | exact HB.out)) hb)
      clear HO_4
      clear HO_7
      clear HO_632000
      clear BK619
      clear BK631
      clear HB
      have HO_4 := n0_
      have HO_7 := n1_
      have HO_632000 := n2_
      have HO639 := n3_
      have BK619 := n4_
      have BK631 := n5_
      have HB := n6_
      clear n0_ n1_ n2_ n3_ n4_ n5_ n6_
      (try clear hb)
      (try clear hb2)
      (try clear hk)
      (try clear hi)
      (try clear ho0)
      obtain ⟨Ao40, co40, eo40⟩ := Kd.R_slice HO639.out
      (first | subst eo40 | (injection eo40 with f1_ f2_ f3_; have f4_ := f1_.symm; have f5_ := f3_.symm; clear f1_ f2_ f3_; subst f4_; subst f5_))
      refine hK.out _ _ ⟨(blk_cell BK631.out 0).trans rfl, (blk_cell BK619.out 0).trans rfl⟩ (fun hHeld => ?_)
      clear hK K
      refine norm_ (a' := ?_) ?_ ?_
      rotate_left
      ·
       show Act.put _ (some 43) _ = _
       simp only [Act.put, zSA, zSB, zSC, i64_w, i32_w]
       rfl
      refine one_ (i := 3) (N := some 44) (bq 5 15) rfl rfl (by kernel_rfl) (by decide) (fun K hK => ?_)
      refine goes_ Try.func15 (by kernel_rfl) rfl #[.agg #[.slice Ao22 t628.length co22], .agg #[.slice Ao40 t637.length co40]] (by rfl) rfl rfl (by (try simp only [List.map_toArray, List.map_cons, List.map_nil]); first | done | rfl | (simp only [List.length_drop, List.length_take]; rfl)) ?_
      with_reducible refine (laws_eqRadix.calls kj10 _ _ t628 _ _ t637 true _ ?side1 ?side2 ?side3 ?side4 A34.out).mono ?_
      (case side1 => repeat (first | exact (Kd.R_reads' HO_632000.out).2.2 | (with_reducible refine Kd.C_alloc ?_ _) | (with_reducible refine Kd.C_drewN ?_ _) | (with_reducible refine Kd.C_drew ?_)))
      (case side2 => exact (Kd.R_reads' HO_632000.out).2.1)
      (case side3 => repeat (first | exact (Kd.R_reads' HO639.out).2.2 | (with_reducible refine Kd.C_alloc ?_ _) | (with_reducible refine Kd.C_drewN ?_ _) | (with_reducible refine Kd.C_drew ?_)))
      (case side4 => exact (Kd.R_reads' HO639.out).2.1)
      rintro e w41 ⟨rfl, hb⟩
      refine ⟨_, rfl, ?_⟩
      have n0_ := aM (Kd.R_below (by (with_reducible repeat (first | apply Kd.R_alloc | apply Kd.R_drewN | apply Kd.R_drew)); exact HO_4.out) hb)
      have n1_ := aM (Kd.R_below (by (with_reducible repeat (first | apply Kd.R_alloc | apply Kd.R_drewN | apply Kd.R_drew)); exact HO_7.out) hb)
      have n2_ := aM (Kd.R_below (by (with_reducible repeat (first | apply Kd.R_alloc | apply Kd.R_drewN | apply Kd.R_drew)); exact HO_632000.out) hb)
      have n3_ := aM (Kd.R_below (by (with_reducible repeat (first | apply Kd.R_alloc | apply Kd.R_drewN | apply Kd.R_drew)); exact HO639.out) hb)
      have n4_ := aM (blk_below (g := gb619) (o := .cells #[.slice A0_0 l0_0.length c0_0] 36 (0, 0)) (by (with_reducible repeat (first | refine blk_drewN ?_ _ | refine blk_drew ?_ | refine blk_alloc ?_ _)); exact BK619.out) hb)
      have n5_ := aM (blk_below (g := gb631) (o := .cells #[.slice Ao22 t628.length co22] 26 (0, 0)) (by (with_reducible repeat (first | refine blk_drewN ?_ _ | refine blk_drew ?_ | refine blk_alloc ?_ _)); exact BK631.out) hb)
      have n6_ := aM (below_step (by repeat (first | (with_reducible first | exact HB.out | apply below_alloc | apply pw_below_drewN | apply below_drew1 | refine below_set ?_ GE619.out | refine below_set ?_ GE631.out) | exact HB.out)) hb)
      clear HO_4
      clear HO_7
      clear HO_632000
      clear HO639
      clear BK619
      clear BK631
      clear HB
      have HO_4 := n0_
      have HO_7 := n1_
      have HO_632000 := n2_
      have HO639 := n3_
      have BK619 := n4_
      have BK631 := n5_
      have HB := n6_
      clear n0_ n1_ n2_ n3_ n4_ n5_ n6_
      (try clear hb)
      (try clear hb2)
      (try clear hk)
      (try clear hi)
      refine hK.out _ _ ⟨(blk_cell BK631.out 0).trans rfl, (blk_cell BK619.out 0).trans rfl⟩ (fun hHeld => ?_)
      clear hK K
      refine norm_ (a' := ?_) ?_ ?_
      rotate_left
      ·
       show Act.put _ (some 44) _ = _
       simp only [Act.put, zSA, zSB, zSC, i64_w, i32_w]
       rfl
      refine pure_ (i := 4) (N := some 45) (v := ?_) (a' := ?_) (bq 5 31) rfl rfl (by kernel_rfl) (fun _ _ _ h => h) (Or.inl ⟨by rfl, ?_⟩) ?_ ?_; rotate_left; (intro w'; go_simp; (with_reducible rfl)); rotate_left; (simp only [Act.put, zSA, zSB, zSC, i64_w, i32_w]; rfl)
      refine done_ (by kernel_rfl) ?_
      have hnb42 := NB631_619.out
      have hnc42 := NB619_631.out
      have hcz43_0 : w41.cell? ⟨gb631, 0, none⟩ = some (.slice Ao22 t628.length co22) := (blk_cell BK631.out 0).trans rfl
      have hfz43_0 := blk_frozen BK631.out 0
      go_upto_region 14 with (first | ((with_reducible refine gate_callee (f := 18) rfl ?_); refine goesL_ (some 48) rfl rfl Try.func18 (by kernel_rfl) rfl #[.agg #[.slice Ao22 t628.length co22], .int .i64 1] rfl (by (try simp only [List.map_toArray, List.map_cons, List.map_nil]); first | done | rfl | (simp only [List.length_drop, List.length_take]; rfl)) ?_; (with_reducible refine (laws_markRadix.calls kj10 (fun k_ => some k_ = (.slice Ao22 t628.length co22 : Value).ownBlock) (.slice Ao22 t628.length co22) t628 1 t641 t642 w _ ?side1 ?side2 A36.out).mono ?_); (case side1 => repeat (first | (with_reducible first | exact HB.out | apply below_alloc | apply pw_below_drewN | apply below_drew1 | refine below_set ?_ GE619.out | refine below_set ?_ GE631.out) | exact HB.out)); (case side2 => exact Kd.R_tight rfl HO_632000.out); rintro e w44 ⟨rfl, hy0, hb, hkp⟩; refine ⟨_, rfl, ?_⟩; have n0_ := aM (Kd.R_mono (ok' := fun k_ => some k_ ≠ (v633 : Value).ownBlock) (Kd.R_keptB ((Kd.R_apart' HO_4.out (Kd.R_typed HO_632000.out) (by decide))) hkp (fun k_ hk_ hs_ => (hk_.2) hs_)) (fun k_ hk_ => hk_.1.1)); have n1_ := aM (Kd.R_mono (ok' := fun k_ => some k_ ≠ (v625 : Value).ownBlock) (Kd.R_keptB ((Kd.R_apart' HO_7.out (Kd.R_typed HO_632000.out) (by decide))) hkp (fun k_ hk_ hs_ => (hk_.2) hs_)) (fun k_ hk_ => hk_.1.1)); have n2_ := aM (Kd.R_reok rfl hy0 (fun k_ e_ => HO_632000.out.1 k_ e_)); have n3_ := aM (blk_kept (by (with_reducible repeat (first | refine blk_drewN ?_ _ | refine blk_drew ?_ | refine blk_alloc ?_ _)); exact BK619.out) hkp (fun hs_ => (fun e_ => (Kd.R_ne HO_632000.out BK619.out (by decide)) e_) hs_)); have n4_ := aM (blk_kept (by (with_reducible repeat (first | refine blk_drewN ?_ _ | refine blk_drew ?_ | refine blk_alloc ?_ _)); exact BK631.out) hkp (fun hs_ => (fun e_ => (Kd.R_ne HO_632000.out BK631.out (by decide)) e_) hs_)); have n5_ := aM (Kd.R_mono (ok' := fun k_ => some k_ ≠ (.slice Ao22 t628.length co22 : Value).ownBlock) (Kd.R_keptB (HO639.out) hkp (fun k_ hk_ hs_ => (hk_.2) hs_)) (fun k_ hk_ => hk_.1.2)); have n6_ := aM (hb); clear HO_4; clear HO_7; clear HO_632000; clear BK619; clear BK631; clear HO639; clear HB; have HO_4 := n0_; have HO_7 := n1_; have HO_632000 := n2_; have BK619 := n3_; have BK631 := n4_; have HO639 := n5_; have HB := n6_; clear n0_ n1_ n2_ n3_ n4_ n5_ n6_; (try clear hb); (try clear hkp); (try clear hy0)))
      (try simp only [Act.put, zSA, zSB, zSC])
      go_cut [61] (fun v61 wc => ∃ (kq : Nat) (x61_36 : Bool), v61 = .bool x61_36 ∧ Aside0 (laws_FnExactNamesIn.j1 kq t624 t627 t632 x61_36 l0_0 = some r) ∧ Aside0 (kq ≤ kj10) ∧ Aside0 (Kd.R Kd.string 9 wc w.heap.size (fun k_ => some k_ ≠ (v633 : Value).ownBlock) v625 t624) ∧ Aside0 (Kd.R Kd.string 9 wc w.heap.size (fun k_ => some k_ ≠ (v625 : Value).ownBlock) v633 t632) ∧ Aside0 (Kd.R k64 64 wc w.heap.size (fun _ => True) (.slice Ao22 t628.length co22) t642) ∧ Aside0 (wc.heap[gb619]? = some (.cells #[(.slice A0_0 l0_0.length c0_0)] 36 (0, 0))) ∧ Aside0 (wc.heap[gb631]? = some (.cells #[(.slice Ao22 t628.length co22)] 26 (0, 0))) ∧ Aside0 (Below w.heap.size w wc))
      case first =>
       have H := HC37.out
       clear HC37
       by_cases c45 : t641 < 0
       ·
        rw [if_pos c45] at H
        have c45b0 : decide (t641 < 0) = true := decide_eq_true c45
        clear c45
        (first | rw [c45b0] | (simp only [i64_w, i32_w]; rw [c45b0]) | skip)
        have H' := aM H
        clear H
        go_wp2
        go_meet
        case rel => exact ⟨_, (true), (by first | rfl | (simp; done) | (simp [*]; done)), H', ⟨by have := HJ10.out; first | omega | exact Nat.le_refl _⟩, ⟨by (with_reducible repeat (first | apply Kd.R_alloc | apply Kd.R_drewN | apply Kd.R_drew)); exact HO_4.out⟩, ⟨by (with_reducible repeat (first | apply Kd.R_alloc | apply Kd.R_drewN | apply Kd.R_drew)); exact HO_7.out⟩, ⟨by (with_reducible repeat (first | apply Kd.R_alloc | apply Kd.R_drewN | apply Kd.R_drew)); exact Kd.R_mono HO_632000.out (fun _ hk => trivial)⟩, ⟨by (with_reducible repeat (first | refine blk_drewN ?_ _ | refine blk_drew ?_ | refine blk_alloc ?_ _)); exact BK619.out⟩, ⟨by (with_reducible repeat (first | refine blk_drewN ?_ _ | refine blk_drew ?_ | refine blk_alloc ?_ _)); exact BK631.out⟩, ⟨by repeat (first | (with_reducible first | exact HB.out | apply below_alloc | apply pw_below_drewN | apply below_drew1 | refine below_set ?_ GE619.out | refine below_set ?_ GE631.out) | exact HB.out)⟩⟩
       ·
        rw [if_neg c45] at H
        have c45b0 : decide (t641 < 0) = false := decide_eq_false c45
        clear c45
        (first | rw [c45b0] | (simp only [i64_w, i32_w]; rw [c45b0]) | skip)
        replace H := Option.bind_eq_some_iff.mp H
        obtain ⟨t643, A460, H⟩ := H
        replace H : (if t643 = true then (laws_FnExactNamesIn.j1 kj10 t624 t627 t632 (t635 != t627) l0_0) else (laws_FnExactNamesIn.j1 kj10 t624 t627 t632 true l0_0)) = some r := H
        have A46 := aM A460
        clear A460
        by_cases c47 : t643 = true
        ·
         subst c47
         have H1 : (laws_FnExactNamesIn.j1 kj10 t624 t627 t632 (t635 != t627) l0_0) = some r := by rw [if_pos rfl] at H; exact H
         clear H
         have H := H1
         clear H1
         have H' := aM H
         clear H
         obtain ⟨Ao48, co48, eo48⟩ := Kd.R_slice HO_7.out
         subst eo48
         obtain ⟨Ao49, co49, eo49⟩ := Kd.R_slice HO_4.out
         subst eo49
         go_wp2_with (first | (go_at_call 16; (try simp only [i64_w]); (with_reducible refine (laws_eqStringS.calls kj10 _ _ t632 _ _ t624 true _ ?side1 ?side2 ?side3 ?side4 A46.out).mono ?_); (case side1 => repeat (first | exact (Kd.R_reads' HO_7.out).2.2 | (with_reducible refine Kd.C_alloc ?_ _) | (with_reducible refine Kd.C_drewN ?_ _) | (with_reducible refine Kd.C_drew ?_))); (case side2 => exact (Kd.R_reads' HO_7.out).2.1); (case side3 => repeat (first | exact (Kd.R_reads' HO_4.out).2.2 | (with_reducible refine Kd.C_alloc ?_ _) | (with_reducible refine Kd.C_drewN ?_ _) | (with_reducible refine Kd.C_drew ?_))); (case side4 => exact (Kd.R_reads' HO_4.out).2.1); rintro e w' ⟨rfl, ⟨nd, rfl⟩⟩))
         go_meet
         case rel => exact ⟨_, ((t635 != t627)), (by first | rfl | (simp; done) | (simp [*]; done)), H', ⟨by have := HJ10.out; first | omega | exact Nat.le_refl _⟩, ⟨by (with_reducible repeat (first | apply Kd.R_alloc | apply Kd.R_drewN | apply Kd.R_drew)); exact HO_4.out⟩, ⟨by (with_reducible repeat (first | apply Kd.R_alloc | apply Kd.R_drewN | apply Kd.R_drew)); exact HO_7.out⟩, ⟨by (with_reducible repeat (first | apply Kd.R_alloc | apply Kd.R_drewN | apply Kd.R_drew)); exact Kd.R_mono HO_632000.out (fun _ hk => trivial)⟩, ⟨by (with_reducible repeat (first | refine blk_drewN ?_ _ | refine blk_drew ?_ | refine blk_alloc ?_ _)); exact BK619.out⟩, ⟨by (with_reducible repeat (first | refine blk_drewN ?_ _ | refine blk_drew ?_ | refine blk_alloc ?_ _)); exact BK631.out⟩, ⟨by repeat (first | (with_reducible first | exact HB.out | apply below_alloc | apply pw_below_drewN | apply below_drew1 | refine below_set ?_ GE619.out | refine below_set ?_ GE631.out) | exact HB.out)⟩⟩
        ·
         replace c47 := Bool.eq_false_iff.mpr c47
         subst c47
         have H1 : (laws_FnExactNamesIn.j1 kj10 t624 t627 t632 true l0_0) = some r := by rw [if_neg (show ¬ (false = true) by decide)] at H; exact H
         clear H
         have H := H1
         clear H1
         have H' := aM H
         clear H
         obtain ⟨Ao50, co50, eo50⟩ := Kd.R_slice HO_7.out
         subst eo50
         obtain ⟨Ao51, co51, eo51⟩ := Kd.R_slice HO_4.out
         subst eo51
         go_wp2_with (first | (go_at_call 16; (try simp only [i64_w]); (with_reducible refine (laws_eqStringS.calls kj10 _ _ t632 _ _ t624 false _ ?side1 ?side2 ?side3 ?side4 A46.out).mono ?_); (case side1 => repeat (first | exact (Kd.R_reads' HO_7.out).2.2 | (with_reducible refine Kd.C_alloc ?_ _) | (with_reducible refine Kd.C_drewN ?_ _) | (with_reducible refine Kd.C_drew ?_))); (case side2 => exact (Kd.R_reads' HO_7.out).2.1); (case side3 => repeat (first | exact (Kd.R_reads' HO_4.out).2.2 | (with_reducible refine Kd.C_alloc ?_ _) | (with_reducible refine Kd.C_drewN ?_ _) | (with_reducible refine Kd.C_drew ?_))); (case side4 => exact (Kd.R_reads' HO_4.out).2.1); rintro e w' ⟨rfl, ⟨nd, rfl⟩⟩))
         go_meet
         case rel => exact ⟨_, (true), (by first | rfl | (simp; done) | (simp [*]; done)), H', ⟨by have := HJ10.out; first | omega | exact Nat.le_refl _⟩, ⟨by (with_reducible repeat (first | apply Kd.R_alloc | apply Kd.R_drewN | apply Kd.R_drew)); exact HO_4.out⟩, ⟨by (with_reducible repeat (first | apply Kd.R_alloc | apply Kd.R_drewN | apply Kd.R_drew)); exact HO_7.out⟩, ⟨by (with_reducible repeat (first | apply Kd.R_alloc | apply Kd.R_drewN | apply Kd.R_drew)); exact Kd.R_mono HO_632000.out (fun _ hk => trivial)⟩, ⟨by (with_reducible repeat (first | refine blk_drewN ?_ _ | refine blk_drew ?_ | refine blk_alloc ?_ _)); exact BK619.out⟩, ⟨by (with_reducible repeat (first | refine blk_drewN ?_ _ | refine blk_drew ?_ | refine blk_alloc ?_ _)); exact BK631.out⟩, ⟨by repeat (first | (with_reducible first | exact HB.out | apply below_alloc | apply pw_below_drewN | apply below_drew1 | refine below_set ?_ GE619.out | refine below_set ?_ GE631.out) | exact HB.out)⟩⟩
      case rest =>
       clear HC37
       try clear c1
       try clear c2
       try clear p2
       try clear c3
       try clear c3b0
       try clear c4
       try clear c7
       try clear c15
       try clear c16
       try clear c18
       try clear c20
       try clear c22
       try clear c23
       try clear c27
       try clear c28
       try clear c29
       try clear c32
       try clear c35
       try clear c42
       try clear c45
       try clear c45b0
       try clear c47
       try clear hcz13_0
       try clear hcz15_0
       try clear hcz19_0
       try clear hcz24_0
       try clear hcz43_0
       try clear hcz5_0
       try clear hfz13_0
       try clear hfz15_0
       try clear hfz19_0
       try clear hfz24_0
       try clear hfz43_0
       try clear hfz5_0
       try clear p2
       obtain ⟨kq, x61_36, rfl, HA, HJ36, HO_4, HO_7, HO_632000, BK619, BK631, HB⟩ := hcut
       have hl632000_36 := (Kd.R_reads' HO_632000.out).1
       rw [hl632000_36] at HO_632000
       (try simp only [hl632000_36])
       (try simp only [hl632000_36] at BK619)
       (try simp only [hl632000_36] at BK631)
       (try simp only [hl632000_36] at HO_4)
       (try simp only [hl632000_36] at HO_7)
       cases kq with
       | zero => exact absurd HA.out (by simp [laws_FnExactNamesIn.j1])
       | succ kj36 =>
        have H := HA.out
        clear HA
        simp only [laws_FnExactNamesIn.j1] at H
        by_cases c52 : x61_36 = true
        ·
         subst c52
         have H1 : (some false) = some r := by rw [if_pos rfl] at H; exact H
         clear H
         have H := H1
         clear H1
         obtain rfl := Option.some.inj H
         go_wp2
         go_ret
         exact ⟨by first | rfl | (simp [errW_none, errW_some] <;> rfl) | (simp [*, errW_none, errW_some] <;> rfl), by repeat (first | (with_reducible first | exact HB.out | apply below_alloc | apply pw_below_drewN | apply below_drew1 | refine below_set ?_ GE619.out | refine below_set ?_ GE631.out) | exact HB.out)⟩
        ·
         replace c52 := Bool.eq_false_iff.mpr c52
         subst c52
         have H1 : ((laws_markStringS.f kj36 t632 1).bind fun bt644 => ((laws_heldStringS.f kj36 bt644.2 1).bind fun t646 => (if t646 < 0 then (some false) else (if t646 = bt644.1 then ((laws_toRadix.f kj36 l0_0).bind fun t647 => ((impl_NamesIn.f kj36 t647).bind fun bt650 => ((laws_eqStringS.f kj36 bt650.1 t624).bind fun t654 => (if t654 = true then (laws_FnExactNamesIn.j2 kj36 bt644.2 bt644.1 (bt650.2 != t627)) else (laws_FnExactNamesIn.j2 kj36 bt644.2 bt644.1 true))))) else (some false))))) = some r := by rw [if_neg (show ¬ (false = true) by decide)] at H; exact H
         clear H
         have H := H1
         clear H1
         replace H := Option.bind_eq_some_iff.mp H
         obtain ⟨⟨t644, t645⟩, A530, H⟩ := H
         replace H : ((laws_heldStringS.f kj36 t645 1).bind fun t646 => (if t646 < 0 then (some false) else (if t646 = t644 then ((laws_toRadix.f kj36 l0_0).bind fun t647 => ((impl_NamesIn.f kj36 t647).bind fun bt650 => ((laws_eqStringS.f kj36 bt650.1 t624).bind fun t654 => (if t654 = true then (laws_FnExactNamesIn.j2 kj36 t645 t644 (bt650.2 != t627)) else (laws_FnExactNamesIn.j2 kj36 t645 t644 true))))) else (some false)))) = some r := H
         have A53 := aM A530
         clear A530
         replace H := Option.bind_eq_some_iff.mp H
         obtain ⟨t646, A540, H⟩ := H
         replace H : (if t646 < 0 then (some false) else (if t646 = t644 then ((laws_toRadix.f kj36 l0_0).bind fun t647 => ((impl_NamesIn.f kj36 t647).bind fun bt650 => ((laws_eqStringS.f kj36 bt650.1 t624).bind fun t654 => (if t654 = true then (laws_FnExactNamesIn.j2 kj36 t645 t644 (bt650.2 != t627)) else (laws_FnExactNamesIn.j2 kj36 t645 t644 true))))) else (some false))) = some r := H
         have A54 := aM A540
         clear A540
         by_cases c55 : t646 < 0
         ·
          rw [if_pos c55] at H
          have c55b0 : decide (t646 < 0) = true := decide_eq_true c55
          clear c55
          obtain rfl := Option.some.inj H
          obtain ⟨Ao56, co56, eo56⟩ := Kd.R_slice HO_7.out
          subst eo56
          go_wp2_with (first | ((with_reducible refine gate_callee (f := 17) rfl ?_); refine goesL_ (some 64) rfl rfl Try.func17 (by kernel_rfl) rfl #[.slice Ao56 t632.length co56, .int .i64 1] rfl (by (try simp only [List.map_toArray, List.map_cons, List.map_nil]); first | done | rfl | (simp only [List.length_drop, List.length_take]; rfl)) ?_; (with_reducible refine (laws_markStringS.calls kj36 (fun k_ => some k_ = (.slice Ao56 t632.length co56 : Value).ownBlock) (.slice Ao56 t632.length co56) t632 1 t644 t645 w _ ?side1 ?side2 A53.out).mono ?_); (case side1 => repeat (first | (with_reducible first | exact HB.out | apply below_alloc | apply pw_below_drewN | apply below_drew1 | refine below_set ?_ GE619.out | refine below_set ?_ GE631.out) | exact HB.out)); (case side2 => exact Kd.R_tight rfl HO_7.out); rintro e w57 ⟨rfl, hy0, hb, hkp⟩; refine ⟨_, rfl, ?_⟩; have n0_ := aM (Kd.R_mono (ok' := fun k_ => some k_ ≠ (.slice Ao56 t632.length co56 : Value).ownBlock) (Kd.R_keptB (HO_4.out) hkp (fun k_ hk_ hs_ => (hk_) hs_)) (fun k_ hk_ => hk_.1)); have n1_ := aM (Kd.R_reok rfl hy0 (fun k_ e_ => HO_7.out.1 k_ e_)); have n2_ := aM (Kd.R_mono (ok' := fun k_ => True) (Kd.R_keptB ((Kd.R_apart' HO_632000.out (Kd.R_typed HO_7.out) (by decide))) hkp (fun k_ hk_ hs_ => (hk_.2) hs_)) (fun k_ hk_ => trivial)); have n3_ := aM (blk_kept (by (with_reducible repeat (first | refine blk_drewN ?_ _ | refine blk_drew ?_ | refine blk_alloc ?_ _)); exact BK619.out) hkp (fun hs_ => (fun e_ => (Kd.R_ne HO_7.out BK619.out (by decide)) e_) hs_)); have n4_ := aM (blk_kept (by (with_reducible repeat (first | refine blk_drewN ?_ _ | refine blk_drew ?_ | refine blk_alloc ?_ _)); exact BK631.out) hkp (fun hs_ => (fun e_ => (Kd.R_ne HO_7.out BK631.out (by decide)) e_) hs_)); have n5_ := aM (hb); clear HO_4; clear HO_7; clear HO_632000; clear BK619; clear BK631; clear HB; have HO_4 := n0_; have HO_7 := n1_; have HO_632000 := n2_; have BK619 := n3_; have BK631 := n4_; have HB := n5_; clear n0_ n1_ n2_ n3_ n4_ n5_; (try clear hb); (try clear hkp); (try clear hy0)) | ((with_reducible refine gate_callee (f := 30) rfl ?_); refine goesL_ (some 67) rfl rfl Try.func30 (by kernel_rfl) rfl #[.slice Ao56 t645.length co56, .int .i64 1] rfl (by (try simp only [List.map_toArray, List.map_cons, List.map_nil]); first | done | (rw [show t645.length = t632.length from (Kd.R_reads' HO_7.out).1.symm] <;> rfl) | rfl | (simp only [List.length_drop, List.length_take]; rfl)) ?_; (with_reducible refine (laws_heldStringS.calls kj36 _ _ t645 1 t646 _ ?side1 ?side2 A54.out).mono ?_); (case side1 => repeat (first | exact (Kd.R_reads' HO_7.out).2.2 | (with_reducible refine Kd.C_alloc ?_ _) | (with_reducible refine Kd.C_drewN ?_ _) | (with_reducible refine Kd.C_drew ?_))); (case side2 => rw [show t645.length = t632.length from (Kd.R_reads' HO_7.out).1.symm]; exact (Kd.R_reads' HO_7.out).2.1); rintro e w58 ⟨rfl, hb⟩; refine ⟨_, rfl, ?_⟩; have n0_ := aM (Kd.R_below (by (with_reducible repeat (first | apply Kd.R_alloc | apply Kd.R_drewN | apply Kd.R_drew)); exact HO_4.out) hb); have n1_ := aM (Kd.R_below (by (with_reducible repeat (first | apply Kd.R_alloc | apply Kd.R_drewN | apply Kd.R_drew)); exact HO_7.out) hb); have n2_ := aM (Kd.R_below (by (with_reducible repeat (first | apply Kd.R_alloc | apply Kd.R_drewN | apply Kd.R_drew)); exact HO_632000.out) hb); have n3_ := aM (blk_below (g := gb619) (o := .cells #[.slice A0_0 l0_0.length c0_0] 36 (0, 0)) (by (with_reducible repeat (first | refine blk_drewN ?_ _ | refine blk_drew ?_ | refine blk_alloc ?_ _)); exact BK619.out) hb); have n4_ := aM (blk_below (g := gb631) (o := .cells #[.slice Ao22 t642.length co22] 26 (0, 0)) (by (with_reducible repeat (first | refine blk_drewN ?_ _ | refine blk_drew ?_ | refine blk_alloc ?_ _)); exact BK631.out) hb); have n5_ := aM (below_step (by repeat (first | (with_reducible first | exact HB.out | apply below_alloc | apply pw_below_drewN | apply below_drew1 | refine below_set ?_ GE619.out | refine below_set ?_ GE631.out) | exact HB.out)) hb); clear HO_4; clear HO_7; clear HO_632000; clear BK619; clear BK631; clear HB; have HO_4 := n0_; have HO_7 := n1_; have HO_632000 := n2_; have BK619 := n3_; have BK631 := n4_; have HB := n5_; clear n0_ n1_ n2_ n3_ n4_ n5_; (try clear hb); (try clear hb2); (try clear hk); (try clear hi)))
          go_ret
          exact ⟨by first | rfl | (simp [errW_none, errW_some] <;> rfl) | (simp [*, errW_none, errW_some] <;> rfl), by repeat (first | (with_reducible first | exact HB.out | apply below_alloc | apply pw_below_drewN | apply below_drew1 | refine below_set ?_ GE619.out | refine below_set ?_ GE631.out) | exact HB.out)⟩
         ·
          rw [if_neg c55] at H
          have c55b0 : decide (t646 < 0) = false := decide_eq_false c55
          clear c55
          by_cases c59 : t646 = t644
          ·
           rw [if_pos c59] at H
           have c59b0 : (t646 == t644) = true := beq_iff_eq.mpr c59
           have c59b1 : (t646 != t644) = false := bne_eq_false_iff_eq.mpr c59
           clear c59
           replace H := Option.bind_eq_some_iff.mp H
           obtain ⟨t647, A600, H⟩ := H
           replace H : ((impl_NamesIn.f kj36 t647).bind fun bt650 => ((laws_eqStringS.f kj36 bt650.1 t624).bind fun t654 => (if t654 = true then (laws_FnExactNamesIn.j2 kj36 t645 t644 (bt650.2 != t627)) else (laws_FnExactNamesIn.j2 kj36 t645 t644 true)))) = some r := H
           have A60 := aM A600
           clear A600
           replace H := Option.bind_eq_some_iff.mp H
           obtain ⟨⟨t650, t653⟩, A610, H⟩ := H
           replace H : ((laws_eqStringS.f kj36 t650 t624).bind fun t654 => (if t654 = true then (laws_FnExactNamesIn.j2 kj36 t645 t644 (t653 != t627)) else (laws_FnExactNamesIn.j2 kj36 t645 t644 true))) = some r := H
           have A61 := aM A610
           clear A610
           have HC62 := aM H
           clear H
           obtain ⟨Ao63, co63, eo63⟩ := Kd.R_slice HO_7.out
           subst eo63
           go_upto_region 25 with (first | ((with_reducible refine gate_callee (f := 17) rfl ?_); refine goesL_ (some 64) rfl rfl Try.func17 (by kernel_rfl) rfl #[.slice Ao63 t632.length co63, .int .i64 1] rfl (by (try simp only [List.map_toArray, List.map_cons, List.map_nil]); first | done | rfl | (simp only [List.length_drop, List.length_take]; rfl)) ?_; (with_reducible refine (laws_markStringS.calls kj36 (fun k_ => some k_ = (.slice Ao63 t632.length co63 : Value).ownBlock) (.slice Ao63 t632.length co63) t632 1 t644 t645 w _ ?side1 ?side2 A53.out).mono ?_); (case side1 => repeat (first | (with_reducible first | exact HB.out | apply below_alloc | apply pw_below_drewN | apply below_drew1 | refine below_set ?_ GE619.out | refine below_set ?_ GE631.out) | exact HB.out)); (case side2 => exact Kd.R_tight rfl HO_7.out); rintro e w64 ⟨rfl, hy0, hb, hkp⟩; refine ⟨_, rfl, ?_⟩; have n0_ := aM (Kd.R_mono (ok' := fun k_ => some k_ ≠ (.slice Ao63 t632.length co63 : Value).ownBlock) (Kd.R_keptB (HO_4.out) hkp (fun k_ hk_ hs_ => (hk_) hs_)) (fun k_ hk_ => hk_.1)); have n1_ := aM (Kd.R_reok rfl hy0 (fun k_ e_ => HO_7.out.1 k_ e_)); have n2_ := aM (Kd.R_mono (ok' := fun k_ => True) (Kd.R_keptB ((Kd.R_apart' HO_632000.out (Kd.R_typed HO_7.out) (by decide))) hkp (fun k_ hk_ hs_ => (hk_.2) hs_)) (fun k_ hk_ => trivial)); have n3_ := aM (blk_kept (by (with_reducible repeat (first | refine blk_drewN ?_ _ | refine blk_drew ?_ | refine blk_alloc ?_ _)); exact BK619.out) hkp (fun hs_ => (fun e_ => (Kd.R_ne HO_7.out BK619.out (by decide)) e_) hs_)); have n4_ := aM (blk_kept (by (with_reducible repeat (first | refine blk_drewN ?_ _ | refine blk_drew ?_ | refine blk_alloc ?_ _)); exact BK631.out) hkp (fun hs_ => (fun e_ => (Kd.R_ne HO_7.out BK631.out (by decide)) e_) hs_)); have n5_ := aM (hb); clear HO_4; clear HO_7; clear HO_632000; clear BK619; clear BK631; clear HB; have HO_4 := n0_; have HO_7 := n1_; have HO_632000 := n2_; have BK619 := n3_; have BK631 := n4_; have HB := n5_; clear n0_ n1_ n2_ n3_ n4_ n5_; (try clear hb); (try clear hkp); (try clear hy0)) | ((with_reducible refine gate_callee (f := 30) rfl ?_); refine goesL_ (some 67) rfl rfl Try.func30 (by kernel_rfl) rfl #[.slice Ao63 t645.length co63, .int .i64 1] rfl (by (try simp only [List.map_toArray, List.map_cons, List.map_nil]); first | done | (rw [show t645.length = t632.length from (Kd.R_reads' HO_7.out).1.symm] <;> rfl) | rfl | (simp only [List.length_drop, List.length_take]; rfl)) ?_; (with_reducible refine (laws_heldStringS.calls kj36 _ _ t645 1 t646 _ ?side1 ?side2 A54.out).mono ?_); (case side1 => repeat (first | exact (Kd.R_reads' HO_7.out).2.2 | (with_reducible refine Kd.C_alloc ?_ _) | (with_reducible refine Kd.C_drewN ?_ _) | (with_reducible refine Kd.C_drew ?_))); (case side2 => rw [show t645.length = t632.length from (Kd.R_reads' HO_7.out).1.symm]; exact (Kd.R_reads' HO_7.out).2.1); rintro e w65 ⟨rfl, hb⟩; refine ⟨_, rfl, ?_⟩; have n0_ := aM (Kd.R_below (by (with_reducible repeat (first | apply Kd.R_alloc | apply Kd.R_drewN | apply Kd.R_drew)); exact HO_4.out) hb); have n1_ := aM (Kd.R_below (by (with_reducible repeat (first | apply Kd.R_alloc | apply Kd.R_drewN | apply Kd.R_drew)); exact HO_7.out) hb); have n2_ := aM (Kd.R_below (by (with_reducible repeat (first | apply Kd.R_alloc | apply Kd.R_drewN | apply Kd.R_drew)); exact HO_632000.out) hb); have n3_ := aM (blk_below (g := gb619) (o := .cells #[.slice A0_0 l0_0.length c0_0] 36 (0, 0)) (by (with_reducible repeat (first | refine blk_drewN ?_ _ | refine blk_drew ?_ | refine blk_alloc ?_ _)); exact BK619.out) hb); have n4_ := aM (blk_below (g := gb631) (o := .cells #[.slice Ao22 t642.length co22] 26 (0, 0)) (by (with_reducible repeat (first | refine blk_drewN ?_ _ | refine blk_drew ?_ | refine blk_alloc ?_ _)); exact BK631.out) hb); have n5_ := aM (below_step (by repeat (first | (with_reducible first | exact HB.out | apply below_alloc | apply pw_below_drewN | apply below_drew1 | refine below_set ?_ GE619.out | refine below_set ?_ GE631.out) | exact HB.out)) hb); clear HO_4; clear HO_7; clear HO_632000; clear BK619; clear BK631; clear HB; have HO_4 := n0_; have HO_7 := n1_; have HO_632000 := n2_; have BK619 := n3_; have BK631 := n4_; have HB := n5_; clear n0_ n1_ n2_ n3_ n4_ n5_; (try clear hb); (try clear hb2); (try clear hk); (try clear hi); have hnb66 := NB619_631.out; have hnc66 := NB631_619.out; have hcz67_0 : w65.cell? ⟨gb619, 0, none⟩ = some (.slice A0_0 l0_0.length c0_0) := (blk_cell BK619.out 0).trans rfl; have hfz67_0 := blk_frozen BK619.out 0) | ((with_reducible refine gate_callee (f := 22) rfl ?_); refine goesL_ (some 75) rfl rfl Try.func22 (by kernel_rfl) rfl #[.agg #[.slice A0_0 l0_0.length c0_0]] rfl (by (try simp only [List.map_toArray, List.map_cons, List.map_nil]); first | done | rfl | (simp only [List.length_drop, List.length_take]; rfl)) ?_; (with_reducible refine (laws_toRadix.calls kj36 _ _ l0_0 t647 _ ?side1 ?side2 A60.out).mono ?_); (case side1 => repeat (first | exact (Kd.C_below HR0_0.out HB.out) | (with_reducible refine Kd.C_alloc ?_ _) | (with_reducible refine Kd.C_drewN ?_ _) | (with_reducible refine Kd.C_drew ?_))); (case side2 => exact HC0_0.out); rintro e w68 ⟨v648, rfl, ho0, hb⟩; refine ⟨_, rfl, ?_⟩; have n0_ := aM (Kd.R_below (by (with_reducible repeat (first | apply Kd.R_alloc | apply Kd.R_drewN | apply Kd.R_drew)); exact HO_4.out) hb); have n1_ := aM (Kd.R_below (by (with_reducible repeat (first | apply Kd.R_alloc | apply Kd.R_drewN | apply Kd.R_drew)); exact HO_7.out) hb); have n2_ := aM (Kd.R_elder' (by (with_reducible repeat (first | apply Kd.R_alloc | apply Kd.R_drewN | apply Kd.R_drew)); exact HO_632000.out) (Kd.R_base ho0) hb); have n3_ := aM (Kd.R_lower (Kd.R_new' ho0 (Kd.R_lt (by (with_reducible repeat (first | apply Kd.R_alloc | apply Kd.R_drewN | apply Kd.R_drew)); exact HO_632000.out))) (below_size (by repeat (first | (with_reducible first | exact HB.out | apply below_alloc | apply pw_below_drewN | apply below_drew1 | refine below_set ?_ GE619.out | refine below_set ?_ GE631.out) | exact HB.out)))); have n4_ := aM (blk_below (g := gb619) (o := .cells #[.slice A0_0 l0_0.length c0_0] 36 (0, 0)) (by (with_reducible repeat (first | refine blk_drewN ?_ _ | refine blk_drew ?_ | refine blk_alloc ?_ _)); exact BK619.out) hb); have n5_ := aM (blk_below (g := gb631) (o := .cells #[.slice Ao22 t642.length co22] 26 (0, 0)) (by (with_reducible repeat (first | refine blk_drewN ?_ _ | refine blk_drew ?_ | refine blk_alloc ?_ _)); exact BK631.out) hb); have n6_ := aM (below_step (by repeat (first | (with_reducible first | exact HB.out | apply below_alloc | apply pw_below_drewN | apply below_drew1 | refine below_set ?_ GE619.out | refine below_set ?_ GE631.out) | exact HB.out)) hb); clear HO_4; clear HO_7; clear HO_632000; clear BK619; clear BK631; clear HB; have HO_4 := n0_; have HO_7 := n1_; have HO_632000 := n2_; have HO649 := n3_; have BK619 := n4_; have BK631 := n5_; have HB := n6_; clear n0_ n1_ n2_ n3_ n4_ n5_ n6_; (try clear hb); (try clear hb2); (try clear hk); (try clear hi); (try clear ho0); obtain ⟨Ao69, co69, eo69⟩ := Kd.R_slice HO649.out; subst eo69) | ((with_reducible refine gate_callee (f := 29) rfl ?_); refine goesL_ (some 76) rfl rfl Try.func29 (by kernel_rfl) rfl #[.agg #[.slice Ao69 t647.length co69]] rfl (by (try simp only [List.map_toArray, List.map_cons, List.map_nil]); first | done | rfl | (simp only [List.length_drop, List.length_take]; rfl)) ?_; (with_reducible refine (impl_NamesIn.calls kj36 _ _ t647 t650 t653 _ ?side1 ?side2 A61.out).mono ?_); (case side1 => repeat (first | exact (Kd.R_reads' HO649.out).2.2 | (with_reducible refine Kd.C_alloc ?_ _) | (with_reducible refine Kd.C_drewN ?_ _) | (with_reducible refine Kd.C_drew ?_))); (case side2 => exact (Kd.R_reads' HO649.out).2.1); rintro e w70 ⟨v651, rfl, ho0, hb⟩; refine ⟨_, rfl, ?_⟩; have n0_ := aM (Kd.R_elder' (by (with_reducible repeat (first | apply Kd.R_alloc | apply Kd.R_drewN | apply Kd.R_drew)); exact HO_4.out) (Kd.R_base ho0) hb); have n1_ := aM (Kd.R_elder' (by (with_reducible repeat (first | apply Kd.R_alloc | apply Kd.R_drewN | apply Kd.R_drew)); exact HO_7.out) (Kd.R_base ho0) hb); have n2_ := aM (Kd.R_below (by (with_reducible repeat (first | apply Kd.R_alloc | apply Kd.R_drewN | apply Kd.R_drew)); exact HO_632000.out) hb); have n3_ := aM (Kd.R_below (by (with_reducible repeat (first | apply Kd.R_alloc | apply Kd.R_drewN | apply Kd.R_drew)); exact HO649.out) hb); have n4_ := aM (Kd.R_lower (Kd.R_new' (Kd.R_new' ho0 (Kd.R_lt (by (with_reducible repeat (first | apply Kd.R_alloc | apply Kd.R_drewN | apply Kd.R_drew)); exact HO_4.out))) (Kd.R_lt (by (with_reducible repeat (first | apply Kd.R_alloc | apply Kd.R_drewN | apply Kd.R_drew)); exact HO_7.out))) (below_size (by repeat (first | (with_reducible first | exact HB.out | apply below_alloc | apply pw_below_drewN | apply below_drew1 | refine below_set ?_ GE619.out | refine below_set ?_ GE631.out) | exact HB.out)))); have n5_ := aM (blk_below (g := gb619) (o := .cells #[.slice A0_0 l0_0.length c0_0] 36 (0, 0)) (by (with_reducible repeat (first | refine blk_drewN ?_ _ | refine blk_drew ?_ | refine blk_alloc ?_ _)); exact BK619.out) hb); have n6_ := aM (blk_below (g := gb631) (o := .cells #[.slice Ao22 t642.length co22] 26 (0, 0)) (by (with_reducible repeat (first | refine blk_drewN ?_ _ | refine blk_drew ?_ | refine blk_alloc ?_ _)); exact BK631.out) hb); have n7_ := aM (below_step (by repeat (first | (with_reducible first | exact HB.out | apply below_alloc | apply pw_below_drewN | apply below_drew1 | refine below_set ?_ GE619.out | refine below_set ?_ GE631.out) | exact HB.out)) hb); clear HO_4; clear HO_7; clear HO_632000; clear HO649; clear BK619; clear BK631; clear HB; have HO_4 := n0_; have HO_7 := n1_; have HO_632000 := n2_; have HO649 := n3_; have HO652 := n4_; have BK619 := n5_; have BK631 := n6_; have HB := n7_; clear n0_ n1_ n2_ n3_ n4_ n5_ n6_ n7_; (try clear hb); (try clear hb2); (try clear hk); (try clear hi); (try clear ho0)))
           (try simp only [Act.put, zSA, zSB, zSC])
           go_cut [87] (fun v87 wc => ∃ (kq : Nat) (x87_61 : Bool), v87 = .bool x87_61 ∧ Aside0 (laws_FnExactNamesIn.j2 kq t645 t644 x87_61 = some r) ∧ Aside0 (kq ≤ kj36) ∧ Aside0 (Kd.R Kd.string 9 wc w.heap.size (fun _ => True) (.slice Ao63 t632.length co63) t645) ∧ Aside0 (Kd.R k64 64 wc w.heap.size (fun _ => True) (.slice Ao22 t642.length co22) t642) ∧ Aside0 (wc.heap[gb619]? = some (.cells #[(.slice A0_0 l0_0.length c0_0)] 36 (0, 0))) ∧ Aside0 (wc.heap[gb631]? = some (.cells #[(.slice Ao22 t642.length co22)] 26 (0, 0))) ∧ Aside0 (Below w.heap.size w wc))
           case first =>
            have H := HC62.out
            clear HC62
            replace H := Option.bind_eq_some_iff.mp H
            obtain ⟨t654, A710, H⟩ := H
            replace H : (if t654 = true then (laws_FnExactNamesIn.j2 kj36 t645 t644 (t653 != t627)) else (laws_FnExactNamesIn.j2 kj36 t645 t644 true)) = some r := H
            have A71 := aM A710
            clear A710
            by_cases c72 : t654 = true
            ·
             subst c72
             have H1 : (laws_FnExactNamesIn.j2 kj36 t645 t644 (t653 != t627)) = some r := by rw [if_pos rfl] at H; exact H
             clear H
             have H := H1
             clear H1
             have H' := aM H
             clear H
             obtain ⟨Ao73, co73, eo73⟩ := Kd.R_slice HO652.out
             subst eo73
             obtain ⟨Ao74, co74, eo74⟩ := Kd.R_slice HO_4.out
             subst eo74
             go_wp2_with (first | ((with_reducible refine gate_callee (f := 16) rfl ?_); refine goesL_ (some 81) rfl rfl Try.func16 (by kernel_rfl) rfl #[.slice Ao73 t650.length co73, .slice Ao74 t624.length co74] rfl (by (try simp only [List.map_toArray, List.map_cons, List.map_nil]); first | done | rfl | (simp only [List.length_drop, List.length_take]; rfl)) ?_; (with_reducible refine (laws_eqStringS.calls kj36 _ _ t650 _ _ t624 true _ ?side1 ?side2 ?side3 ?side4 A71.out).mono ?_); (case side1 => repeat (first | exact (Kd.R_reads' HO652.out).2.2 | (with_reducible refine Kd.C_alloc ?_ _) | (with_reducible refine Kd.C_drewN ?_ _) | (with_reducible refine Kd.C_drew ?_))); (case side2 => exact (Kd.R_reads' HO652.out).2.1); (case side3 => repeat (first | exact (Kd.R_reads' HO_4.out).2.2 | (with_reducible refine Kd.C_alloc ?_ _) | (with_reducible refine Kd.C_drewN ?_ _) | (with_reducible refine Kd.C_drew ?_))); (case side4 => exact (Kd.R_reads' HO_4.out).2.1); rintro e w' ⟨rfl, ⟨nd, rfl⟩⟩; refine ⟨_, rfl, ?_⟩))
             go_meet
             case rel => exact ⟨_, ((t653 != t627)), (by first | rfl | (simp; done) | (simp [*]; done)), H', ⟨by have := HJ10.out; have := HJ36.out; first | omega | exact Nat.le_refl _⟩, ⟨by (try simp only [hl632000_36]); (with_reducible repeat (first | apply Kd.R_alloc | apply Kd.R_drewN | apply Kd.R_drew)); exact Kd.R_mono HO_7.out (fun _ hk => trivial)⟩, ⟨by (try simp only [hl632000_36]); (with_reducible repeat (first | apply Kd.R_alloc | apply Kd.R_drewN | apply Kd.R_drew)); exact Kd.R_mono HO_632000.out (fun _ hk => trivial)⟩, ⟨by (try simp only [hl632000_36]); (with_reducible repeat (first | refine blk_drewN ?_ _ | refine blk_drew ?_ | refine blk_alloc ?_ _)); exact BK619.out⟩, ⟨by (try simp only [hl632000_36]); (with_reducible repeat (first | refine blk_drewN ?_ _ | refine blk_drew ?_ | refine blk_alloc ?_ _)); exact BK631.out⟩, ⟨by repeat (first | (with_reducible first | exact HB.out | apply below_alloc | apply pw_below_drewN | apply below_drew1 | refine below_set ?_ GE619.out | refine below_set ?_ GE631.out) | exact HB.out)⟩⟩
            ·
             replace c72 := Bool.eq_false_iff.mpr c72
             subst c72
             have H1 : (laws_FnExactNamesIn.j2 kj36 t645 t644 true) = some r := by rw [if_neg (show ¬ (false = true) by decide)] at H; exact H
             clear H
             have H := H1
             clear H1
             have H' := aM H
             clear H
             obtain ⟨Ao75, co75, eo75⟩ := Kd.R_slice HO652.out
             subst eo75
             obtain ⟨Ao76, co76, eo76⟩ := Kd.R_slice HO_4.out
             subst eo76
             go_wp2_with (first | ((with_reducible refine gate_callee (f := 16) rfl ?_); refine goesL_ (some 81) rfl rfl Try.func16 (by kernel_rfl) rfl #[.slice Ao75 t650.length co75, .slice Ao76 t624.length co76] rfl (by (try simp only [List.map_toArray, List.map_cons, List.map_nil]); first | done | rfl | (simp only [List.length_drop, List.length_take]; rfl)) ?_; (with_reducible refine (laws_eqStringS.calls kj36 _ _ t650 _ _ t624 false _ ?side1 ?side2 ?side3 ?side4 A71.out).mono ?_); (case side1 => repeat (first | exact (Kd.R_reads' HO652.out).2.2 | (with_reducible refine Kd.C_alloc ?_ _) | (with_reducible refine Kd.C_drewN ?_ _) | (with_reducible refine Kd.C_drew ?_))); (case side2 => exact (Kd.R_reads' HO652.out).2.1); (case side3 => repeat (first | exact (Kd.R_reads' HO_4.out).2.2 | (with_reducible refine Kd.C_alloc ?_ _) | (with_reducible refine Kd.C_drewN ?_ _) | (with_reducible refine Kd.C_drew ?_))); (case side4 => exact (Kd.R_reads' HO_4.out).2.1); rintro e w' ⟨rfl, ⟨nd, rfl⟩⟩; refine ⟨_, rfl, ?_⟩))
             go_meet
             case rel => exact ⟨_, (true), (by first | rfl | (simp; done) | (simp [*]; done)), H', ⟨by have := HJ10.out; have := HJ36.out; first | omega | exact Nat.le_refl _⟩, ⟨by (try simp only [hl632000_36]); (with_reducible repeat (first | apply Kd.R_alloc | apply Kd.R_drewN | apply Kd.R_drew)); exact Kd.R_mono HO_7.out (fun _ hk => trivial)⟩, ⟨by (try simp only [hl632000_36]); (with_reducible repeat (first | apply Kd.R_alloc | apply Kd.R_drewN | apply Kd.R_drew)); exact Kd.R_mono HO_632000.out (fun _ hk => trivial)⟩, ⟨by (try simp only [hl632000_36]); (with_reducible repeat (first | refine blk_drewN ?_ _ | refine blk_drew ?_ | refine blk_alloc ?_ _)); exact BK619.out⟩, ⟨by (try simp only [hl632000_36]); (with_reducible repeat (first | refine blk_drewN ?_ _ | refine blk_drew ?_ | refine blk_alloc ?_ _)); exact BK631.out⟩, ⟨by repeat (first | (with_reducible first | exact HB.out | apply below_alloc | apply pw_below_drewN | apply below_drew1 | refine below_set ?_ GE619.out | refine below_set ?_ GE631.out) | exact HB.out)⟩⟩
           case rest =>
            clear HC62
            try clear c1
            try clear c2
            try clear p2
            try clear c3
            try clear c3b0
            try clear c4
            try clear c5
            try clear c6
            try clear c7
            try clear c15
            try clear c16
            try clear c17
            try clear c18
            try clear c20
            try clear c22
            try clear c23
            try clear c27
            try clear c28
            try clear c29
            try clear c30
            try clear c32
            try clear c35
            try clear c42
            try clear c45
            try clear c45b0
            try clear c47
            try clear c52
            try clear c55
            try clear c55b0
            try clear c59
            try clear c59b0
            try clear c59b1
            try clear c66
            try clear c72
            try clear hcz13_0
            try clear hcz15_0
            try clear hcz19_0
            try clear hcz24_0
            try clear hcz43_0
            try clear hcz5_0
            try clear hcz67_0
            try clear hfz13_0
            try clear hfz15_0
            try clear hfz19_0
            try clear hfz24_0
            try clear hfz43_0
            try clear hfz5_0
            try clear hfz67_0
            try clear p2
            obtain ⟨kq, x87_61, rfl, HA, HJ61, HO_7, HO_632000, BK619, BK631, HB⟩ := hcut
            have hl7_61 := (Kd.R_reads' HO_7.out).1
            rw [hl7_61] at HO_7
            (try simp only [hl7_61])
            (try simp only [hl7_61] at BK619)
            (try simp only [hl7_61] at BK631)
            (try simp only [hl7_61] at HO_632000)
            cases kq with
            | zero => exact absurd HA.out (by simp [laws_FnExactNamesIn.j2])
            | succ kj61 =>
             have H := HA.out
             clear HA
             simp only [laws_FnExactNamesIn.j2] at H
             by_cases c77 : x87_61 = true
             ·
              subst c77
              have H1 : (some false) = some r := by rw [if_pos rfl] at H; exact H
              clear H
              have H := H1
              clear H1
              obtain rfl := Option.some.inj H
              go_wp2
              go_ret
              exact ⟨by first | rfl | (simp [errW_none, errW_some] <;> rfl) | (simp [*, errW_none, errW_some] <;> rfl), by repeat (first | (with_reducible first | exact HB.out | apply below_alloc | apply pw_below_drewN | apply below_drew1 | refine below_set ?_ GE619.out | refine below_set ?_ GE631.out) | exact HB.out)⟩
             ·
              replace c77 := Bool.eq_false_iff.mpr c77
              subst c77
              have H1 : ((laws_heldStringS.f kj61 t645 1).bind fun t655 => (if t655 < 0 then (some false) else (if t655 = t644 then (some true) else (some false)))) = some r := by rw [if_neg (show ¬ (false = true) by decide)] at H; exact H
              clear H
              have H := H1
              clear H1
              replace H := Option.bind_eq_some_iff.mp H
              obtain ⟨t655, A780, H⟩ := H
              replace H : (if t655 < 0 then (some false) else (if t655 = t644 then (some true) else (some false))) = some r := H
              have A78 := aM A780
              clear A780
              by_cases c79 : t655 < 0
              ·
               rw [if_pos c79] at H
               have c79b0 : decide (t655 < 0) = true := decide_eq_true c79
               clear c79
               obtain rfl := Option.some.inj H
               go_wp2_with (first | ((with_reducible refine gate_callee (f := 30) rfl ?_); refine goesL_ (some 90) rfl rfl Try.func30 (by kernel_rfl) rfl #[.slice Ao63 t645.length co63, .int .i64 1] rfl (by (try simp only [List.map_toArray, List.map_cons, List.map_nil]); first | done | rfl | (simp only [List.length_drop, List.length_take]; rfl)) ?_; (with_reducible refine (laws_heldStringS.calls kj61 _ _ t645 1 t655 _ ?side1 ?side2 A78.out).mono ?_); (case side1 => repeat (first | exact (Kd.R_reads' HO_7.out).2.2 | (with_reducible refine Kd.C_alloc ?_ _) | (with_reducible refine Kd.C_drewN ?_ _) | (with_reducible refine Kd.C_drew ?_))); (case side2 => exact (Kd.R_reads' HO_7.out).2.1); rintro e w80 ⟨rfl, hb⟩; refine ⟨_, rfl, ?_⟩; have n0_ := aM (Kd.R_below (by (with_reducible repeat (first | apply Kd.R_alloc | apply Kd.R_drewN | apply Kd.R_drew)); exact HO_7.out) hb); have n1_ := aM (Kd.R_below (by (with_reducible repeat (first | apply Kd.R_alloc | apply Kd.R_drewN | apply Kd.R_drew)); exact HO_632000.out) hb); have n2_ := aM (blk_below (g := gb619) (o := .cells #[.slice A0_0 l0_0.length c0_0] 36 (0, 0)) (by (with_reducible repeat (first | refine blk_drewN ?_ _ | refine blk_drew ?_ | refine blk_alloc ?_ _)); exact BK619.out) hb); have n3_ := aM (blk_below (g := gb631) (o := .cells #[.slice Ao22 t642.length co22] 26 (0, 0)) (by (with_reducible repeat (first | refine blk_drewN ?_ _ | refine blk_drew ?_ | refine blk_alloc ?_ _)); exact BK631.out) hb); have n4_ := aM (below_step (by repeat (first | (with_reducible first | exact HB.out | apply below_alloc | apply pw_below_drewN | apply below_drew1 | refine below_set ?_ GE619.out | refine below_set ?_ GE631.out) | exact HB.out)) hb); clear HO_7; clear HO_632000; clear BK619; clear BK631; clear HB; have HO_7 := n0_; have HO_632000 := n1_; have BK619 := n2_; have BK631 := n3_; have HB := n4_; clear n0_ n1_ n2_ n3_ n4_; (try clear hb); (try clear hb2); (try clear hk); (try clear hi)))
               go_ret
               exact ⟨by first | rfl | (simp [errW_none, errW_some] <;> rfl) | (simp [*, errW_none, errW_some] <;> rfl), by repeat (first | (with_reducible first | exact HB.out | apply below_alloc | apply pw_below_drewN | apply below_drew1 | refine below_set ?_ GE619.out | refine below_set ?_ GE631.out) | exact HB.out)⟩
              ·
               rw [if_neg c79] at H
               have c79b0 : decide (t655 < 0) = false := decide_eq_false c79
               clear c79
               by_cases c81 : t655 = t644
               ·
                rw [if_pos c81] at H
                have c81b0 : (t655 == t644) = true := beq_iff_eq.mpr c81
                have c81b1 : (t655 != t644) = false := bne_eq_false_iff_eq.mpr c81
                clear c81
                obtain rfl := Option.some.inj H
                go_wp2_with (first | ((with_reducible refine gate_callee (f := 30) rfl ?_); refine goesL_ (some 90) rfl rfl Try.func30 (by kernel_rfl) rfl #[.slice Ao63 t645.length co63, .int .i64 1] rfl (by (try simp only [List.map_toArray, List.map_cons, List.map_nil]); first | done | rfl | (simp only [List.length_drop, List.length_take]; rfl)) ?_; (with_reducible refine (laws_heldStringS.calls kj61 _ _ t645 1 t655 _ ?side1 ?side2 A78.out).mono ?_); (case side1 => repeat (first | exact (Kd.R_reads' HO_7.out).2.2 | (with_reducible refine Kd.C_alloc ?_ _) | (with_reducible refine Kd.C_drewN ?_ _) | (with_reducible refine Kd.C_drew ?_))); (case side2 => exact (Kd.R_reads' HO_7.out).2.1); rintro e w82 ⟨rfl, hb⟩; refine ⟨_, rfl, ?_⟩; have n0_ := aM (Kd.R_below (by (with_reducible repeat (first | apply Kd.R_alloc | apply Kd.R_drewN | apply Kd.R_drew)); exact HO_7.out) hb); have n1_ := aM (Kd.R_below (by (with_reducible repeat (first | apply Kd.R_alloc | apply Kd.R_drewN | apply Kd.R_drew)); exact HO_632000.out) hb); have n2_ := aM (blk_below (g := gb619) (o := .cells #[.slice A0_0 l0_0.length c0_0] 36 (0, 0)) (by (with_reducible repeat (first | refine blk_drewN ?_ _ | refine blk_drew ?_ | refine blk_alloc ?_ _)); exact BK619.out) hb); have n3_ := aM (blk_below (g := gb631) (o := .cells #[.slice Ao22 t642.length co22] 26 (0, 0)) (by (with_reducible repeat (first | refine blk_drewN ?_ _ | refine blk_drew ?_ | refine blk_alloc ?_ _)); exact BK631.out) hb); have n4_ := aM (below_step (by repeat (first | (with_reducible first | exact HB.out | apply below_alloc | apply pw_below_drewN | apply below_drew1 | refine below_set ?_ GE619.out | refine below_set ?_ GE631.out) | exact HB.out)) hb); clear HO_7; clear HO_632000; clear BK619; clear BK631; clear HB; have HO_7 := n0_; have HO_632000 := n1_; have BK619 := n2_; have BK631 := n3_; have HB := n4_; clear n0_ n1_ n2_ n3_ n4_; (try clear hb); (try clear hb2); (try clear hk); (try clear hi)))
                go_ret
                exact ⟨by first | rfl | (simp [errW_none, errW_some] <;> rfl) | (simp [*, errW_none, errW_some] <;> rfl), by repeat (first | (with_reducible first | exact HB.out | apply below_alloc | apply pw_below_drewN | apply below_drew1 | refine below_set ?_ GE619.out | refine below_set ?_ GE631.out) | exact HB.out)⟩
               ·
                rw [if_neg c81] at H
                have c81b0 : (t655 == t644) = false := beq_eq_false_iff_ne.mpr c81
                have c81b1 : (t655 != t644) = true := bne_iff_ne.mpr c81
                obtain rfl := Option.some.inj H
                go_wp2_with (first | ((with_reducible refine gate_callee (f := 30) rfl ?_); refine goesL_ (some 90) rfl rfl Try.func30 (by kernel_rfl) rfl #[.slice Ao63 t645.length co63, .int .i64 1] rfl (by (try simp only [List.map_toArray, List.map_cons, List.map_nil]); first | done | rfl | (simp only [List.length_drop, List.length_take]; rfl)) ?_; (with_reducible refine (laws_heldStringS.calls kj61 _ _ t645 1 t655 _ ?side1 ?side2 A78.out).mono ?_); (case side1 => repeat (first | exact (Kd.R_reads' HO_7.out).2.2 | (with_reducible refine Kd.C_alloc ?_ _) | (with_reducible refine Kd.C_drewN ?_ _) | (with_reducible refine Kd.C_drew ?_))); (case side2 => exact (Kd.R_reads' HO_7.out).2.1); rintro e w83 ⟨rfl, hb⟩; refine ⟨_, rfl, ?_⟩; have n0_ := aM (Kd.R_below (by (with_reducible repeat (first | apply Kd.R_alloc | apply Kd.R_drewN | apply Kd.R_drew)); exact HO_7.out) hb); have n1_ := aM (Kd.R_below (by (with_reducible repeat (first | apply Kd.R_alloc | apply Kd.R_drewN | apply Kd.R_drew)); exact HO_632000.out) hb); have n2_ := aM (blk_below (g := gb619) (o := .cells #[.slice A0_0 l0_0.length c0_0] 36 (0, 0)) (by (with_reducible repeat (first | refine blk_drewN ?_ _ | refine blk_drew ?_ | refine blk_alloc ?_ _)); exact BK619.out) hb); have n3_ := aM (blk_below (g := gb631) (o := .cells #[.slice Ao22 t642.length co22] 26 (0, 0)) (by (with_reducible repeat (first | refine blk_drewN ?_ _ | refine blk_drew ?_ | refine blk_alloc ?_ _)); exact BK631.out) hb); have n4_ := aM (below_step (by repeat (first | (with_reducible first | exact HB.out | apply below_alloc | apply pw_below_drewN | apply below_drew1 | refine below_set ?_ GE619.out | refine below_set ?_ GE631.out) | exact HB.out)) hb); clear HO_7; clear HO_632000; clear BK619; clear BK631; clear HB; have HO_7 := n0_; have HO_632000 := n1_; have BK619 := n2_; have BK631 := n3_; have HB := n4_; clear n0_ n1_ n2_ n3_ n4_; (try clear hb); (try clear hb2); (try clear hk); (try clear hi)))
                go_ret
                exact ⟨by first | rfl | (simp [errW_none, errW_some] <;> rfl) | (simp [*, errW_none, errW_some] <;> rfl), by repeat (first | (with_reducible first | exact HB.out | apply below_alloc | apply pw_below_drewN | apply below_drew1 | refine below_set ?_ GE619.out | refine below_set ?_ GE631.out) | exact HB.out)⟩
          ·
           rw [if_neg c59] at H
           have c59b0 : (t646 == t644) = false := beq_eq_false_iff_ne.mpr c59
           have c59b1 : (t646 != t644) = true := bne_iff_ne.mpr c59
           obtain rfl := Option.some.inj H
           obtain ⟨Ao84, co84, eo84⟩ := Kd.R_slice HO_7.out
           subst eo84
           go_wp2_with (first | ((with_reducible refine gate_callee (f := 17) rfl ?_); refine goesL_ (some 64) rfl rfl Try.func17 (by kernel_rfl) rfl #[.slice Ao84 t632.length co84, .int .i64 1] rfl (by (try simp only [List.map_toArray, List.map_cons, List.map_nil]); first | done | rfl | (simp only [List.length_drop, List.length_take]; rfl)) ?_; (with_reducible refine (laws_markStringS.calls kj36 (fun k_ => some k_ = (.slice Ao84 t632.length co84 : Value).ownBlock) (.slice Ao84 t632.length co84) t632 1 t644 t645 w _ ?side1 ?side2 A53.out).mono ?_); (case side1 => repeat (first | (with_reducible first | exact HB.out | apply below_alloc | apply pw_below_drewN | apply below_drew1 | refine below_set ?_ GE619.out | refine below_set ?_ GE631.out) | exact HB.out)); (case side2 => exact Kd.R_tight rfl HO_7.out); rintro e w85 ⟨rfl, hy0, hb, hkp⟩; refine ⟨_, rfl, ?_⟩; have n0_ := aM (Kd.R_mono (ok' := fun k_ => some k_ ≠ (.slice Ao84 t632.length co84 : Value).ownBlock) (Kd.R_keptB (HO_4.out) hkp (fun k_ hk_ hs_ => (hk_) hs_)) (fun k_ hk_ => hk_.1)); have n1_ := aM (Kd.R_reok rfl hy0 (fun k_ e_ => HO_7.out.1 k_ e_)); have n2_ := aM (Kd.R_mono (ok' := fun k_ => True) (Kd.R_keptB ((Kd.R_apart' HO_632000.out (Kd.R_typed HO_7.out) (by decide))) hkp (fun k_ hk_ hs_ => (hk_.2) hs_)) (fun k_ hk_ => trivial)); have n3_ := aM (blk_kept (by (with_reducible repeat (first | refine blk_drewN ?_ _ | refine blk_drew ?_ | refine blk_alloc ?_ _)); exact BK619.out) hkp (fun hs_ => (fun e_ => (Kd.R_ne HO_7.out BK619.out (by decide)) e_) hs_)); have n4_ := aM (blk_kept (by (with_reducible repeat (first | refine blk_drewN ?_ _ | refine blk_drew ?_ | refine blk_alloc ?_ _)); exact BK631.out) hkp (fun hs_ => (fun e_ => (Kd.R_ne HO_7.out BK631.out (by decide)) e_) hs_)); have n5_ := aM (hb); clear HO_4; clear HO_7; clear HO_632000; clear BK619; clear BK631; clear HB; have HO_4 := n0_; have HO_7 := n1_; have HO_632000 := n2_; have BK619 := n3_; have BK631 := n4_; have HB := n5_; clear n0_ n1_ n2_ n3_ n4_ n5_; (try clear hb); (try clear hkp); (try clear hy0)) | ((with_reducible refine gate_callee (f := 30) rfl ?_); refine goesL_ (some 67) rfl rfl Try.func30 (by kernel_rfl) rfl #[.slice Ao84 t645.length co84, .int .i64 1] rfl (by (try simp only [List.map_toArray, List.map_cons, List.map_nil]); first | done | (rw [show t645.length = t632.length from (Kd.R_reads' HO_7.out).1.symm] <;> rfl) | rfl | (simp only [List.length_drop, List.length_take]; rfl)) ?_; (with_reducible refine (laws_heldStringS.calls kj36 _ _ t645 1 t646 _ ?side1 ?side2 A54.out).mono ?_); (case side1 => repeat (first | exact (Kd.R_reads' HO_7.out).2.2 | (with_reducible refine Kd.C_alloc ?_ _) | (with_reducible refine Kd.C_drewN ?_ _) | (with_reducible refine Kd.C_drew ?_))); (case side2 => rw [show t645.length = t632.length from (Kd.R_reads' HO_7.out).1.symm]; exact (Kd.R_reads' HO_7.out).2.1); rintro e w86 ⟨rfl, hb⟩; refine ⟨_, rfl, ?_⟩; have n0_ := aM (Kd.R_below (by (with_reducible repeat (first | apply Kd.R_alloc | apply Kd.R_drewN | apply Kd.R_drew)); exact HO_4.out) hb); have n1_ := aM (Kd.R_below (by (with_reducible repeat (first | apply Kd.R_alloc | apply Kd.R_drewN | apply Kd.R_drew)); exact HO_7.out) hb); have n2_ := aM (Kd.R_below (by (with_reducible repeat (first | apply Kd.R_alloc | apply Kd.R_drewN | apply Kd.R_drew)); exact HO_632000.out) hb); have n3_ := aM (blk_below (g := gb619) (o := .cells #[.slice A0_0 l0_0.length c0_0] 36 (0, 0)) (by (with_reducible repeat (first | refine blk_drewN ?_ _ | refine blk_drew ?_ | refine blk_alloc ?_ _)); exact BK619.out) hb); have n4_ := aM (blk_below (g := gb631) (o := .cells #[.slice Ao22 t642.length co22] 26 (0, 0)) (by (with_reducible repeat (first | refine blk_drewN ?_ _ | refine blk_drew ?_ | refine blk_alloc ?_ _)); exact BK631.out) hb); have n5_ := aM (below_step (by repeat (first | (with_reducible first | exact HB.out | apply below_alloc | apply pw_below_drewN | apply below_drew1 | refine below_set ?_ GE619.out | refine below_set ?_ GE631.out) | exact HB.out)) hb); clear HO_4; clear HO_7; clear HO_632000; clear BK619; clear BK631; clear HB; have HO_4 := n0_; have HO_7 := n1_; have HO_632000 := n2_; have BK619 := n3_; have BK631 := n4_; have HB := n5_; clear n0_ n1_ n2_ n3_ n4_ n5_; (try clear hb); (try clear hb2); (try clear hk); (try clear hi)))
           go_ret
           exact ⟨by first | rfl | (simp [errW_none, errW_some] <;> rfl) | (simp [*, errW_none, errW_some] <;> rfl), by repeat (first | (with_reducible first | exact HB.out | apply below_alloc | apply pw_below_drewN | apply below_drew1 | refine below_set ?_ GE619.out | refine below_set ?_ GE631.out) | exact HB.out)⟩
     ·
      replace c35 := Bool.eq_false_iff.mpr c35
      subst c35
      have H1 : (some false) = some r := by rw [if_neg (show ¬ (false = true) by decide)] at H; exact H
      clear H
      have H := H1
      clear H1
      obtain rfl := Option.some.inj H
      try go_wp2
      have n0_ := aM (Kd.R_drew HO_4.out)
      have n1_ := aM (Kd.R_drew HO_7.out)
      have n2_ := aM (Kd.R_drew HO_632000.out)
      have n3_ := aM (blk_drew BK619.out)
      have n4_ := aM (blk_drew BK631.out)
      have n5_ := aM (below_drew1 HB.out)
      clear HO_4
      clear HO_7
      clear HO_632000
      clear BK619
      clear BK631
      clear HB
      have HO_4 := n0_
      have HO_7 := n1_
      have HO_632000 := n2_
      have BK619 := n3_
      have BK631 := n4_
      have HB := n5_
      clear n0_ n1_ n2_ n3_ n4_ n5_
      refine start_ (n := 5) (S := fun w' => w'.cell? ⟨gb631, 0, none⟩ = some (.slice Ao22 t628.length co22) ∧ w'.cell? ⟨gb619, 0, none⟩ = some (.slice A0_0 l0_0.length c0_0)) (ds := []) (bq 5 0) (by kernel_rfl) rfl (by kernel_rfl) ⟨(blk_cell BK631.out 0).trans rfl, (blk_cell BK619.out 0).trans rfl⟩ (fun hHeld => ?_)
      generalize wc.drew = w87 at HO_4 HO_7 HO_632000 BK619 BK631 HB hHeld ⊢
      refine take_ (i := 0) (N := some 41) (v := ?_) (a' := ?_) (bq 5 1) rfl rfl (by kernel_rfl) (fun _ _ _ h => h) (Or.inl ⟨by rfl, ?_⟩) hHeld ?_ ?_; rotate_left; (rintro w' ⟨s0, s1⟩; go_simp; (with_reducible rfl)); rotate_left; (simp only [Act.put, zSA, zSB, zSC, i64_w, i32_w]; rfl)
      refine take_ (i := 1) (N := some 42) (v := ?_) (a' := ?_) (bq 5 3) rfl rfl (by kernel_rfl) (fun _ _ _ h => h) (Or.inl ⟨by rfl, ?_⟩) hHeld ?_ ?_; rotate_left; (rintro w' ⟨s0, s1⟩; go_simp; (with_reducible rfl)); rotate_left; (simp only [Act.put, zSA, zSB, zSC, i64_w, i32_w]; rfl)
      refine one_ (i := 2) (N := some 43) (bq 5 7) rfl rfl (by kernel_rfl) (by decide) (fun K hK => ?_)
      refine goes_ Try.func22 (by kernel_rfl) rfl #[.agg #[.slice A0_0 l0_0.length c0_0]] (by rfl) rfl rfl (by (try simp only [List.map_toArray, List.map_cons, List.map_nil]); first | done | rfl | (simp only [List.length_drop, List.length_take]; rfl)) ?_
      with_reducible refine (laws_toRadix.calls kj10 _ _ l0_0 t637 _ ?side1 ?side2 A33.out).mono ?_
      (case side1 => repeat (first | exact (Kd.C_below HR0_0.out HB.out) | (with_reducible refine Kd.C_alloc ?_ _) | (with_reducible refine Kd.C_drewN ?_ _) | (with_reducible refine Kd.C_drew ?_)))
      (case side2 => exact HC0_0.out)
      rintro e w88 ⟨v638, rfl, ho0, hb⟩
      refine ⟨_, rfl, ?_⟩
      have n0_ := aM (Kd.R_below (by (with_reducible repeat (first | apply Kd.R_alloc | apply Kd.R_drewN | apply Kd.R_drew)); exact HO_4.out) hb)
      have n1_ := aM (Kd.R_below (by (with_reducible repeat (first | apply Kd.R_alloc | apply Kd.R_drewN | apply Kd.R_drew)); exact HO_7.out) hb)
      have n2_ := aM (Kd.R_elder' (by (with_reducible repeat (first | apply Kd.R_alloc | apply Kd.R_drewN | apply Kd.R_drew)); exact HO_632000.out) (Kd.R_base ho0) hb)
      have n3_ := aM (Kd.R_lower (Kd.R_new' ho0 (Kd.R_lt (by (with_reducible repeat (first | apply Kd.R_alloc | apply Kd.R_drewN | apply Kd.R_drew)); exact HO_632000.out))) (below_size (by repeat (first | (with_reducible first | exact HB.out | apply below_alloc | apply pw_below_drewN | apply below_drew1 | refine below_set ?_ GE619.out | refine below_set ?_ GE631.out) | exact HB.out))))
      have n4_ := aM (blk_below (g := gb619) (o := .cells #[.slice A0_0 l0_0.length c0_0] 36 (0, 0)) (by (with_reducible repeat (first | refine blk_drewN ?_ _ | refine blk_drew ?_ | refine blk_alloc ?_ _)); exact BK619.out) hb)
      have n5_ := aM (blk_below (g := gb631) (o := .cells #[.slice Ao22 t628.length co22] 26 (0, 0)) (by (with_reducible repeat (first | refine blk_drewN ?_ _ | refine blk_drew ?_ | refine blk_alloc ?_ _)); exact BK631.out) hb)
      have n6_ := aM (below_step (by repeat (first | (with_reducible first | exact HB.out | apply below_alloc | apply pw_below_drewN | apply below_drew1 | refine below_set ?_ GE619.out | refine below_set ?_ GE631.out) | exact HB.out)) hb)
      clear HO_4
      clear HO_7
      clear HO_632000
      clear BK619
      clear BK631
      clear HB
      have HO_4 := n0_
      have HO_7 := n1_
      have HO_632000 := n2_
      have HO639 := n3_
      have BK619 := n4_
      have BK631 := n5_
      have HB := n6_
      clear n0_ n1_ n2_ n3_ n4_ n5_ n6_
      (try clear hb)
      (try clear hb2)
      (try clear hk)
      (try clear hi)
      (try clear ho0)
      obtain ⟨Ao89, co89, eo89⟩ := Kd.R_slice HO639.out
      (first | subst eo89 | (injection eo89 with f1_ f2_ f3_; have f4_ := f1_.symm; have f5_ := f3_.symm; clear f1_ f2_ f3_; subst f4_; subst f5_))
      refine hK.out _ _ ⟨(blk_cell BK631.out 0).trans rfl, (blk_cell BK619.out 0).trans rfl⟩ (fun hHeld => ?_)
      clear hK K
      refine norm_ (a' := ?_) ?_ ?_
      rotate_left
      ·
       show Act.put _ (some 43) _ = _
       simp only [Act.put, zSA, zSB, zSC, i64_w, i32_w]
       rfl
      refine one_ (i := 3) (N := some 44) (bq 5 15) rfl rfl (by kernel_rfl) (by decide) (fun K hK => ?_)
      refine goes_ Try.func15 (by kernel_rfl) rfl #[.agg #[.slice Ao22 t628.length co22], .agg #[.slice Ao89 t637.length co89]] (by rfl) rfl rfl (by (try simp only [List.map_toArray, List.map_cons, List.map_nil]); first | done | rfl | (simp only [List.length_drop, List.length_take]; rfl)) ?_
      with_reducible refine (laws_eqRadix.calls kj10 _ _ t628 _ _ t637 false _ ?side1 ?side2 ?side3 ?side4 A34.out).mono ?_
      (case side1 => repeat (first | exact (Kd.R_reads' HO_632000.out).2.2 | (with_reducible refine Kd.C_alloc ?_ _) | (with_reducible refine Kd.C_drewN ?_ _) | (with_reducible refine Kd.C_drew ?_)))
      (case side2 => exact (Kd.R_reads' HO_632000.out).2.1)
      (case side3 => repeat (first | exact (Kd.R_reads' HO639.out).2.2 | (with_reducible refine Kd.C_alloc ?_ _) | (with_reducible refine Kd.C_drewN ?_ _) | (with_reducible refine Kd.C_drew ?_)))
      (case side4 => exact (Kd.R_reads' HO639.out).2.1)
      rintro e w90 ⟨rfl, hb⟩
      refine ⟨_, rfl, ?_⟩
      have n0_ := aM (Kd.R_below (by (with_reducible repeat (first | apply Kd.R_alloc | apply Kd.R_drewN | apply Kd.R_drew)); exact HO_4.out) hb)
      have n1_ := aM (Kd.R_below (by (with_reducible repeat (first | apply Kd.R_alloc | apply Kd.R_drewN | apply Kd.R_drew)); exact HO_7.out) hb)
      have n2_ := aM (Kd.R_below (by (with_reducible repeat (first | apply Kd.R_alloc | apply Kd.R_drewN | apply Kd.R_drew)); exact HO_632000.out) hb)
      have n3_ := aM (Kd.R_below (by (with_reducible repeat (first | apply Kd.R_alloc | apply Kd.R_drewN | apply Kd.R_drew)); exact HO639.out) hb)
      have n4_ := aM (blk_below (g := gb619) (o := .cells #[.slice A0_0 l0_0.length c0_0] 36 (0, 0)) (by (with_reducible repeat (first | refine blk_drewN ?_ _ | refine blk_drew ?_ | refine blk_alloc ?_ _)); exact BK619.out) hb)
      have n5_ := aM (blk_below (g := gb631) (o := .cells #[.slice Ao22 t628.length co22] 26 (0, 0)) (by (with_reducible repeat (first | refine blk_drewN ?_ _ | refine blk_drew ?_ | refine blk_alloc ?_ _)); exact BK631.out) hb)
      have n6_ := aM (below_step (by repeat (first | (with_reducible first | exact HB.out | apply below_alloc | apply pw_below_drewN | apply below_drew1 | refine below_set ?_ GE619.out | refine below_set ?_ GE631.out) | exact HB.out)) hb)
      clear HO_4
      clear HO_7
      clear HO_632000
      clear HO639
      clear BK619
      clear BK631
      clear HB
      have HO_4 := n0_
      have HO_7 := n1_
      have HO_632000 := n2_
      have HO639 := n3_
      have BK619 := n4_
      have BK631 := n5_
      have HB := n6_
      clear n0_ n1_ n2_ n3_ n4_ n5_ n6_
      (try clear hb)
      (try clear hb2)
      (try clear hk)
      (try clear hi)
      refine hK.out _ _ ⟨(blk_cell BK631.out 0).trans rfl, (blk_cell BK619.out 0).trans rfl⟩ (fun hHeld => ?_)
      clear hK K
      refine norm_ (a' := ?_) ?_ ?_
      rotate_left
      ·
       show Act.put _ (some 44) _ = _
       simp only [Act.put, zSA, zSB, zSC, i64_w, i32_w]
       rfl
      refine pure_ (i := 4) (N := some 45) (v := ?_) (a' := ?_) (bq 5 31) rfl rfl (by kernel_rfl) (fun _ _ _ h => h) (Or.inl ⟨by rfl, ?_⟩) ?_ ?_; rotate_left; (intro w'; go_simp; (with_reducible rfl)); rotate_left; (simp only [Act.put, zSA, zSB, zSC, i64_w, i32_w]; rfl)
      refine done_ (by kernel_rfl) ?_
      try go_wp2
      go_ret
      exact ⟨by first | rfl | (simp [errW_none, errW_some] <;> rfl) | (simp [*, errW_none, errW_some] <;> rfl), by repeat (first | (with_reducible first | exact HB.out | apply below_alloc | apply pw_below_drewN | apply below_drew1 | refine below_set ?_ GE619.out | refine below_set ?_ GE631.out) | exact HB.out)⟩

/-- THE ONE PURE STATEMENT of laws_FnExactNamesIn. -/
def laws_FnExactNamesIn.Pure : Prop := ∀ (l0_0 : List (S80)), (l0_0.length ≤ maxLen ∧ ∀ x_ ∈ l0_0, (x_.f0.size ≤ maxLen ∧ (True ∧ (Lit.int .i64 x_.f2).wf = true))) → ∃ k, laws_FnExactNamesIn.f k l0_0 = some true
theorem laws_FnExactNamesIn.walk (P : laws_FnExactNamesIn.Pure) (A0_0 : Option Addr) (c0_0 : Nat) (l0_0 : List (S80)) (w : World) (hr0_0 : Kd.C k80 w A0_0 l0_0.length l0_0) (hc0_0 : l0_0.length ≤ c0_0) (w0_0 : (l0_0.length ≤ maxLen ∧ ∀ x_ ∈ l0_0, (x_.f0.size ≤ maxLen ∧ (True ∧ (Lit.int .i64 x_.f2).wf = true)))) :
  Calls Try.prog 7 #[.agg #[.slice A0_0 l0_0.length c0_0]] w fun e w' => e = .returned (.bool true) ∧ Below w.heap.size w w' := by
 obtain ⟨k, h⟩ := P l0_0 w0_0
 refine (laws_FnExactNamesIn.calls k _ _ l0_0 true w hr0_0 hc0_0 h).mono ?_
 rintro e w' ⟨rfl, hd⟩
 exact ⟨rfl, hd⟩

end Go.Proofs.Ytcngebfcpobnnaa.PQ
end

section
namespace Go.Proofs.Ytcngebfcpobnnaa.Pure
open Go.RowKit Go.Proofs.Ytcngebfcpobnnaa.PQ Go.Proofs.YtcngebfcpobnnaaW.PrintWords Go.Proofs.YtcngebfcpobnnaaW.PrintLast Go.Proofs.Ytcngebfcpobnnaa.Pre Go.Proofs.Ytcngebfcpobnnaa.Rx
theorem FnExactNamesIn : laws_FnExactNamesIn.Pure := by
 intro l hw
 refine Evt.ex (r := true) ?_
 obtain ⟨t, ht, h2⟩ := RxL.sz_ev l hw.1 (fun x hx => (hw.2 x hx).1)
 unfold laws_FnExactNamesIn.f
 refine Evt.bind ht ?_
 by_cases hc : t < 0
 ·
  exact Evt.pos hc (Evt.const _)
 ·
  refine Evt.neg hc ?_
  have hs := h2 (by omega)
  have hto := RxL.to_ev l hs.1
  have hm : (l.map RxL.cvE).length ≤ 1048576 := by rw [List.length_map]; exact hs.1
  have hz : ∀ e ∈ l.map RxL.cvE, e.f0.size ≤ 1048576 := by
   intro e he
   obtain ⟨x, hx, rfl⟩ := List.mem_map.1 he
   exact hs.2 x hx
  generalize l.map RxL.cvE = r at hto hm hz
  have main : ∃ (N : List ByteArray) (b : Bool), Evt (fun k => spec_NamesIn.f k r) (N, b) ∧ Evt (fun k => impl_NamesIn.f k r) (N, b) ∧ N.length ≤ 40 := by
   unfold spec_NamesIn.f impl_NamesIn.f
   rcases both r hm hz with ⟨L, _, h40, _, h1, h2⟩ | ⟨x, _, h1, h2⟩
   ·
    exact ⟨L, true, Evt.bind h2 (Evt.pos rfl (Evt.const _)), Evt.bind h1 (Evt.pos rfl (Evt.const _)), h40⟩
   ·
    exact ⟨[], false, Evt.bind h2 (Evt.neg (by simp) (Evt.const _)), Evt.bind h1 (Evt.neg (by simp) (Evt.const _)), Nat.zero_le _⟩
  obtain ⟨N, b, hS, hI, h40⟩ := main
  have heq := Strs.eq_self N (by omega)
  have heqr := RxL.eq_ev r hm
  have hmk := RxL.mark_ev r 1 (by omega) hm
  have hmr := Strs.mark_ev N 1 (by omega) (by omega)
  have hhr := Strs.held_ev N.length 1 (by omega) (by omega)
  refine Evt.bind hto (Evt.bind hS (Evt.bind hto (Evt.bind hI (Evt.bind heq (Evt.pos rfl ?_)))))
  refine Evt.step (fun k => laws_FnExactNamesIn.j0.eq_2 _ _ _ _ _ _ _ k) (Evt.neg (by simp) (Evt.bind hto (Evt.bind heqr (Evt.pos rfl (Evt.bind hmk (Evt.neg (by simp; omega) (Evt.bind heq (Evt.pos rfl ?_))))))))
  refine Evt.step (fun k => laws_FnExactNamesIn.j1.eq_2 _ _ _ _ _ k) (Evt.neg (by simp) (Evt.bind hmr (Evt.bind hhr (Evt.neg (by omega) (Evt.pos rfl ?_)))))
  refine Evt.bind hto (Evt.bind hI (Evt.bind heq (Evt.pos rfl ?_)))
  exact Evt.step (fun k => laws_FnExactNamesIn.j2.eq_2 _ _ _ k) (Evt.neg (by simp) (Evt.bind hhr (Evt.neg (by omega) (Evt.pos rfl (Evt.const _)))))
end Go.Proofs.Ytcngebfcpobnnaa.Pure
end
